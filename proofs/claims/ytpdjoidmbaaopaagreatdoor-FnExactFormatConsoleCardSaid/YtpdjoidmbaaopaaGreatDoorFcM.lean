/- Models of the functions that the law reaches: plain Lean; none where the function would panic or not end. Made by program (dec.py). -/
import Derived.Test.YtpdjoidmbaaopaaGreatDoorAbC0
import Derived.Test.YtpdjoidmbaaopaaGreatDoorAbStr1
import Derived.Test.YtpdjoidmbaaopaaGreatDoorAbStr2
import Derived.Test.YtpdjoidmbaaopaaGreatDoorAbBld
namespace Go.Proofs.YtpdjoidmbaaopaaGreatDoor
open Go Go.Ab
set_option maxRecDepth 100000
set_option maxHeartbeats 4000000
set_option linter.unusedVariables false
set_option linter.unusedSimpArgs false
structure Line where
 Name : ByteArray
 Stops : List Int
 Runs : List Int
instance enc_Line : Enc Line := ⟨3, fun x => .agg [.sc (.string x.Name), Enc.e x.Stops, Enc.e x.Runs], fun a b h => by
 simp only [D.agg.injEq, List.cons.injEq, and_true] at h
 obtain ⟨a1, a2, a3⟩ := a
 obtain ⟨b1, b2, b3⟩ := b
 obtain ⟨h1, h2, h3⟩ := h
 have q1 := Enc.inj (α := ByteArray) a1 b1 h1
 have q2 := Enc.inj (α := List Int) a2 b2 h2
 have q3 := Enc.inj (α := List Int) a3 b3 h3
 subst q1; subst q2; subst q3; rfl⟩
structure Network where
 Stops : List ByteArray
 Lines : List Line
instance enc_Network : Enc Network := ⟨2, fun x => .agg [Enc.e x.Stops, Enc.e x.Lines], fun a b h => by
 simp only [D.agg.injEq, List.cons.injEq, and_true] at h
 obtain ⟨a1, a2⟩ := a
 obtain ⟨b1, b2⟩ := b
 obtain ⟨h1, h2⟩ := h
 have q1 := Enc.inj (α := List ByteArray) a1 b1 h1
 have q2 := Enc.inj (α := List Line) a2 b2 h2
 subst q1; subst q2; rfl⟩
structure Trip where
 Id : Int
 Line : Int
 Start : Int
instance enc_Trip : Enc Trip := ⟨3, fun x => .agg [.sc (.int .i64 x.Id), .sc (.int .i64 x.Line), .sc (.int .i64 x.Start)], fun a b h => by
 simp only [D.agg.injEq, List.cons.injEq, and_true] at h
 obtain ⟨a1, a2, a3⟩ := a
 obtain ⟨b1, b2, b3⟩ := b
 obtain ⟨h1, h2, h3⟩ := h
 have q1 := Enc.inj (α := Int) a1 b1 h1
 have q2 := Enc.inj (α := Int) a2 b2 h2
 have q3 := Enc.inj (α := Int) a3 b3 h3
 subst q1; subst q2; subst q3; rfl⟩
structure Timetable where
 Network : Network
 Trips : List Trip
instance enc_Timetable : Enc Timetable := ⟨3, fun x => .agg [Enc.e x.Network.Stops, Enc.e x.Network.Lines, Enc.e x.Trips], fun a b h => by
 simp only [D.agg.injEq, List.cons.injEq, and_true] at h
 obtain ⟨⟨a1, a2⟩, a3⟩ := a
 obtain ⟨⟨b1, b2⟩, b3⟩ := b
 obtain ⟨h1, h2, h3⟩ := h
 have q1 := Enc.inj (α := List ByteArray) a1 b1 h1
 have q2 := Enc.inj (α := List Line) a2 b2 h2
 have q3 := Enc.inj (α := List Trip) a3 b3 h3
 subst q1; subst q2; subst q3; rfl⟩
structure Log where
 Durable : ByteArray
 Pending : ByteArray
 Count : Int
instance enc_Log : Enc Log := ⟨3, fun x => .agg [.sc (.string x.Durable), .sc (.string x.Pending), .sc (.int .i64 x.Count)], fun a b h => by
 simp only [D.agg.injEq, List.cons.injEq, and_true] at h
 obtain ⟨a1, a2, a3⟩ := a
 obtain ⟨b1, b2, b3⟩ := b
 obtain ⟨h1, h2, h3⟩ := h
 have q1 := Enc.inj (α := ByteArray) a1 b1 h1
 have q2 := Enc.inj (α := ByteArray) a2 b2 h2
 have q3 := Enc.inj (α := Int) a3 b3 h3
 subst q1; subst q2; subst q3; rfl⟩
structure Console where
 Timetable : Timetable
 Change : Int
 Log : Log
instance enc_Console : Enc Console := ⟨7, fun x => .agg [Enc.e x.Timetable.Network.Stops, Enc.e x.Timetable.Network.Lines, Enc.e x.Timetable.Trips, .sc (.int .i64 x.Change), .sc (.string x.Log.Durable), .sc (.string x.Log.Pending), .sc (.int .i64 x.Log.Count)], fun a b h => by
 simp only [D.agg.injEq, List.cons.injEq, and_true] at h
 obtain ⟨⟨⟨a1, a2⟩, a3⟩, a4, ⟨a5, a6, a7⟩⟩ := a
 obtain ⟨⟨⟨b1, b2⟩, b3⟩, b4, ⟨b5, b6, b7⟩⟩ := b
 obtain ⟨h1, h2, h3, h4, h5, h6, h7⟩ := h
 have q1 := Enc.inj (α := List ByteArray) a1 b1 h1
 have q2 := Enc.inj (α := List Line) a2 b2 h2
 have q3 := Enc.inj (α := List Trip) a3 b3 h3
 have q4 := Enc.inj (α := Int) a4 b4 h4
 have q5 := Enc.inj (α := ByteArray) a5 b5 h5
 have q6 := Enc.inj (α := ByteArray) a6 b6 h6
 have q7 := Enc.inj (α := Int) a7 b7 h7
 subst q1; subst q2; subst q3; subst q4; subst q5; subst q6; subst q7; rfl⟩
structure LogRecord where
 Command : ByteArray
 Reply : ByteArray
instance enc_LogRecord : Enc LogRecord := ⟨2, fun x => .agg [.sc (.string x.Command), .sc (.string x.Reply)], fun a b h => by
 simp only [D.agg.injEq, List.cons.injEq, and_true] at h
 obtain ⟨a1, a2⟩ := a
 obtain ⟨b1, b2⟩ := b
 obtain ⟨h1, h2⟩ := h
 have q1 := Enc.inj (α := ByteArray) a1 b1 h1
 have q2 := Enc.inj (α := ByteArray) a2 b2 h2
 subst q1; subst q2; rfl⟩
instance : BxE Line := ⟨fun x y h => Enc.inj x y (congrArg D.agg h)⟩
instance : BxE Network := ⟨fun x y h => Enc.inj x y (congrArg D.agg h)⟩
instance : BxE Trip := ⟨fun x y h => Enc.inj x y (congrArg D.agg h)⟩
instance : BxE Timetable := ⟨fun x y h => Enc.inj x y (congrArg D.agg h)⟩
instance : BxE Log := ⟨fun x y h => Enc.inj x y (congrArg D.agg h)⟩
instance : BxE Console := ⟨fun x y h => Enc.inj x y (congrArg D.agg h)⟩
instance : BxE LogRecord := ⟨fun x y h => Enc.inj x y (congrArg D.agg h)⟩
instance : FlatEnc Trip := ⟨fun _ => flatDB_ok rfl⟩
instance : FlatEnc Log := ⟨fun _ => flatDB_ok rfl⟩
instance : FlatEnc LogRecord := ⟨fun _ => flatDB_ok rfl⟩
noncomputable def v_szStringS_L1 (a : List ByteArray) : Int × Int → Option (Lp (Int × Int) (Fl (Int) (Int)))
 | (left1, v) =>
  if (decide (v < (a.length : Int))) = true then
   (idx a v).bind fun e =>
   if (decide ((w64 (left1 - (e.size : Int))) < 0)) = true then
    some (.dn (.ret (-1)))
   else
    some (.nx ((w64 (left1 - (e.size : Int))), (w64 (v + 1))))
  else
   some (.dn (.go left1))
noncomputable def v_szStringS (a : List ByteArray) (left : Int) : Option (Int) :=
 if (decide ((w64 (left - (a.length : Int))) < 0)) = true then
  some (-1)
 else
  flb (iter (v_szStringS_L1 a) ((w64 (left - (a.length : Int))), (0 : Int))) fun (left2 : Int) =>
  some left2
noncomputable def v_szIntS (a : List Int) (left : Int) : Option (Int) :=
 if (decide ((w64 (left - (a.length : Int))) < 0)) = true then
  some (-1)
 else
  some (w64 (left - (a.length : Int)))
noncomputable def v_szLine (a : Line) (left : Int) : Option (Int) :=
 if (decide ((w64 (left - (a.Name.size : Int))) < 0)) = true then
  some (-1)
 else
  (v_szIntS a.Stops (w64 (left - (a.Name.size : Int)))).bind fun r =>
  if (decide (r < 0)) = true then
   some (-1)
  else
   (v_szIntS a.Runs r).bind fun r1 =>
   if (decide (r1 < 0)) = true then
    some (-1)
   else
    some r1
noncomputable def v_szLineS_L1 (a : List Line) : Int × Int → Option (Lp (Int × Int) (Fl (Int) (Int)))
 | (left1, v) =>
  if (decide (v < (a.length : Int))) = true then
   (idx a v).bind fun e =>
   (v_szLine e left1).bind fun r =>
   if (decide (r < 0)) = true then
    some (.dn (.ret (-1)))
   else
    some (.nx (r, (w64 (v + 1))))
  else
   some (.dn (.go left1))
noncomputable def v_szLineS (a : List Line) (left : Int) : Option (Int) :=
 if (decide ((w64 (left - (a.length : Int))) < 0)) = true then
  some (-1)
 else
  flb (iter (v_szLineS_L1 a) ((w64 (left - (a.length : Int))), (0 : Int))) fun (left2 : Int) =>
  some left2
noncomputable def v_szNetwork (a : Network) (left : Int) : Option (Int) :=
 (v_szStringS a.Stops left).bind fun r =>
 if (decide (r < 0)) = true then
  some (-1)
 else
  (v_szLineS a.Lines r).bind fun r1 =>
  if (decide (r1 < 0)) = true then
   some (-1)
  else
   some r1
noncomputable def v_szTripS (a : List Trip) (left : Int) : Option (Int) :=
 if (decide ((w64 (left - (a.length : Int))) < 0)) = true then
  some (-1)
 else
  some (w64 (left - (a.length : Int)))
noncomputable def v_szTimetable (a : Timetable) (left : Int) : Option (Int) :=
 (v_szNetwork a.Network left).bind fun r =>
 if (decide (r < 0)) = true then
  some (-1)
 else
  (v_szTripS a.Trips r).bind fun r1 =>
  if (decide (r1 < 0)) = true then
   some (-1)
  else
   some r1
noncomputable def v_szLog (a : Log) (left : Int) : Option (Int) :=
 if (decide ((w64 (left - (a.Durable.size : Int))) < 0)) = true then
  some (-1)
 else
  if (decide ((w64 ((w64 (left - (a.Durable.size : Int))) - (a.Pending.size : Int))) < 0)) = true then
   some (-1)
  else
   some (w64 ((w64 (left - (a.Durable.size : Int))) - (a.Pending.size : Int)))
noncomputable def v_szConsole (a : Console) (left : Int) : Option (Int) :=
 (v_szTimetable a.Timetable left).bind fun r =>
 if (decide (r < 0)) = true then
  some (-1)
 else
  (v_szLog a.Log r).bind fun r1 =>
  if (decide (r1 < 0)) = true then
   some (-1)
  else
   some r1
noncomputable def v_toStringS_L1 (a : List ByteArray) : Int × (List ByteArray) → Option (Lp (Int × (List ByteArray)) ((List ByteArray)))
 | (v, i) =>
  if (decide (v < (a.length : Int))) = true then
   (idx a v).bind fun e =>
   (idx i v).bind fun e1 =>
   some (.nx ((w64 (v + 1)), (i.set v.toNat e)))
  else
   some (.dn i)
noncomputable def v_toStringS (a : List ByteArray) : Option ((List ByteArray)) :=
 (chk ((0 : Int) ≤ (a.length : Int) ∧ ((a.length : Int) : Int) ≤ 4294967296)).bind fun u =>
 (iter (v_toStringS_L1 a) ((0 : Int), (List.replicate (a.length : Int).toNat (ByteArray.empty : ByteArray)))).bind fun (i1 : List ByteArray) =>
 some i1
noncomputable def v_toIntS_L1 (a : List Int) : Int × (List Int) → Option (Lp (Int × (List Int)) ((List Int)))
 | (v, i) =>
  if (decide (v < (a.length : Int))) = true then
   (idx a v).bind fun e =>
   (idx i v).bind fun e1 =>
   some (.nx ((w64 (v + 1)), (i.set v.toNat e)))
  else
   some (.dn i)
noncomputable def v_toIntS (a : List Int) : Option ((List Int)) :=
 (chk ((0 : Int) ≤ (a.length : Int) ∧ ((a.length : Int) : Int) ≤ 4294967296)).bind fun u =>
 (iter (v_toIntS_L1 a) ((0 : Int), (List.replicate (a.length : Int).toNat (0 : Int)))).bind fun (i1 : List Int) =>
 some i1
noncomputable def v_toLine (a : Line) : Option (Line) :=
 (v_toIntS a.Stops).bind fun r =>
 (v_toIntS a.Runs).bind fun r1 =>
 some (⟨a.Name, r, r1⟩ : Line)
noncomputable def v_toLineS_L1 (a : List Line) : Int × (List Line) → Option (Lp (Int × (List Line)) ((List Line)))
 | (v, i) =>
  if (decide (v < (a.length : Int))) = true then
   (idx a v).bind fun e =>
   (v_toLine e).bind fun r =>
   (idx i v).bind fun e1 =>
   some (.nx ((w64 (v + 1)), (i.set v.toNat r)))
  else
   some (.dn i)
noncomputable def v_toLineS (a : List Line) : Option ((List Line)) :=
 (chk ((0 : Int) ≤ (a.length : Int) ∧ ((a.length : Int) : Int) ≤ 4294967296)).bind fun u =>
 (iter (v_toLineS_L1 a) ((0 : Int), (List.replicate (a.length : Int).toNat ((⟨ByteArray.empty, ([] : List Int), ([] : List Int)⟩ : Line) : Line)))).bind fun (i1 : List Line) =>
 some i1
noncomputable def v_toNetwork (a : Network) : Option (Network) :=
 (v_toStringS a.Stops).bind fun r =>
 (v_toLineS a.Lines).bind fun r1 =>
 some (⟨r, r1⟩ : Network)
noncomputable def v_toTrip (a : Trip) : Option (Trip) :=
 some a
noncomputable def v_toTripS_L1 (a : List Trip) : Int × (List Trip) → Option (Lp (Int × (List Trip)) ((List Trip)))
 | (v, i) =>
  if (decide (v < (a.length : Int))) = true then
   (idx a v).bind fun e =>
   (v_toTrip e).bind fun r =>
   (idx i v).bind fun e1 =>
   some (.nx ((w64 (v + 1)), (i.set v.toNat r)))
  else
   some (.dn i)
noncomputable def v_toTripS (a : List Trip) : Option ((List Trip)) :=
 (chk ((0 : Int) ≤ (a.length : Int) ∧ ((a.length : Int) : Int) ≤ 4294967296)).bind fun u =>
 (iter (v_toTripS_L1 a) ((0 : Int), (List.replicate (a.length : Int).toNat ((⟨0, 0, 0⟩ : Trip) : Trip)))).bind fun (i1 : List Trip) =>
 some i1
noncomputable def v_toTimetable (a : Timetable) : Option (Timetable) :=
 (v_toNetwork a.Network).bind fun r =>
 (v_toTripS a.Trips).bind fun r1 =>
 some (⟨(⟨r.Stops, r.Lines⟩ : Network), r1⟩ : Timetable)
noncomputable def v_toLog (a : Log) : Option (Log) :=
 some a
noncomputable def v_toConsole (a : Console) : Option (Console) :=
 (v_toTimetable a.Timetable).bind fun r =>
 (v_toLog a.Log).bind fun r1 =>
 some (⟨(⟨(⟨r.Network.Stops, r.Network.Lines⟩ : Network), r.Trips⟩ : Timetable), a.Change, r1⟩ : Console)
noncomputable def s_l1In (x : Int) (a : Int) (b : Int) : Option (Bool) :=
 (if (decide (a ≤ x)) = true then some (decide (x ≤ b)) else some false).bind fun (v : Bool) =>
 some v
noncomputable def s_l2Name_L1 (s : ByteArray) : Int → Option (Lp (Int) (Fl (Bool) (Unit)))
 | v1 =>
  if (decide (v1 < (s.size : Int))) = true then
   (chk ((0 : Int) ≤ v1 ∧ v1 < (s.size : Int))).bind fun u2 =>
   (if (decide (((s.data.toList.getD v1.toNat 0).toNat : Int) < 97)) = true then (chk ((0 : Int) ≤ v1 ∧ v1 < (s.size : Int))).bind fun u3 =>
   if (decide (((s.data.toList.getD v1.toNat 0).toNat : Int) < 48)) = true then some true else (chk ((0 : Int) ≤ v1 ∧ v1 < (s.size : Int))).bind fun u4 =>
   some (decide (57 < ((s.data.toList.getD v1.toNat 0).toNat : Int))) else (chk ((0 : Int) ≤ v1 ∧ v1 < (s.size : Int))).bind fun u5 =>
   if (decide (122 < ((s.data.toList.getD v1.toNat 0).toNat : Int))) = true then (chk ((0 : Int) ≤ v1 ∧ v1 < (s.size : Int))).bind fun u6 =>
   if (decide (((s.data.toList.getD v1.toNat 0).toNat : Int) < 48)) = true then some true else (chk ((0 : Int) ≤ v1 ∧ v1 < (s.size : Int))).bind fun u7 =>
   some (decide (57 < ((s.data.toList.getD v1.toNat 0).toNat : Int))) else some false).bind fun (v2 : Bool) =>
   if v2 = true then
    some (.dn (.ret false))
   else
    some (.nx (w64 (v1 + 1)))
  else
   some (.dn (.go ()))
noncomputable def s_l2Name (s : ByteArray) : Option (Bool) :=
 (s_l1In (s.size : Int) 1 8).bind fun r =>
 (if (!r) = true then some true else (chk ((0 : Int) ≤ 0 ∧ 0 < (s.size : Int))).bind fun u =>
 if (decide (((s.data.toList.getD (0 : Int).toNat 0).toNat : Int) < 97)) = true then some true else (chk ((0 : Int) ≤ 0 ∧ 0 < (s.size : Int))).bind fun u1 =>
 some (decide (122 < ((s.data.toList.getD (0 : Int).toNat 0).toNat : Int)))).bind fun (v : Bool) =>
 if v = true then
  some false
 else
  flb (iter (s_l2Name_L1 s) (0 : Int)) fun (_ : Unit) =>
  some true
noncomputable def s_l2Find_L1 (list : List ByteArray) (name : ByteArray) : Int → Option (Lp (Int) (Fl (Int) (Unit)))
 | v =>
  if (decide (v < (list.length : Int))) = true then
   (idx list v).bind fun e =>
   if (e.toList == name.toList) = true then
    some (.dn (.ret v))
   else
    some (.nx (w64 (v + 1)))
  else
   some (.dn (.go ()))
noncomputable def s_l2Find (list : List ByteArray) (name : ByteArray) : Option (Int) :=
 flb (iter (s_l2Find_L1 list name) (0 : Int)) fun (_ : Unit) =>
 some (-1)
noncomputable def s_l2Place_L1 (x : Line) (stop : Int) : Int → Option (Lp (Int) (Fl (Int) (Unit)))
 | v =>
  if (decide (v < (x.Stops.length : Int))) = true then
   (idx x.Stops v).bind fun e =>
   if (e == stop) = true then
    some (.dn (.ret v))
   else
    some (.nx (w64 (v + 1)))
  else
   some (.dn (.go ()))
noncomputable def s_l2Place (x : Line) (stop : Int) : Option (Int) :=
 flb (iter (s_l2Place_L1 x stop) (0 : Int)) fun (_ : Unit) =>
 some (-1)
noncomputable def s_l2Line_L1 (x : Line) (stops : Int) : Int → Option (Lp (Int) (Fl (Bool) (Unit)))
 | v1 =>
  if (decide (v1 < (x.Stops.length : Int))) = true then
   (idx x.Stops v1).bind fun e2 =>
   (s_l1In e2 0 (w64 (stops - 1))).bind fun r4 =>
   (if (!r4) = true then some true else (idx x.Stops v1).bind fun e3 =>
   (s_l2Place x e3).bind fun r5 =>
   some (r5 != v1)).bind fun (v2 : Bool) =>
   if v2 = true then
    some (.dn (.ret false))
   else
    some (.nx (w64 (v1 + 1)))
  else
   some (.dn (.go ()))
noncomputable def s_l2Line_L2 (x : Line) : Int → Option (Lp (Int) (Fl (Bool) (Unit)))
 | v3 =>
  if (decide (v3 < (x.Runs.length : Int))) = true then
   (idx x.Runs v3).bind fun e5 =>
   (s_l1In e5 1 60).bind fun r7 =>
   if (!r7) = true then
    some (.dn (.ret false))
   else
    some (.nx (w64 (v3 + 1)))
  else
   some (.dn (.go ()))
noncomputable def s_l2Line (x : Line) (stops : Int) : Option (Bool) :=
 (s_l2Name x.Name).bind fun r =>
 (if (!r) = true then some true else (s_l1In (x.Stops.length : Int) 2 6).bind fun r1 =>
 if (!r1) = true then some true else some ((x.Runs.length : Int) != (w64 ((x.Stops.length : Int) - 1)))).bind fun (v : Bool) =>
 if v = true then
  some false
 else
  flb (iter (s_l2Line_L1 x stops) (0 : Int)) fun (_ : Unit) =>
  flb (iter (s_l2Line_L2 x) (0 : Int)) fun (_ : Unit) =>
  some true
noncomputable def s_l2LineNamed_L1 (n : Network) (name : ByteArray) : Int → Option (Lp (Int) (Fl (Int) (Unit)))
 | v =>
  if (decide (v < (n.Lines.length : Int))) = true then
   (idx n.Lines v).bind fun e =>
   if (e.Name.toList == name.toList) = true then
    some (.dn (.ret v))
   else
    some (.nx (w64 (v + 1)))
  else
   some (.dn (.go ()))
noncomputable def s_l2LineNamed (n : Network) (name : ByteArray) : Option (Int) :=
 flb (iter (s_l2LineNamed_L1 n name) (0 : Int)) fun (_ : Unit) =>
 some (-1)
noncomputable def s_l2Good_L1 (n : Network) : Int → Option (Lp (Int) (Fl (Bool) (Unit)))
 | i =>
  if (decide (i < (n.Stops.length : Int))) = true then
   (idx n.Stops i).bind fun e2 =>
   (s_l2Name e2).bind fun r4 =>
   (if (!r4) = true then some true else (idx n.Stops i).bind fun e3 =>
   (s_l2Find n.Stops e3).bind fun r5 =>
   some (r5 != i)).bind fun (v1 : Bool) =>
   if v1 = true then
    some (.dn (.ret false))
   else
    some (.nx (w64 (i + 1)))
  else
   some (.dn (.go ()))
noncomputable def s_l2Good_L2 (n : Network) : Int → Option (Lp (Int) (Fl (Bool) (Unit)))
 | v2 =>
  if (decide (v2 < (n.Lines.length : Int))) = true then
   (idx n.Lines v2).bind fun e7 =>
   (s_l2Line e7 (n.Stops.length : Int)).bind fun r9 =>
   (if (!r9) = true then some true else (idx n.Lines v2).bind fun e8 =>
   (s_l2LineNamed n e8.Name).bind fun r10 =>
   some (r10 != v2)).bind fun (v3 : Bool) =>
   if v3 = true then
    some (.dn (.ret false))
   else
    some (.nx (w64 (v2 + 1)))
  else
   some (.dn (.go ()))
noncomputable def s_l2Good (n : Network) : Option (Bool) :=
 (s_l1In (n.Stops.length : Int) 2 8).bind fun r =>
 (if (!r) = true then some true else (s_l1In (n.Lines.length : Int) 1 5).bind fun r1 =>
 some (!r1)).bind fun (v : Bool) =>
 if v = true then
  some false
 else
  flb (iter (s_l2Good_L1 n) (0 : Int)) fun (_ : Unit) =>
  flb (iter (s_l2Good_L2 n) (0 : Int)) fun (_ : Unit) =>
  some true
noncomputable def s_l4Time (t : Int) : Option (Bool) :=
 (s_l1In t 0 1799).bind fun r =>
 some r
noncomputable def s_l5Line (t : Timetable) (i : Int) : Option (Line) :=
 (idx t.Trips i).bind fun e2 =>
 (idx t.Network.Lines e2.Line).bind fun e3 =>
 some e3
noncomputable def s_l5Stops (t : Timetable) (i : Int) : Option ((List Int)) :=
 (s_l5Line t i).bind fun r =>
 some r.Stops
noncomputable def s_l2Run_L1 (x : Line) (to_ : Int) : Int × Int → Option (Lp (Int × Int) (Int))
 | (v, v1) =>
  if (decide (v1 < to_)) = true then
   (idx x.Runs v1).bind fun e =>
   some (.nx ((w64 (v + e)), (w64 (v1 + 1))))
  else
   some (.dn v)
noncomputable def s_l2Run (x : Line) (from_ : Int) (to_ : Int) : Option (Int) :=
 (iter (s_l2Run_L1 x to_) ((0 : Int), from_)).bind fun (v2 : Int) =>
 some v2
noncomputable def s_l5At (t : Timetable) (i : Int) (k : Int) : Option (Int) :=
 (idx t.Trips i).bind fun e1 =>
 (s_l5Line t i).bind fun r2 =>
 (s_l2Run r2 0 k).bind fun r3 =>
 some (w64 (e1.Start + r3))
noncomputable def s_l5End (t : Timetable) (i : Int) : Option (Int) :=
 (s_l5Stops t i).bind fun r2 =>
 (s_l5At t i (w64 ((r2.length : Int) - 1))).bind fun r3 =>
 some r3
noncomputable def s_l5Good_L1 (t : Timetable) : Int → Option (Lp (Int) (Fl (Bool) (Unit)))
 | x =>
  if (decide (x < (t.Trips.length : Int))) = true then
   (idx t.Trips x).bind fun e =>
   (s_l1In e.Id 1 999).bind fun r6 =>
   (if (!r6) = true then some true else (s_l1In e.Line 0 (w64 ((t.Network.Lines.length : Int) - 1))).bind fun r7 =>
   if (!r7) = true then some true else (s_l4Time e.Start).bind fun r8 =>
   if (!r8) = true then some true else (s_l5End t x).bind fun r9 =>
   (s_l4Time r9).bind fun r10 =>
   if (!r10) = true then some true else if (decide (0 < x)) = true then (idx t.Trips (w64 (x - 1))).bind fun e2 =>
   some (decide (e.Id ≤ e2.Id)) else some false).bind fun (v1 : Bool) =>
   if v1 = true then
    some (.dn (.ret false))
   else
    some (.nx (w64 (x + 1)))
  else
   some (.dn (.go ()))
noncomputable def s_l5Good (t : Timetable) : Option (Bool) :=
 (s_l2Good t.Network).bind fun r =>
 (if (!r) = true then some true else some (decide (12 < (t.Trips.length : Int)))).bind fun (v : Bool) =>
 if v = true then
  some false
 else
  flb (iter (s_l5Good_L1 t) (0 : Int)) fun (_ : Unit) =>
  some true
noncomputable def s_l1Split_L1 (s : ByteArray) (b : UInt8) : Int × Int × (List ByteArray) → Option (Lp (Int × Int × (List ByteArray)) (Int × (List ByteArray)))
 | (v, v1, i) =>
  if (decide (v1 < (s.size : Int))) = true then
   ((chk ((0 : Int) ≤ v1 ∧ v1 < (s.size : Int))).bind fun u =>
   if (((s.data.toList.getD v1.toNat 0).toNat : Int) == (b.toNat : Int)) = true then
    (chk ((0 : Int) ≤ v ∧ (v : Int) ≤ v1 ∧ v1 ≤ (s.size : Int))).bind fun u1 =>
    (chk (i.length + ([(s.extract v.toNat v1.toNat)] : List ByteArray).length ≤ 4294967296)).bind fun u2 =>
    some ((w64 (v1 + 1)), (i ++ ([(s.extract v.toNat v1.toNat)] : List ByteArray)))
   else
    some (v, i)).bind fun ((v2, i1) : Int × (List ByteArray)) =>
   some (.nx (v2, (w64 (v1 + 1)), i1))
  else
   some (.dn (v, i))
noncomputable def s_l1Split (s : ByteArray) (b : UInt8) : Option ((List ByteArray)) :=
 (iter (s_l1Split_L1 s b) ((0 : Int), (0 : Int), ([] : List ByteArray))).bind fun ((v3, i2) : Int × (List ByteArray)) =>
 (chk ((0 : Int) ≤ v3 ∧ v3 ≤ (s.size : Int))).bind fun u3 =>
 (chk (i2.length + ([(s.extract v3.toNat s.size)] : List ByteArray).length ≤ 4294967296)).bind fun u4 =>
 some (i2 ++ ([(s.extract v3.toNat s.size)] : List ByteArray))
noncomputable def s_l1Num_F (rec_ : Int → Option (ByteArray)) (n : Int) : Option (ByteArray) :=
 if (decide (n < 0)) = true then
  (rec_ (w64 (0 - n))).bind fun r =>
  (chk ((str [45]).size + r.size ≤ 4294967296)).bind fun u =>
  some ((str [45]) ++ r)
 else
  if (decide (n < 10)) = true then
   (chk ((0 : Int) ≤ n ∧ (n : Int) ≤ (w64 (n + 1)) ∧ (w64 (n + 1)) ≤ ((str [48, 49, 50, 51, 52, 53, 54, 55, 56, 57]).size : Int))).bind fun u1 =>
   some ((str [48, 49, 50, 51, 52, 53, 54, 55, 56, 57]).extract n.toNat (w64 (n + 1)).toNat)
  else
   (chk ((10 : Int) ≠ 0)).bind fun u7 =>
   (rec_ (w64 (n.tdiv 10))).bind fun r2 =>
   (chk ((10 : Int) ≠ 0)).bind fun u8 =>
   (chk ((10 : Int) ≠ 0)).bind fun u9 =>
   (chk ((0 : Int) ≤ (n.tmod 10) ∧ ((n.tmod 10) : Int) ≤ (w64 ((n.tmod 10) + 1)) ∧ (w64 ((n.tmod 10) + 1)) ≤ ((str [48, 49, 50, 51, 52, 53, 54, 55, 56, 57]).size : Int))).bind fun u10 =>
   (chk (r2.size + ((str [48, 49, 50, 51, 52, 53, 54, 55, 56, 57]).extract (n.tmod 10).toNat (w64 ((n.tmod 10) + 1)).toNat).size ≤ 4294967296)).bind fun u11 =>
   some (r2 ++ ((str [48, 49, 50, 51, 52, 53, 54, 55, 56, 57]).extract (n.tmod 10).toNat (w64 ((n.tmod 10) + 1)).toNat))
noncomputable def s_l1Num_k : Nat → Int → Option (ByteArray)
 | 0 => fun _ => none
 | n + 1 => s_l1Num_F (s_l1Num_k n)
noncomputable def s_l1Num (n : Int) : Option (ByteArray) := s_l1Num_k 4294967296 n
noncomputable def s_l27Plain_L1 (s : ByteArray) : Int → Option (Lp (Int) (Fl (Bool) (Unit)))
 | v =>
  if (decide (v < (s.size : Int))) = true then
   (chk ((0 : Int) ≤ v ∧ v < (s.size : Int))).bind fun u =>
   (s_l1In (w64 (((s.data.toList.getD v.toNat 0).toNat : Int))) 32 126).bind fun r =>
   (if (!r) = true then some true else (chk ((0 : Int) ≤ v ∧ v < (s.size : Int))).bind fun u1 =>
   some (((s.data.toList.getD v.toNat 0).toNat : Int) == 35)).bind fun (v1 : Bool) =>
   if v1 = true then
    some (.dn (.ret false))
   else
    some (.nx (w64 (v + 1)))
  else
   some (.dn (.go ()))
noncomputable def s_l27Plain (s : ByteArray) (most : Int) : Option (Bool) :=
 flb (iter (s_l27Plain_L1 s) (0 : Int)) fun (_ : Unit) =>
 some (decide ((s.size : Int) ≤ most))
noncomputable def s_l1Stands_L1 (s : ByteArray) (b : UInt8) : Int → Option (Lp (Int) (Fl (Bool) (Unit)))
 | v =>
  if (decide (v < (s.size : Int))) = true then
   (chk ((0 : Int) ≤ v ∧ v < (s.size : Int))).bind fun u =>
   if (((s.data.toList.getD v.toNat 0).toNat : Int) == (b.toNat : Int)) = true then
    some (.dn (.ret true))
   else
    some (.nx (w64 (v + 1)))
  else
   some (.dn (.go ()))
noncomputable def s_l1Stands (s : ByteArray) (b : UInt8) : Option (Bool) :=
 flb (iter (s_l1Stands_L1 s b) (0 : Int)) fun (_ : Unit) =>
 some false
noncomputable def s_l27Good (e : LogRecord) : Option (Bool) :=
 (if (!(e.Command.toList == (str []).toList)) = true then (s_l27Plain e.Command 160).bind fun r =>
 if r = true then (s_l1Stands e.Command (mkU8 64)).bind fun r1 =>
 if (!r1) = true then (s_l27Plain e.Reply 200).bind fun r2 =>
 some r2 else some false else some false else some false).bind fun (v : Bool) =>
 some v
noncomputable def s_l1Sum_L1 (s : ByteArray) : Int × Int → Option (Lp (Int × Int) (Int))
 | (i, v) =>
  if (decide (v < (s.size : Int))) = true then
   (chk ((0 : Int) ≤ v ∧ v < (s.size : Int))).bind fun u =>
   (chk ((999979 : Int) ≠ 0)).bind fun u1 =>
   some (.nx (((w64 ((w64 ((w64 (41 * i)) + (w64 (((s.data.toList.getD v.toNat 0).toNat : Int))))) + 1)).tmod 999979), (w64 (v + 1))))
  else
   some (.dn i)
noncomputable def s_l1Sum (s : ByteArray) : Option (Int) :=
 (iter (s_l1Sum_L1 s) ((7 : Int), (0 : Int))).bind fun (i1 : Int) =>
 some i1
noncomputable def s_l1Seal (s : ByteArray) : Option (ByteArray) :=
 (chk (s.size + (str [35]).size ≤ 4294967296)).bind fun u =>
 (s_l1Sum s).bind fun r =>
 (s_l1Num r).bind fun r1 =>
 (chk ((s ++ (str [35])).size + r1.size ≤ 4294967296)).bind fun u1 =>
 some ((s ++ (str [35])) ++ r1)
noncomputable def s_l27Line (k : Int) (e : LogRecord) : Option (ByteArray) :=
 (s_l1Num k).bind fun r2 =>
 (chk (r2.size + (str [32]).size ≤ 4294967296)).bind fun u5 =>
 (chk ((r2 ++ (str [32])).size + e.Command.size ≤ 4294967296)).bind fun u6 =>
 (chk (((r2 ++ (str [32])) ++ e.Command).size + (str [64]).size ≤ 4294967296)).bind fun u7 =>
 (chk ((((r2 ++ (str [32])) ++ e.Command) ++ (str [64])).size + e.Reply.size ≤ 4294967296)).bind fun u8 =>
 (s_l1Seal ((((r2 ++ (str [32])) ++ e.Command) ++ (str [64])) ++ e.Reply)).bind fun r3 =>
 (chk (r3.size + (str [10]).size ≤ 4294967296)).bind fun u9 =>
 some (r3 ++ (str [10]))
noncomputable def s_l27Read (s : ByteArray) (k : Int) : Option (LogRecord × Bool) :=
 (s_l1Num k).bind fun r =>
 (chk (r.size + (str [32]).size ≤ 4294967296)).bind fun u =>
 (s_l1Split s (mkU8 35)).bind fun r1 =>
 (idx r1 0).bind fun e =>
 (if (decide ((e.size : Int) < ((r ++ (str [32])).size : Int))) = true then some true else (chk ((0 : Int) ≤ 0 ∧ (0 : Int) ≤ ((r ++ (str [32])).size : Int) ∧ ((r ++ (str [32])).size : Int) ≤ (e.size : Int))).bind fun u1 =>
 some (!((e.extract (0 : Int).toNat ((r ++ (str [32])).size : Int).toNat).toList == (r ++ (str [32])).toList))).bind fun (v : Bool) =>
 if v = true then
  some ((⟨ByteArray.empty, ByteArray.empty⟩ : LogRecord), false)
 else
  (chk ((0 : Int) ≤ ((r ++ (str [32])).size : Int) ∧ ((r ++ (str [32])).size : Int) ≤ (e.size : Int))).bind fun u2 =>
  (s_l1Split (e.extract ((r ++ (str [32])).size : Int).toNat e.size) (mkU8 64)).bind fun r2 =>
  (idx r2 0).bind fun e1 =>
  if ((e1.size : Int) == ((e.extract ((r ++ (str [32])).size : Int).toNat e.size).size : Int)) = true then
   some ((⟨ByteArray.empty, ByteArray.empty⟩ : LogRecord), false)
  else
   (chk ((0 : Int) ≤ (w64 ((e1.size : Int) + 1)) ∧ (w64 ((e1.size : Int) + 1)) ≤ ((e.extract ((r ++ (str [32])).size : Int).toNat e.size).size : Int))).bind fun u3 =>
   (s_l27Good (⟨e1, ((e.extract ((r ++ (str [32])).size : Int).toNat e.size).extract (w64 ((e1.size : Int) + 1)).toNat (e.extract ((r ++ (str [32])).size : Int).toNat e.size).size)⟩ : LogRecord)).bind fun r5 =>
   (if r5 = true then (s_l27Line k (⟨e1, ((e.extract ((r ++ (str [32])).size : Int).toNat e.size).extract (w64 ((e1.size : Int) + 1)).toNat (e.extract ((r ++ (str [32])).size : Int).toNat e.size).size)⟩ : LogRecord)).bind fun r6 =>
   (chk (s.size + (str [10]).size ≤ 4294967296)).bind fun u5 =>
   some (r6.toList == (s ++ (str [10])).toList) else some false).bind fun (text : Bool) =>
   some ((⟨e1, ((e.extract ((r ++ (str [32])).size : Int).toNat e.size).extract (w64 ((e1.size : Int) + 1)).toNat (e.extract ((r ++ (str [32])).size : Int).toNat e.size).size)⟩ : LogRecord), text)
noncomputable def s_l27Open_L1 (s : ByteArray) : Int × (List LogRecord) → Option (Lp (Int × (List LogRecord)) (Int × (List LogRecord)))
 | (line, at_) =>
  (if (decide (line < (s.size : Int))) = true then some (decide ((at_.length : Int) < 60)) else some false).bind fun (v : Bool) =>
  if v = true then
   (chk ((0 : Int) ≤ line ∧ line ≤ (s.size : Int))).bind fun u =>
   (s_l1Split (s.extract line.toNat s.size) (mkU8 10)).bind fun r =>
   (idx r 0).bind fun e =>
   (s_l27Read e (at_.length : Int)).bind fun r1 =>
   (if (decide ((r.length : Int) < 2)) = true then some true else some (!r1.2)).bind fun (v1 : Bool) =>
   if v1 = true then
    some (.dn (line, at_))
   else
    (chk (at_.length + ([r1.1] : List LogRecord).length ≤ 4294967296)).bind fun u1 =>
    (idx r 0).bind fun e1 =>
    some (.nx ((w64 ((w64 (line + (e1.size : Int))) + 1)), (at_ ++ ([r1.1] : List LogRecord))))
  else
   some (.dn (line, at_))
noncomputable def s_l27Open (s : ByteArray) : Option ((List LogRecord) × Int) :=
 (iter (s_l27Open_L1 s) ((0 : Int), ([] : List LogRecord))).bind fun ((line1, at_1) : Int × (List LogRecord)) =>
 some (at_1, line1)
noncomputable def s_l27Log (l : Log) : Option (Bool) :=
 if (decide (30000 < (w64 ((l.Durable.size : Int) + (l.Pending.size : Int))))) = true then
  some false
 else
  (chk (l.Durable.size + l.Pending.size ≤ 4294967296)).bind fun u =>
  (s_l27Open (l.Durable ++ l.Pending)).bind fun r =>
  (s_l27Open l.Durable).bind fun r1 =>
  (if (r.2 == (w64 ((l.Durable.size : Int) + (l.Pending.size : Int)))) = true then if (r1.2 == (l.Durable.size : Int)) = true then some ((r.1.length : Int) == l.Count) else some false else some false).bind fun (all : Bool) =>
  some all
noncomputable def s_l28Good (c : Console) : Option (Bool) :=
 (s_l5Good c.Timetable).bind fun r =>
 (if r = true then (s_l1In c.Change 0 30).bind fun r1 =>
 if r1 = true then (s_l27Log c.Log).bind fun r2 =>
 some r2 else some false else some false).bind fun (v : Bool) =>
 some v
noncomputable def s_l6Network_L1 (n : Network) : ByteArray × Int → Option (Lp (ByteArray × Int) (ByteArray))
 | (i, i1) =>
  if (decide (i1 < (n.Stops.length : Int))) = true then
   (chk (i.size + (str [115, 116, 111, 112, 32]).size ≤ 4294967296)).bind fun u =>
   (idx n.Stops i1).bind fun e =>
   (chk ((i ++ (str [115, 116, 111, 112, 32])).size + e.size ≤ 4294967296)).bind fun u1 =>
   (chk (((i ++ (str [115, 116, 111, 112, 32])) ++ e).size + (str [10]).size ≤ 4294967296)).bind fun u2 =>
   some (.nx ((((i ++ (str [115, 116, 111, 112, 32])) ++ e) ++ (str [10])), (w64 (i1 + 1))))
  else
   some (.dn i)
noncomputable def s_l6Network_L2 (n : Network) (e1 : Line) : ByteArray × Int → Option (Lp (ByteArray × Int) (ByteArray))
 | (i4, v) =>
  if (decide (v < (e1.Stops.length : Int))) = true then
   ((chk (i4.size + (str [32]).size ≤ 4294967296)).bind fun u7 =>
   (idx e1.Stops v).bind fun e4 =>
   (idx n.Stops e4).bind fun e5 =>
   (chk ((i4 ++ (str [32])).size + e5.size ≤ 4294967296)).bind fun u8 =>
   if (decide (v < (e1.Runs.length : Int))) = true then
    (chk (((i4 ++ (str [32])) ++ e5).size + (str [32]).size ≤ 4294967296)).bind fun u9 =>
    (idx e1.Runs v).bind fun e6 =>
    (s_l1Num e6).bind fun r =>
    (chk ((((i4 ++ (str [32])) ++ e5) ++ (str [32])).size + r.size ≤ 4294967296)).bind fun u10 =>
    some ((((i4 ++ (str [32])) ++ e5) ++ (str [32])) ++ r)
   else
    some ((i4 ++ (str [32])) ++ e5)).bind fun (i5 : ByteArray) =>
   some (.nx (i5, (w64 (v + 1))))
  else
   some (.dn i4)
noncomputable def s_l6Network_L3 (n : Network) : ByteArray × Int → Option (Lp (ByteArray × Int) (ByteArray))
 | (i3, x) =>
  if (decide (x < (n.Lines.length : Int))) = true then
   (idx n.Lines x).bind fun e1 =>
   (chk (i3.size + (str [108, 105, 110, 101, 32]).size ≤ 4294967296)).bind fun u3 =>
   (chk ((i3 ++ (str [108, 105, 110, 101, 32])).size + e1.Name.size ≤ 4294967296)).bind fun u4 =>
   (iter (s_l6Network_L2 n e1) (((i3 ++ (str [108, 105, 110, 101, 32])) ++ e1.Name), (0 : Int))).bind fun (i6 : ByteArray) =>
   (chk (i6.size + (str [10]).size ≤ 4294967296)).bind fun u11 =>
   some (.nx ((i6 ++ (str [10])), (w64 (x + 1))))
  else
   some (.dn i3)
noncomputable def s_l6Network (n : Network) : Option (ByteArray) :=
 (iter (s_l6Network_L1 n) ((str []), (0 : Int))).bind fun (i2 : ByteArray) =>
 (iter (s_l6Network_L3 n) (i2, (0 : Int))).bind fun (i7 : ByteArray) =>
 some i7
noncomputable def s_l4Two (n : Int) : Option (ByteArray) :=
 (chk ((10 : Int) ≠ 0)).bind fun u7 =>
 (chk ((10 : Int) ≠ 0)).bind fun u8 =>
 (chk ((0 : Int) ≤ (w64 (n.tdiv 10)) ∧ ((w64 (n.tdiv 10)) : Int) ≤ (w64 ((w64 (n.tdiv 10)) + 1)) ∧ (w64 ((w64 (n.tdiv 10)) + 1)) ≤ ((str [48, 49, 50, 51, 52, 53, 54, 55, 56, 57]).size : Int))).bind fun u9 =>
 (chk ((10 : Int) ≠ 0)).bind fun u10 =>
 (chk ((10 : Int) ≠ 0)).bind fun u11 =>
 (chk ((0 : Int) ≤ (n.tmod 10) ∧ ((n.tmod 10) : Int) ≤ (w64 ((n.tmod 10) + 1)) ∧ (w64 ((n.tmod 10) + 1)) ≤ ((str [48, 49, 50, 51, 52, 53, 54, 55, 56, 57]).size : Int))).bind fun u12 =>
 (chk (((str [48, 49, 50, 51, 52, 53, 54, 55, 56, 57]).extract (w64 (n.tdiv 10)).toNat (w64 ((w64 (n.tdiv 10)) + 1)).toNat).size + ((str [48, 49, 50, 51, 52, 53, 54, 55, 56, 57]).extract (n.tmod 10).toNat (w64 ((n.tmod 10) + 1)).toNat).size ≤ 4294967296)).bind fun u13 =>
 some (((str [48, 49, 50, 51, 52, 53, 54, 55, 56, 57]).extract (w64 (n.tdiv 10)).toNat (w64 ((w64 (n.tdiv 10)) + 1)).toNat) ++ ((str [48, 49, 50, 51, 52, 53, 54, 55, 56, 57]).extract (n.tmod 10).toNat (w64 ((n.tmod 10) + 1)).toNat))
noncomputable def s_l4Text (t : Int) : Option (ByteArray) :=
 (chk ((60 : Int) ≠ 0)).bind fun u =>
 (s_l4Two (w64 (t.tdiv 60))).bind fun r =>
 (chk (r.size + (str [58]).size ≤ 4294967296)).bind fun u1 =>
 (chk ((60 : Int) ≠ 0)).bind fun u2 =>
 (s_l4Two (t.tmod 60)).bind fun r1 =>
 (chk ((r ++ (str [58])).size + r1.size ≤ 4294967296)).bind fun u3 =>
 some ((r ++ (str [58])) ++ r1)
noncomputable def s_l6Timetable_L1 (t : Timetable) : ByteArray × Int → Option (Lp (ByteArray × Int) (ByteArray))
 | (i, v) =>
  if (decide (v < (t.Trips.length : Int))) = true then
   (chk (i.size + (str [116, 114, 105, 112, 32]).size ≤ 4294967296)).bind fun u7 =>
   (idx t.Trips v).bind fun e2 =>
   (s_l1Num e2.Id).bind fun r4 =>
   (chk ((i ++ (str [116, 114, 105, 112, 32])).size + r4.size ≤ 4294967296)).bind fun u8 =>
   (chk (((i ++ (str [116, 114, 105, 112, 32])) ++ r4).size + (str [32]).size ≤ 4294967296)).bind fun u9 =>
   (s_l5Line t v).bind fun r5 =>
   (chk ((((i ++ (str [116, 114, 105, 112, 32])) ++ r4) ++ (str [32])).size + r5.Name.size ≤ 4294967296)).bind fun u10 =>
   (chk (((((i ++ (str [116, 114, 105, 112, 32])) ++ r4) ++ (str [32])) ++ r5.Name).size + (str [32]).size ≤ 4294967296)).bind fun u11 =>
   (idx t.Trips v).bind fun e3 =>
   (s_l4Text e3.Start).bind fun r6 =>
   (chk ((((((i ++ (str [116, 114, 105, 112, 32])) ++ r4) ++ (str [32])) ++ r5.Name) ++ (str [32])).size + r6.size ≤ 4294967296)).bind fun u12 =>
   (chk (((((((i ++ (str [116, 114, 105, 112, 32])) ++ r4) ++ (str [32])) ++ r5.Name) ++ (str [32])) ++ r6).size + (str [10]).size ≤ 4294967296)).bind fun u13 =>
   some (.nx ((((((((i ++ (str [116, 114, 105, 112, 32])) ++ r4) ++ (str [32])) ++ r5.Name) ++ (str [32])) ++ r6) ++ (str [10])), (w64 (v + 1))))
  else
   some (.dn i)
noncomputable def s_l6Timetable (t : Timetable) : Option (ByteArray) :=
 (s_l6Network t.Network).bind fun r =>
 (iter (s_l6Timetable_L1 t) (r, (0 : Int))).bind fun (i1 : ByteArray) =>
 some i1
noncomputable def s_FormatConsole (c : Console) : Option (ByteArray × Bool) :=
 (s_l28Good c).bind fun r =>
 if (!r) = true then
  some ((str []), false)
 else
  (s_l6Timetable c.Timetable).bind fun r3 =>
  (chk (r3.size + (str [99, 104, 97, 110, 103, 101, 32]).size ≤ 4294967296)).bind fun u3 =>
  (s_l1Num c.Change).bind fun r4 =>
  (chk ((r3 ++ (str [99, 104, 97, 110, 103, 101, 32])).size + r4.size ≤ 4294967296)).bind fun u4 =>
  (chk (((r3 ++ (str [99, 104, 97, 110, 103, 101, 32])) ++ r4).size + (str [10]).size ≤ 4294967296)).bind fun u5 =>
  some ((((r3 ++ (str [99, 104, 97, 110, 103, 101, 32])) ++ r4) ++ (str [10])), true)
noncomputable def i_within (n : Int) (lo : Int) (hi : Int) : Option (Bool) :=
 (if (decide (lo ≤ n)) = true then some (decide (n ≤ hi)) else some false).bind fun (v : Bool) =>
 some v
noncomputable def i_isName_L1 (s : ByteArray) : Int → Option (Lp (Int) (Fl (Bool) (Unit)))
 | v1 =>
  if (decide (v1 < (s.size : Int))) = true then
   (chk ((0 : Int) ≤ v1 ∧ v1 < (s.size : Int))).bind fun u =>
   (if (decide (97 ≤ ((s.data.toList.getD v1.toNat 0).toNat : Int))) = true then (chk ((0 : Int) ≤ v1 ∧ v1 < (s.size : Int))).bind fun u1 =>
   some (decide (((s.data.toList.getD v1.toNat 0).toNat : Int) ≤ 122)) else some false).bind fun (v2 : Bool) =>
   (if (!v2) = true then if (v1 == 0) = true then some true else (chk ((0 : Int) ≤ v1 ∧ v1 < (s.size : Int))).bind fun u2 =>
   if (decide (((s.data.toList.getD v1.toNat 0).toNat : Int) < 48)) = true then some true else (chk ((0 : Int) ≤ v1 ∧ v1 < (s.size : Int))).bind fun u3 =>
   some (decide (57 < ((s.data.toList.getD v1.toNat 0).toNat : Int))) else some false).bind fun (v3 : Bool) =>
   if v3 = true then
    some (.dn (.ret false))
   else
    some (.nx (w64 (v1 + 1)))
  else
   some (.dn (.go ()))
noncomputable def i_isName (s : ByteArray) : Option (Bool) :=
 (if (decide ((s.size : Int) < 1)) = true then some true else some (decide (8 < (s.size : Int)))).bind fun (v : Bool) =>
 if v = true then
  some false
 else
  flb (iter (i_isName_L1 s) (0 : Int)) fun (_ : Unit) =>
  some true
noncomputable def slices_Index_string_L1 (s : List ByteArray) (v : ByteArray) : Int → Option (Lp (Int) (Fl (Int) (Unit)))
 | v1 =>
  if (decide (v1 < (s.length : Int))) = true then
   (idx s v1).bind fun e =>
   if (v.toList == e.toList) = true then
    some (.dn (.ret v1))
   else
    some (.nx (w64 (v1 + 1)))
  else
   some (.dn (.go ()))
noncomputable def slices_Index_string (s : List ByteArray) (v : ByteArray) : Option (Int) :=
 flb (iter (slices_Index_string_L1 s v) (0 : Int)) fun (_ : Unit) =>
 some (-1)
noncomputable def i_areNames_L1 (names : List ByteArray) : Int → Option (Lp (Int) (Fl (Bool) (Unit)))
 | v =>
  if (decide (v < (names.length : Int))) = true then
   (idx names v).bind fun e =>
   (i_isName e).bind fun r =>
   (if (!r) = true then some true else (slices_Index_string names e).bind fun r1 =>
   some (r1 != v)).bind fun (v1 : Bool) =>
   if v1 = true then
    some (.dn (.ret false))
   else
    some (.nx (w64 (v + 1)))
  else
   some (.dn (.go ()))
noncomputable def i_areNames (names : List ByteArray) : Option (Bool) :=
 flb (iter (i_areNames_L1 names) (0 : Int)) fun (_ : Unit) =>
 some true
noncomputable def i_lineNames_L1 (n : Network) : Int × (List ByteArray) → Option (Lp (Int × (List ByteArray)) ((List ByteArray)))
 | (v, i) =>
  if (decide (v < (n.Lines.length : Int))) = true then
   (idx n.Lines v).bind fun e =>
   (idx i v).bind fun e1 =>
   some (.nx ((w64 (v + 1)), (i.set v.toNat e.Name)))
  else
   some (.dn i)
noncomputable def i_lineNames (n : Network) : Option ((List ByteArray)) :=
 (chk ((0 : Int) ≤ (n.Lines.length : Int) ∧ ((n.Lines.length : Int) : Int) ≤ 4294967296)).bind fun u =>
 (iter (i_lineNames_L1 n) ((0 : Int), (List.replicate (n.Lines.length : Int).toNat (ByteArray.empty : ByteArray)))).bind fun (i1 : List ByteArray) =>
 some i1
noncomputable def i_isStop (n : Network) (stop : Int) : Option (Bool) :=
 (if (decide (0 ≤ stop)) = true then some (decide (stop < (n.Stops.length : Int))) else some false).bind fun (v : Bool) =>
 some v
noncomputable def slices_Index_int_L1 (s : List Int) (v : Int) : Int → Option (Lp (Int) (Fl (Int) (Unit)))
 | v1 =>
  if (decide (v1 < (s.length : Int))) = true then
   (idx s v1).bind fun e =>
   if (v == e) = true then
    some (.dn (.ret v1))
   else
    some (.nx (w64 (v1 + 1)))
  else
   some (.dn (.go ()))
noncomputable def slices_Index_int (s : List Int) (v : Int) : Option (Int) :=
 flb (iter (slices_Index_int_L1 s v) (0 : Int)) fun (_ : Unit) =>
 some (-1)
noncomputable def i_isValidLine_L1 (n : Network) (l : Line) : Int → Option (Lp (Int) (Fl (Bool) (Unit)))
 | v1 =>
  if (decide (v1 < (l.Stops.length : Int))) = true then
   (idx l.Stops v1).bind fun e =>
   (i_isStop n e).bind fun r1 =>
   (if (!r1) = true then some true else (slices_Index_int l.Stops e).bind fun r2 =>
   some (r2 != v1)).bind fun (v2 : Bool) =>
   if v2 = true then
    some (.dn (.ret false))
   else
    some (.nx (w64 (v1 + 1)))
  else
   some (.dn (.go ()))
noncomputable def i_isValidLine_L2 (l : Line) : Int → Option (Lp (Int) (Fl (Bool) (Unit)))
 | v3 =>
  if (decide (v3 < (l.Runs.length : Int))) = true then
   (idx l.Runs v3).bind fun e2 =>
   (i_within e2 1 60).bind fun r4 =>
   if (!r4) = true then
    some (.dn (.ret false))
   else
    some (.nx (w64 (v3 + 1)))
  else
   some (.dn (.go ()))
noncomputable def i_isValidLine (n : Network) (l : Line) : Option (Bool) :=
 (i_within (l.Stops.length : Int) 2 6).bind fun r =>
 (if (!r) = true then some true else some ((l.Runs.length : Int) != (w64 ((l.Stops.length : Int) - 1)))).bind fun (v : Bool) =>
 if v = true then
  some false
 else
  flb (iter (i_isValidLine_L1 n l) (0 : Int)) fun (_ : Unit) =>
  flb (iter (i_isValidLine_L2 l) (0 : Int)) fun (_ : Unit) =>
  some true
noncomputable def i_IsValidNetwork_L1 (n : Network) : Int → Option (Lp (Int) (Fl (Bool) (Unit)))
 | v1 =>
  if (decide (v1 < (n.Lines.length : Int))) = true then
   (idx n.Lines v1).bind fun e =>
   (i_isValidLine n e).bind fun r5 =>
   if (!r5) = true then
    some (.dn (.ret false))
   else
    some (.nx (w64 (v1 + 1)))
  else
   some (.dn (.go ()))
noncomputable def i_IsValidNetwork (n : Network) : Option (Bool) :=
 (i_within (n.Stops.length : Int) 2 8).bind fun r =>
 (if (!r) = true then some true else (i_within (n.Lines.length : Int) 1 5).bind fun r1 =>
 if (!r1) = true then some true else (i_areNames n.Stops).bind fun r2 =>
 if (!r2) = true then some true else (i_lineNames n).bind fun r3 =>
 (i_areNames r3).bind fun r4 =>
 some (!r4)).bind fun (v : Bool) =>
 if v = true then
  some false
 else
  flb (iter (i_IsValidNetwork_L1 n) (0 : Int)) fun (_ : Unit) =>
  some true
noncomputable def i_isLine (n : Network) (line : Int) : Option (Bool) :=
 (if (decide (0 ≤ line)) = true then some (decide (line < (n.Lines.length : Int))) else some false).bind fun (v : Bool) =>
 some v
noncomputable def i_IsValidTime (t : Int) : Option (Bool) :=
 (i_within t 0 1799).bind fun r =>
 some r
noncomputable def i_total_L1 (list : List Int) : Int × Int → Option (Lp (Int × Int) (Int))
 | (v, v1) =>
  if (decide (v1 < (list.length : Int))) = true then
   (idx list v1).bind fun e =>
   some (.nx ((w64 (v + e)), (w64 (v1 + 1))))
  else
   some (.dn v)
noncomputable def i_total (list : List Int) : Option (Int) :=
 (iter (i_total_L1 list) ((0 : Int), (0 : Int))).bind fun (v2 : Int) =>
 some v2
noncomputable def i_endOf (t : Timetable) (x : Trip) : Option (Int) :=
 (idx t.Network.Lines x.Line).bind fun e1 =>
 (i_total e1.Runs).bind fun r1 =>
 some (w64 (x.Start + r1))
noncomputable def i_areTrips_L1 (t : Timetable) : Int × Int → Option (Lp (Int × Int) (Fl (Bool) (Unit)))
 | (v, v1) =>
  if (decide (v1 < (t.Trips.length : Int))) = true then
   (idx t.Trips v1).bind fun e =>
   (if (decide (e.Id ≤ v)) = true then some true else if (decide (999 < e.Id)) = true then some true else (i_isLine t.Network e.Line).bind fun r =>
   if (!r) = true then some true else (i_IsValidTime e.Start).bind fun r1 =>
   if (!r1) = true then some true else (i_endOf t e).bind fun r2 =>
   (i_IsValidTime r2).bind fun r3 =>
   some (!r3)).bind fun (v2 : Bool) =>
   if v2 = true then
    some (.dn (.ret false))
   else
    some (.nx (e.Id, (w64 (v1 + 1))))
  else
   some (.dn (.go ()))
noncomputable def i_areTrips (t : Timetable) : Option (Bool) :=
 if (decide (12 < (t.Trips.length : Int))) = true then
  some false
 else
  flb (iter (i_areTrips_L1 t) ((0 : Int), (0 : Int))) fun (_ : Unit) =>
  some true
noncomputable def i_IsValidTimetable (t : Timetable) : Option (Bool) :=
 (i_IsValidNetwork t.Network).bind fun r =>
 (if r = true then (i_areTrips t).bind fun r1 =>
 some r1 else some false).bind fun (v : Bool) =>
 some v
noncomputable def i_isChange (change : Int) : Option (Bool) :=
 (i_within change 0 30).bind fun r =>
 some r
noncomputable def strings_Cut (s : ByteArray) (sep : ByteArray) : Option (ByteArray × ByteArray × Bool) :=
 cutM s sep
noncomputable def i_isPrintable_L1 (s : ByteArray) : Int → Option (Lp (Int) (Fl (Bool) (Unit)))
 | v =>
  if (decide (v < (s.size : Int))) = true then
   (chk ((0 : Int) ≤ v ∧ v < (s.size : Int))).bind fun u =>
   (if (decide (((s.data.toList.getD v.toNat 0).toNat : Int) < 32)) = true then some true else (chk ((0 : Int) ≤ v ∧ v < (s.size : Int))).bind fun u1 =>
   if (decide (126 < ((s.data.toList.getD v.toNat 0).toNat : Int))) = true then some true else (chk ((0 : Int) ≤ v ∧ v < (s.size : Int))).bind fun u2 =>
   some (((s.data.toList.getD v.toNat 0).toNat : Int) == 35)).bind fun (v1 : Bool) =>
   if v1 = true then
    some (.dn (.ret false))
   else
    some (.nx (w64 (v + 1)))
  else
   some (.dn (.go ()))
noncomputable def i_isPrintable (s : ByteArray) : Option (Bool) :=
 flb (iter (i_isPrintable_L1 s) (0 : Int)) fun (_ : Unit) =>
 some true
noncomputable def strings_Contains (s : ByteArray) (substr : ByteArray) : Option (Bool) :=
 containsM s substr
noncomputable def i_isCommand (s : ByteArray) : Option (Bool) :=
 (i_within (s.size : Int) 1 160).bind fun r =>
 (if r = true then (i_isPrintable s).bind fun r1 =>
 if r1 = true then (strings_Contains s (str [64])).bind fun r2 =>
 some (!r2) else some false else some false).bind fun (v : Bool) =>
 some v
noncomputable def i_IsValidRecord (e : LogRecord) : Option (Bool) :=
 (i_isCommand e.Command).bind fun r =>
 (if r = true then if (decide ((e.Reply.size : Int) ≤ 200)) = true then (i_isPrintable e.Reply).bind fun r1 =>
 some r1 else some false else some false).bind fun (v : Bool) =>
 some v
noncomputable def strconv_Itoa (i : Int) : Option (ByteArray) :=
 itoaM i
noncomputable def i_checksum_L1 (s : ByteArray) : Int × Int → Option (Lp (Int × Int) (Int))
 | (i, v) =>
  if (decide (v < (s.size : Int))) = true then
   (chk ((0 : Int) ≤ v ∧ v < (s.size : Int))).bind fun u =>
   (chk ((999979 : Int) ≠ 0)).bind fun u1 =>
   some (.nx (((w64 ((w64 ((w64 (41 * i)) + (w64 (((s.data.toList.getD v.toNat 0).toNat : Int))))) + 1)).tmod 999979), (w64 (v + 1))))
  else
   some (.dn i)
noncomputable def i_checksum (s : ByteArray) : Option (Int) :=
 (iter (i_checksum_L1 s) ((7 : Int), (0 : Int))).bind fun (i1 : Int) =>
 some i1
noncomputable def i_AppendChecksum (s : ByteArray) : Option (ByteArray × Bool) :=
 (if (decide (4000 < (s.size : Int))) = true then some true else (strings_Contains s (str [35])).bind fun r =>
 some r).bind fun (v : Bool) =>
 if v = true then
  some ((str []), false)
 else
  (chk (s.size + (str [35]).size ≤ 4294967296)).bind fun u =>
  (i_checksum s).bind fun r1 =>
  (strconv_Itoa r1).bind fun r2 =>
  (chk ((s ++ (str [35])).size + r2.size ≤ 4294967296)).bind fun u1 =>
  if (decide (4000 < (((s ++ (str [35])) ++ r2).size : Int))) = true then
   some ((str []), false)
  else
   some (((s ++ (str [35])) ++ r2), true)
noncomputable def i_encoded (k : Int) (e : LogRecord) : Option (ByteArray) :=
 (strconv_Itoa k).bind fun r2 =>
 (chk (r2.size + (str [32]).size ≤ 4294967296)).bind fun u4 =>
 (chk ((r2 ++ (str [32])).size + e.Command.size ≤ 4294967296)).bind fun u5 =>
 (chk (((r2 ++ (str [32])) ++ e.Command).size + (str [64]).size ≤ 4294967296)).bind fun u6 =>
 (chk ((((r2 ++ (str [32])) ++ e.Command) ++ (str [64])).size + e.Reply.size ≤ 4294967296)).bind fun u7 =>
 (i_AppendChecksum ((((r2 ++ (str [32])) ++ e.Command) ++ (str [64])) ++ e.Reply)).bind fun r3 =>
 (chk (r3.1.size + (str [10]).size ≤ 4294967296)).bind fun u8 =>
 some (r3.1 ++ (str [10]))
noncomputable def i_decoded (k : Int) (s : ByteArray) : Option (LogRecord × Int × Bool) :=
 (strings_Cut s (str [10])).bind fun r =>
 (if (!r.2.2) = true then some true else some (decide (60 ≤ k))).bind fun (v : Bool) =>
 if v = true then
  some ((⟨ByteArray.empty, ByteArray.empty⟩ : LogRecord), 0, false)
 else
  (strings_Cut r.1 (str [35])).bind fun r1 =>
  (strings_Cut r1.1 (str [32])).bind fun r2 =>
  (strings_Cut r2.2.1 (str [64])).bind fun r3 =>
  (i_IsValidRecord (⟨r3.1, r3.2.1⟩ : LogRecord)).bind fun r4 =>
  (if (!r4) = true then some true else (i_encoded k (⟨r3.1, r3.2.1⟩ : LogRecord)).bind fun r5 =>
  (chk (r.1.size + (str [10]).size ≤ 4294967296)).bind fun u =>
  some (!(r5.toList == (r.1 ++ (str [10])).toList))).bind fun (v1 : Bool) =>
  if v1 = true then
   some ((⟨ByteArray.empty, ByteArray.empty⟩ : LogRecord), 0, false)
  else
   some ((⟨r3.1, r3.2.1⟩ : LogRecord), (w64 ((r.1.size : Int) + 1)), true)
noncomputable def i_readLog_L1 (s : ByteArray) : (List LogRecord) × (List Int) → Option (Lp ((List LogRecord) × (List Int)) ((List LogRecord) × (List Int)))
 | (ends, at_) =>
  (idx at_ (ends.length : Int)).bind fun e =>
  (chk ((0 : Int) ≤ e ∧ e ≤ (s.size : Int))).bind fun u =>
  (i_decoded (ends.length : Int) (s.extract e.toNat s.size)).bind fun r =>
  if (!r.2.2) = true then
   some (.dn (ends, at_))
  else
   (chk (ends.length + ([r.1] : List LogRecord).length ≤ 4294967296)).bind fun u1 =>
   (chk (at_.length + ([(w64 (e + r.2.1))] : List Int).length ≤ 4294967296)).bind fun u2 =>
   some (.nx ((ends ++ ([r.1] : List LogRecord)), (at_ ++ ([(w64 (e + r.2.1))] : List Int))))
noncomputable def i_readLog (s : ByteArray) : Option ((List LogRecord) × (List Int)) :=
 iter (i_readLog_L1 s) (([] : List LogRecord), ([0] : List Int))
noncomputable def i_IsValidLog_L1 (l : Log) (r : (List LogRecord) × (List Int)) : Int → Option (Lp (Int) (Fl (Bool) (Unit)))
 | v1 =>
  if (decide (v1 < (r.2.length : Int))) = true then
   (idx r.2 v1).bind fun e2 =>
   if (e2 == (l.Durable.size : Int)) = true then
    some (.dn (.ret true))
   else
    some (.nx (w64 (v1 + 1)))
  else
   some (.dn (.go ()))
noncomputable def i_IsValidLog (l : Log) : Option (Bool) :=
 (chk (l.Durable.size + l.Pending.size ≤ 4294967296)).bind fun u =>
 (i_readLog (l.Durable ++ l.Pending)).bind fun r =>
 (idx r.2 (r.1.length : Int)).bind fun e1 =>
 (if (e1 != (w64 ((l.Durable.size : Int) + (l.Pending.size : Int)))) = true then some true else some (l.Count != (r.1.length : Int))).bind fun (v : Bool) =>
 if v = true then
  some false
 else
  flb (iter (i_IsValidLog_L1 l r) (0 : Int)) fun (_ : Unit) =>
  some false
noncomputable def i_IsValidConsole (c : Console) : Option (Bool) :=
 (i_IsValidTimetable c.Timetable).bind fun r =>
 (if r = true then (i_isChange c.Change).bind fun r1 =>
 if r1 = true then (i_IsValidLog c.Log).bind fun r2 =>
 some r2 else some false else some false).bind fun (v : Bool) =>
 some v
noncomputable def strings_Builder_WriteString (b : List UInt8) (s : ByteArray) : Option (Int × NilErr × (List UInt8)) :=
 writeStringM b s
noncomputable def strings_Builder_WriteByte (b : List UInt8) (c : UInt8) : Option (NilErr × (List UInt8)) :=
 writeByteM b c
noncomputable def strings_Builder_String (b : List UInt8) : Option (ByteArray) :=
 bldStringM b
noncomputable def i_formatNetwork_L1 (n : Network) : Int × (List UInt8) → Option (Lp (Int × (List UInt8)) ((List UInt8)))
 | (v, v1) =>
  if (decide (v < (n.Stops.length : Int))) = true then
   (idx n.Stops v).bind fun e =>
   (chk ((str [115, 116, 111, 112, 32]).size + e.size ≤ 4294967296)).bind fun u =>
   (chk (((str [115, 116, 111, 112, 32]) ++ e).size + (str [10]).size ≤ 4294967296)).bind fun u1 =>
   (strings_Builder_WriteString v1 (((str [115, 116, 111, 112, 32]) ++ e) ++ (str [10]))).bind fun r =>
   some (.nx ((w64 (v + 1)), r.2.2))
  else
   some (.dn v1)
noncomputable def i_formatNetwork_L2 (n : Network) (e1 : Line) : Int × (List UInt8) → Option (Lp (Int × (List UInt8)) ((List UInt8)))
 | (v5, v6) =>
  if (decide (v5 < (e1.Stops.length : Int))) = true then
   (idx e1.Stops v5).bind fun e2 =>
   (if (decide (0 < v5)) = true then
    (idx e1.Runs (w64 (v5 - 1))).bind fun e3 =>
    (strconv_Itoa e3).bind fun r2 =>
    (chk ((str [32]).size + r2.size ≤ 4294967296)).bind fun u3 =>
    (strings_Builder_WriteString v6 ((str [32]) ++ r2)).bind fun r3 =>
    some r3.2.2
   else
    some v6).bind fun (v7 : List UInt8) =>
   (idx n.Stops e2).bind fun e4 =>
   (chk ((str [32]).size + e4.size ≤ 4294967296)).bind fun u4 =>
   (strings_Builder_WriteString v7 ((str [32]) ++ e4)).bind fun r4 =>
   some (.nx ((w64 (v5 + 1)), r4.2.2))
  else
   some (.dn v6)
noncomputable def i_formatNetwork_L3 (n : Network) : Int × (List UInt8) → Option (Lp (Int × (List UInt8)) ((List UInt8)))
 | (v3, v4) =>
  if (decide (v3 < (n.Lines.length : Int))) = true then
   (idx n.Lines v3).bind fun e1 =>
   (chk ((str [108, 105, 110, 101, 32]).size + e1.Name.size ≤ 4294967296)).bind fun u2 =>
   (strings_Builder_WriteString v4 ((str [108, 105, 110, 101, 32]) ++ e1.Name)).bind fun r1 =>
   (iter (i_formatNetwork_L2 n e1) ((0 : Int), r1.2.2)).bind fun (v8 : List UInt8) =>
   (strings_Builder_WriteByte v8 (mkU8 10)).bind fun r5 =>
   some (.nx ((w64 (v3 + 1)), r5.2))
  else
   some (.dn v4)
noncomputable def i_formatNetwork (n : Network) : Option (ByteArray) :=
 (iter (i_formatNetwork_L1 n) ((0 : Int), ([] : List UInt8))).bind fun (v2 : List UInt8) =>
 (iter (i_formatNetwork_L3 n) ((0 : Int), v2)).bind fun (v9 : List UInt8) =>
 (strings_Builder_String v9).bind fun r6 =>
 some r6
noncomputable def i_lineOf (t : Timetable) (x : Trip) : Option (Line) :=
 (idx t.Network.Lines x.Line).bind fun e =>
 some e
noncomputable def i_clockText_1 (n : Int) : Option (ByteArray) :=
 (chk ((10 : Int) ≠ 0)).bind fun u =>
 (chk ((10 : Int) ≠ 0)).bind fun u1 =>
 some (bytS ([(mkU8 (IntKind.u8.wrap ((w64 (48 + (w64 (n.tdiv 10))))))), (mkU8 (IntKind.u8.wrap ((w64 (48 + (n.tmod 10))))))] : List UInt8))
noncomputable def i_clockText (t : Int) : Option (ByteArray) :=
 (chk ((60 : Int) ≠ 0)).bind fun u =>
 (i_clockText_1 (w64 (t.tdiv 60))).bind fun r =>
 (chk (r.size + (str [58]).size ≤ 4294967296)).bind fun u1 =>
 (chk ((60 : Int) ≠ 0)).bind fun u2 =>
 (i_clockText_1 (t.tmod 60)).bind fun r1 =>
 (chk ((r ++ (str [58])).size + r1.size ≤ 4294967296)).bind fun u3 =>
 some ((r ++ (str [58])) ++ r1)
noncomputable def i_formatTimetable_L1 (t : Timetable) : Int × (List UInt8) → Option (Lp (Int × (List UInt8)) ((List UInt8)))
 | (v, v1) =>
  if (decide (v < (t.Trips.length : Int))) = true then
   (idx t.Trips v).bind fun e =>
   (strconv_Itoa e.Id).bind fun r6 =>
   (chk ((str [116, 114, 105, 112, 32]).size + r6.size ≤ 4294967296)).bind fun u6 =>
   (chk (((str [116, 114, 105, 112, 32]) ++ r6).size + (str [32]).size ≤ 4294967296)).bind fun u7 =>
   (i_lineOf t e).bind fun r7 =>
   (chk ((((str [116, 114, 105, 112, 32]) ++ r6) ++ (str [32])).size + r7.Name.size ≤ 4294967296)).bind fun u8 =>
   (chk (((((str [116, 114, 105, 112, 32]) ++ r6) ++ (str [32])) ++ r7.Name).size + (str [32]).size ≤ 4294967296)).bind fun u9 =>
   (i_clockText e.Start).bind fun r8 =>
   (chk ((((((str [116, 114, 105, 112, 32]) ++ r6) ++ (str [32])) ++ r7.Name) ++ (str [32])).size + r8.size ≤ 4294967296)).bind fun u10 =>
   (chk (((((((str [116, 114, 105, 112, 32]) ++ r6) ++ (str [32])) ++ r7.Name) ++ (str [32])) ++ r8).size + (str [10]).size ≤ 4294967296)).bind fun u11 =>
   (strings_Builder_WriteString v1 (((((((str [116, 114, 105, 112, 32]) ++ r6) ++ (str [32])) ++ r7.Name) ++ (str [32])) ++ r8) ++ (str [10]))).bind fun r9 =>
   some (.nx ((w64 (v + 1)), r9.2.2))
  else
   some (.dn v1)
noncomputable def i_formatTimetable (t : Timetable) : Option (ByteArray) :=
 (i_formatNetwork t.Network).bind fun r =>
 (strings_Builder_WriteString ([] : List UInt8) r).bind fun r1 =>
 (iter (i_formatTimetable_L1 t) ((0 : Int), r1.2.2)).bind fun (v2 : List UInt8) =>
 (strings_Builder_String v2).bind fun r10 =>
 some r10
noncomputable def i_FormatConsole (c : Console) : Option (ByteArray × Bool) :=
 (i_IsValidConsole c).bind fun r =>
 if (!r) = true then
  some ((str []), false)
 else
  (i_formatTimetable c.Timetable).bind fun r3 =>
  (chk (r3.size + (str [99, 104, 97, 110, 103, 101, 32]).size ≤ 4294967296)).bind fun u3 =>
  (strconv_Itoa c.Change).bind fun r4 =>
  (chk ((r3 ++ (str [99, 104, 97, 110, 103, 101, 32])).size + r4.size ≤ 4294967296)).bind fun u4 =>
  (chk (((r3 ++ (str [99, 104, 97, 110, 103, 101, 32])) ++ r4).size + (str [10]).size ≤ 4294967296)).bind fun u5 =>
  some ((((r3 ++ (str [99, 104, 97, 110, 103, 101, 32])) ++ r4) ++ (str [10])), true)
noncomputable def v_eqStringS_L1 (a : List ByteArray) (b : List ByteArray) : Int → Option (Lp (Int) (Fl (Bool) (Unit)))
 | v =>
  if (decide (v < (a.length : Int))) = true then
   (idx a v).bind fun e2 =>
   (idx b v).bind fun e3 =>
   if (!(e2.toList == e3.toList)) = true then
    some (.dn (.ret false))
   else
    some (.nx (w64 (v + 1)))
  else
   some (.dn (.go ()))
noncomputable def v_eqStringS (a : List ByteArray) (b : List ByteArray) : Option (Bool) :=
 if ((a.length : Int) != (b.length : Int)) = true then
  some false
 else
  flb (iter (v_eqStringS_L1 a b) (0 : Int)) fun (_ : Unit) =>
  some true
noncomputable def v_eqIntS_L1 (a : List Int) (b : List Int) : Int → Option (Lp (Int) (Fl (Bool) (Unit)))
 | v =>
  if (decide (v < (a.length : Int))) = true then
   (idx a v).bind fun e2 =>
   (idx b v).bind fun e3 =>
   if (e2 != e3) = true then
    some (.dn (.ret false))
   else
    some (.nx (w64 (v + 1)))
  else
   some (.dn (.go ()))
noncomputable def v_eqIntS (a : List Int) (b : List Int) : Option (Bool) :=
 if ((a.length : Int) != (b.length : Int)) = true then
  some false
 else
  flb (iter (v_eqIntS_L1 a b) (0 : Int)) fun (_ : Unit) =>
  some true
noncomputable def v_eqLine (a : Line) (b : Line) : Option (Bool) :=
 if (!(a.Name.toList == b.Name.toList)) = true then
  some false
 else
  (v_eqIntS a.Stops b.Stops).bind fun r =>
  if (!r) = true then
   some false
  else
   (v_eqIntS a.Runs b.Runs).bind fun r1 =>
   if (!r1) = true then
    some false
   else
    some true
noncomputable def v_eqLineS_L1 (a : List Line) (b : List Line) : Int → Option (Lp (Int) (Fl (Bool) (Unit)))
 | v =>
  if (decide (v < (a.length : Int))) = true then
   (idx a v).bind fun e2 =>
   (idx b v).bind fun e3 =>
   (v_eqLine e2 e3).bind fun r1 =>
   if (!r1) = true then
    some (.dn (.ret false))
   else
    some (.nx (w64 (v + 1)))
  else
   some (.dn (.go ()))
noncomputable def v_eqLineS (a : List Line) (b : List Line) : Option (Bool) :=
 if ((a.length : Int) != (b.length : Int)) = true then
  some false
 else
  flb (iter (v_eqLineS_L1 a b) (0 : Int)) fun (_ : Unit) =>
  some true
noncomputable def v_eqNetwork (a : Network) (b : Network) : Option (Bool) :=
 (v_eqStringS a.Stops b.Stops).bind fun r =>
 if (!r) = true then
  some false
 else
  (v_eqLineS a.Lines b.Lines).bind fun r1 =>
  if (!r1) = true then
   some false
  else
   some true
noncomputable def v_eqTrip (a : Trip) (b : Trip) : Option (Bool) :=
 if (a.Id != b.Id) = true then
  some false
 else
  if (a.Line != b.Line) = true then
   some false
  else
   if (a.Start != b.Start) = true then
    some false
   else
    some true
noncomputable def v_eqTripS_L1 (a : List Trip) (b : List Trip) : Int → Option (Lp (Int) (Fl (Bool) (Unit)))
 | v =>
  if (decide (v < (a.length : Int))) = true then
   (idx a v).bind fun e2 =>
   (idx b v).bind fun e3 =>
   (v_eqTrip e2 e3).bind fun r1 =>
   if (!r1) = true then
    some (.dn (.ret false))
   else
    some (.nx (w64 (v + 1)))
  else
   some (.dn (.go ()))
noncomputable def v_eqTripS (a : List Trip) (b : List Trip) : Option (Bool) :=
 if ((a.length : Int) != (b.length : Int)) = true then
  some false
 else
  flb (iter (v_eqTripS_L1 a b) (0 : Int)) fun (_ : Unit) =>
  some true
noncomputable def v_eqTimetable (a : Timetable) (b : Timetable) : Option (Bool) :=
 (v_eqNetwork a.Network b.Network).bind fun r =>
 if (!r) = true then
  some false
 else
  (v_eqTripS a.Trips b.Trips).bind fun r1 =>
  if (!r1) = true then
   some false
  else
   some true
noncomputable def v_eqLog (a : Log) (b : Log) : Option (Bool) :=
 if (!(a.Durable.toList == b.Durable.toList)) = true then
  some false
 else
  if (!(a.Pending.toList == b.Pending.toList)) = true then
   some false
  else
   if (a.Count != b.Count) = true then
    some false
   else
    some true
noncomputable def v_eqConsole (a : Console) (b : Console) : Option (Bool) :=
 (v_eqTimetable a.Timetable b.Timetable).bind fun r =>
 if (!r) = true then
  some false
 else
  if (a.Change != b.Change) = true then
   some false
  else
   (v_eqLog a.Log b.Log).bind fun r1 =>
   if (!r1) = true then
    some false
   else
    some true
noncomputable def v_FnExactFormatConsole (aC : Console) : Option (Bool) :=
 (v_szConsole aC 1048576).bind fun r =>
 if (decide (r < 0)) = true then
  some true
 else
  (v_toConsole aC).bind fun r1 =>
  (s_FormatConsole (⟨(⟨(⟨r1.Timetable.Network.Stops, r1.Timetable.Network.Lines⟩ : Network), r1.Timetable.Trips⟩ : Timetable), r1.Change, r1.Log⟩ : Console)).bind fun r2 =>
  (v_toConsole aC).bind fun r3 =>
  (i_FormatConsole (⟨(⟨(⟨r3.Timetable.Network.Stops, r3.Timetable.Network.Lines⟩ : Network), r3.Timetable.Trips⟩ : Timetable), r3.Change, r3.Log⟩ : Console)).bind fun r4 =>
  (if (!(r4.1.toList == r2.1.toList)) = true then some true else some (!(r4.2 == r2.2))).bind fun (v : Bool) =>
  if v = true then
   some false
  else
   (v_toConsole aC).bind fun r7 =>
   (v_eqConsole (⟨(⟨(⟨r3.Timetable.Network.Stops, r3.Timetable.Network.Lines⟩ : Network), r3.Timetable.Trips⟩ : Timetable), r3.Change, r3.Log⟩ : Console) (⟨(⟨(⟨r7.Timetable.Network.Stops, r7.Timetable.Network.Lines⟩ : Network), r7.Timetable.Trips⟩ : Timetable), r7.Change, r7.Log⟩ : Console)).bind fun r8 =>
   if (!r8) = true then
    some false
   else
    some true
end Go.Proofs.YtpdjoidmbaaopaaGreatDoor
