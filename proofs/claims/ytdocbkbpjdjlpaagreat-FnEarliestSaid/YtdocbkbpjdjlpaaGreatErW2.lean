/- Each function computes what its model says. Made by program (dec.py). -/
import Derived.Test.YtdocbkbpjdjlpaaGreatErW1
namespace Go.Proofs.YtdocbkbpjdjlpaaGreat
open Go Go.Ab Tryz
set_option maxRecDepth 100000
set_option maxHeartbeats 4000000
set_option linter.unusedVariables false
set_option linter.unusedSimpArgs false
noncomputable section
def yk4 : MS (Timetable × Int × (List Leg)) Bool := ⟨.x .r (.x .r .r), fun x => zq21 x.1 x.2.1 x.2.2, fun y => dV y, fun _ => [], fun _ _ => []⟩
theorem ypg : FnOK Tryz.prog tJ 51 yk4.S := by
 refine fm tt yk4 [fo ydq, fo yo7, fo yk7, fo yn2] call51 func51 rfl results51 ntmps51 ?_
 rintro ⟨t, change, legs⟩ y cx G (Z : zq21 t change legs = some y)
 unfold zq21 at Z
 refine rg G (jac ?_)
 obtain ⟨r, h, Z⟩ := jad Z
 refine rs G (hN 1 legs (hC 2 (ybk h) h0)) ?_
 refine cd Z ?_ ?_ <;> intro Z
 ·refine rg G ?_
  cases Z
  exact rt [] []
 ·refine jae (thN (jac (rs G (hN 1 legs h0) ?_)))
  refine tF Z (fun _ => ⟨[], [], 32⟩) (fun v4 hr Z => ?_) ?_
  ·refine jab (lp G Z (fun v => ⟨[(1, dV change), (2, dV legs), (3, .ref 16 0), (16, dV legs), (17, dV (legs.length : Int)), (18, dV v)], [bX 16 30 [dV t.Network.Stops, dV t.Network.Lines, dV t.Trips]], 48⟩) ?_)
   rintro v r0 hb Z
   rw [yds] at Z
   refine rg G (jac (cd Z ?_ ?_)) <;> intro Z
   ·refine jae (thN (jF Z (fun _ => ⟨[(1, dV change), (2, dV legs), (3, .ref 16 0), (16, dV legs), (17, dV (legs.length : Int)), (18, dV v)], [bX 16 30 [dV t.Network.Stops, dV t.Network.Lines, dV t.Trips]], 48⟩) (fun v3 hr1 Z => ?_) ?_))
    ·refine jab ?_
     obtain ⟨e, h1, Z⟩ := jad Z
     refine rs G (hD 1 h1 h0) ?_
     obtain ⟨r1, h2, Z⟩ := jad Z
     refine rs G (hC 3 (yqj h2) h0) ?_
     refine jac (rg G (cd Z ?_ ?_)) <;> intro Z
     ·refine rg G ?_
      have Z := eR Z hr1
      have Z := eL Z hb hr
      cases Z
      exact rt [] []
     ·refine jae (thN (jac ?_))
      obtain ⟨e4, h5, r5, h6, Z⟩ := ob2 Z
      refine ds G [(15, [496])] (hD 4 h5 (hC 10 (ynn h6) h0)) ?_
      refine jn Z (fun v1 => ⟨[(1, dV change), (2, dV legs), (3, .ref 16 0), (7, dV v), (8, .ref 32 0), (16, dV legs), (17, dV (legs.length : Int)), (18, dV v), (49, dV v1)], [bX 16 30 [dV t.Network.Stops, dV t.Network.Lines, dV t.Trips], bX 32 51 [dV e.Trip, dV e.From, dV e.To, dV e.Depart, dV e.Arrive]], 64⟩) (fun v1 Z => ?_) ?_
      ·rcases bf Z with ⟨hb1, Z⟩ | ⟨hb1, Z⟩
       ·refine re G (hO 2 (.b true) (hP hb1 h0)) ?_
        exact wJ G Z
       ·refine re G (hO 2 (.b false) (hP hb1 h0)) ?_
        exact wJ G Z
      rintro v1 Z
      refine cd Z ?_ ?_ <;> intro Z
      ·refine rg G ?_
       have Z := eR Z hr1
       have Z := eL Z hb hr
       cases Z
       exact rt [] []
      ·refine jae (thN (jac (rg G (cd Z ?_ ?_)))) <;> intro Z
       ·exact jaf (thE (ibE (wF G Z)))
       ·refine jae (thN (jac ?_))
        obtain ⟨e9, h9, Z⟩ := jad Z
        refine jn Z (fun v2 => ⟨[(1, dV change), (2, dV legs), (3, .ref 16 0), (7, dV v), (8, .ref 32 0), (16, dV legs), (17, dV (legs.length : Int)), (18, dV v), (73, dV v2)], [bX 16 30 [dV t.Network.Stops, dV t.Network.Lines, dV t.Trips], bX 32 51 [dV e.Trip, dV e.From, dV e.To, dV e.Depart, dV e.Arrive]], 64⟩) (fun v2 Z => ?_) ?_
        ·rcases bf Z with ⟨hb2, Z⟩ | ⟨hb2, Z⟩
         ·refine de G [] (hD 5 h9 (hO 9 (.b true) (hP hb2 h0))) ?_
          exact wJ G Z
         ·obtain ⟨e10, h10, Z⟩ := jad Z
          refine de G [] (hD 5 h9 (hO 9 (.b false) (hP hb2 (hD 15 h10 h0)))) ?_
          exact wJ G Z
        rintro v2 Z
        refine cd Z ?_ ?_ <;> intro Z
        ·refine rg G ?_
         have Z := eR Z hr1
         have Z := eL Z hb hr
         cases Z
         exact rt [] []
        ·refine jae (thN ?_)
         obtain ⟨u, h11, r10, h12, Z⟩ := ob2 Z
         refine rs G (hU 2 h11 (hC 4 (yjw.c (_, _) h12) h0)) ?_
         refine cd Z ?_ ?_ <;> intro Z
         ·refine rg G ?_
          have Z := eR Z hr1
          have Z := eL Z hb hr
          cases Z
          exact rt [] []
         ·exact jae (ibN (wF G Z))
    rintro ⟨⟩ Z
    exact rh G (wL G Z)
   ·exact jaf (thE (thE (ibE (wE G Z hb))))
  rintro ⟨⟩ Z s hw
  refine thN (jai hw ?_)
  refine rg G ?_
  cases Z
  exact rt [] []
def ymb : MS (Timetable × Int × (List Leg)) Bool := ⟨.x .r (.x .r .r), fun x => zq4 x.1 x.2.1 x.2.2, fun y => dV y, fun _ => [], fun _ _ => []⟩
theorem yqh : FnOK Tryz.prog tJ 20 ymb.S := by
 refine fm tt ymb [fo ynk, fo yk5, fo ypg] call20 func20 rfl results20 ntmps20 ?_
 rintro ⟨t, change, legs⟩ y cx G (Z : zq4 t change legs = some y)
 unfold zq4 at Z
 refine rg G ?_
 obtain ⟨r, h, Z⟩ := jad Z
 refine jn Z (fun v => ⟨[(6, dV v)], [], 32⟩) (fun v Z => ?_) ?_
 ·rcases bf Z with ⟨hb, Z⟩ | ⟨hb, Z⟩
  ·obtain ⟨r1, h1, Z⟩ := jad Z
   rcases bf Z with ⟨hb1, Z⟩ | ⟨hb1, Z⟩
   ·obtain ⟨r2, h2, Z⟩ := jad Z
    refine re G (hC 1 (yet.c _ h) (hO 2 (.b true) (hP hb (hC 4 (ydt.c _ h1) (hO 6 (.b true) (hP hb1 (hC 10 (yk4.c (_, _, _) h2) h0))))))) ?_
    exact wJ G Z
   ·refine re G (hC 1 (yet.c _ h) (hO 2 (.b true) (hP hb (hC 4 (ydt.c _ h1) (hO 6 (.b false) (hP hb1 h0)))))) ?_
    exact wJ G Z
  ·refine re G (hC 1 (yet.c _ h) (hO 2 (.b false) (hP hb h0))) ?_
   exact wJ G Z
 rintro v Z
 cases Z
 exact rt [] []
def ykw : MS ((IK .u64)) Int := ⟨.r, zq37, fun y => dV y, fun _ => [], fun _ _ => []⟩
theorem yo5 : FnOK Tryz.prog tJ 123 ykw.S := by
 refine fm tt ykw [] call123 func123 rfl results123 ntmps123 ?_
 rintro x y cx G (Z : zq37 x = some y)
 unfold zq37 at Z
 refine rg G (jn Z (fun (x1, v) => ⟨[(0, kV .u64 x1), (2, dV v)], [], 32⟩) (fun vv2 Z => ?_) ?_)
 ·refine rg G (cd Z ?_ ?_) <;> intro Z
  ·obtain ⟨u, h, Z⟩ := jad Z
   refine rs G (hK h h0) ?_
   exact rh G (wJ G Z)
  ·exact jae (wJ G Z)
 rintro ⟨x1, v⟩ Z
 refine jn Z (fun (x2, v1) => ⟨[(0, kV .u64 x2), (2, dV v1)], [], 32⟩) (fun vv1 Z => ?_) ?_
 ·refine rg G (cd Z ?_ ?_) <;> intro Z
  ·obtain ⟨u1, h1, Z⟩ := jad Z
   refine rs G (hK h1 h0) ?_
   exact rh G (wJ G Z)
  ·exact jae (wJ G Z)
 rintro ⟨x2, v1⟩ Z
 refine jn Z (fun (x3, v2) => ⟨[(0, kV .u64 x3), (2, dV v2)], [], 32⟩) (fun vv Z => ?_) ?_
 ·refine rg G (cd Z ?_ ?_) <;> intro Z
  ·obtain ⟨u2, h2, Z⟩ := jad Z
   refine rs G (hK h2 h0) ?_
   exact rh G (wJ G Z)
  ·exact jae (wJ G Z)
 rintro ⟨x3, v2⟩ Z
 obtain ⟨u3, h3, Z⟩ := jad Z
 refine rs G (hK h3 h0) ?_
 cases Z
 exact rt [] []
def yiq : MS ((IK .u64)) Int := ⟨.r, zq36, fun y => dV y, fun _ => [], fun _ _ => []⟩
theorem ykx : FnOK Tryz.prog tJ 68 yiq.S := by
 refine fm tt yiq [fo yo5] call68 func68 rfl results68 ntmps68 ?_
 rintro x y cx G (Z : zq36 x = some y)
 unfold zq36 at Z
 refine rg G (jac (cF (jae (thN ?_))))
 obtain ⟨r, h, Z⟩ := jad Z
 refine rs G (hC 1 (ykw.c _ h) h0) ?_
 cases Z
 exact rt [] []
def yg1 : MS Int Bool := ⟨.r, zq1, fun y => dV y, fun _ => [], fun _ _ => []⟩
theorem yqm : FnOK Tryz.prog tJ 124 yg1.S := by
 refine fm tt yg1 [] call124 func124 rfl results124 ntmps124 ?_
 rintro x y cx G (Z : zq1 x = some y)
 unfold zq1 at Z
 refine rg G (rg G ?_)
 cases Z
 exact rt [] []
def yb1 : MS (Int × Int) Bool := ⟨.x .r .r, fun x => zq0 x.1 x.2, fun y => dV y, fun _ => [], fun _ _ => []⟩
theorem ydx : FnOK Tryz.prog tJ 175 yb1.S := by
 refine fm tt yb1 [fo yqm] call175 func175 rfl results175 ntmps175 ?_
 rintro ⟨x, y_⟩ y cx G (Z : zq0 x y_ = some y)
 unfold zq0 at Z
 refine rg G ?_
 obtain ⟨r, h, Z⟩ := jad Z
 refine jn Z (fun v => ⟨[(4, dV v)], [], 32⟩) (fun v Z => ?_) ?_
 ·rcases bf Z with ⟨hb, Z⟩ | ⟨hb, Z⟩
  ·obtain ⟨r1, h1, Z⟩ := jad Z
   rcases bf Z with ⟨hb1, Z⟩ | ⟨hb1, Z⟩
   ·refine re G (hC 1 (yg1.c _ h) (hO 2 (.b true) (hP hb (hC 4 (yg1.c _ h1) (hO 7 (.b true) (hP hb1 h0)))))) ?_
    exact wJ G Z
   ·refine re G (hC 1 (yg1.c _ h) (hO 2 (.b true) (hP hb (hC 4 (yg1.c _ h1) (hO 7 (.b false) (hP hb1 h0)))))) ?_
    exact wJ G Z
  ·refine re G (hC 1 (yg1.c _ h) (hO 2 (.b false) (hP hb h0))) ?_
   exact wJ G Z
 rintro v Z
 cases Z
 exact rt [] []
def yhn : MS ((List Int) × Int × Int) ((List Int)) := ⟨.x (.s 3) (.x .r .r), fun x => yjg x.1 x.2.1 x.2.2, fun _ => .tup [], fun _ => [], fun _ y => [arO 3 y]⟩
theorem ymq : FnOK Tryz.prog tJ 169 yhn.S := by
 refine fm tt yhn [fo ydx] call169 func169 rfl results169 ntmps169 ?_
 rintro ⟨data, a, b⟩ y cx G (Z : yjg data a b = some y)
 unfold yjg at Z
 refine rg G (jab (lp G Z (fun (v, data1) => ⟨[(0, .own 0), (1, dV a), (2, dV b), (6, dV v)], [aX 0 3 data1], 48⟩) ?_))
 rintro ⟨v, data1⟩ r0 hb Z
 rw [ydd] at Z
 refine jac (rg G (cd Z ?_ ?_)) <;> intro Z
 ·refine jae (thN (jac (jab (rg G (tl Z (fun data3 => ⟨[(0, .own 0), (1, dV a), (2, dV b), (6, dV v)], [aX 0 3 data3], 48⟩) (fun data3 Z => ?_) ?_)))))
  ·refine jab (lp G Z (fun (v1, data2) => ⟨[(0, .own 0), (1, dV a), (2, dV b), (6, dV v), (7, dV v1)], [aX 0 3 data2], 48⟩) ?_)
   rintro ⟨v1, data2⟩ r0 hb1 Z
   rw [yde] at Z
   refine jac (jn Z (fun v2 => ⟨[(0, .own 0), (1, dV a), (2, dV b), (6, dV v), (7, dV v1), (30, dV v2)], [aX 0 3 data2], 48⟩) (fun v2 Z => ?_) ?_)
   ·rcases bf Z with ⟨hb2, Z⟩ | ⟨hb2, Z⟩
    ·obtain ⟨e2, h3, e3, h4, r1, h5, Z⟩ := ob3 Z
     refine de G [] (hO 3 (.b true) (hP hb2 (hD 6 h3 (hE 7 h3 (hD 11 h4 (hE 12 h4 (hC 13 (yb1.c (_, _) h5) h0))))))) ?_
     exact wJ G Z
    ·refine de G [] (hO 3 (.b false) (hP hb2 h0)) ?_
     exact wJ G Z
   rintro v2 Z
   refine cd Z ?_ ?_ <;> intro Z
   ·refine jae (thN (jac (jab ?_)))
    obtain ⟨e8, h10, e9, h11, e10, h12, Z⟩ := ob3 Z
    obtain ⟨e11, h13, Z⟩ := jad Z
    refine de G [(15, [0]), (17, [0])] (hD 8 h10 (hE 9 h10 (hD 12 h11 (hE 13 h11 (hD 14 h12 (hS 15 h12 e8 (hD 16 h13 (hS 17 h13 e9 h0)))))))) ?_
    exact ibN (thN (rh G (wL G Z)))
   ·exact jaf (thE (thE (ibE (wD G Z hb1))))
  rintro data3 Z s hw
  refine ibN (thN (jai hw ?_))
  exact rh G (wL G Z)
 ·have Z := eD Z hb
  refine jaf (thE (thE (ibE ?_)))
  cases Z
  exact fN [] []
def yfm : MS ((List Int) × Int × Int × Int) ((List Int)) := ⟨.x (.s 3) (.x .r (.x .r .r)), fun x => yhf x.1 x.2.1 x.2.2.1 x.2.2.2, fun _ => .tup [], fun _ => [], fun _ y => [arO 3 y]⟩
theorem ymg : FnOK Tryz.prog tJ 186 yfm.S := by
 refine fm tt yfm [fo ydx] call186 func186 rfl results186 ntmps186 ?_
 rintro ⟨data, lo, hi, first⟩ y cx G (Z : yhf data lo hi first = some y)
 unfold yhf at Z
 refine rg G (jab (lp G Z (fun (v, data1) => ⟨[(0, .own 0), (2, dV hi), (3, dV first), (8, dV v)], [aX 0 3 data1], 48⟩) ?_))
 rintro ⟨v, data1⟩ r0 hb Z
 rw [ycy] at Z
 refine jab (rg G (jac (rg G (cd Z ?_ ?_)))) <;> intro Z
 ·have Z := eD Z hb
  refine jaf (thE (ibX rfl (thE (ibE ?_))))
  cases Z
  exact fN [] []
 ·refine jae (thN (jn Z (fun v1 => ⟨[(0, .own 0), (2, dV hi), (3, dV first), (8, dV v), (9, dV v1)], [aX 0 3 data1], 48⟩) (fun v1 Z => ?_) ?_))
  ·refine jn Z (fun v2 => ⟨[(0, .own 0), (2, dV hi), (3, dV first), (8, dV v), (9, dV (w64 ((w64 (2 * v)) + 1))), (36, dV v2)], [aX 0 3 data1], 48⟩) (fun v2 Z => ?_) ?_
   ·rcases bf Z with ⟨hb1, Z⟩ | ⟨hb1, Z⟩
    ·obtain ⟨e3, h3, e4, h4, r2, h5, Z⟩ := ob3 Z
     refine de G [] (hO 4 (.b true) (hP hb1 (hD 9 h3 (hE 10 h3 (hD 16 h4 (hE 17 h4 (hC 18 (yb1.c (_, _) h5) h0))))))) ?_
     exact wJ G Z
    ·refine de G [] (hO 4 (.b false) (hP hb1 h0)) ?_
     exact wJ G Z
   rintro v2 Z
   refine cd Z ?_ ?_ <;> intro Z
   ·exact rh G (wJ G Z)
   ·exact jae (wJ G Z)
  rintro v1 Z
  refine jac ?_
  obtain ⟨e7, h9, e8, h10, r4, h11, Z⟩ := ob3 Z
  refine ds G [] (hD 4 h9 (hE 5 h9 (hD 10 h10 (hE 11 h10 (hC 12 (yb1.c (_, _) h11) h0))))) ?_
  refine cd Z ?_ ?_ <;> intro Z
  ·have Z := eD Z hb
   cases Z
   exact rt [] []
  ·refine jae (thN ?_)
   obtain ⟨e14, h16, e15, h17, e16, h18, Z⟩ := ob3 Z
   obtain ⟨e17, h19, Z⟩ := jad Z
   refine ds G [(21, [0]), (23, [0])] (hD 12 h16 (hE 13 h16 (hD 18 h17 (hE 19 h17 (hD 20 h18 (hS 21 h18 e14 (hD 22 h19 (hS 23 h19 e15 h0)))))))) ?_
   exact rh G (ibN (wL G Z))
def yho : MS ((List Int) × Int × Int) ((List Int)) := ⟨.x (.s 3) (.x .r .r), fun x => yjh x.1 x.2.1 x.2.2, fun _ => .tup [], fun _ => [], fun _ y => [arO 3 y]⟩
theorem ymr : FnOK Tryz.prog tJ 170 yho.S := by
 refine fm tt yho [fo ymg] call170 func170 rfl results170 ntmps170 ?_
 rintro ⟨data, a, b⟩ y cx G (Z : yjh data a b = some y)
 unfold yjh at Z
 refine rg G (rg G (rg G (jac ?_)))
 obtain ⟨u, h, Z⟩ := jad Z
 refine rs G (hK h h0) ?_
 refine tl Z (fun data2 => ⟨[(0, .own 0), (6, dV a), (7, kV .i64 0), (8, dV (w64 (b - a)))], [aX 0 3 data2], 48⟩) (fun data2 Z => ?_) ?_
 ·refine jab (lp G Z (fun (v, data1) => ⟨[(0, .own 0), (6, dV a), (7, kV .i64 0), (8, dV (w64 (b - a))), (9, dV v)], [aX 0 3 data1], 48⟩) ?_)
  rintro ⟨v, data1⟩ r0 hb Z
  rw [ydg] at Z
  refine jac (rg G (cd Z ?_ ?_)) <;> intro Z
  ·refine jae (thN (jac (jab ?_)))
   obtain ⟨r, h1, Z⟩ := jad Z
   refine re G (hC 4 (yfm.c (_, _, _, _) h1) h0) ?_
   exact ibN (thN (rh G (wL G Z)))
  ·exact jaf (thE (thE (ibE (wD G Z hb))))
 rintro data2 Z s hw
 refine thN (jai hw ?_)
 refine rg G (jab (lp G Z (fun (v1, data3) => ⟨[(0, .own 0), (6, dV a), (7, kV .i64 0), (10, dV v1)], [aX 0 3 data3], 48⟩) ?_))
 rintro ⟨v1, data3⟩ r0 hb1 Z
 rw [ydf] at Z
 refine jac (rg G (cd Z ?_ ?_)) <;> intro Z
 ·refine jae (thN (jac (jab ?_)))
  obtain ⟨e4, h6, e5, h7, e6, h8, Z⟩ := ob3 Z
  obtain ⟨e7, h9, Z⟩ := jad Z
  refine ds G [(17, [0]), (19, [0])] (hD 10 h6 (hE 11 h6 (hD 14 h7 (hE 15 h7 (hD 16 h8 (hS 17 h8 e4 (hD 18 h9 (hS 19 h9 e5 h0)))))))) ?_
  obtain ⟨r1, h10, Z⟩ := jad Z
  refine re G (hC 4 (yfm.c (_, _, _, _) h10) h0) ?_
  exact ibN (thN (rh G (wL G Z)))
 ·have Z := eD Z hb1
  refine jaf (thE (thE (ibE ?_)))
  cases Z
  exact fN [] []
def ydv : MS ((List Int) × Int × Int × Int) (Int × Int × Int) := ⟨.x .r (.x .r (.x .r (.b 3))), fun x => yf4 x.1 x.2.1 x.2.2.1 x.2.2.2, fun y => .tup [dV y.1, dV y.2.1], fun _ => [], fun _ y => [bxO 3 y.2.2]⟩
theorem ymn : FnOK Tryz.prog tJ 192 ydv.S := by
 refine fm tt ydv [fo ydx] call192 func192 rfl results192 ntmps192 ?_
 rintro ⟨data, a, b, swaps⟩ y cx G (Z : yf4 data a b swaps = some y)
 unfold yf4 at Z
 refine rg G (jac ?_)
 obtain ⟨e2, h3, e3, h4, r1, h5, Z⟩ := ob3 Z
 refine ds G [] (hD 2 h3 (hD 6 h4 (hC 8 (yb1.c (_, _) h5) h0))) ?_
 refine cd Z ?_ ?_ <;> intro Z
 ·refine rg G (rg G ?_)
  cases Z
  exact rt [] []
 ·refine jae (thN (rg G ?_))
  cases Z
  exact rt [] []
def yfo : MS ((List Int) × Int × Int × Int × Int) (Int × Int) := ⟨.x .r (.x .r (.x .r (.x .r (.b 3)))), fun x => yhm x.1 x.2.1 x.2.2.1 x.2.2.2.1 x.2.2.2.2, fun y => dV y.1, fun _ => [], fun _ y => [bxO 3 y.2]⟩
theorem yi1 : FnOK Tryz.prog tJ 188 yfo.S := by
 refine fm tt yfo [fo ymn] call188 func188 rfl results188 ntmps188 ?_
 rintro ⟨data, a, b, c, swaps⟩ y cx G (Z : yhm data a b c swaps = some y)
 unfold yhm at Z
 refine rg G ?_
 obtain ⟨r, h, Z⟩ := jad Z
 refine rs G (hC 4 (ydv.c (_, _, _, _) h) h0) ?_
 obtain ⟨r1, h1, Z⟩ := jad Z
 refine rs G (hC 4 (ydv.c (_, _, _, _) h1) h0) ?_
 obtain ⟨r2, h2, Z⟩ := jad Z
 refine rs G (hC 4 (ydv.c (_, _, _, _) h2) h0) ?_
 refine rg G ?_
 cases Z
 exact rt [] []
def ydw : MS ((List Int) × Int × Int) (Int × Int) := ⟨.x .r (.x .r (.b 3)), fun x => yf5 x.1 x.2.1 x.2.2, fun y => dV y.1, fun _ => [], fun _ y => [bxO 3 y.2]⟩
theorem ymp : FnOK Tryz.prog tJ 187 ydw.S := by
 refine fm tt ydw [fo yi1] call187 func187 rfl results187 ntmps187 ?_
 rintro ⟨data, a, swaps⟩ y cx G (Z : yf5 data a swaps = some y)
 unfold yf5 at Z
 refine rg G ?_
 obtain ⟨r, h, Z⟩ := jad Z
 refine rs G (hC 7 (yfo.c (_, _, _, _, _) h) h0) ?_
 cases Z
 exact rt [] []
def yhp : MS ((List Int) × Int × Int) (Int × Int) := ⟨.x .r (.x .r .r), fun x => yji x.1 x.2.1 x.2.2, fun y => .tup [dV y.1, dV y.2], fun _ => [], fun _ _ => []⟩
theorem yms : FnOK Tryz.prog tJ 172 yhp.S := by
 refine fm tt yhp [fo ymp, fo yi1] call172 func172 rfl results172 ntmps172 ?_
 rintro ⟨data, a, b⟩ y cx G (Z : yji data a b = some y)
 unfold yji at Z
 refine rg G (rg G (rg G ?_))
 obtain ⟨u, h, Z⟩ := jad Z
 refine rs G (hK h h0) ?_
 obtain ⟨u1, h1, Z⟩ := jad Z
 refine rs G (hK h1 h0) ?_
 obtain ⟨u2, h2, Z⟩ := jad Z
 refine rs G (hK h2 h0) ?_
 refine jn Z (fun (v, v1) => ⟨[(9, .ref 16 0), (11, dV v)], [bX 16 3 [dV v1]], 48⟩) (fun vv1 Z => ?_) ?_
 ·refine rg G (cd Z ?_ ?_) <;> intro Z
  ·refine jn Z (fun (v2, v3, v4, v5) => ⟨[(0, dV data), (9, .ref 16 0), (10, dV v2), (11, dV v3), (12, dV v4)], [bX 16 3 [dV v5]], 48⟩) (fun vv Z => ?_) ?_
   ·refine rg G (cd Z ?_ ?_) <;> intro Z
    ·obtain ⟨r, h3, Z⟩ := jad Z
     refine rs G (hC 2 (ydw.c (_, _, _) h3) h0) ?_
     obtain ⟨r1, h4, Z⟩ := jad Z
     refine rs G (hC 2 (ydw.c (_, _, _) h4) h0) ?_
     obtain ⟨r2, h5, Z⟩ := jad Z
     refine re G (hC 2 (ydw.c (_, _, _) h5) h0) ?_
     exact wJ G Z
    ·exact jae (wJ G Z)
   rintro ⟨v2, v3, v4, v5⟩ Z
   obtain ⟨r3, h6, Z⟩ := jad Z
   refine re G (hC 4 (yfo.c (_, _, _, _, _) h6) h0) ?_
   exact wJ G Z
  ·exact jae (wJ G Z)
 rintro ⟨v, v1⟩ Z
 refine rg G (jab (rg G (cd Z ?_ ?_))) <;> intro Z
 ·refine rg G ?_
  cases Z
  exact rt [] []
 ·refine rg G (cd Z ?_ ?_) <;> intro Z
  ·refine rg G ?_
   cases Z
   exact rt [] []
  ·refine rg G ?_
   cases Z
   exact rt [] []
def yhg : MS ((List Int) × Int × Int) ((List Int)) := ⟨.x (.s 3) (.x .r .r), fun x => yjc x.1 x.2.1 x.2.2, fun _ => .tup [], fun _ => [], fun _ y => [arO 3 y]⟩
theorem ymh : FnOK Tryz.prog tJ 173 yhg.S := by
 refine fm tt yhg [] call173 func173 rfl results173 ntmps173 ?_
 rintro ⟨data, a, b⟩ y cx G (Z : yjc data a b = some y)
 unfold yjc at Z
 refine rg G (rg G (jab (lp G Z (fun (v, v1, data1) => ⟨[(0, .own 0), (6, dV v), (7, dV v1)], [aX 0 3 data1], 48⟩) ?_)))
 rintro ⟨v, v1, data1⟩ r0 hb Z
 rw [ycz] at Z
 refine jac (rg G (cd Z ?_ ?_)) <;> intro Z
 ·refine jae (thN (jab ?_))
  obtain ⟨e4, h4, e5, h5, e6, h6, Z⟩ := ob3 Z
  obtain ⟨e7, h7, Z⟩ := jad Z
  refine ds G [(13, [0]), (15, [0])] (hD 6 h4 (hE 7 h4 (hD 10 h5 (hE 11 h5 (hD 12 h6 (hS 13 h6 e4 (hD 14 h7 (hS 15 h7 e5 h0)))))))) ?_
  exact rg G (rh G (ibN (wL G Z)))
 ·have Z := eD Z hb
  refine jaf (thE (thE (ibE ?_)))
  cases Z
  exact fN [] []
def yhk : MS ((List Int) × Int × Int) (Bool × (List Int)) := ⟨.x (.s 3) (.x .r .r), fun x => yjf x.1 x.2.1 x.2.2, fun y => dV y.1, fun _ => [], fun _ y => [arO 3 y.2]⟩
theorem ymm : FnOK Tryz.prog tJ 174 yhk.S := by
 refine fm tt yhk [fo ydx] call174 func174 rfl results174 ntmps174 ?_
 rintro ⟨data, a, b⟩ y cx G (Z : yjf data a b = some y)
 unfold yjf at Z
 refine rg G (rg G (jac (rg G (tF Z (fun data8 => ⟨[(0, .own 0)], [aX 0 3 data8], 48⟩) (fun v5 hr Z => ?_) ?_))))
 ·refine jab (lp G Z (fun (j, v, data1) => ⟨[(0, .own 0), (1, dV a), (2, dV b), (7, dV j), (8, dV v)], [aX 0 3 data1], 48⟩) ?_)
  rintro ⟨j, v, data1⟩ r0 hb Z
  rw [yc9] at Z
  refine jac (rg G (cd Z ?_ ?_)) <;> intro Z
  ·refine jae (thN (jF Z (fun (j1, data2) => ⟨[(0, .own 0), (1, dV a), (2, dV b), (7, dV j1), (8, dV v)], [aX 0 3 data2], 48⟩) (fun v4 hr1 Z => ?_) ?_))
   ·refine jab (jn Z (fun j3 => ⟨[(0, .own 0), (1, dV a), (2, dV b), (7, dV j3), (8, dV v)], [aX 0 3 data1], 48⟩) (fun j3 Z => ?_) ?_)
    ·refine jab (lp G Z (fun j2 => ⟨[(0, .own 0), (1, dV a), (2, dV b), (7, dV j2), (8, dV v)], [aX 0 3 data1], 48⟩) ?_)
     rintro j2 r0 hb1 Z
     rw [ydc] at Z
     refine jac (jn Z (fun v1 => ⟨[(0, .own 0), (1, dV a), (2, dV b), (7, dV j2), (8, dV v), (32, dV v1)], [aX 0 3 data1], 48⟩) (fun v1 Z => ?_) ?_)
     ·rcases bf Z with ⟨hb2, Z⟩ | ⟨hb2, Z⟩
      ·obtain ⟨e2, h3, e3, h4, r1, h5, Z⟩ := ob3 Z
       refine de G [] (hO 3 (.b true) (hP hb2 (hD 6 h3 (hE 7 h3 (hD 11 h4 (hE 12 h4 (hC 13 (yb1.c (_, _) h5) h0))))))) ?_
       exact wJ G Z
      ·refine de G [] (hO 3 (.b false) (hP hb2 h0)) ?_
       exact wJ G Z
     rintro v1 Z
     refine cd Z ?_ ?_ <;> intro Z
     ·exact jae (thN (jab (rh G (ibN (wL G Z)))))
     ·exact jaf (thE (thE (ibE (wD G Z hb1))))
    rintro j3 Z
    refine jac (rg G (cd Z ?_ ?_)) <;> intro Z
    ·refine rg G ?_
     have Z := eR Z hr1
     have Z := eL Z hb hr
     cases Z
     exact rt [] []
    ·refine jae (thN (jac (rg G (cd Z ?_ ?_)))) <;> intro Z
     ·refine rg G ?_
      have Z := eR Z hr1
      have Z := eL Z hb hr
      cases Z
      exact rt [] []
     ·refine jae (thN ?_)
      obtain ⟨e12, h10, e13, h11, e14, h12, Z⟩ := ob3 Z
      obtain ⟨e15, h13, Z⟩ := jad Z
      refine ds G [(15, [0]), (17, [0])] (hD 8 h10 (hE 9 h10 (hD 12 h11 (hE 13 h11 (hD 14 h12 (hS 15 h12 e12 (hD 16 h13 (hS 17 h13 e13 h0)))))))) ?_
      refine jn Z (fun data3 => ⟨[(0, .own 0), (1, dV a), (2, dV b), (7, dV j3), (8, dV v)], [aX 0 3 data3], 48⟩) (fun data3 Z => ?_) ?_
      ·refine rg G (cd Z ?_ ?_) <;> intro Z
       ·refine rg G (tl Z (fun data5 => ⟨[(0, .own 0), (1, dV a), (2, dV b), (7, dV j3), (8, dV v)], [aX 0 3 data5], 48⟩) (fun data5 Z => ?_) ?_)
        ·refine jab (lp G Z (fun (v2, data4) => ⟨[(0, .own 0), (1, dV a), (2, dV b), (7, dV j3), (8, dV v), (9, dV v2)], [aX 0 3 data4], 48⟩) ?_)
         rintro ⟨v2, data4⟩ r0 hb3 Z
         rw [ydb] at Z
         refine jac (rg G (cd Z ?_ ?_)) <;> intro Z
         ·refine jae (thN (jac (jab (jac ?_))))
          obtain ⟨e18, h17, e19, h18, r7, h19, Z⟩ := ob3 Z
          refine ds G [] (hD 2 h17 (hE 3 h17 (hD 7 h18 (hE 8 h18 (hC 9 (yb1.c (_, _) h19) h0))))) ?_
          refine cd Z ?_ ?_ <;> intro Z
          ·exact jaf (thE (ibX rfl (thE (thE (ibE (wD G Z hb3))))))
          ·refine jae (thN ?_)
           obtain ⟨e24, h24, e25, h25, e26, h26, Z⟩ := ob3 Z
           obtain ⟨e27, h27, Z⟩ := jad Z
           refine de G [(15, [0]), (17, [0])] (hD 8 h24 (hE 9 h24 (hD 12 h25 (hE 13 h25 (hD 14 h26 (hS 15 h26 e24 (hD 16 h27 (hS 17 h27 e25 h0)))))))) ?_
           exact ibN (thN (rh G (wL G Z)))
         ·exact jaf (thE (thE (ibE (wD G Z hb3))))
        rintro data5 Z s hw
        exact wJp Z (Wk.trans hw (Wk_J G.hL ⟨[(0, []), (1, []), (2, []), (7, []), (8, [])], [(0, 0, [])], [], 48⟩ (by kernel_rfl)))
       ·exact jae (wJ G Z)
      rintro data3 Z
      refine rg G (cd Z ?_ ?_) <;> intro Z
      ·refine rg G (tl Z (fun data7 => ⟨[(0, .own 0), (1, dV a), (2, dV b), (7, dV j3), (8, dV v)], [aX 0 3 data7], 48⟩) (fun data7 Z => ?_) ?_)
       ·refine jab (lp G Z (fun (v3, data6) => ⟨[(0, .own 0), (1, dV a), (2, dV b), (7, dV j3), (8, dV v), (10, dV v3)], [aX 0 3 data6], 48⟩) ?_)
        rintro ⟨v3, data6⟩ r0 hb4 Z
        rw [yda] at Z
        refine jac (rg G (cd Z ?_ ?_)) <;> intro Z
        ·refine jae (thN (jac (jab (jac ?_))))
         obtain ⟨e30, h31, e31, h32, r9, h33, Z⟩ := ob3 Z
         refine ds G [] (hD 2 h31 (hE 3 h31 (hD 7 h32 (hE 8 h32 (hC 9 (yb1.c (_, _) h33) h0))))) ?_
         refine cd Z ?_ ?_ <;> intro Z
         ·exact jaf (thE (ibX rfl (thE (thE (ibE (wD G Z hb4))))))
         ·refine jae (thN ?_)
          obtain ⟨e36, h38, e37, h39, e38, h40, Z⟩ := ob3 Z
          obtain ⟨e39, h41, Z⟩ := jad Z
          refine de G [(15, [0]), (17, [0])] (hD 8 h38 (hE 9 h38 (hD 12 h39 (hE 13 h39 (hD 14 h40 (hS 15 h40 e36 (hD 16 h41 (hS 17 h41 e37 h0)))))))) ?_
          exact ibN (thN (rh G (wL G Z)))
        ·exact jaf (thE (thE (ibE (wD G Z hb4))))
       rintro data7 Z s1 hw1
       exact ibN (wFp Z (Wk.trans hw1 (Wk_J G.hL ⟨[(0, []), (1, []), (2, []), (7, []), (8, [])], [(0, 0, [])], [], 48⟩ (by kernel_rfl))))
      ·exact jae (ibN (wF G Z))
   rintro ⟨j1, data2⟩ Z
   exact rh G (wL G Z)
  ·exact jaf (thE (thE (ibE (wE G Z hb))))
 rintro data8 Z s2 hw2
 refine thN (jai hw2 ?_)
 refine rg G ?_
 cases Z
 exact rt [] []
def yhj : MS ((List Int) × Int × Int × Int) (Int × (List Int)) := ⟨.x (.s 3) (.x .r (.x .r .r)), fun x => yje x.1 x.2.1 x.2.2.1 x.2.2.2, fun y => dV y.1, fun _ => [], fun _ y => [arO 3 y.2]⟩
theorem yml : FnOK Tryz.prog tJ 176 yhj.S := by
 refine fm tt yhj [fo ydx] call176 func176 rfl results176 ntmps176 ?_
 rintro ⟨data, a, b, pivot⟩ y cx G (Z : yje data a b pivot = some y)
 unfold yje at Z
 refine rg G ?_
 obtain ⟨e4, h4, e5, h5, e6, h6, Z⟩ := ob3 Z
 obtain ⟨e7, h7, Z⟩ := jad Z
 refine ds G [(13, [0]), (15, [0])] (hD 6 h4 (hE 7 h4 (hD 10 h5 (hE 11 h5 (hD 12 h6 (hS 13 h6 e4 (hD 14 h7 (hS 15 h7 e5 h0)))))))) ?_
 refine rg G (jn Z (fun (v8, data2) => ⟨[(0, .own 0), (9, dV v8)], [aX 0 3 data2], 48⟩) (fun vv Z => ?_) ?_)
 ·refine jab (lp G Z (fun (v, v1, data1) => ⟨[(0, .own 0), (1, dV a), (9, dV v), (10, dV v1)], [aX 0 3 data1], 48⟩) ?_)
  rintro ⟨v, v1, data1⟩ r0 hb Z
  rw [yc6] at Z
  refine jab (jn Z (fun v4 => ⟨[(0, .own 0), (1, dV a), (9, dV v4), (10, dV v1)], [aX 0 3 data1], 48⟩) (fun v4 Z => ?_) ?_)
  ·refine jab (lp G Z (fun v2 => ⟨[(0, .own 0), (1, dV a), (9, dV v2), (10, dV v1)], [aX 0 3 data1], 48⟩) ?_)
   rintro v2 r0 hb1 Z
   rw [yc8] at Z
   refine jac (jn Z (fun v3 => ⟨[(0, .own 0), (1, dV a), (9, dV v2), (10, dV v1), (43, dV v3)], [aX 0 3 data1], 48⟩) (fun v3 Z => ?_) ?_)
   ·rcases bf Z with ⟨hb2, Z⟩ | ⟨hb2, Z⟩
    ·obtain ⟨e10, h11, e11, h12, r1, h13, Z⟩ := ob3 Z
     refine de G [] (hO 3 (.b true) (hP hb2 (hD 6 h11 (hE 7 h11 (hD 10 h12 (hE 11 h12 (hC 12 (yb1.c (_, _) h13) h0))))))) ?_
     exact wJ G Z
    ·refine de G [] (hO 3 (.b false) (hP hb2 h0)) ?_
     exact wJ G Z
   rintro v3 Z
   refine cd Z ?_ ?_ <;> intro Z
   ·exact jae (thN (jab (rh G (ibN (wL G Z)))))
   ·exact jaf (thE (thE (ibE (wD G Z hb1))))
  rintro v4 Z
  refine jn Z (fun v7 => ⟨[(0, .own 0), (1, dV a), (9, dV v4), (10, dV v7)], [aX 0 3 data1], 48⟩) (fun v7 Z => ?_) ?_
  ·refine jab (lp G Z (fun v5 => ⟨[(0, .own 0), (1, dV a), (9, dV v4), (10, dV v5)], [aX 0 3 data1], 48⟩) ?_)
   rintro v5 r0 hb3 Z
   rw [yc7] at Z
   refine jac (jn Z (fun v6 => ⟨[(0, .own 0), (1, dV a), (9, dV v4), (10, dV v5), (59, dV v6)], [aX 0 3 data1], 48⟩) (fun v6 Z => ?_) ?_)
   ·rcases bf Z with ⟨hb4, Z⟩ | ⟨hb4, Z⟩
    ·obtain ⟨e14, h17, e15, h18, r3, h19, Z⟩ := ob3 Z
     refine de G [] (hO 3 (.b true) (hP hb4 (hD 6 h17 (hE 7 h17 (hD 10 h18 (hE 11 h18 (hC 12 (yb1.c (_, _) h19) h0))))))) ?_
     exact wJ G Z
    ·refine de G [] (hO 3 (.b false) (hP hb4 h0)) ?_
     exact wJ G Z
   rintro v6 Z
   refine cd Z ?_ ?_ <;> intro Z
   ·exact jae (thN (jab (rh G (ibN (wL G Z)))))
   ·exact jaf (thE (thE (ibE (wD G Z hb3))))
  rintro v7 Z
  refine jac (rg G (cd Z ?_ ?_)) <;> intro Z
  ·exact jaf (thE (ibX rfl (thE (ibE (wD G Z hb)))))
  ·refine jae (thN ?_)
   obtain ⟨e20, h24, e21, h25, e22, h26, Z⟩ := ob3 Z
   obtain ⟨e23, h27, Z⟩ := jad Z
   refine ds G [(13, [0]), (15, [0])] (hD 6 h24 (hE 7 h24 (hD 10 h25 (hE 11 h25 (hD 12 h26 (hS 13 h26 e20 (hD 14 h27 (hS 15 h27 e21 h0)))))))) ?_
   exact rg G (rh G (ibN (wL G Z)))
 rintro ⟨v8, data2⟩ Z
 refine rg G ?_
 cases Z
 exact rt [] []
def yhi : MS ((List Int) × Int × Int × Int) (Int × Bool × (List Int)) := ⟨.x (.s 3) (.x .r (.x .r .r)), fun x => yjd x.1 x.2.1 x.2.2.1 x.2.2.2, fun y => .tup [dV y.1, dV y.2.1], fun _ => [], fun _ y => [arO 3 y.2.2]⟩
theorem ymk : FnOK Tryz.prog tJ 177 yhi.S := by
 refine fm tt yhi [fo ydx] call177 func177 rfl results177 ntmps177 ?_
 rintro ⟨data, a, b, pivot⟩ y cx G (Z : yjd data a b pivot = some y)
 unfold yjd at Z
 refine rg G ?_
 obtain ⟨e4, h4, e5, h5, e6, h6, Z⟩ := ob3 Z
 obtain ⟨e7, h7, Z⟩ := jad Z
 refine ds G [(13, [0]), (15, [0])] (hD 6 h4 (hE 7 h4 (hD 10 h5 (hE 11 h5 (hD 12 h6 (hS 13 h6 e4 (hD 14 h7 (hS 15 h7 e5 h0)))))))) ?_
 refine rg G (jn Z (fun v2 => ⟨[(0, .own 0), (1, dV a), (10, dV v2), (11, dV (w64 (b - 1)))], [aX 0 3 ((data.set a.toNat e4).set pivot.toNat e5)], 48⟩) (fun v2 Z => ?_) ?_)
 ·refine jab (lp G Z (fun v => ⟨[(0, .own 0), (1, dV a), (10, dV v), (11, dV (w64 (b - 1)))], [aX 0 3 ((data.set a.toNat e4).set pivot.toNat e5)], 48⟩) ?_)
  rintro v r0 hb Z
  rw [yc5] at Z
  refine jac (jn Z (fun v1 => ⟨[(0, .own 0), (1, dV a), (10, dV v), (11, dV (w64 (b - 1))), (43, dV v1)], [aX 0 3 ((data.set a.toNat e4).set pivot.toNat e5)], 48⟩) (fun v1 Z => ?_) ?_)
  ·rcases bf Z with ⟨hb1, Z⟩ | ⟨hb1, Z⟩
   ·obtain ⟨e10, h11, e11, h12, r1, h13, Z⟩ := ob3 Z
    refine de G [] (hO 3 (.b true) (hP hb1 (hD 6 h11 (hE 7 h11 (hD 10 h12 (hE 11 h12 (hC 12 (yb1.c (_, _) h13) h0))))))) ?_
    exact wJ G Z
   ·refine de G [] (hO 3 (.b false) (hP hb1 h0)) ?_
    exact wJ G Z
  rintro v1 Z
  refine cd Z ?_ ?_ <;> intro Z
  ·exact jae (thN (jab (rh G (ibN (wL G Z)))))
  ·exact jaf (thE (thE (ibE (wD G Z hb))))
 rintro v2 Z
 refine jn Z (fun v5 => ⟨[(0, .own 0), (1, dV a), (10, dV v2), (11, dV v5)], [aX 0 3 ((data.set a.toNat e4).set pivot.toNat e5)], 48⟩) (fun v5 Z => ?_) ?_
 ·refine jab (lp G Z (fun v3 => ⟨[(0, .own 0), (1, dV a), (10, dV v2), (11, dV v3)], [aX 0 3 ((data.set a.toNat e4).set pivot.toNat e5)], 48⟩) ?_)
  rintro v3 r0 hb2 Z
  rw [yc4] at Z
  refine jac (jn Z (fun v4 => ⟨[(0, .own 0), (1, dV a), (10, dV v2), (11, dV v3), (60, dV v4)], [aX 0 3 ((data.set a.toNat e4).set pivot.toNat e5)], 48⟩) (fun v4 Z => ?_) ?_)
  ·rcases bf Z with ⟨hb3, Z⟩ | ⟨hb3, Z⟩
   ·obtain ⟨e14, h17, e15, h18, r3, h19, Z⟩ := ob3 Z
    refine de G [] (hO 3 (.b true) (hP hb3 (hD 6 h17 (hE 7 h17 (hD 10 h18 (hE 11 h18 (hC 12 (yb1.c (_, _) h19) h0))))))) ?_
    exact wJ G Z
   ·refine de G [] (hO 3 (.b false) (hP hb3 h0)) ?_
    exact wJ G Z
  rintro v4 Z
  refine cd Z ?_ ?_ <;> intro Z
  ·exact jae (thN (jab (rh G (ibN (wL G Z)))))
  ·exact jaf (thE (thE (ibE (wD G Z hb2))))
 rintro v5 Z
 refine jac (rg G (cd Z ?_ ?_)) <;> intro Z
 ·obtain ⟨e20, h24, e21, h25, e22, h26, Z⟩ := ob3 Z
  obtain ⟨e23, h27, Z⟩ := jad Z
  refine ds G [(13, [0]), (15, [0])] (hD 6 h24 (hE 7 h24 (hD 10 h25 (hE 11 h25 (hD 12 h26 (hS 13 h26 e20 (hD 14 h27 (hS 15 h27 e21 h0)))))))) ?_
  refine rg G ?_
  cases Z
  exact rt [] []
 ·refine jae (thN ?_)
  obtain ⟨e28, h32, e29, h33, e30, h34, Z⟩ := ob3 Z
  obtain ⟨e31, h35, Z⟩ := jad Z
  refine ds G [(13, [0]), (15, [0])] (hD 6 h32 (hE 7 h32 (hD 10 h33 (hE 11 h33 (hD 12 h34 (hS 13 h34 e28 (hD 14 h35 (hS 15 h35 e29 h0)))))))) ?_
  refine rg G (rg G (jn Z (fun (v14, data2) => ⟨[(0, .own 0), (1, dV a), (11, dV v14)], [aX 0 3 data2], 48⟩) (fun vv Z => ?_) ?_))
  ·refine jab (lp G Z (fun (v6, v7, data1) => ⟨[(0, .own 0), (1, dV a), (10, dV v6), (11, dV v7)], [aX 0 3 data1], 48⟩) ?_)
   rintro ⟨v6, v7, data1⟩ r0 hb4 Z
   rw [yc1] at Z
   refine jab (jn Z (fun v10 => ⟨[(0, .own 0), (1, dV a), (10, dV v10), (11, dV v7)], [aX 0 3 data1], 48⟩) (fun v10 Z => ?_) ?_)
   ·refine jab (lp G Z (fun v8 => ⟨[(0, .own 0), (1, dV a), (10, dV v8), (11, dV v7)], [aX 0 3 data1], 48⟩) ?_)
    rintro v8 r0 hb5 Z
    rw [yc3] at Z
    refine jac (jn Z (fun v9 => ⟨[(0, .own 0), (1, dV a), (10, dV v8), (11, dV v7), (112, dV v9)], [aX 0 3 data1], 48⟩) (fun v9 Z => ?_) ?_)
    ·rcases bf Z with ⟨hb6, Z⟩ | ⟨hb6, Z⟩
     ·obtain ⟨e34, h39, e35, h40, r5, h41, Z⟩ := ob3 Z
      refine de G [] (hO 3 (.b true) (hP hb6 (hD 6 h39 (hE 7 h39 (hD 10 h40 (hE 11 h40 (hC 12 (yb1.c (_, _) h41) h0))))))) ?_
      exact wJ G Z
     ·refine de G [] (hO 3 (.b false) (hP hb6 h0)) ?_
      exact wJ G Z
    rintro v9 Z
    refine cd Z ?_ ?_ <;> intro Z
    ·exact jae (thN (jab (rh G (ibN (wL G Z)))))
    ·exact jaf (thE (thE (ibE (wD G Z hb5))))
   rintro v10 Z
   refine jn Z (fun v13 => ⟨[(0, .own 0), (1, dV a), (10, dV v10), (11, dV v13)], [aX 0 3 data1], 48⟩) (fun v13 Z => ?_) ?_
   ·refine jab (lp G Z (fun v11 => ⟨[(0, .own 0), (1, dV a), (10, dV v10), (11, dV v11)], [aX 0 3 data1], 48⟩) ?_)
    rintro v11 r0 hb7 Z
    rw [yc2] at Z
    refine jac (jn Z (fun v12 => ⟨[(0, .own 0), (1, dV a), (10, dV v10), (11, dV v11), (129, dV v12)], [aX 0 3 data1], 48⟩) (fun v12 Z => ?_) ?_)
    ·rcases bf Z with ⟨hb8, Z⟩ | ⟨hb8, Z⟩
     ·obtain ⟨e38, h45, e39, h46, r7, h47, Z⟩ := ob3 Z
      refine de G [] (hO 3 (.b true) (hP hb8 (hD 6 h45 (hE 7 h45 (hD 10 h46 (hE 11 h46 (hC 12 (yb1.c (_, _) h47) h0))))))) ?_
      exact wJ G Z
     ·refine de G [] (hO 3 (.b false) (hP hb8 h0)) ?_
      exact wJ G Z
    rintro v12 Z
    refine cd Z ?_ ?_ <;> intro Z
    ·exact jae (thN (jab (rh G (ibN (wL G Z)))))
    ·exact jaf (thE (thE (ibE (wD G Z hb7))))
   rintro v13 Z
   refine jac (rg G (cd Z ?_ ?_)) <;> intro Z
   ·exact jaf (thE (ibX rfl (thE (ibE (wD G Z hb4)))))
   ·refine jae (thN ?_)
    obtain ⟨e44, h52, e45, h53, e46, h54, Z⟩ := ob3 Z
    obtain ⟨e47, h55, Z⟩ := jad Z
    refine ds G [(13, [0]), (15, [0])] (hD 6 h52 (hE 7 h52 (hD 10 h53 (hE 11 h53 (hD 12 h54 (hS 13 h54 e44 (hD 14 h55 (hS 15 h55 e45 h0)))))))) ?_
    exact rg G (rh G (ibN (wL G Z)))
  rintro ⟨v14, data2⟩ Z
  obtain ⟨e52, h60, e53, h61, e54, h62, Z⟩ := ob3 Z
  obtain ⟨e55, h63, Z⟩ := jad Z
  refine ds G [(13, [0]), (15, [0])] (hD 6 h60 (hE 7 h60 (hD 10 h61 (hE 11 h61 (hD 12 h62 (hS 13 h62 e52 (hD 14 h63 (hS 15 h63 e53 h0)))))))) ?_
  refine rg G ?_
  cases Z
  exact rt [] []
def yhl : MS Int ((IK .u64)) := ⟨.r, ycu, fun y => dV y, fun _ => [], fun _ _ => []⟩
theorem ymo : FnOK Tryz.prog tJ 149 yhl.S := by
 refine fm tt yhl [fo ykx] call149 func149 rfl results149 ntmps149 ?_
 rintro length y cx G (Z : ycu length = some y)
 unfold ycu at Z
 refine rg G ?_
 obtain ⟨r, h, u, h1, Z⟩ := ob2 Z
 refine rs G (hC 2 (yiq.c _ h) (hK h1 h0)) ?_
 cases Z
 exact rt [] []
def yhe : MS ((IK .u64)) ((IK .u64) × (IK .u64)) := ⟨.b 169, ycj, fun y => dV y.1, fun _ => [], fun _ y => [bxO 169 y.2]⟩
theorem ymf : FnOK Tryz.prog tJ 150 yhe.S := by
 refine fm tt yhe [] call150 func150 rfl results150 ntmps150 ?_
 rintro r y cx G (Z : ycj r = some y)
 unfold ycj at Z
 refine rg G ?_
 obtain ⟨u1, h1, Z⟩ := jad Z
 refine ds G [(9, [0])] (hK h1 h0) ?_
 obtain ⟨u3, h3, Z⟩ := jad Z
 refine ds G [(9, [0])] (hK h3 h0) ?_
 obtain ⟨u5, h5, Z⟩ := jad Z
 refine ds G [(9, [0])] (hK h5 h0) ?_
 refine rg G ?_
 cases Z
 exact rt [] []
def yjr : MS ((List Int) × Int × Int) ((List Int)) := ⟨.x (.s 3) (.x .r .r), fun x => zq99 x.1 x.2.1 x.2.2, fun _ => .tup [], fun _ => [], fun _ y => [arO 3 y]⟩
theorem ynx : FnOK Tryz.prog tJ 171 yjr.S := by
 refine fm tt yjr [fo ymo, fo ymf] call171 func171 rfl results171 ntmps171 ?_
 rintro ⟨data, a, b⟩ y cx G (Z : zq99 data a b = some y)
 unfold zq99 at Z
 refine rg G (rg G (cd Z ?_ ?_)) <;> intro Z
 ·refine rg G ?_
  obtain ⟨r, h, Z⟩ := jad Z
  refine rs G (hC 1 (yhl.c _ h) h0) ?_
  obtain ⟨u, h1, Z⟩ := jad Z
  refine rs G (hK h1 h0) ?_
  refine jab (lp G Z (fun (v, data1, v1) => ⟨[(0, .own 0), (1, dV a), (6, dV (w64 (b - a))), (7, .ref 32 0), (8, kV .u64 r.v), (9, dV v)], [aX 0 3 data1, bX 32 169 [kV .u64 v1]], 64⟩) ?_)
  rintro ⟨v, data1, v1⟩ r0 hb Z
  rw [yel] at Z
  refine jac ?_
  obtain ⟨u1, h2, Z⟩ := jad Z
  refine rs G (hK h2 h0) ?_
  refine cd Z ?_ ?_ <;> intro Z
  ·refine jae (thN (jac (jab ?_)))
   obtain ⟨r1, h3, Z⟩ := jad Z
   refine rs G (hC 0 (yhe.c _ h3) h0) ?_
   refine jn Z (fun v2 => ⟨[(0, .own 0), (1, dV a), (6, dV (w64 (b - a))), (7, .ref 32 0), (8, kV .u64 r.v), (9, dV v), (10, dV v2)], [aX 0 3 data1, bX 32 169 [kV .u64 r1.2.v]], 64⟩) (fun v2 Z => ?_) ?_
   ·refine rg G (cd Z ?_ ?_) <;> intro Z
    ·exact rh G (wJ G Z)
    ·exact jae (wJ G Z)
   rintro v2 Z
   obtain ⟨e4, h8, e5, h9, e6, h10, Z⟩ := ob3 Z
   obtain ⟨e7, h11, Z⟩ := jad Z
   refine de G [(17, [0]), (19, [0])] (hD 10 h8 (hE 11 h8 (hD 14 h9 (hE 15 h9 (hD 16 h10 (hS 17 h10 e4 (hD 18 h11 (hS 19 h11 e5 h0)))))))) ?_
   exact ibN (thN (rh G (wL G Z)))
  ·have Z := eD Z hb
   refine jaf (thE (thE (ibE ?_)))
   cases Z
   exact fN [] []
 ·refine jae ?_
  cases Z
  exact fN [] []
def ybn (rec_ : (List Int) -> Int -> Int -> Int -> Option ((List Int))) : MS ((List Int) × Int × Int × Int) ((List Int)) := ⟨.x (.s 3) (.x .r (.x .r .r)), fun x => rec_ x.1 x.2.1 x.2.2.1 x.2.2.2, fun _ => .tup [], fun _ => [], fun _ y => [arO 3 y]⟩
def yhh : MS ((List Int) × Int × Int × Int) ((List Int)) := ybn ymj
theorem ypm {data a b limit y} (Z : ymj data a b limit = some y) : yhh.C (data, a, b, limit) y := yhh.c (data, a, b, limit) Z
theorem yi0 {rec_ : (List Int) -> Int -> Int -> Int -> Option ((List Int))} {data a b limit y} (Z : rec_ data a b limit = some y) : (ybn rec_).C (data, a, b, limit) y := (ybn rec_).c (data, a, b, limit) Z
theorem ylc {rec_ : (List Int) -> Int -> Int -> Int -> Option ((List Int))} (hrec : FnOK Tryz.prog tJ 141 (ybn rec_).S) : FnOK Tryz.prog tJ 141 (ybn (ybt rec_)).S := by
 refine fm tt (ybn (ybt rec_)) [fo hrec, fo ymq, fo ymr, fo ynx, fo yms, fo ymh, fo ymm, fo ydx, fo yml, fo ymk] call141 func141 rfl results141 ntmps141 ?_
 rintro ⟨data, a, b, limit⟩ y cx G (Z : ybt rec_ data a b limit = some y)
 unfold ybt at Z
 refine rg G (rg G (jab (lp G Z (fun (a1, b1, limit1, hint, mid, data1) => ⟨[(0, .own 0), (1, dV a1), (2, dV b1), (3, dV limit1), (8, dV hint), (9, dV mid)], [aX 0 3 data1], 48⟩) ?_)))
 rintro ⟨a1, b1, limit1, hint, mid, data1⟩ r0 hb Z
 rw [yc0] at Z
 refine jab (rg G (jac (rg G (cd Z ?_ ?_)))) <;> intro Z
 ·obtain ⟨r, h, Z⟩ := jad Z
  refine rs G (hC 3 (yhn.c (_, _, _) h) h0) ?_
  have Z := eD Z hb
  cases Z
  exact rt [] []
 ·refine jae (thN (jac (rg G (cd Z ?_ ?_)))) <;> intro Z
  ·obtain ⟨r2, h1, Z⟩ := jad Z
   refine rs G (hC 3 (yho.c (_, _, _) h1) h0) ?_
   have Z := eD Z hb
   cases Z
   exact rt [] []
  ·refine jae (thN (jn Z (fun (limit2, data2) => ⟨[(0, .own 0), (1, dV a1), (2, dV b1), (3, dV limit2), (8, dV hint), (9, dV mid), (10, dV (w64 (b1 - a1)))], [aX 0 3 data2], 48⟩) (fun vv1 Z => ?_) ?_))
   ·refine rg G (cd Z ?_ ?_) <;> intro Z
    ·obtain ⟨r4, h2, Z⟩ := jad Z
     refine rs G (hC 3 (yjr.c (_, _, _) h2) h0) ?_
     exact rh G (wJ G Z)
    ·exact jae (wJ G Z)
   rintro ⟨limit2, data2⟩ Z
   obtain ⟨r5, h3, Z⟩ := jad Z
   refine rs G (hC 3 (yhp.c (_, _, _) h3) h0) ?_
   refine jn Z (fun (alreadyPartitioned, leftLen, data3) => ⟨[(0, .own 0), (1, dV a1), (2, dV b1), (3, dV limit2), (8, dV hint), (9, dV mid), (10, dV (w64 (b1 - a1))), (11, dV alreadyPartitioned), (12, dV leftLen)], [aX 0 3 data3], 48⟩) (fun vv Z => ?_) ?_
   ·refine rg G (cd Z ?_ ?_) <;> intro Z
    ·obtain ⟨r6, h4, Z⟩ := jad Z
     refine rs G (hC 3 (yhg.c (_, _, _) h4) h0) ?_
     exact rg G (rh G (wJ G Z))
    ·exact jae (wJ G Z)
   rintro ⟨alreadyPartitioned, leftLen, data3⟩ Z
   refine jF Z (fun data4 => ⟨[(0, .own 0), (1, dV a1), (2, dV b1), (3, dV limit2), (8, dV hint), (9, dV mid), (10, dV (w64 (b1 - a1))), (11, dV alreadyPartitioned)], [aX 0 3 data4], 48⟩) (fun v2 hr3 Z => ?_) ?_
   ·refine jn Z (fun v => ⟨[(0, .own 0), (1, dV a1), (2, dV b1), (3, dV limit2), (8, dV hint), (9, dV mid), (10, dV (w64 (b1 - a1))), (11, dV alreadyPartitioned), (68, dV v)], [aX 0 3 data3], 48⟩) (fun v Z => ?_) ?_
    ·rcases bf Z with ⟨hb1, Z⟩ | ⟨hb1, Z⟩
     ·rcases bf Z with ⟨hb2, Z⟩ | ⟨hb2, Z⟩
      ·refine re G (hO 1 (.b true) (hP hb1 (hO 4 (.b true) (hP hb2 h0)))) ?_
       exact wJ G Z
      ·refine re G (hO 1 (.b true) (hP hb1 (hO 4 (.b false) (hP hb2 h0)))) ?_
       exact wJ G Z
     ·refine re G (hO 1 (.b false) (hP hb1 h0)) ?_
      exact wJ G Z
    rintro v Z
    refine cd Z ?_ ?_ <;> intro Z
    ·obtain ⟨r7, h5, Z⟩ := jad Z
     refine rs G (hC 3 (yhk.c (_, _, _) h5) h0) ?_
     refine cd Z ?_ ?_ <;> intro Z
     ·have Z := eR Z hr3
      have Z := eD Z hb
      cases Z
      exact rt [] []
     ·exact jae (wF G Z)
    ·exact jae (wF G Z)
   rintro data4 Z
   refine jac (jn Z (fun v1 => ⟨[(0, .own 0), (1, dV a1), (2, dV b1), (3, dV limit2), (8, dV hint), (9, dV mid), (10, dV (w64 (b1 - a1))), (11, dV alreadyPartitioned), (87, dV v1)], [aX 0 3 data4], 48⟩) (fun v1 Z => ?_) ?_)
   ·rcases bf Z with ⟨hb3, Z⟩ | ⟨hb3, Z⟩
    ·obtain ⟨e6, h9, e7, h10, r11, h11, Z⟩ := ob3 Z
     refine de G [] (hO 2 (.b true) (hP hb3 (hD 6 h9 (hE 7 h9 (hD 10 h10 (hE 11 h10 (hC 12 (yb1.c (_, _) h11) h0))))))) ?_
     exact wJ G Z
    ·refine de G [] (hO 2 (.b false) (hP hb3 h0)) ?_
     exact wJ G Z
   rintro v1 Z
   refine cd Z ?_ ?_ <;> intro Z
   ·obtain ⟨r12, h12, Z⟩ := jad Z
    refine rs G (hC 4 (yhj.c (_, _, _, _) h12) h0) ?_
    exact rg G (jaf (thE (ibE (wL G Z))))
   ·refine jae (thN ?_)
    obtain ⟨r13, h13, Z⟩ := jad Z
    refine rs G (hC 4 (yhi.c (_, _, _, _) h13) h0) ?_
    refine rg G (rg G ?_)
    obtain ⟨u, h14, Z⟩ := jad Z
    refine rs G (hK h14 h0) ?_
    refine rg G (cd Z ?_ ?_) <;> intro Z
    ·refine rg G ?_
     obtain ⟨r14, h15, Z⟩ := jad Z
     refine rs G (hC 4 (yi0 h15) h0) ?_
     exact rh G (ibN (wL G Z))
    ·refine rg G ?_
     obtain ⟨r15, h16, Z⟩ := jad Z
     refine rs G (hC 5 (yi0 h16) h0) ?_
     exact rh G (ibN (wL G Z))
theorem yf2 : ∀ k, FnOK Tryz.prog tJ 141 (ybn (ydu k)).S
 | 0 => ⟨fun args w => call141 args w, fun vs w F ds obs κ hp => by obtain ⟨x, y, _, _, h⟩ := hp; cases h⟩
 | k + 1 => ylc (yf2 k)
theorem ymi : FnOK Tryz.prog tJ 141 yhh.S := yf2 4294967296
def yjs : MS ((List Int)) ((List Int)) := ⟨.s 3, zq98, fun _ => .tup [], fun _ => [], fun _ y => [arO 3 y]⟩
theorem yny : FnOK Tryz.prog tJ 98 yjs.S := by
 refine fm tt yjs [fo ykx, fo ymi] call98 func98 rfl results98 ntmps98 ?_
 rintro x y cx G (Z : zq98 x = some y)
 unfold zq98 at Z
 refine rs G (hN 1 x h0) ?_
 obtain ⟨r, h, r1, h1, Z⟩ := ob2 Z
 refine re G (hC 4 (yiq.c _ h) (hC 5 (ypm h1) h0)) ?_
 cases Z
 exact fN [] []
def ynh : MS ((List Int)) ((List Int)) := ⟨.m 3, zq89, fun _ => .own 0, fun y => [arO 3 y], fun _ _ => []⟩
def yng : Go.Shelf.Ren := ⟨fun x => bif Nat.beq x 20 then 99 else x, fun x => bif Nat.beq x 22 then 37 else bif Nat.beq x 3 then 3 else bif Nat.beq x 4 then 4 else x, fun x => x⟩
theorem yqc : Tryz.f99 = Go.Proofs.Body2.n20 yng := by kernel_rfl
theorem yn4 : FnOK Tryz.prog tJ 99 ynh.S := jt6 tt yng call99 (func99.trans (congrArg some yqc)) (b0 := 0) (e0 := false) ⟨Tryz.underlying0, Tryz.t0, Tryz.type0, rfl, rfl, rfl, fun h => by cases h⟩ (by kernel_rfl) (by kernel_rfl) (by kernel_rfl)
def yno : MS (Timetable × Int) ((List Int)) := ⟨.x .r .r, fun x => zq13 x.1 x.2, fun _ => .own 0, fun y => [arO 3 y], fun _ _ => []⟩
theorem ypk : FnOK Tryz.prog tJ 53 yno.S := by
 refine fm tt yno [fo yfd, fo ygy, fo ygj, fo yny, fo yn4] call53 func53 rfl results53 ntmps53 ?_
 rintro ⟨t, stop⟩ y cx G (Z : zq13 t stop = some y)
 unfold zq13 at Z
 refine rg G (rg G (jac (rs G (hN 2 t.Trips h0) ?_)))
 refine tl Z (fun x2 => ⟨[(5, .own 16)], [aX 16 3 x2], 48⟩) (fun x2 Z => ?_) ?_
 ·refine jab (lpP Z (fun (v, x) => ⟨[(1, dV stop), (2, .ref 16 0), (5, .own 32), (12, dV t.Trips), (13, dV (t.Trips.length : Int)), (14, dV v)], [bX 16 30 [dV t.Network.Stops, dV t.Network.Lines, dV t.Trips], aX 32 3 x], 64⟩) (Wk_J G.hL ⟨[(1, []), (2, []), (5, [.o 32]), (12, []), (13, []), (14, [])], [(16, 16, [])], [(32, 3, 1, [])], 64⟩ (by kernel_rfl)) ?_)
  rintro ⟨v, x⟩ r0 hb Z
  rw [yg7] at Z
  refine rg G (jac (cd Z ?_ ?_)) <;> intro Z
  ·refine jae (thN (jn Z (fun x1 => ⟨[(1, dV stop), (2, .ref 16 0), (5, .own 32), (12, dV t.Trips), (13, dV (t.Trips.length : Int)), (14, dV v)], [bX 16 30 [dV t.Network.Stops, dV t.Network.Lines, dV t.Trips], aX 32 3 x1], 64⟩) (fun x1 Z => ?_) ?_))
   ·refine jab ?_
    obtain ⟨e, h, Z⟩ := jad Z
    refine rs G (hD 0 h h0) ?_
    obtain ⟨r2, h3, r3, h4, Z⟩ := ob2 Z
    refine ds G [] (hC 2 (yec.c (_, _) h3) (hC 6 (yf1.c (_, _) h4) h0)) ?_
    obtain ⟨r4, h5, Z⟩ := jad Z
    refine rs G (hC 2 (yea.c (_, _) h5) h0) ?_
    refine jn Z (fun v1 => ⟨[(1, dV stop), (2, .ref 16 0), (5, .own 32), (9, .own 48), (10, dV r4), (12, dV t.Trips), (13, dV (t.Trips.length : Int)), (14, dV v), (36, dV v1)], [bX 16 30 [dV t.Network.Stops, dV t.Network.Lines, dV t.Trips], aX 32 3 x, aX 48 3 r3], 80⟩) (fun v1 Z => ?_) ?_
    ·rcases bf Z with ⟨hb1, Z⟩ | ⟨hb1, Z⟩
     ·refine re G (hO 2 (.b true) (hP hb1 (hN 5 r2.Stops h0))) ?_
      exact wJ G Z
     ·refine re G (hO 2 (.b false) (hP hb1 h0)) ?_
      exact wJ G Z
    rintro v1 Z
    refine cd Z ?_ ?_ <;> intro Z
    ·obtain ⟨e1, h6, u, h7, Z⟩ := ob2 Z
     refine re G (hD 3 h6 (hE 4 h6 (hA 6 8 h7 h0))) ?_
     exact ibN (wJ G Z)
    ·exact jae (ibN (wJ G Z))
   rintro x1 Z
   exact rh G (wL G Z)
  ·exact jaf (thE (thE (ibE (wD G Z hb))))
 rintro x2 Z s hw
 refine thN (jai hw ?_)
 obtain ⟨r5, h8, Z⟩ := jad Z
 refine rs G (hC 1 (yjs.c _ h8) h0) ?_
 obtain ⟨r6, h9, Z⟩ := jad Z
 refine rs G (hC 1 (ynh.c _ h9) h0) ?_
 cases Z
 exact rt [96] []
def yn3 : MS (Timetable × Int × Int × Int × Int) (Int × Bool) := ⟨.x .r (.x .r (.x .r (.x .r .r))), fun x => zq8 x.1 x.2.1 x.2.2.1 x.2.2.2.1 x.2.2.2.2, fun y => .tup [dV y.1, dV y.2], fun _ => [], fun _ _ => []⟩
theorem yqz {t change from_ to_ by_ y} (Z : zq8 t change from_ to_ by_ = some y) : yn3.C (t, change, from_, to_, by_) y := yn3.c (t, change, from_, to_, by_) Z
section LateS
open Go.RowKit Go.Shelf
attribute [local go_sem] Oper.semAt_some
theorem yjn (n : Nat) (l Bs n₀ b off cap : Nat) (zs : List Int) (hreach : zs.length <= 9223372036854775807) (hb : b < n₀) (J Jx : List (jtx zs) -> World -> Prop)
  (hY : ∀ pre x W, J pre W -> pre.length < zs.length -> YieldAt Fence.wide (n - 1) Tryz.prog l #[.int .i64 x.1.1, .int .i64 x.1.2] W fun e W' =>
   (e = .returned (.bool true) /\ J (pre ++ [x]) W' /\ Below n₀ W W') \/ (e = .returned (.bool false) /\ Jx (pre ++ [x]) W'))
  (W : World) (hBs : W.cell? ⟨Bs, 0, none⟩ = some (.slice (some ⟨b, off, none⟩) zs.length cap)) (hBn : Bs < n₀) (hc : ∀ j, j < zs.length -> W.cell? ⟨b, off + j, none⟩ = some (.int .i64 (zs[j]?.getD 0))) (h0 : J [] W) :
  CallsIn Fence.wide n Tryz.prog 97 #[.func (.yield l) #[] #[], .pointer (some ⟨Bs, 0, none⟩)] W fun e W' => (∃ v, e = .returned v) /\
   ((∃ ys, ys.map (·.1) = jc3 (jf4 zs) zs.length /\ J ys W') \/ (∃ pre, (∃ k, k <= zs.length /\ pre.map (·.1) = jc3 (jf4 zs) k) /\ Jx pre W')) := by
 have hro : Fence.wide.round = none := rfl
 have hn : Fence.wide.depth.isSome = true -> 1 <= n := fun h => by cases h
 refine callsIn_of_wp func97 rfl trivial ?_ hro
 simp only [ntmps97, List.size_toArray, List.length_cons, List.length_nil, Nat.reduceAdd, Nat.reduceSub, Array.replicate_succ, Array.replicate_zero, List.push_toArray, List.append_toArray, List.nil_append, List.cons_append]
 gi_wp2
 gi_loopw [3] (fun i wr => ∃ k : Nat, k <= zs.length /\ i = .int .i64 ((zs.length : Int) - 1 - k) /\ (∃ pre, pre.map (·.1) = jc3 (jf4 zs) k /\ J pre wr) /\ Below n₀ W wr)
  (fun i _ => (intOf i + 1).toNat)
 case atStart => exact ⟨0, Nat.zero_le _, by go_num, ⟨[], rfl, h0⟩, Below.refl _ _⟩
 case round =>
  obtain ⟨k, hk, rfl, ⟨pre, hpre, hJs⟩, hnx⟩ := hrel
  by_cases hlt : k < zs.length
  ·have hcx' : wr.cell? ⟨b, off + (zs.length - 1 - k), none⟩ = some (.int .i64 (zs[zs.length - 1 - k]?.getD 0)) := (hnx.cell (p := ⟨b, _, none⟩) hb).trans (hc _ (by omega))
   have hBs' : wr.cell? ⟨Bs, 0, none⟩ = some (.slice (some ⟨b, off, none⟩) zs.length cap) := (hnx.cell (p := ⟨Bs, 0, none⟩) hBn).trans hBs
   obtain ⟨fn, tmps, assign, body, hy, hR⟩ := hY pre ⟨jf4 zs k, jo6 hlt⟩ wr hJs (by have := congrArg List.length hpre; rw [List.length_map, jjc] at this; omega)
   dsimp only [jf4] at hy
   obtain ⟨q, hq⟩ : ∃ q : Nat, q = zs.length - 1 - k := ⟨_, rfl⟩
   have hqi : (zs.length : Int) - 1 - (k : Int) = (q : Int) := by omega
   rw [<- hq] at hcx' hy
   rw [hqi] at hy ⊢
   have hql : q < zs.length := by omega
   have AQ : Aside (q = zs.length - 1 - k) := hq
   clear hq hqi
   generalize zs[q]?.getD 0 = val at hcx' hy
   gi_wp2
   refine ⟨hn, hR.mono ?_⟩
   rintro e W3 (⟨rfl, hJ3, hk3⟩ | ⟨rfl, hJx3⟩)
   ·gi_wp2
    go_roundw
    case rel =>
     have hq := AQ.out
     exact ⟨k + 1, by omega, by congr 1; omega, ⟨_, by rw [List.map_append, hpre, jg6]; rfl, hJ3⟩, hnx.trans hk3⟩
    case measure =>
     have hq := AQ.out
     simp [intOf]
   ·gi_wp2
    refine bodyPost_ret (results_none rfl _ _ _) rfl ?_
    exact ⟨⟨_, rfl⟩, .inr ⟨_, ⟨k + 1, by omega, by rw [List.map_append, hpre, jg6]; rfl⟩, hJx3⟩⟩
  ·obtain rfl : k = zs.length := by omega
   have e : (zs.length : Int) - 1 - (zs.length : Int) = -1 := by omega
   rw [e]
   gi_wp2
   go_end0
   exact ⟨⟨_, rfl⟩, .inl ⟨_, hpre, hJs⟩⟩
theorem yjo (n : Nat) (l Bs : Nat) {α : Type} (J : List α -> World -> Prop) (W : World) (hBs : W.cell? ⟨Bs, 0, none⟩ = some (.slice none 0 0)) (h0 : J [] W) :
  CallsIn Fence.wide n Tryz.prog 97 #[.func (.yield l) #[] #[], .pointer (some ⟨Bs, 0, none⟩)] W fun e W' => (∃ v, e = .returned v) /\ J [] W' := by
 have hro : Fence.wide.round = none := rfl
 refine callsIn_of_wp func97 rfl trivial ?_ hro
 simp only [ntmps97, List.size_toArray, List.length_cons, List.length_nil, Nat.reduceAdd, Nat.reduceSub, Array.replicate_succ, Array.replicate_zero, List.push_toArray, List.append_toArray, List.nil_append, List.cons_append]
 gi_wp2
 gi_loopw [3] (fun i wr => i = .int .i64 (-1) /\ J [] wr) (fun _ _ => 0)
 case atStart => exact ⟨rfl, h0⟩
 case round =>
  obtain ⟨rfl, hJs⟩ := hrel
  gi_wp2
  go_end0
  exact ⟨⟨_, rfl⟩, hJs⟩
theorem ylp (n : Nat) (a : Option Addr) (len cap : Nat) (w : World) :
  CallsIn Fence.wide n Tryz.prog 52 #[.slice a len cap] w fun e w' => e = .returned (.func (.func 97) #[] #[.pointer (some ⟨w.heap.size, 0, none⟩)]) /\ w' = w.alloc (.cells #[.slice a len cap] 37) := by
 refine callsIn_of_wp func52 rfl trivial ?_ rfl
 simp only [ntmps52, List.size_toArray, List.length_cons, List.length_nil, Nat.reduceAdd, Nat.reduceSub, Array.replicate_succ, Array.replicate_zero, List.push_toArray, List.append_toArray, List.nil_append, List.cons_append]
 gi_wp2
 go_ret
 exact ⟨rfl, rfl⟩
theorem yjm (n : Nat) (Bs n₀ m : Nat) (sv : Value) (zs : List Int) (hreach : zs.length <= 9223372036854775807) (w : World) (hBs : Bs < n₀) (hn₀ : n₀ <= w.heap.size) (hc : w.cell? ⟨Bs, 0, none⟩ = some sv) (hI : jls m w sv zs) (hIn : ∀ a k c, sv = .slice (some a) k c -> a.block < n₀) :
  SeqStopsK Fence.wide n Tryz.prog 97 #[.pointer (some ⟨Bs, 0, none⟩)] (fun x : jtx zs => #[Value.int .i64 x.1.1, Value.int .i64 x.1.2]) (Below n₀) (fun ys => ys.map (·.1) = jc3 (jf4 zs) zs.length)
   (fun pre => ∃ k, k <= zs.length /\ pre.map (·.1) = jc3 (jf4 zs) k) zs.length w := fun l J Jx W hW _ _ hY h0 => by
 have hc' := (hW.cell (p := ⟨Bs, 0, none⟩) (show Bs < w.heap.size by omega)).trans hc
 rcases hI with ⟨rfl, rfl⟩ | ⟨b, off, cap, rfl, _, hb, _, _, hcs⟩
 ·exact (yjo n l Bs J W hc' h0).mono fun e W' ⟨he, hj⟩ => ⟨he, .inl ⟨_, rfl, hj⟩⟩
 ·exact yjn n l Bs n₀ b off cap zs hreach (hIn _ _ _ rfl) J Jx hY W hc' hBs (fun j hj => (hW.cell (p := ⟨b, off + j, none⟩) hb).trans (hcs j hj)) h0
theorem ym2 (w : World) (F : Nat -> Prop) (t : Timetable) (ch fr to by_ : Int) (y : Int × Bool) (s1 s2 s3 : Value) (Z : zq8 t ch fr to by_ = some y) (hF : ∀ b, F b -> b < w.heap.size) (hJ : JOK tJ F w)
  (hT : RD F w (Enc.e t) (.agg #[s1, s2, s3])) (hN : RD F w (Enc.e t.Network) (.agg #[s1, s2])) :
  Calls Tryz.prog 21 #[.agg #[s1, s2, s3], .int .i64 ch, .int .i64 fr, .int .i64 to, .int .i64 by_] w fun e w' => e = .returned (.tuple #[.int .i64 y.1, .bool y.2]) /\ Below w.heap.size w w' := by
 have hro : Fence.wide.round = none := rfl
 have hn : ∀ n, Fence.wide.depth.isSome = true -> 1 <= n := fun n h => by cases h
 have uT : ∀ W, Below w.heap.size w W -> RD F W (Enc.e t) (.agg #[s1, s2, s3]) := fun W hb => RD.mono (fun _ h => h) (fun b h => hb.block b (hF b h)) hT
 have uN : ∀ W, Below w.heap.size w W -> RD F W (Enc.e t.Network) (.agg #[s1, s2]) := fun W hb => RD.mono (fun _ h => h) (fun b h => hb.block b (hF b h)) hN
 have uJ : ∀ W, Below w.heap.size w W -> JOK tJ F W := fun W hb => hJ.mono (fun _ h => h) (fun b h => hb.block b (hF b h))
 have uF : ∀ W, Below w.heap.size w W -> ∀ b, F b -> b < W.heap.size := fun W hb b h => Nat.lt_of_lt_of_le (hF b h) hb.size
 clear hT hN hJ
 unfold zq8 jsa at Z
 obtain ⟨r, hr, Z⟩ := jad Z
 refine (callsIn_wide (n := 9)).1 ?_
 refine callsIn_of_wp_marks func21 rfl trivial ?_ rfl
 simp only [ntmps21, List.size_toArray, List.length_cons, List.length_nil, Nat.reduceAdd, Nat.reduceSub, Array.replicate_succ, Array.replicate_zero, List.push_toArray, List.append_toArray, List.nil_append, List.cons_append]
 have Ahm : Aside ((if (!r) = true then some true else (zq25 t.Network to).bind fun r1 => some (!r1)).bind (fun v => if v = true then some (0, false) else if (fr == to) = true then some (0, false) else
  (zq13 t fr).bind fun l => if (l.all fun τ => ((fun q => (zq29 t fr q).bind fun r => (zq12 t ch r 4).bind fun l => idx l to) τ).isSome) = true then je3 (fun q => (zq29 t fr q).bind fun r => (zq12 t ch r 4).bind fun l => idx l to) by_ l.reverse else none) = some y) := Z
 clear Z
 gi_wp2
 obtain ⟨L0, hb0⟩ := jr8 w 30 3 4 s1 s2 s3 ch fr to by_
 obtain ⟨W0, hW0⟩ : ∃ W0, (((((((w.alloc (.cells #[s1, s2, s3] 30)).alloc (.cells #[.int .i64 ch] 3)).alloc (.cells #[.int .i64 fr] 3)).alloc (.cells #[.int .i64 to] 3)).alloc (.cells #[.int .i64 by_] 3)).alloc (.cells #[.int .i64 0] 3)).alloc (.cells #[.bool false] 4)) = W0 := ⟨_, rfl⟩
 rw [hW0] at L0 hb0 ⊢
 clear hW0
 have n1 : w.heap.size <= W0.heap.size := hb0.size
 refine ⟨trivial, CallsIn.mono (callsIn_wide.2 (jtf yfi (x := (t, ch, fr, by_)) hr rfl rfl (jc2 (uT W0 hb0) (jc2 (jft ch) (jc2 (jft fr) (jc2 (jft by_) ji3)))) (uF W0 hb0) (uJ W0 hb0))) ?_⟩
 rintro e w1 ⟨rfl, hb1⟩
 have L1 := L0.below hb1
 have hb1 : Below w.heap.size w w1 := hb0.trans (hb1.mono n1)
 clear hb0 L0 n1
 obtain ⟨c1, c2, c3, c4, c5, c6, c7, c8, f8, c9, f9, lt⟩ := L1
 cases r with
 | false =>
  gi_wp2
  refine ⟨trivial, ?_⟩
  gi_wp2
  obtain ⟨g1, g2, g3⟩ := jg5 (B := w.heap.size) (W := w1) (by rw [c8]; rfl) (by rw [c9]; rfl) (.int .i64 0) (.bool false)
  have hy : y = (0, false) := by
   have h := Ahm.out
   simp at h
   exact h.symm
  subst hy
  refine ⟨.tuple #[.int .i64 0, .bool false], ?_, rfl, hb1.trans (g3 _ (Nat.le_refl _))⟩
  simp [results, Tryz.f21, go_sem, g1, g2]
 | true =>
  have Z := Ahm.out
  clear Ahm
  simp only [Bool.not_true, Bool.false_eq_true, if_false] at Z
  obtain ⟨r1, hr1, Z⟩ := jad Z
  obtain ⟨r2, hr2, e2⟩ := jad hr1
  cases e2
  have Ahm : Aside ((if (!r2) = true then some (0, false) else if (fr == to) = true then some (0, false) else
   (zq13 t fr).bind fun l => if (l.all fun τ => ((fun q => (zq29 t fr q).bind fun r => (zq12 t ch r 4).bind fun l => idx l to) τ).isSome) = true then je3 (fun q => (zq29 t fr q).bind fun r => (zq12 t ch r 4).bind fun l => idx l to) by_ l.reverse else none) = some y) := Z
  clear Z hr1
  gi_wp2
  refine ⟨trivial, CallsIn.mono (callsIn_wide.2 (jtf yfh (x := (t.Network, to)) hr2 rfl rfl (jc2 (uN w1 hb1) (jc2 (jft to) ji3)) (uF w1 hb1) (uJ w1 hb1))) ?_⟩
  rintro e w2 ⟨rfl, hb2⟩
  have L2 := (⟨c1, c2, c3, c4, c5, c6, c7, c8, f8, c9, f9, lt⟩ : LateW w.heap.size w1 s1 s2 s3 ch fr to by_).below hb2
  have hb2 : Below w.heap.size w w2 := hb1.trans (hb2.mono hb1.size)
  clear hb1 c1 c2 c3 c4 c5 c6 c7 c8 f8 c9 f9 lt
  obtain ⟨c1, c2, c3, c4, c5, c6, c7, c8, f8, c9, f9, lt⟩ := L2
  cases r2 with
  | false =>
   gi_wp2
   obtain ⟨g1, g2, g3⟩ := jg5 (B := w.heap.size) (W := w2) (by rw [c8]; rfl) (by rw [c9]; rfl) (.int .i64 0) (.bool false)
   have hy : y = (0, false) := by
    have h := Ahm.out
    simp at h
    exact h.symm
   subst hy
   refine ⟨.tuple #[.int .i64 0, .bool false], ?_, rfl, hb2.trans (g3 _ (Nat.le_refl _))⟩
   simp [results, Tryz.f21, go_sem, g1, g2]
  | true =>
   by_cases hft : fr = to
   ·subst hft
    gi_wp2
    obtain ⟨g1, g2, g3⟩ := jg5 (B := w.heap.size) (W := w2) (by rw [c8]; rfl) (by rw [c9]; rfl) (.int .i64 0) (.bool false)
    have hy : y = (0, false) := by
     have h := Ahm.out
     simp at h
     exact h.symm
    subst hy
    refine ⟨.tuple #[.int .i64 0, .bool false], ?_, rfl, hb2.trans (g3 _ (Nat.le_refl _))⟩
    simp [results, Tryz.f21, go_sem, g1, g2]
   ·have Z := Ahm.out
    clear Ahm
    simp only [Bool.not_true, Bool.false_eq_true, if_false, beq_eq_false_iff_ne.2 hft] at Z
    obtain ⟨D, hD, Z⟩ := jad Z
    have hc : (D.all fun τ => ((fun q => (zq29 t fr q).bind fun r => (zq12 t ch r 4).bind fun l => idx l to) τ).isSome) = true := by
     refine Classical.byContradiction fun hc => ?_
     rw [if_neg hc] at Z; cases Z
    rw [if_pos hc] at Z
    have hall : ∀ τ ∈ D, ∃ R L a, zq29 t fr τ = some R /\ zq12 t ch R 4 = some L /\ idx L to = some a := fun τ hτ => by
     have h := List.all_eq_true.1 hc τ hτ
     obtain ⟨a, ha⟩ := Option.isSome_iff_exists.1 h
     obtain ⟨R, h1, h2⟩ := jad ha
     obtain ⟨L, h3, h4⟩ := jad h2
     exact ⟨R, L, a, h1, h3, h4⟩
    clear hc
    have Ahm : Aside (je3 (fun q => (zq29 t fr q).bind fun r => (zq12 t ch r 4).bind fun l => idx l to) by_ D.reverse = some y) := Z
    clear Z
    gi_wp2
    refine ⟨trivial, CallsIn.mono (callsIn_wide.2 (jsg ypk (x := (t, fr)) hD rfl rfl rfl (jc2 (uT w2 hb2) (jc2 (jft fr) ji3)) (uF w2 hb2) (uJ w2 hb2))) ?_⟩
    rintro e w3 ⟨v, rfl, hb3, hI⟩
    have L3 := (⟨c1, c2, c3, c4, c5, c6, c7, c8, f8, c9, f9, lt⟩ : LateW w.heap.size w2 s1 s2 s3 ch fr to by_).below hb3
    have hb3 : Below w.heap.size w w3 := hb2.trans (hb3.mono hb2.size)
    clear hb2 c1 c2 c3 c4 c5 c6 c7 c8 f8 c9 f9 lt
    obtain ⟨a, len, cap, hv, hvb⟩ : ∃ a len cap, v = .slice a len cap /\ ∀ x k c, v = .slice (some x) k c -> x.block < w3.heap.size := by
     rcases hI with ⟨rfl, _⟩ | ⟨b, off, cap, rfl, _, h3, _⟩
     ·exact ⟨_, _, _, rfl, fun x k c h => by cases h⟩
     ·exact ⟨_, _, _, rfl, fun x k c h => by cases h; exact h3⟩
    subst hv
    have hDl : D.length <= 9223372036854775807 := by
     rcases hI with ⟨_, rfl⟩ | ⟨_, _, _, _, _, _, h4, h5, _⟩
     ·simp
     ·unfold maxLen at h5; omega
    gi_wp2
    refine ⟨trivial, CallsIn.mono (ylp _ a len cap w3) ?_⟩
    rintro e w4 ⟨rfl, hw4⟩
    have hb34 : Below w3.heap.size w3 w4 := by rw [hw4]; exact (Below.refl _ w3).alloc (Nat.le_refl _) _
    have cB : w4.cell? ⟨w3.heap.size, 0, none⟩ = some (.slice a len cap) := by rw [hw4]; exact cell_of_row _ _ 0 _ _ _ (World.alloc_heap_new w3 _)
    have s4 : w4.heap.size = w3.heap.size + 1 := by rw [hw4]; simp
    have L4 := L3.below hb34
    have hb4 : Below w.heap.size w w4 := hb3.trans (hb34.mono hb3.size)
    have I4 := hI.below hb34
    clear hw4 L3 hI hb34
    gi_wp2
    refine wpIn_rangeFunc_ownG hro (by omega) (gf := 97) (lb := #[.pointer (some ⟨w3.heap.size, 0, none⟩)]) rfl trivial (enters_of func97 (by kernel_rfl) rfl)
     (yjm (9 - 1) w3.heap.size w4.heap.size w2.heap.size _ D hDl w4 (by omega) (Nat.le_refl _) cB I4 (fun x k c h => by have := hvb x k c h; omega)) belowK_t (belowK_b (Nat.le_refl _)) (Below.refl _ _) (fun _ => rfl)
     (fun pre W => (∀ p ∈ pre, ∃ a, ((zq29 t fr p.1.2).bind fun r => (zq12 t ch r 4).bind fun l => idx l to) = some a /\ ¬ a <= by_) /\ Below w4.heap.size w4 W)
     (fun c pre W => (c = .ret /\ ∃ ini last, pre = ini ++ [last] /\ (∀ p ∈ ini, ∃ a, ((zq29 t fr p.1.2).bind fun r => (zq12 t ch r 4).bind fun l => idx l to) = some a /\ ¬ a <= by_) /\ (∃ a, ((zq29 t fr last.1.2).bind fun r => (zq12 t ch r 4).bind fun l => idx l to) = some a /\ a <= by_) /\
      W.cell? ⟨w.heap.size + 1 + 1 + 1 + 1 + 1, 0, none⟩ = some (.int .i64 last.1.2) /\ W.cell? ⟨w.heap.size + 1 + 1 + 1 + 1 + 1 + 1, 0, none⟩ = some (.bool true)) /\ Below w.heap.size w4 W)
     (OwnFrom.and (fun s W W' row hs _ _ => hs) (ownFrom_below (Nat.le_refl _) (Nat.le_refl _)))
     (fun c => OwnFrom.and (Own.from (fun s A B row hs hg hr => by
      obtain ⟨hc, ini, last, e1, e2, e3, e4, e5⟩ := hs
      exact ⟨hc, ini, last, e1, e2, e3, cell_kept e4 hg hr, cell_kept e5 hg hr⟩) _) (ownFrom_below hb4.size hb4.size))
     ⟨by simp, Below.refl _ _⟩ (fun x => { tmps := #[.agg #[s1, s2, s3], .int .i64 ch, .int .i64 fr, .int .i64 to, .int .i64 by_, .pointer (some ⟨w.heap.size, 0, none⟩), .pointer (some ⟨w.heap.size + 1, 0, none⟩), .pointer (some ⟨w.heap.size + 1 + 1, 0, none⟩), .pointer (some ⟨w.heap.size + 1 + 1 + 1, 0, none⟩), .pointer (some ⟨w.heap.size + 1 + 1 + 1 + 1, 0, none⟩), .pointer (some ⟨w.heap.size + 1 + 1 + 1 + 1 + 1, 0, none⟩), .pointer (some ⟨w.heap.size + 1 + 1 + 1 + 1 + 1 + 1, 0, none⟩), undef, .int .i64 x.1.2,
     .agg #[s1, s2, s3], .int .i64 ch, .int .i64 fr, .int .i64 by_, .bool true, .bool false, .bool false, .pointer (some ⟨w.heap.size, 0, none⟩), .agg #[s1, s2], .int .i64 to, .bool true, .bool false, .bool false, .bool false, .int .i64 fr, .int .i64 to, .bool false, .bool false, .agg #[s1, s2, s3], .int .i64 fr, .slice a len cap,
     .func (.func 97) #[] #[.pointer (some ⟨w3.heap.size, 0, none⟩)], .int .i64 x.1.1, .int .i64 x.1.2, undef, undef, undef, undef, undef, undef, undef, undef, undef, undef, undef, undef, undef], defers := [] }) ?assign ?body ?done ?stop
    case assign =>
     intro l x W K hK
     gi_wp2
     exact hK
    case body =>
     rintro l pre x W ⟨hp, hB⟩ _
     obtain ⟨c1, c2, c3, c4, c5, c6, c7, c8, f8, c9, f9, lt⟩ := L4.below hB
     obtain ⟨R, Ls, av, hR, hLs, hav⟩ := hall x.1.2 x.2
     have hbW : Below w.heap.size w W := hb4.trans (hB.mono hb4.size)
     have n4 : w.heap.size <= W.heap.size := hbW.size
     let F' : Nat -> Prop := fun b => F b \/ (w.heap.size <= b /\ b < w.heap.size + 5)
     have hF' : ∀ b, F' b -> b < W.heap.size := fun b hb => by
      rcases hb with hb | hb
      ·exact uF W hbW b hb
      ·omega
     have hT' : RC F' W [Enc.e t.Network.Stops, Enc.e t.Network.Lines, Enc.e t.Trips] [s1, s2, s3] := by
      have h := RD.mono (F' := F') (w' := W) (fun _ h => .inl h) (fun _ _ => rfl) (uT W hbW)
      obtain ⟨cs, e1, e2⟩ := (show ∃ cs : List Value, Value.agg #[s1, s2, s3] = .agg cs.toArray /\ RC F' W [Enc.e t.Network.Stops, Enc.e t.Network.Lines, Enc.e t.Trips] cs from by unfold RD at h; exact h)
      have : cs = [s1, s2, s3] := by
       have := congrArg Array.toList (Value.agg.inj e1)
       simpa using this.symm
      rw [<- this]; exact e2
     have one1 : ∀ (b : Nat) (v : Int), W.cell? ⟨b, 0, none⟩ = some (.int .i64 v) -> F' b -> RV K0 F' W (.fp [Enc.e v]) (.pointer (some ⟨b, 0, none⟩)) := fun b v hc hb => by
      refine js2 (us := [.int .i64 v]) hb (fun j u hu => ?_) ?_
      ·cases j with
       | zero => simp at hu; rw [<- hu]; exact hc
       | succ j => simp at hu
      ·unfold RC
       exact ⟨_, [], rfl, rfl, jft v, by unfold RC; rfl⟩
     have r5 : RV K0 F' W (.fp [Enc.e t.Network.Stops, Enc.e t.Network.Lines, Enc.e t.Trips]) (.pointer (some ⟨w.heap.size, 0, none⟩)) := by
      refine js2 (us := [s1, s2, s3]) (.inr ⟨by omega, by omega⟩) (fun j u hu => ?_) hT'
      rcases j with _ | _ | _ | j
      ·simp at hu; rw [<- hu]; exact c1
      ·simp at hu; rw [<- hu]; exact c2
      ·simp at hu; rw [<- hu]; exact c3
      ·simp at hu
     have r6 := one1 _ _ c4 (.inr ⟨by omega, by omega⟩)
     have r7 := one1 _ _ c5 (.inr ⟨by omega, by omega⟩)
     have r8 := one1 _ _ c6 (.inr ⟨by omega, by omega⟩)
     have r9 := one1 _ _ c7 (.inr ⟨by omega, by omega⟩)
     have G : GG Tryz.prog ty ⟨fun b => b < W.heap.size, fun _ => True, W.heap.size, 0, K0, tJ⟩ 0 [fo yfb, fo yfj] := ⟨tt, rfl, rfl⟩
     refine wpIn_block (wpIn_seq ?_)
     refine wpIn_mono (Q := fun e a' w' => e = .normal /\ a'.tmps.size = 51 /\ a'.defers = [] /\ a'.tmps.getD 49 undef = .bool (decide (av <= by_)) /\ a'.tmps.getD 13 undef = .int .i64 x.1.2 /\ a'.tmps.getD 10 undef = .pointer (some ⟨w.heap.size + 1 + 1 + 1 + 1 + 1, 0, none⟩) /\ a'.tmps.getD 11 undef = .pointer (some ⟨w.heap.size + 1 + 1 + 1 + 1 + 1 + 1, 0, none⟩) /\ Below W.heap.size W w') ?reg ?rest
     case reg =>
      refine jkq (x := ⟨[(5, .fp [Enc.e t.Network.Stops, Enc.e t.Network.Lines, Enc.e t.Trips]), (6, .fp [Enc.e ch]), (7, .fp [Enc.e fr]), (8, .fp [Enc.e to]), (9, .fp [Enc.e by_]), (10, .dat (.sc (.pointer (some ⟨w.heap.size + 1 + 1 + 1 + 1 + 1, 0, none⟩)))), (11, .dat (.sc (.pointer (some ⟨w.heap.size + 1 + 1 + 1 + 1 + 1 + 1, 0, none⟩)))), (13, .dat (Enc.e x.1.2))], [], 16⟩) (n := 51) G.t.mx G.t.ty G.ok G.lv [] (by kernel_rfl) (by kernel_rfl) (Go.Ab.hC 5 (ycq.c (_, _, _) hR) (Go.Ab.hF 6 (yed hLs) ⟨(jdf jec jb4), jb4⟩ (Go.Ab.hD 8 hav (Go.Ab.hE 9 hav Go.Ab.h0)))).hs (Go.Ab.hC 5 (ycq.c (_, _, _) hR) (Go.Ab.hF 6 (yed hLs) ⟨(jdf jec jb4), jb4⟩ (Go.Ab.hD 8 hav (Go.Ab.hE 9 hav Go.Ab.h0)))).ok (by kernel_rfl) (jqv (EL := ([.unk, .unk, .unk, .unk, .unk, .fp [Enc.e t.Network.Stops, Enc.e t.Network.Lines, Enc.e t.Trips], .fp [Enc.e ch], .fp [Enc.e fr], .fp [Enc.e to], .fp [Enc.e by_], .dat (.sc (.pointer (some ⟨w.heap.size + 1 + 1 + 1 + 1 + 1, 0, none⟩))), .dat (.sc (.pointer (some ⟨w.heap.size + 1 + 1 + 1 + 1 + 1 + 1, 0, none⟩))), .unk, .dat (Enc.e x.1.2)] ++ List.replicate 37 .unk)) hF' ((uJ W hbW).mono (fun _ h => .inl h) (fun _ _ => rfl)) rfl (by kernel_rfl) (jdy jgp (jdy jgp (jdy jgp (jdy jgp (jdy jgp (jdy r5 (jdy r6 (jdy r7 (jdy r8 (jdy r9 (jdy (by unfold RV RD; exact ⟨rfl, rfl⟩) (jdy (by unfold RV RD; exact ⟨rfl, rfl⟩) (jdy jgp (jdy (by unfold RV; exact jft _) (joe 37 _ (by rfl)))))))))))))))) (by kernel_rfl)) ?lo [(49, .dat (.sc (.bool (decide (av <= by_))))), (13, .dat (.sc (.int .i64 x.1.2))), (10, .dat (.sc (.pointer (some ⟨w.heap.size + 1 + 1 + 1 + 1 + 1, 0, none⟩)))), (11, .dat (.sc (.pointer (some ⟨w.heap.size + 1 + 1 + 1 + 1 + 1 + 1, 0, none⟩))))] (by kernel_rfl) ?fin
      case lo => rintro ⟨a, w, h⟩; cases h.1
      case fin =>
       intro κ' F2 a' w' h1 h2 sz df hfs
       have rvsc : ∀ u v, RV κ' F2 w' (.dat (.sc u)) v -> v = u := fun u v h => by unfold RV RD at h; exact h.1
       exact ⟨rfl, sz, df, rvsc _ _ (hfs (_, _) (List.mem_cons_self ..)), rvsc _ _ (hfs (_, _) (List.mem_cons_of_mem _ (List.mem_cons_self ..))), rvsc _ _ (hfs (_, _) (List.mem_cons_of_mem _ (List.mem_cons_of_mem _ (List.mem_cons_self ..)))), rvsc _ _ (hfs (_, _) (List.mem_cons_of_mem _ (List.mem_cons_of_mem _ (List.mem_cons_of_mem _ (List.mem_cons_self ..))))), h2.os, h2.tape, h2.output, h2.size, fun k hk => h2.block k (.inr hk)⟩
     case rest =>
      rintro e a' w' ⟨rfl, sz, df, q49, q13, q10, q11, hb5⟩
      have hA : ((zq29 t fr x.1.2).bind fun r => (zq12 t ch r 4).bind fun l => idx l to) = some av := by
       rw [hR, Option.bind_some, hLs, Option.bind_some]; exact hav
      have L5 := (⟨c1, c2, c3, c4, c5, c6, c7, c8, f8, c9, f9, lt⟩ : LateW w.heap.size W s1 s2 s3 ch fr to by_).below hb5
      have hkf : KeepsFrom w4.heap.size W w' := ⟨hb5.size, fun k o _ hk _ => (hb5.block k (Array.getElem?_eq_some_iff.1 hk).1).trans hk⟩
      by_cases hle : av <= by_
      ·refine wpIn_cond_true (by show a'.tmps.getD 49 undef = _; rw [q49, decide_eq_true hle]) ?_
       clear c1 c2 c3 c4 c5 c6 c7 c8 f8 c9 f9 lt
       obtain ⟨c1, c2, c3, c4, c5, c6, c7, c8, f8, c9, f9, lt⟩ := L5
       obtain ⟨⟨T⟩, ds⟩ := a'
       simp only at sz df q13 q10 q11
       subst df
       replace sz : T.length = 51 := sz
       obtain ⟨t0, T0, rfl, sz0⟩ := ja7 sz
       obtain ⟨t1, T1, rfl, sz1⟩ := ja7 sz0
       obtain ⟨t2, T2, rfl, sz2⟩ := ja7 sz1
       obtain ⟨t3, T3, rfl, sz3⟩ := ja7 sz2
       obtain ⟨t4, T4, rfl, sz4⟩ := ja7 sz3
       obtain ⟨t5, T5, rfl, sz5⟩ := ja7 sz4
       obtain ⟨t6, T6, rfl, sz6⟩ := ja7 sz5
       obtain ⟨t7, T7, rfl, sz7⟩ := ja7 sz6
       obtain ⟨t8, T8, rfl, sz8⟩ := ja7 sz7
       obtain ⟨t9, T9, rfl, sz9⟩ := ja7 sz8
       obtain ⟨t10, T10, rfl, sz10⟩ := ja7 sz9
       obtain ⟨t11, T11, rfl, sz11⟩ := ja7 sz10
       obtain ⟨t12, T12, rfl, sz12⟩ := ja7 sz11
       obtain ⟨t13, T13, rfl, sz13⟩ := ja7 sz12
       obtain ⟨t14, T14, rfl, sz14⟩ := ja7 sz13
       obtain ⟨t15, T15, rfl, sz15⟩ := ja7 sz14
       obtain ⟨t16, T16, rfl, sz16⟩ := ja7 sz15
       obtain ⟨t17, T17, rfl, sz17⟩ := ja7 sz16
       obtain ⟨t18, T18, rfl, sz18⟩ := ja7 sz17
       obtain ⟨t19, T19, rfl, sz19⟩ := ja7 sz18
       obtain ⟨t20, T20, rfl, sz20⟩ := ja7 sz19
       obtain ⟨t21, T21, rfl, sz21⟩ := ja7 sz20
       obtain ⟨t22, T22, rfl, sz22⟩ := ja7 sz21
       obtain ⟨t23, T23, rfl, sz23⟩ := ja7 sz22
       obtain ⟨t24, T24, rfl, sz24⟩ := ja7 sz23
       obtain ⟨t25, T25, rfl, sz25⟩ := ja7 sz24
       obtain ⟨t26, T26, rfl, sz26⟩ := ja7 sz25
       obtain ⟨t27, T27, rfl, sz27⟩ := ja7 sz26
       obtain ⟨t28, T28, rfl, sz28⟩ := ja7 sz27
       obtain ⟨t29, T29, rfl, sz29⟩ := ja7 sz28
       obtain ⟨t30, T30, rfl, sz30⟩ := ja7 sz29
       obtain ⟨t31, T31, rfl, sz31⟩ := ja7 sz30
       obtain ⟨t32, T32, rfl, sz32⟩ := ja7 sz31
       obtain ⟨t33, T33, rfl, sz33⟩ := ja7 sz32
       obtain ⟨t34, T34, rfl, sz34⟩ := ja7 sz33
       obtain ⟨t35, T35, rfl, sz35⟩ := ja7 sz34
       obtain ⟨t36, T36, rfl, sz36⟩ := ja7 sz35
       obtain ⟨t37, T37, rfl, sz37⟩ := ja7 sz36
       obtain ⟨t38, T38, rfl, sz38⟩ := ja7 sz37
       obtain ⟨t39, T39, rfl, sz39⟩ := ja7 sz38
       obtain ⟨t40, T40, rfl, sz40⟩ := ja7 sz39
       obtain ⟨t41, T41, rfl, sz41⟩ := ja7 sz40
       obtain ⟨t42, T42, rfl, sz42⟩ := ja7 sz41
       obtain ⟨t43, T43, rfl, sz43⟩ := ja7 sz42
       obtain ⟨t44, T44, rfl, sz44⟩ := ja7 sz43
       obtain ⟨t45, T45, rfl, sz45⟩ := ja7 sz44
       obtain ⟨t46, T46, rfl, sz46⟩ := ja7 sz45
       obtain ⟨t47, T47, rfl, sz47⟩ := ja7 sz46
       obtain ⟨t48, T48, rfl, sz48⟩ := ja7 sz47
       obtain ⟨t49, T49, rfl, sz49⟩ := ja7 sz48
       obtain ⟨t50, T50, rfl, sz50⟩ := ja7 sz49
       obtain rfl := List.eq_nil_of_length_eq_zero sz50
       replace q13 : t13 = _ := q13
       replace q10 : t10 = _ := q10
       replace q11 : t11 = _ := q11
       subst q13 q10 q11
       refine wpIn_mono (Q := fun e _ w2 => e = .ret /\ w2 = ((w'.setCell ⟨w.heap.size + 1 + 1 + 1 + 1 + 1, 0, none⟩ (.int .i64 x.1.2)).setCell ⟨w.heap.size + 1 + 1 + 1 + 1 + 1 + 1, 0, none⟩ (.bool true))) ?st ?_
       case st =>
        clear q49 hb5 hA hkf hav hLs hR r5 r6 r7 r8 r9 one1 hT' hF' hB hp L4 hb4 I4 G
        gi_wp2
       ·rintro e a2 w5 ⟨rfl, rfl⟩
        obtain ⟨g1, g2, g3⟩ := jg5 (B := w.heap.size) (W := w') (by rw [c8]; rfl) (by rw [c9]; rfl) (.int .i64 x.1.2) (.bool true)
        refine ⟨hkf.trans (((KeepsOthers.setCell _ _ _).trans (KeepsOthers.setCell _ _ _)).from _), ⟨rfl, pre, x, rfl, hp, ⟨av, hA, hle⟩, g1, g2⟩, ?_⟩
        exact ((hB.mono hb4.size).trans (hb5.mono n4)).trans (g3 _ (Nat.le_refl _))
      ·refine wpIn_cond_false (by show a'.tmps.getD 49 undef = _; rw [q49, decide_eq_false hle]) (wpIn_skip ?_)
       refine ⟨hkf, hb5.mono hB.size, fun p hp' => ?_, hB.trans (hb5.mono hB.size)⟩
       rcases List.mem_append.1 hp' with h | h
       ·exact hp p h
       ·rw [List.mem_singleton] at h
        subst h
        exact ⟨av, hA, hle⟩
    case done =>
     rintro Dd xs W hDd hS ⟨hno, hB⟩ hK
     obtain ⟨c1, c2, c3, c4, c5, c6, c7, c8, f8, c9, f9, lt⟩ := L4.below hB
     have hbW : Below w.heap.size w W := hb4.trans (hB.mono hb4.size)
     have n5 : w.heap.size <= Dd := Nat.le_trans hb4.size hDd
     have hy : y = (0, false) := by
      have h2 : D.reverse = xs.map (fun p => p.1.2) := by rw [<- jif, <- hS, List.map_map]; rfl
      have h := Ahm.out
      rw [h2, jmf (fun τ hτ => by obtain ⟨p, hp, rfl⟩ := List.mem_map.1 hτ; exact hno p hp)] at h
      exact (Option.some.inj h).symm
     subst hy
     clear hno hS Ahm hall hB I4 cB hD uT uN uJ uF L4 Z hr hr2
     gi_wp2
     obtain ⟨g1, g2, g3⟩ := jg5 (B := w.heap.size) (W := W) (by rw [c8]; rfl) (by rw [c9]; rfl) (.int .i64 0) (.bool false)
     have hK' := ((KeepsOthers.setCell W ⟨w.heap.size + 1 + 1 + 1 + 1 + 1, 0, none⟩ (.int .i64 0)).trans (KeepsOthers.setCell _ ⟨w.heap.size + 1 + 1 + 1 + 1 + 1 + 1, 0, none⟩ (.bool false))).same Dd _ hK rfl
     refine ⟨by simp, .inl ⟨_, _, rfl, run_takeDeferred hK', ?_⟩⟩
     have q1 := cell_kept g1 (grownBy_putObj' _ Dd (.deferred none)) (fun r e => by cases e; exact ⟨_, hK', rfl⟩)
     have q2 := cell_kept g2 (grownBy_putObj' _ Dd (.deferred none)) (fun r e => by cases e; exact ⟨_, hK', rfl⟩)
     refine ⟨.tuple #[.int .i64 0, .bool false], ?_, rfl, (hbW.trans (g3 _ (Nat.le_refl _))).trans (belowK_b (w := w) (Nat.le_refl _) _ Dd _ _ n5 hK' rfl rfl)⟩
     simp [results, Tryz.f21, go_sem, q1, q2]
    case stop =>
     rintro Dd c pre W hDd ⟨k, hk, hpre⟩ ⟨⟨rfl, ini, last, e1, e2, e3, e4, e5⟩, hB⟩ hK
     have hbW : Below w.heap.size w W := hb4.trans hB
     have n5 : w.heap.size <= Dd := Nat.le_trans hb4.size hDd
     have hy : y = (last.1.2, true) := by
      have h2 : D.reverse = ini.map (fun p => p.1.2) ++ last.1.2 :: D.reverse.drop k := by
       have h3 : D.reverse.take k = pre.map (fun p => p.1.2) := by rw [<- jlc D hk, <- hpre, List.map_map]; rfl
       rw [e1, List.map_append] at h3
       conv => lhs; rw [<- List.take_append_drop k D.reverse, h3]
       simp
      have h := Ahm.out
      rw [h2, jj9 e3 (fun τ hτ => by obtain ⟨p, hp, rfl⟩ := List.mem_map.1 hτ; exact e2 p hp)] at h
      exact (Option.some.inj h).symm
     subst hy
     clear e1 e2 e3 hpre Ahm hall hB I4 cB hD uT uN uJ uF L4 Z hr hr2
     gi_wp2
     refine ⟨by simp, .inl ⟨_, _, rfl, run_takeDeferred hK, ?_⟩⟩
     have q1 := cell_kept e4 (grownBy_putObj' _ Dd (.deferred none)) (fun r e => by cases e; exact ⟨_, hK, rfl⟩)
     have q2 := cell_kept e5 (grownBy_putObj' _ Dd (.deferred none)) (fun r e => by cases e; exact ⟨_, hK, rfl⟩)
     refine ⟨.tuple #[.int .i64 last.1.2, .bool true], ?_, rfl, hbW.trans (belowK_b (w := w) (Nat.le_refl _) W Dd _ _ n5 hK rfl rfl)⟩
     simp [results, Tryz.f21, go_sem, q1, q2]
theorem yqb : FnOK Tryz.prog tJ 21 yn3.S := by
 refine ⟨call21, ?_⟩
 rintro vs w F ds obs κ ⟨⟨t, ch, fr, to, by_⟩, y, rfl, rfl, hy⟩ hargs hFl hJ hobs
 have hargs : RVs κ F w [.dat (Enc.e t), .dat (Enc.e ch), .dat (Enc.e fr), .dat (Enc.e to), .dat (Enc.e by_)] vs := hargs
 obtain ⟨vT, rfl, hT⟩ : ∃ vT, vs = [vT, .int .i64 ch, .int .i64 fr, .int .i64 to, .int .i64 by_] /\ RD F w (Enc.e t) vT := by
  unfold RVs at hargs
  obtain ⟨vT, r1, rfl, k0, hargs⟩ := hargs
  unfold RV at k0
  exact ⟨vT, by rw [jl1 (l := [ch, fr, to, by_]) hargs]; rfl, k0⟩
 obtain ⟨s1, s2, s3, rfl, hN⟩ : ∃ s1 s2 s3, vT = .agg #[s1, s2, s3] /\ RD F w (Enc.e t.Network) (.agg #[s1, s2]) := by
  have h : ∃ cs : List Value, vT = .agg cs.toArray /\ RC F w [Enc.e t.Network.Stops, Enc.e t.Network.Lines, Enc.e t.Trips] cs := by
   have h : RD F w (.agg [Enc.e t.Network.Stops, Enc.e t.Network.Lines, Enc.e t.Trips]) vT := hT
   unfold RD at h; exact h
  obtain ⟨cs, rfl, h⟩ := h
  unfold RC at h
  obtain ⟨s1, r1, rfl, o1, q1, h⟩ := h
  unfold RC at h
  obtain ⟨s2, r2, rfl, o2, q2, h⟩ := h
  unfold RC at h
  obtain ⟨s3, r3, rfl, o3, q3, h⟩ := h
  unfold RC at h
  subst h
  refine ⟨s1, s2, s3, rfl, ?_⟩
  show RD F w (.agg [Enc.e t.Network.Stops, Enc.e t.Network.Lines]) _
  unfold RD
  refine ⟨[s1, s2], rfl, ?_⟩
  unfold RC
  refine ⟨s1, _, rfl, o1, q1, ?_⟩
  unfold RC
  refine ⟨s2, _, rfl, o2, q2, ?_⟩
  unfold RC; rfl
 refine Calls.mono (ym2 w F t ch fr to by_ y s1 s2 s3 hy hFl hJ hT hN) ?_
 rintro e w' ⟨rfl, hb⟩
 refine ⟨_, rfl, .tup [dV y.1, dV y.2], [], [], κ, κ, F, ?_⟩
 refine ⟨⟨(t, ch, fr, to, by_), y, rfl, rfl, hy, rfl, rfl, rfl⟩, fun _ h => h, fun _ h => .inl h, fun b hb' => Nat.lt_of_lt_of_le (hFl b hb') hb.size, ⟨hb.os, hb.tape, hb.output, hb.size, fun b hb' => hb.block b hb'.1⟩, ?_, ?_, ?_, ⟨?_, ?_, ?_⟩, ⟨?_, ?_, ?_⟩, ?_⟩
 ·unfold RV
  refine ⟨[.int .i64 y.1, .bool y.2], rfl, ?_⟩
  refine jdy (by unfold RV; exact jft _) (jdy ?_ ji3)
  unfold RV
  show RD F w' (.sc (.bool y.2)) _
  unfold RD; exact ⟨rfl, rfl⟩
 ·unfold NB NBs NBs NBs; exact ⟨by unfold NB; trivial, by unfold NB; trivial, trivial⟩
 all_goals (intros; simp_all)
end LateS
def yl6 : MS (Timetable × Int × Int × Int × Int) ((List Int) × Bool) := ⟨.x .r (.x .r (.x .r (.x .r .r))), fun x => zq9 x.1 x.2.1 x.2.2.1 x.2.2.2.1 x.2.2.2.2, fun y => .tup [dV y.1, dV y.2], fun _ => [], fun _ _ => []⟩
theorem yqy {t change from_ at_ by_ y} (Z : zq9 t change from_ at_ by_ = some y) : yl6.C (t, change, from_, at_, by_) y := yl6.c (t, change, from_, at_, by_) Z
theorem yqa : FnOK Tryz.prog tJ 22 yl6.S := by
 refine fm tt yl6 [fo yfi, fo yj9, fo yk9] call22 func22 rfl results22 ntmps22 ?_
 rintro ⟨t, change, from_, at_, by_⟩ y cx G (Z : zq9 t change from_ at_ by_ = some y)
 unfold zq9 at Z
 refine rg G (jac ?_)
 obtain ⟨r, h, Z⟩ := jad Z
 refine jn Z (fun v => ⟨[(1, dV change), (2, dV from_), (3, dV at_), (4, dV by_), (5, .ref 16 0), (25, dV v)], [bX 16 30 [dV t.Network.Stops, dV t.Network.Lines, dV t.Trips]], 48⟩) (fun v Z => ?_) ?_
 ·rcases bf Z with ⟨hb, Z⟩ | ⟨hb, Z⟩
  ·refine re G (hC 4 (ycs.c (_, _, _, _) h) (hO 6 (.b true) (hP hb h0))) ?_
   exact wJ G Z
  ·obtain ⟨r1, h1, Z⟩ := jad Z
   refine re G (hC 4 (ycs.c (_, _, _, _) h) (hO 6 (.b false) (hP hb (hC 8 (yka h1) h0)))) ?_
   exact wJ G Z
 rintro v Z
 refine cd Z ?_ ?_ <;> intro Z
 ·refine rg G ?_
  cases Z
  exact rt [] [[.z 1]]
 ·refine jae (thN (rg G (jac ?_)))
  obtain ⟨r2, h2, Z⟩ := jad Z
  refine rs G (hC 4 (yiy.c (_, _, _, _) h2) (hN 5 r2 h0)) ?_
  refine tl Z (fun v5 => ⟨[(12, .own 16)], [aX 16 3 v5], 48⟩) (fun v5 Z => ?_) ?_
  ·refine jab (lpP Z (fun (v1, v2) => ⟨[(4, dV by_), (12, .own 16), (30, .own 32), (31, dV (r2.length : Int)), (32, dV v1)], [aX 16 3 v2, aX 32 3 r2], 64⟩) (Wk_J G.hL ⟨[(4, []), (12, [.o 16]), (30, []), (31, []), (32, [])], [(32, 128, [])], [(16, 3, 1, [])], 64⟩ (by kernel_rfl)) ?_)
   rintro ⟨v1, v2⟩ r0 hb1 Z
   rw [yjq] at Z
   refine rg G (jac (cd Z ?_ ?_)) <;> intro Z
   ·refine jae (thN (jn Z (fun v3 => ⟨[(4, dV by_), (12, .own 16), (30, .own 32), (31, dV (r2.length : Int)), (32, dV v1)], [aX 16 3 v3, aX 32 3 r2], 64⟩) (fun v3 Z => ?_) ?_))
    ·refine jab ?_
     obtain ⟨e, h3, Z⟩ := jad Z
     refine rs G (hD 1 h3 (hE 2 h3 h0)) ?_
     refine jn Z (fun v4 => ⟨[(4, dV by_), (12, .own 16), (13, dV v1), (30, .own 32), (31, dV (r2.length : Int)), (32, dV v1), (43, dV v4)], [aX 16 3 v2, aX 32 3 r2], 64⟩) (fun v4 Z => ?_) ?_
     ·rcases bf Z with ⟨hb2, Z⟩ | ⟨hb2, Z⟩
      ·refine re G (hO 2 (.b true) (hP hb2 h0)) ?_
       exact wJ G Z
      ·refine re G (hO 2 (.b false) (hP hb2 h0)) ?_
       exact wJ G Z
     rintro v4 Z
     refine cd Z ?_ ?_ <;> intro Z
     ·obtain ⟨u, h4, Z⟩ := jad Z
      refine re G (hA 3 8 h4 h0) ?_
      exact ibN (wJ G Z)
     ·exact jae (ibN (wJ G Z))
    rintro v3 Z
    exact rh G (wL G Z)
   ·exact jaf (thE (thE (ibE (wD G Z hb1))))
  rintro v5 Z s hw
  refine thN (jai hw ?_)
  refine rg G ?_
  cases Z
  exact rt [] []
def yhc : MS ((List Int) × Int) Bool := ⟨.x .r .r, fun x => yjb x.1 x.2, fun y => dV y, fun _ => [], fun _ _ => []⟩
theorem ymd : FnOK Tryz.prog tJ 23 yhc.S := by
 refine fm tt yhc [] call23 func23 rfl results23 ntmps23 ?_
 rintro ⟨l, x⟩ y cx G (Z : yjb l x = some y)
 unfold yjb at Z
 refine rg G (jac (rg G (tF Z (fun _ => ⟨[], [], 32⟩) (fun v1 hr Z => ?_) ?_)))
 ·refine jab (lp G Z (fun v => ⟨[(0, dV l), (1, dV x), (5, dV v)], [], 32⟩) ?_)
  rintro v r0 hb Z
  rw [ycx] at Z
  refine jac (rs G (hN 2 l h0) ?_)
  refine cd Z ?_ ?_ <;> intro Z
  ·refine jae (thN (jac (jab ?_)))
   obtain ⟨e, h, Z⟩ := jad Z
   refine rs G (hD 2 h h0) ?_
   refine cd Z ?_ ?_ <;> intro Z
   ·refine rg G ?_
    have Z := eL Z hb hr
    cases Z
    exact rt [] []
   ·exact jae (ibN (thN (rh G (wL G Z))))
  ·exact jaf (thE (thE (ibE (wE G Z hb))))
 rintro ⟨⟩ Z s hw
 refine thN (jai hw ?_)
 refine rg G ?_
 cases Z
 exact rt [] []
def yb4 : MS ((List UInt8)) Bool := ⟨.r, ybf, fun y => dV y, fun _ => [], fun _ _ => []⟩
theorem v_FnEarliest_ok : FnOK Tryz.prog tJ 4 yb4.S := by
 refine fm tt yb4 [fo yme, fo yo4, fo yqi, fo yo3, fo ymc, fo yql, fo yqh, fo yqb, fo yqa, fo ymd] call4 func4 rfl results4 ntmps4 ?_
 rintro code y cx G (Z : ybf code = some y)
 unfold ybf at Z
 refine rg G (jac ?_)
 obtain ⟨r, h, Z⟩ := jad Z
 refine rs G (hC 1 (yhd.c _ h) h0) ?_
 refine cd Z ?_ ?_ <;> intro Z
 ·refine rg G ?_
  cases Z
  exact rt [] []
 ·refine jae (thN ?_)
  obtain ⟨r1, h1, Z⟩ := jad Z
  refine rs G (hC 1 (ykv.c _ h1) h0) ?_
  obtain ⟨r2, h2, Z⟩ := jad Z
  refine rs G (hO 5 (.fz [80, 81] [] []) (hC 5 (yo2.c (_, _, _, _, _) h2) h0)) ?_
  refine jac ?_
  obtain ⟨r3, h3, Z⟩ := jad Z
  refine rs G (hC 5 (yku.c (_, _, _, _, _) h3) h0) ?_
  refine jn Z (fun v => ⟨[(3, .ref 16 0), (4, dV r1.2.1), (5, dV r1.2.2.1), (6, dV r1.2.2.2.1), (7, dV r1.2.2.2.2), (8, dV r2.1), (9, dV r2.2), (55, dV v)], [bX 16 30 [dV r1.1.Network.Stops, dV r1.1.Network.Lines, dV r1.1.Trips]], 48⟩) (fun v Z => ?_) ?_
  ·rcases bf Z with ⟨hb, Z⟩ | ⟨hb, Z⟩
   ·refine re G (hO 3 (.b true) (hP hb h0)) ?_
    exact wJ G Z
   ·obtain ⟨r4, h4, Z⟩ := jad Z
    refine re G (hO 3 (.b false) (hP hb (hC 6 (yhb.c (_, _) h4) h0))) ?_
    exact wJ G Z
  rintro v Z
  refine cd Z ?_ ?_ <;> intro Z
  ·refine rg G ?_
   cases Z
   exact rt [] []
  ·refine jae (thN (jac (rg G (cd Z ?_ ?_)))) <;> intro Z
   ·refine rs G (hN 1 r2.1 h0) ?_
    cases Z
    exact rt [] []
   ·refine jae (thN ?_)
    obtain ⟨r5, h5, Z⟩ := jad Z
    refine rs G (hC 4 (ypa.c (_, _, _, _) h5) h0) ?_
    refine jac (jn Z (fun v1 => ⟨[(3, .ref 16 0), (4, dV r1.2.1), (5, dV r1.2.2.1), (6, dV r1.2.2.2.1), (7, dV r1.2.2.2.2), (8, dV r2.1), (12, dV r5.1), (91, dV v1)], [bX 16 30 [dV r1.1.Network.Stops, dV r1.1.Network.Lines, dV r1.1.Trips]], 48⟩) (fun v1 Z => ?_) ?_)
    ·rcases bf Z with ⟨hb1, Z⟩ | ⟨hb1, Z⟩
     ·refine re G (hO 2 (.b true) (hP hb1 h0)) ?_
      exact wJ G Z
     ·rcases bf Z with ⟨hb2, Z⟩ | ⟨hb2, Z⟩
      ·refine re G (hO 2 (.b false) (hP hb1 (hN 4 r5.1 (hN 8 r1.1.Network.Stops (hO 11 (.b true) (hP hb2 h0)))))) ?_
       exact wJ G Z
      ·obtain ⟨r6, h6, Z⟩ := jad Z
       rcases bf Z with ⟨hb3, Z⟩ | ⟨hb3, Z⟩
       ·refine re G (hO 2 (.b false) (hP hb1 (hN 4 r5.1 (hN 8 r1.1.Network.Stops (hO 11 (.b false) (hP hb2 (hC 15 (ymb.c (_, _, _) h6) (hO 18 (.b true) (hP hb3 h0))))))))) ?_
        exact wJ G Z
       ·refine re G (hO 2 (.b false) (hP hb1 (hN 4 r5.1 (hN 8 r1.1.Network.Stops (hO 11 (.b false) (hP hb2 (hC 15 (ymb.c (_, _, _) h6) (hO 18 (.b false) (hP hb3 (hN 20 r2.1 h0)))))))))) ?_
        exact wJ G Z
    rintro v1 Z
    refine cd Z ?_ ?_ <;> intro Z
    ·refine rg G ?_
     cases Z
     exact rt [] []
    ·refine jae (thN ?_)
     obtain ⟨e, h7, Z⟩ := jad Z
     refine rs G (hN 2 r2.1 (hD 4 h7 h0)) ?_
     obtain ⟨r7, h8, Z⟩ := jad Z
     refine rs G (hC 5 (yqz h8) h0) ?_
     obtain ⟨r8, h9, Z⟩ := jad Z
     refine rs G (hC 5 (yqy h9) h0) ?_
     obtain ⟨e1, h10, Z⟩ := jad Z
     refine jn Z (fun t => ⟨[(2, dV t)], [], 32⟩) (fun t Z => ?_) ?_
     ·rcases bf Z with ⟨hb4, Z⟩ | ⟨hb4, Z⟩
      ·obtain ⟨e2, h11, Z⟩ := jad Z
       rcases bf Z with ⟨hb5, Z⟩ | ⟨hb5, Z⟩
       ·obtain ⟨e3, h12, Z⟩ := jad Z
        rcases bf Z with ⟨hb6, Z⟩ | ⟨hb6, Z⟩
        ·obtain ⟨e4, h13, Z⟩ := jad Z
         rcases bf Z with ⟨hb7, Z⟩ | ⟨hb7, Z⟩
         ·rcases bf Z with ⟨hb8, Z⟩ | ⟨hb8, Z⟩
          ·obtain ⟨e5, h14, Z⟩ := jad Z
           rcases bf Z with ⟨hb9, Z⟩ | ⟨hb9, Z⟩
           ·rcases bf Z with ⟨hb10, Z⟩ | ⟨hb10, Z⟩
            ·obtain ⟨r9, h15, Z⟩ := jad Z
             refine re G (hD 1 h10 (hO 6 (.b true) (hP hb4 (hN 9 r2.1 (hD 11 h11 (hO 17 (.b true) (hP hb5 (hD 19 h12 (hO 25 (.b true) (hP hb6 (hD 28 h13 (hO 33 (.b true) (hP hb7 (hO 36 (.b true) (hP hb8 (hD 39 h14 (hO 44 (.b true) (hP hb9 (hO 47 (.b true) (hP hb10 (hC 50 (yhc.c (_, _) h15) h0))))))))))))))))))))) ?_
             exact wJ G Z
            ·refine re G (hD 1 h10 (hO 6 (.b true) (hP hb4 (hN 9 r2.1 (hD 11 h11 (hO 17 (.b true) (hP hb5 (hD 19 h12 (hO 25 (.b true) (hP hb6 (hD 28 h13 (hO 33 (.b true) (hP hb7 (hO 36 (.b true) (hP hb8 (hD 39 h14 (hO 44 (.b true) (hP hb9 (hO 47 (.b false) (hP hb10 h0)))))))))))))))))))) ?_
             exact wJ G Z
           ·refine re G (hD 1 h10 (hO 6 (.b true) (hP hb4 (hN 9 r2.1 (hD 11 h11 (hO 17 (.b true) (hP hb5 (hD 19 h12 (hO 25 (.b true) (hP hb6 (hD 28 h13 (hO 33 (.b true) (hP hb7 (hO 36 (.b true) (hP hb8 (hD 39 h14 (hO 44 (.b false) (hP hb9 h0)))))))))))))))))) ?_
            exact wJ G Z
          ·refine re G (hD 1 h10 (hO 6 (.b true) (hP hb4 (hN 9 r2.1 (hD 11 h11 (hO 17 (.b true) (hP hb5 (hD 19 h12 (hO 25 (.b true) (hP hb6 (hD 28 h13 (hO 33 (.b true) (hP hb7 (hO 36 (.b false) (hP hb8 h0))))))))))))))) ?_
           exact wJ G Z
         ·refine re G (hD 1 h10 (hO 6 (.b true) (hP hb4 (hN 9 r2.1 (hD 11 h11 (hO 17 (.b true) (hP hb5 (hD 19 h12 (hO 25 (.b true) (hP hb6 (hD 28 h13 (hO 33 (.b false) (hP hb7 h0))))))))))))) ?_
          exact wJ G Z
        ·refine re G (hD 1 h10 (hO 6 (.b true) (hP hb4 (hN 9 r2.1 (hD 11 h11 (hO 17 (.b true) (hP hb5 (hD 19 h12 (hO 25 (.b false) (hP hb6 h0)))))))))) ?_
         exact wJ G Z
       ·refine re G (hD 1 h10 (hO 6 (.b true) (hP hb4 (hN 9 r2.1 (hD 11 h11 (hO 17 (.b false) (hP hb5 h0))))))) ?_
        exact wJ G Z
      ·refine re G (hD 1 h10 (hO 6 (.b false) (hP hb4 h0))) ?_
       exact wJ G Z
     rintro t Z
     cases Z
     exact rt [] []
end
end Go.Proofs.YtdocbkbpjdjlpaaGreat
