/- Each function computes what its model says. Made by program (dec.py). -/
import Derived.Test.YtjahononbnbjnaaOfW1
namespace Go.Proofs.Ytjahononbnbjnaa
open Go Go.Ab Try
set_option maxRecDepth 100000
set_option maxHeartbeats 4000000
set_option linter.unusedVariables false
set_option linter.unusedSimpArgs false
noncomputable def zq35_M : MS (Network × Int × (List Pattern) × Int × Int × Int × Int) (Int × Bool) := ⟨.x .r (.x .r (.x .r (.x .r (.x .r (.x .r .r))))), fun x => zq35 x.1 x.2.1 x.2.2.1 x.2.2.2.1 x.2.2.2.2.1 x.2.2.2.2.2.1 x.2.2.2.2.2.2, fun y => .tup [dV y.1, dV y.2], fun _ => [], fun _ _ => []⟩
theorem zq35_ok : FnOK Try.prog tJ 55 zq35_M.S := by
 refine fm tt zq35_M [fo zq36_ok, fo zq57_ok, fo zq71_ok, fo zq41_ok] call55 func55 rfl results55 ntmps55 ?_
 rintro ⟨n, period, list, a, b, stop, walk⟩ y cx G (q : zq35 n period list a b stop walk = some y)
 unfold zq35 at q
 refine rg G (Ok_seq ?_)
 obtain ⟨r, h, q⟩ := obind q
 refine jn q (fun v => ⟨[(1, dV period), (2, dV list), (3, dV a), (4, dV b), (5, dV stop), (6, dV walk), (7, .ref 16 0), (53, dV v)], [bX 16 60 [dV n.Stops, dV n.Lines]], 48⟩) (fun v q => ?_) ?_
 ·rcases bf q with ⟨hb, q⟩ | ⟨hb, q⟩
  ·refine re G (hC 4 (zq36_M.c (_, _, _, _) h) (hO 6 (.b true) (hP hb h0))) ?_
   exact wJ G q
  ·obtain ⟨r1, h1, q⟩ := obind q
   rcases bf q with ⟨hb1, q⟩ | ⟨hb1, q⟩
   ·refine re G (hC 4 (zq36_M.c (_, _, _, _) h) (hO 6 (.b false) (hP hb (hN 9 list (hC 11 (zq57_c h1) (hO 14 (.b true) (hP hb1 h0))))))) ?_
    exact wJ G q
   ·obtain ⟨r2, h2, q⟩ := obind q
    rcases bf q with ⟨hb2, q⟩ | ⟨hb2, q⟩
    ·refine re G (hC 4 (zq36_M.c (_, _, _, _) h) (hO 6 (.b false) (hP hb (hN 9 list (hC 11 (zq57_c h1) (hO 14 (.b false) (hP hb1 (hN 17 list (hC 19 (zq57_c h2) (hO 22 (.b true) (hP hb2 h0))))))))))) ?_
     exact wJ G q
    ·rcases bf q with ⟨hb3, q⟩ | ⟨hb3, q⟩
     ·refine re G (hC 4 (zq36_M.c (_, _, _, _) h) (hO 6 (.b false) (hP hb (hN 9 list (hC 11 (zq57_c h1) (hO 14 (.b false) (hP hb1 (hN 17 list (hC 19 (zq57_c h2) (hO 22 (.b false) (hP hb2 (hO 27 (.b true) (hP hb3 h0))))))))))))) ?_
      exact wJ G q
     ·obtain ⟨r3, h3, q⟩ := obind q
      refine re G (hC 4 (zq36_M.c (_, _, _, _) h) (hO 6 (.b false) (hP hb (hN 9 list (hC 11 (zq57_c h1) (hO 14 (.b false) (hP hb1 (hN 17 list (hC 19 (zq57_c h2) (hO 22 (.b false) (hP hb2 (hO 27 (.b false) (hP hb3 (hC 29 (zq57_c h3) h0)))))))))))))) ?_
      exact wJ G q
 rintro v q
 refine cd q ?_ ?_ <;> intro q
 ·refine rg G ?_
  cases q
  exact rt [] []
 ·refine X_skip (thN ?_)
  obtain ⟨e4, h8, e5, h9, e6, h10, q⟩ := ob3 q
  obtain ⟨e7, h11, q⟩ := obind q
  refine ds G [(20, [336]), (21, [352])] (hD 4 h8 (hD 7 h9 (hD 13 h10 (hD 16 h11 h0)))) ?_
  obtain ⟨r6, h14, r7, h15, q⟩ := ob2 q
  refine ds G [] (hC 2 (zq71_M.c (_, _) h14) (hC 5 (zq71_M.c (_, _) h15) h0)) ?_
  refine Ok_seq (jn q (fun v1 => ⟨[(1, dV period), (2, dV list), (3, dV a), (4, dV b), (5, dV stop), (6, dV walk), (7, .ref 16 0), (91, dV v1)], [bX 16 60 [dV n.Stops, dV n.Lines]], 48⟩) (fun v1 q => ?_) ?_)
  ·rcases bf q with ⟨hb4, q⟩ | ⟨hb4, q⟩
   ·refine re G (hO 2 (.b true) (hP hb4 h0)) ?_
    exact wJ G q
   ·rcases bf q with ⟨hb5, q⟩ | ⟨hb5, q⟩
    ·refine re G (hO 2 (.b false) (hP hb4 (hO 6 (.b true) (hP hb5 h0)))) ?_
     exact wJ G q
    ·refine re G (hO 2 (.b false) (hP hb4 (hO 6 (.b false) (hP hb5 (hN 10 e7.Stops h0))))) ?_
     exact wJ G q
  rintro v1 q
  refine cd q ?_ ?_ <;> intro q
  ·refine rg G ?_
   cases q
   exact rt [] []
  ·refine X_skip (thN ?_)
   obtain ⟨e9, h18, r9, h19, q⟩ := ob2 q
   refine ds G [] (hD 4 h18 (hC 7 (zq41_M.c (_, _, _, _) h19) h0)) ?_
   obtain ⟨e11, h22, r11, h23, q⟩ := ob2 q
   refine ds G [] (hD 4 h22 (hC 7 (zq41_M.c (_, _, _, _) h23) h0)) ?_
   obtain ⟨u, h24, u1, h25, q⟩ := ob2 q
   refine rs G (hK h24 (hK h25 h0)) ?_
   cases q
   exact rt [] []
noncomputable def zq29_M : MS ((List UInt8)) (Network × Int × (List Pattern) × Int × Int) := ⟨.r, zq29, fun y => .tup [.aggv [.own 0, dV y.1.Lines], dV y.2.1, .own 1, dV y.2.2.2.1, dV y.2.2.2.2], fun y => [arO 9 y.1.Stops, arO 104 y.2.2.1], fun _ _ => []⟩
theorem zq29_ok : FnOK Try.prog tJ 56 zq29_M.S := by
 refine fm tt zq29_M [fo zq53_ok, fo zq58_ok, fo zq54_ok] call56 func56 rfl results56 ntmps56 ?_
 rintro code y cx G (q : zq29 code = some y)
 unfold zq29 at q
 refine rg G (rg G ?_)
 obtain ⟨r, h, q⟩ := obind q
 refine rs G (hC 1 (zq53_M.c (_, _) h) h0) ?_
 obtain ⟨r1, h1, q⟩ := obind q
 refine rs G (hN 1 r.2.2.1 (hC 2 (zq58_c h1) h0)) ?_
 obtain ⟨r5, h6, r6, h7, r7, h8, q⟩ := ob3 q
 obtain ⟨u1, h9, q⟩ := obind q
 refine ds G [(5, [128]), (9, [128]), (11, [128]), (14, [16, 176])] (hC 5 (zq54_c h6) (hC 9 (zq54_c h7) (hC 11 (zq54_c h8) (hK h9 h0)))) ?_
 cases q
 exact rt [176, 177] []
noncomputable def zq8_M : MS (Network × Int × (List Pattern) × Int × Int) ((List Int) × Bool) := ⟨.x .r (.x .r (.x .r (.x .r .r))), fun x => zq8 x.1 x.2.1 x.2.2.1 x.2.2.2.1 x.2.2.2.2, fun y => .tup [dV y.1, dV y.2], fun _ => [], fun _ _ => []⟩
theorem zq8_ok : FnOK Try.prog tJ 57 zq8_M.S := by
 refine fm tt zq8_M [fo zq6_ok, fo zq15_ok, fo zq21_ok] call57 func57 rfl results57 ntmps57 ?_
 rintro ⟨n, period, list, a, b⟩ y cx G (q : zq8 n period list a b = some y)
 unfold zq8 at q
 refine rg G (Ok_seq ?_)
 obtain ⟨r, h, q⟩ := obind q
 refine jn q (fun v => ⟨[(1, dV period), (2, dV list), (3, dV a), (4, dV b), (5, .ref 16 0), (31, dV v)], [bX 16 60 [dV n.Stops, dV n.Lines]], 48⟩) (fun v q => ?_) ?_
 ·rcases bf q with ⟨hb, q⟩ | ⟨hb, q⟩
  ·refine re G (hC 3 (zq6_M.c (_, _, _) h) (hO 5 (.b true) (hP hb h0))) ?_
   exact wJ G q
  ·obtain ⟨r1, h1, q⟩ := obind q
   rcases bf q with ⟨hb1, q⟩ | ⟨hb1, q⟩
   ·refine re G (hC 3 (zq6_M.c (_, _, _) h) (hO 5 (.b false) (hP hb (hC 8 (zq15_M.c (_, _) h1) (hO 11 (.b true) (hP hb1 h0)))))) ?_
    exact wJ G q
   ·obtain ⟨r2, h2, q⟩ := obind q
    refine re G (hC 3 (zq6_M.c (_, _, _) h) (hO 5 (.b false) (hP hb (hC 8 (zq15_M.c (_, _) h1) (hO 11 (.b false) (hP hb1 (hC 14 (zq15_M.c (_, _) h2) h0))))))) ?_
    exact wJ G q
 rintro v q
 refine cd q ?_ ?_ <;> intro q
 ·refine rg G ?_
  cases q
  exact rt [] [[.z 1]]
 ·refine X_skip (thN (rg G (Ok_seq ?_)))
  obtain ⟨e2, h5, e3, h6, q⟩ := ob2 q
  refine ds G [] (hD 4 h5 (hD 7 h6 (hN 10 e3.Stops h0))) ?_
  refine tl q (fun v4 => ⟨[(12, .own 16)], [aX 16 3 v4], 48⟩) (fun v4 q => ?_) ?_
  ·refine Ok_block (lpP q (fun (v1, v2) => ⟨[(1, dV period), (2, dV list), (3, dV a), (4, dV b), (5, .ref 16 0), (12, .own 32), (41, dV e3.Stops), (42, dV (e3.Stops.length : Int)), (43, dV v1)], [bX 16 60 [dV n.Stops, dV n.Lines], aX 32 3 v2], 64⟩) (Wk_J G.hL ⟨[(1, []), (2, []), (3, []), (4, []), (5, []), (12, [.o 32]), (41, []), (42, []), (43, [])], [(16, 16, [])], [(32, 3, 1, [])], 64⟩ (by kernel_rfl)) ?_)
   rintro ⟨v1, v2⟩ r0 hb2 q
   rw [zq8_L1] at q
   refine rg G (Ok_seq (cd q ?_ ?_)) <;> intro q
   ·refine X_skip (thN (jn q (fun v3 => ⟨[(1, dV period), (2, dV list), (3, dV a), (4, dV b), (5, .ref 16 0), (12, .own 32), (41, dV e3.Stops), (42, dV (e3.Stops.length : Int)), (43, dV v1)], [bX 16 60 [dV n.Stops, dV n.Lines], aX 32 3 v3], 64⟩) (fun v3 q => ?_) ?_))
    ·refine Ok_block ?_
     obtain ⟨e4, h7, q⟩ := obind q
     refine rs G (hD 1 h7 h0) ?_
     obtain ⟨e7, h12, r5, h13, e8, h14, q⟩ := ob3 q
     obtain ⟨r6, h15, q⟩ := obind q
     refine ds G [] (hD 4 h12 (hC 7 (zq21_M.c (_, _, _, _) h13) (hD 12 h14 (hC 15 (zq21_M.c (_, _, _, _) h15) h0)))) ?_
     refine cd q ?_ ?_ <;> intro q
     ·obtain ⟨u, h16, q⟩ := obind q
      refine re G (hA 3 8 h16 h0) ?_
      exact ibN (wJ G q)
     ·exact X_skip (ibN (wJ G q))
    rintro v3 q
    exact rh G (wL G q)
   ·exact Ok_exit (thE (thE (ibE (wD G q hb2))))
  rintro v4 q s hw
  refine thN (Ok_weak hw ?_)
  refine rg G ?_
  cases q
  exact rt [] []
noncomputable def zq34_M : MS (Network × Int × (List Pattern) × Int × Int) ((List Int) × Bool) := ⟨.x .r (.x .r (.x .r (.x .r .r))), fun x => zq34 x.1 x.2.1 x.2.2.1 x.2.2.2.1 x.2.2.2.2, fun y => .tup [.own 0, dV y.2], fun y => [arO 3 y.1], fun _ _ => []⟩
theorem zq34_ok : FnOK Try.prog tJ 58 zq34_M.S := by
 refine fm tt zq34_M [fo zq39_ok, fo zq57_ok, fo zq41_ok] call58 func58 rfl results58 ntmps58 ?_
 rintro ⟨n, period, list, a, b⟩ y cx G (q : zq34 n period list a b = some y)
 unfold zq34 at q
 refine rg G (rg G (Ok_seq ?_))
 obtain ⟨r, h, q⟩ := obind q
 refine jn q (fun v => ⟨[(1, dV period), (2, dV list), (3, dV a), (4, dV b), (5, .ref 16 0), (12, .own 32), (36, dV v)], [bX 16 60 [dV n.Stops, dV n.Lines], aX 32 3 ([] : List Int)], 64⟩) (fun v q => ?_) ?_
 ·rcases bf q with ⟨hb, q⟩ | ⟨hb, q⟩
  ·refine re G (hC 3 (zq39_M.c (_, _, _) h) (hO 5 (.b true) (hP hb h0))) ?_
   exact wJ G q
  ·obtain ⟨r1, h1, q⟩ := obind q
   rcases bf q with ⟨hb1, q⟩ | ⟨hb1, q⟩
   ·refine re G (hC 3 (zq39_M.c (_, _, _) h) (hO 5 (.b false) (hP hb (hN 8 list (hC 10 (zq57_c h1) (hO 13 (.b true) (hP hb1 h0))))))) ?_
    exact wJ G q
   ·obtain ⟨r2, h2, q⟩ := obind q
    refine re G (hC 3 (zq39_M.c (_, _, _) h) (hO 5 (.b false) (hP hb (hN 8 list (hC 10 (zq57_c h1) (hO 13 (.b false) (hP hb1 (hN 16 list (hC 18 (zq57_c h2) h0))))))))) ?_
    exact wJ G q
 rintro v q
 refine cd q ?_ ?_ <;> intro q
 ·refine rg G ?_
  cases q
  exact rt [32] []
 ·refine X_skip (thN ?_)
  obtain ⟨e2, h5, e3, h6, q⟩ := ob2 q
  refine ds G [] (hD 4 h5 (hD 7 h6 h0)) ?_
  refine Ok_seq (rg G (tl q (fun v4 => ⟨[(12, .own 16)], [aX 16 3 v4], 48⟩) (fun v4 q => ?_) ?_))
  ·refine Ok_block (lp G q (fun (v1, v2) => ⟨[(1, dV period), (2, dV list), (3, dV a), (4, dV b), (5, .ref 16 0), (12, .own 32), (13, dV e3.Stops), (14, dV v1)], [bX 16 60 [dV n.Stops, dV n.Lines], aX 32 3 v2], 64⟩) ?_)
   rintro ⟨v1, v2⟩ r0 hb2 q
   rw [zq34_L1] at q
   refine Ok_seq (rs G (hN 2 e3.Stops h0) ?_)
   refine cd q ?_ ?_ <;> intro q
   ·refine X_skip (thN (jn q (fun v3 => ⟨[(1, dV period), (2, dV list), (3, dV a), (4, dV b), (5, .ref 16 0), (12, .own 32), (13, dV e3.Stops), (14, dV v1)], [bX 16 60 [dV n.Stops, dV n.Lines], aX 32 3 v3], 64⟩) (fun v3 q => ?_) ?_))
    ·refine Ok_block ?_
     obtain ⟨e8, h13, e9, h14, r5, h15, q⟩ := ob3 q
     obtain ⟨e10, h16, e11, h17, r6, h18, q⟩ := ob3 q
     refine ds G [] (hD 4 h13 (hD 8 h14 (hC 10 (zq41_M.c (_, _, _, _) h15) (hD 15 h16 (hD 19 h17 (hC 21 (zq41_M.c (_, _, _, _) h18) h0)))))) ?_
     refine cd q ?_ ?_ <;> intro q
     ·obtain ⟨u, h19, q⟩ := obind q
      refine re G (hA 3 8 h19 h0) ?_
      exact ibN (wJ G q)
     ·exact X_skip (ibN (wJ G q))
    rintro v3 q
    exact rh G (wL G q)
   ·exact Ok_exit (thE (thE (ibE (wD G q hb2))))
  rintro v4 q s hw
  refine thN (Ok_weak hw ?_)
  refine rg G ?_
  cases q
  exact rt [16] []
noncomputable def zq28_M : MS ((List UInt8)) (Int × Int) := ⟨.r, zq28, fun y => .tup [dV y.1, dV y.2], fun _ => [], fun _ _ => []⟩
theorem zq28_ok : FnOK Try.prog tJ 59 zq28_M.S := by
 refine fm tt zq28_M [fo zq54_ok, fo zq43_ok] call59 func59 rfl results59 ntmps59 ?_
 rintro code y cx G (q : zq28 code = some y)
 unfold zq28 at q
 refine rg G (rg G ?_)
 obtain ⟨r, h, u, h1, u1, h2, q⟩ := ob3 q
 obtain ⟨r1, h3, q⟩ := obind q
 refine rs G (hC 3 (zq54_c h) (hK h1 (hO 6 (.fz [128] [] []) (hU 6 h2 (hC 7 (zq43_M.c (_, _) h3) h0))))) ?_
 obtain ⟨r2, h4, q⟩ := obind q
 refine rs G (hO 5 (.fz [320] [] []) (hC 5 (zq43_M.c (_, _) h4) h0)) ?_
 cases q
 exact rt [] []
noncomputable def zq4_M : MS (Int × Int) ((List Int) × Bool) := ⟨.x .r .r, fun x => zq4 x.1 x.2, fun y => .tup [dV y.1, dV y.2], fun _ => [], fun _ _ => []⟩
theorem zq4_ok : FnOK Try.prog tJ 60 zq4_M.S := by
 refine fm tt zq4_M [fo zq23_ok] call60 func60 rfl results60 ntmps60 ?_
 rintro ⟨count, period⟩ y cx G (q : zq4 count period = some y)
 unfold zq4 at q
 refine rg G (Ok_seq ?_)
 obtain ⟨r, h, q⟩ := obind q
 refine jn q (fun v => ⟨[(0, dV count), (1, dV period), (16, dV v)], [], 32⟩) (fun v q => ?_) ?_
 ·rcases bf q with ⟨hb, q⟩ | ⟨hb, q⟩
  ·refine re G (hC 1 (zq23_c h) (hO 3 (.b true) (hP hb h0))) ?_
   exact wJ G q
  ·obtain ⟨r1, h1, q⟩ := obind q
   refine re G (hC 1 (zq23_c h) (hO 3 (.b false) (hP hb (hC 6 (zq23_c h1) h0)))) ?_
   exact wJ G q
 rintro v q
 refine cd q ?_ ?_ <;> intro q
 ·refine rg G ?_
  cases q
  exact rt [] [[.z 1]]
 ·refine X_skip (thN ?_)
  obtain ⟨u, h2, q⟩ := obind q
  refine rs G (hO 1 (.l (List.map Enc.e (List.replicate count.toNat (0 : Int)))) (hP (mk_p (b := 8) (chk_t h2) rfl) (hP (rep_m Enc.e count.toNat (0 : Int)) h0))) ?_
  refine Ok_seq (rs G (hN 1 (List.replicate count.toNat (0 : Int)) h0) ?_)
  refine tl q (fun v3 => ⟨[(6, .own 16)], [aX 16 3 v3], 48⟩) (fun v3 q => ?_) ?_
  ·refine Ok_block (lp G q (fun (v1, v2) => ⟨[(0, dV count), (1, dV period), (6, .own 16), (20, dV ((List.replicate count.toNat (0 : Int)).length : Int)), (21, dV v1)], [aX 16 3 v2], 48⟩) ?_)
   rintro ⟨v1, v2⟩ r0 hb1 q
   rw [zq4_L1] at q
   refine rg G (Ok_seq (cd q ?_ ?_)) <;> intro q
   ·refine X_skip (thN (Ok_seq (Ok_block (rg G ?_))))
    obtain ⟨u1, h3, e, h4, q⟩ := ob2 q
    refine re G (hK h3 (hD 7 h4 (hS 8 h4 (w64 ((w64 (v1 * period)).tdiv count)) h0))) ?_
    exact ibN (thN (rh G (wL G q)))
   ·exact Ok_exit (thE (thE (ibE (wD G q hb1))))
  rintro v3 q s hw
  refine thN (Ok_weak hw ?_)
  refine rg G ?_
  cases q
  exact rt [] []
noncomputable def zq37_M : MS (Int × Int) ((List Int)) := ⟨.x .r .r, fun x => zq37 x.1 x.2, fun _ => .own 0, fun y => [arO 3 y], fun _ _ => []⟩
theorem zq37_ok : FnOK Try.prog tJ 151 zq37_M.S := by
 refine fm tt zq37_M [] call151 func151 rfl results151 ntmps151 ?_
 rintro ⟨count, period⟩ y cx G (q : zq37 count period = some y)
 unfold zq37 at q
 refine rg G (rg G (Ok_seq (rg G (tl q (fun v2 => ⟨[(5, .own 16)], [aX 16 3 v2], 48⟩) (fun v2 q => ?_) ?_))))
 ·refine Ok_block (lp G q (fun (v, v1) => ⟨[(0, dV count), (1, dV period), (5, .own 16), (6, dV v)], [aX 16 3 v1], 48⟩) ?_)
  rintro ⟨v, v1⟩ r0 hb q
  rw [zq37_L1] at q
  refine Ok_seq (rg G (cd q ?_ ?_)) <;> intro q
  ·refine X_skip (thN (Ok_seq (Ok_block ?_)))
   obtain ⟨u, h, u1, h1, q⟩ := ob2 q
   refine re G (hK h (hA 7 8 h1 h0)) ?_
   exact ibN (thN (rh G (wL G q)))
  ·exact Ok_exit (thE (thE (ibE (wD G q hb))))
 rintro v2 q s hw
 refine thN (Ok_weak hw ?_)
 refine rg G ?_
 cases q
 exact rt [16] []
noncomputable def zq31_M : MS (Int × Int) ((List Int) × Bool) := ⟨.x .r .r, fun x => zq31 x.1 x.2, fun y => .tup [.own 0, dV y.2], fun y => [arO 3 y.1], fun _ _ => []⟩
theorem zq31_ok : FnOK Try.prog tJ 61 zq31_M.S := by
 refine fm tt zq31_M [fo zq57_ok, fo zq37_ok] call61 func61 rfl results61 ntmps61 ?_
 rintro ⟨count, period⟩ y cx G (q : zq31 count period = some y)
 unfold zq31 at q
 refine rg G (Ok_seq ?_)
 obtain ⟨r, h, q⟩ := obind q
 refine jn q (fun v => ⟨[(0, dV count), (1, dV period), (14, dV v)], [], 32⟩) (fun v q => ?_) ?_
 ·rcases bf q with ⟨hb, q⟩ | ⟨hb, q⟩
  ·refine re G (hC 1 (zq57_c h) (hO 3 (.b true) (hP hb h0))) ?_
   exact wJ G q
  ·obtain ⟨r1, h1, q⟩ := obind q
   refine re G (hC 1 (zq57_c h) (hO 3 (.b false) (hP hb (hC 6 (zq57_c h1) h0)))) ?_
   exact wJ G q
 rintro v q
 refine cd q ?_ ?_ <;> intro q
 ·refine rg G ?_
  cases q
  exact rt [32] []
 ·refine X_skip (thN ?_)
  obtain ⟨r2, h2, q⟩ := obind q
  refine rs G (hC 2 (zq37_M.c (_, _) h2) h0) ?_
  cases q
  exact rt [64] []
noncomputable def v_FnOffsets_M : MS ((List UInt8)) Bool := ⟨.r, v_FnOffsets, fun y => dV y, fun _ => [], fun _ _ => []⟩
theorem v_FnOffsets_ok : FnOK Try.prog tJ 7 v_FnOffsets_M.S := by
 refine fm tt v_FnOffsets_M [fo zq92_ok, fo zq27_ok, fo zq2_ok, fo zq26_ok, fo zq93_ok, fo zq7_ok, fo zq30_ok, fo zq9_ok, fo zq35_ok, fo zq29_ok, fo zq8_ok, fo zq34_ok, fo zq28_ok, fo zq4_ok, fo zq31_ok] call7 func7 rfl results7 ntmps7 ?_
 rintro code y cx G (q : v_FnOffsets code = some y)
 unfold v_FnOffsets at q
 refine rg G (Ok_seq ?_)
 obtain ⟨r, h, q⟩ := obind q
 refine rs G (hC 1 (zq92_M.c _ h) h0) ?_
 refine cd q ?_ ?_ <;> intro q
 ·refine rg G ?_
  cases q
  exact rt [] []
 ·refine X_skip (thN ?_)
  obtain ⟨r1, h1, q⟩ := obind q
  refine rs G (hC 1 (zq27_M.c _ h1) h0) ?_
  obtain ⟨r2, h2, q⟩ := obind q
  refine rs G (hO 4 (.fz [80] [] []) (hC 4 (zq2_M.c (_, _, _, _) h2) h0)) ?_
  obtain ⟨r3, h3, q⟩ := obind q
  refine rs G (hC 4 (zq26_M.c (_, _, _, _) h3) h0) ?_
  refine Ok_seq (jn q (fun v => ⟨[(0, dV code), (3, .ref 16 0), (4, dV r1.2.1), (5, dV r1.2.2.1), (6, dV r1.2.2.2), (7, dV r2.1), (8, dV r2.2.1), (9, dV r2.2.2), (87, dV v)], [bX 16 60 [dV r1.1.Stops, dV r1.1.Lines]], 48⟩) (fun v q => ?_) ?_)
  ·rcases bf q with ⟨hb, q⟩ | ⟨hb, q⟩
   ·refine re G (hO 3 (.b true) (hP hb h0)) ?_
    exact wJ G q
   ·rcases bf q with ⟨hb1, q⟩ | ⟨hb1, q⟩
    ·refine re G (hO 3 (.b false) (hP hb (hO 8 (.b true) (hP hb1 h0)))) ?_
     exact wJ G q
    ·obtain ⟨r4, h4, q⟩ := obind q
     refine re G (hO 3 (.b false) (hP hb (hO 8 (.b false) (hP hb1 (hC 11 (zq93_M.c (_, _) h4) h0))))) ?_
     exact wJ G q
  rintro v q
  refine cd q ?_ ?_ <;> intro q
  ·refine rg G ?_
   cases q
   exact rt [] []
  ·refine X_skip (thN (jF q (fun _ => ⟨[(0, dV code)], [], 32⟩) (fun v3 hr q => ?_) ?_))
   ·refine rg G (cd q ?_ ?_) <;> intro q
    ·obtain ⟨u, h5, q⟩ := obind q
     refine rs G (hA 2 16 h5 h0) ?_
     refine Ok_seq (rg G (tl q (fun i1 => ⟨[(0, dV code), (3, .ref 16 0), (4, dV r1.2.1), (5, dV r1.2.2.1), (6, dV r1.2.2.2), (7, dV r2.1), (8, dV r2.2.1), (13, .own 32)], [bX 16 60 [dV r1.1.Stops, dV r1.1.Lines], aX 32 104 i1], 64⟩) (fun i1 q => ?_) ?_))
     ·refine Ok_block (lp G q (fun (now, i) => ⟨[(0, dV code), (3, .ref 16 0), (4, dV r1.2.1), (5, dV r1.2.2.1), (6, dV r1.2.2.2), (7, dV r2.1), (8, dV r2.2.1), (13, .own 32), (14, dV now)], [bX 16 60 [dV r1.1.Stops, dV r1.1.Lines], aX 32 104 i], 64⟩) ?_)
      rintro ⟨now, i⟩ r0 hb2 q
      rw [v_FnOffsets_L1] at q
      refine Ok_seq (rs G (hN 2 i h0) ?_)
      refine cd q ?_ ?_ <;> intro q
      ·refine X_skip (thN (Ok_seq (Ok_block ?_)))
       obtain ⟨e3, h9, e4, h10, e5, h11, q⟩ := ob3 q
       refine de G [(13, [32])] (hD 4 h9 (hD 9 h10 (hD 12 h11 (hS 13 h11 (⟨e3.Line, e4⟩ : Pattern) h0)))) ?_
       exact ibN (thN (rh G (wL G q)))
      ·exact Ok_exit (thE (thE (ibE (wD G q hb2))))
     rintro i1 q s hw
     refine thN (Ok_weak hw ?_)
     obtain ⟨r5, h12, q⟩ := obind q
     refine rs G (hC 4 (zq7_c h12) h0) ?_
     obtain ⟨r6, h13, q⟩ := obind q
     refine rs G (hC 4 (zq7_c h13) h0) ?_
     refine jn q (fun v1 => ⟨[(0, dV code), (154, dV v1)], [], 32⟩) (fun v1 q => ?_) ?_
     ·rcases bf q with ⟨hb3, q⟩ | ⟨hb3, q⟩
      ·refine de G [] (hO 2 (.b true) (hP hb3 h0)) ?_
       exact wJ G q
      ·rcases bf q with ⟨hb4, q⟩ | ⟨hb4, q⟩
       ·refine de G [] (hO 2 (.b false) (hP hb3 (hO 6 (.b true) (hP hb4 h0)))) ?_
        exact wJ G q
       ·rcases bf q with ⟨hb5, q⟩ | ⟨hb5, q⟩
        ·refine de G [] (hO 2 (.b false) (hP hb3 (hO 6 (.b false) (hP hb4 (hO 11 (.b true) (hP hb5 h0)))))) ?_
         exact wJ G q
        ·rcases bf q with ⟨hb6, q⟩ | ⟨hb6, q⟩
         ·refine de G [] (hO 2 (.b false) (hP hb3 (hO 6 (.b false) (hP hb4 (hO 11 (.b false) (hP hb5 (hO 16 (.b true) (hP hb6 h0)))))))) ?_
          exact wJ G q
         ·obtain ⟨e8, h16, e9, h17, q⟩ := ob2 q
          refine de G [] (hO 2 (.b false) (hP hb3 (hO 6 (.b false) (hP hb4 (hO 11 (.b false) (hP hb5 (hO 16 (.b false) (hP hb6 (hD 18 h16 (hD 21 h17 h0)))))))))) ?_
          exact wJ G q
     rintro v1 q
     refine cd q ?_ ?_ <;> intro q
     ·refine rg G ?_
      have q := eR q hr
      cases q
      exact rt [] []
     ·exact X_skip (wF G q)
    ·exact X_skip (wF G q)
   rintro ⟨⟩ q
   obtain ⟨r8, h18, q⟩ := obind q
   refine rs G (hC 1 (zq30_M.c _ h18) h0) ?_
   obtain ⟨r9, h19, q⟩ := obind q
   refine rs G (hC 7 (zq9_M.c (_, _, _, _, _, _, _) h19) h0) ?_
   refine Ok_seq ?_
   obtain ⟨r10, h20, q⟩ := obind q
   refine rs G (hC 7 (zq35_M.c (_, _, _, _, _, _, _) h20) h0) ?_
   refine jn q (fun v2 => ⟨[(0, dV code), (209, dV v2)], [], 32⟩) (fun v2 q => ?_) ?_
   ·rcases bf q with ⟨hb7, q⟩ | ⟨hb7, q⟩
    ·refine re G (hO 3 (.b true) (hP hb7 h0)) ?_
     exact wJ G q
    ·rcases bf q with ⟨hb8, q⟩ | ⟨hb8, q⟩
     ·refine re G (hO 3 (.b false) (hP hb7 (hO 8 (.b true) (hP hb8 h0)))) ?_
      exact wJ G q
     ·rcases bf q with ⟨hb9, q⟩ | ⟨hb9, q⟩
      ·rcases bf q with ⟨hb10, q⟩ | ⟨hb10, q⟩
       ·refine re G (hO 3 (.b false) (hP hb7 (hO 8 (.b false) (hP hb8 (hO 10 (.b true) (hP hb9 (hO 14 (.b true) (hP hb10 h0)))))))) ?_
        exact wJ G q
       ·refine re G (hO 3 (.b false) (hP hb7 (hO 8 (.b false) (hP hb8 (hO 10 (.b true) (hP hb9 (hO 14 (.b false) (hP hb10 h0)))))))) ?_
        exact wJ G q
      ·refine re G (hO 3 (.b false) (hP hb7 (hO 8 (.b false) (hP hb8 (hO 10 (.b false) (hP hb9 h0)))))) ?_
       exact wJ G q
   rintro v2 q
   refine cd q ?_ ?_ <;> intro q
   ·refine rg G ?_
    cases q
    exact rt [] []
   ·refine X_skip (thN ?_)
    obtain ⟨r11, h21, q⟩ := obind q
    refine rs G (hC 1 (zq29_M.c _ h21) h0) ?_
    obtain ⟨r12, h22, q⟩ := obind q
    refine rs G (hO 5 (.fz [48, 49] [] []) (hC 5 (zq8_M.c (_, _, _, _, _) h22) h0)) ?_
    obtain ⟨r13, h23, q⟩ := obind q
    refine rs G (hC 5 (zq34_M.c (_, _, _, _, _) h23) h0) ?_
    obtain ⟨r14, h24, q⟩ := obind q
    refine rs G (hC 1 (zq28_M.c _ h24) h0) ?_
    obtain ⟨r15, h25, q⟩ := obind q
    refine rs G (hC 2 (zq4_M.c (_, _) h25) h0) ?_
    obtain ⟨r16, h26, q⟩ := obind q
    refine rs G (hC 2 (zq31_M.c (_, _) h26) h0) ?_
    refine jn q (fun n => ⟨[(2, dV n)], [], 32⟩) (fun n q => ?_) ?_
    ·rcases bf q with ⟨hb11, q⟩ | ⟨hb11, q⟩
     ·obtain ⟨r17, h27, q⟩ := obind q
      rcases bf q with ⟨hb12, q⟩ | ⟨hb12, q⟩
      ·rcases bf q with ⟨hb13, q⟩ | ⟨hb13, q⟩
       ·obtain ⟨r18, h28, q⟩ := obind q
        refine re G (hO 3 (.b true) (hP hb11 (hC 6 (zq93_M.c (_, _) h27) (hO 8 (.b true) (hP hb12 (hO 13 (.b true) (hP hb13 (hC 16 (zq93_M.c (_, _) h28) h0)))))))) ?_
        exact wJ G q
       ·refine re G (hO 3 (.b true) (hP hb11 (hC 6 (zq93_M.c (_, _) h27) (hO 8 (.b true) (hP hb12 (hO 13 (.b false) (hP hb13 h0))))))) ?_
        exact wJ G q
      ·refine re G (hO 3 (.b true) (hP hb11 (hC 6 (zq93_M.c (_, _) h27) (hO 8 (.b false) (hP hb12 h0))))) ?_
       exact wJ G q
     ·refine re G (hO 3 (.b false) (hP hb11 h0)) ?_
      exact wJ G q
    rintro n q
    cases q
    exact rt [] []
end Go.Proofs.Ytjahononbnbjnaa
