/- Each function computes what its model says. Made by program (dec.py). -/
import Derived.Test.YtaegkodcjpgndaaGreatRcW1
namespace Go.Proofs.YtaegkodcjpgndaaGreat
open Go Go.Ab
set_option maxRecDepth 100000
set_option maxHeartbeats 4000000
set_option linter.unusedVariables false
set_option linter.unusedSimpArgs false
noncomputable def zq18_M : MS (Timetable × Fleet × (List (List Int)) × (List Delay) × Int × (List Int)) Int := ⟨.x .r (.x .r (.x .r (.x .r (.x .r .r)))), fun x => zq18 x.1 x.2.1 x.2.2.1 x.2.2.2.1 x.2.2.2.2.1 x.2.2.2.2.2, fun y => dV y, fun _ => [], fun _ _ => []⟩
theorem zq18_c {t f blocks list penalty cancelled y} (hm : zq18 t f blocks list penalty cancelled = some y) : zq18_M.C (t, f, blocks, list, penalty, cancelled) y := zq18_M.c (t, f, blocks, list, penalty, cancelled) hm
theorem zq18_ok : FnOK Tryz.prog 97 zq18_M.S := by
 refine fm tt zq18_M [fo zq19_ok, fo zq35_ok] Tryz.call97 Tryz.func97 rfl Tryz.results97 Tryz.ntmps97 ?_
 rintro ⟨t, f, blocks, list, penalty, cancelled⟩ y cx G hm
 have hm : zq18 t f blocks list penalty cancelled = some y := hm
 unfold zq18 at hm
 refine rg G (rg G (Ok_seq ?_))
 obtain ⟨r, h, hm⟩ := obind hm
 refine rs G (hC 5 (zq19_c h) (hN 6 r h0)) ?_
 refine tl hm (fun v3 => ⟨[(13, dV v3)], [], 32⟩) (fun v3 hm => ?_) ?_
 ·refine Ok_block (lp G hm (fun (v, v1) => ⟨[(4, dV penalty), (6, .ref 16 0), (13, dV v), (21, .own 32), (22, dV (r.length : Int)), (23, dV v1)], [bX 16 [dV t.Network.Stops, dV t.Network.Lines, dV t.Trips], aX 32 3 r], 64⟩) ?_)
  rintro ⟨v, v1⟩ r0 hb hm
  rw [zq18_L1] at hm
  refine rg G (Ok_seq (cd hm (fun hm => ?_) (fun hm => ?_)))
  ·refine X_skip (thN (Ok_seq (Ok_block ?_)))
   obtain ⟨e, h1, hm⟩ := obind hm
   refine rs G (hD 1 h1 (hE 2 h1 h0)) ?_
   refine jn hm (fun v2 => ⟨[(4, dV penalty), (6, .ref 16 0), (13, dV v), (14, dV v1), (15, dV v2), (21, .own 32), (22, dV (r.length : Int)), (23, dV v1)], [bX 16 [dV t.Network.Stops, dV t.Network.Lines, dV t.Trips], aX 32 3 r], 64⟩) (fun v2 hm => ?_) ?_
   ·refine rg G (cd hm (fun hm => ?_) (fun hm => ?_))
    ·exact rh G (wJ G hm)
    ·exact X_skip (wJ G hm)
   rintro v2 hm
   obtain ⟨e2, h4, hm⟩ := obind hm
   obtain ⟨r2, h5, hm⟩ := obind hm
   refine de G [] (hD 6 h4 (hC 8 (zq35_c h5) (hN 10 r2.Stops h0))) ?_
   exact ibN (thN (rh G (wL G hm)))
  ·exact Ok_exit (thE (thE (ibE (wD G hm hb))))
 rintro v3 hm s hw
 refine thN (Ok_weak hw ?_)
 refine rg G ?_
 cases hm
 exact rt [] []
noncomputable def zq2_M : MS Int Bool := ⟨.r, zq2, fun y => dV y, fun _ => [], fun _ _ => []⟩
theorem zq2_c {x y} (hm : zq2 x = some y) : zq2_M.C x y := zq2_M.c x hm
theorem zq2_ok : FnOK Tryz.prog 172 zq2_M.S := by
 refine fm tt zq2_M [] Tryz.call172 Tryz.func172 rfl Tryz.results172 Tryz.ntmps172 ?_
 rintro x y cx G hm
 have hm : zq2 x = some y := hm
 unfold zq2 at hm
 refine rg G (rg G ?_)
 cases hm
 exact rt [] []
noncomputable def zq0_M : MS (Int × Int) Int := ⟨.x .r .r, fun x => zq0 x.1 x.2, fun y => dV y, fun _ => [], fun _ _ => []⟩
theorem zq0_c {x y_ y} (hm : zq0 x y_ = some y) : zq0_M.C (x, y_) y := zq0_M.c (x, y_) hm
theorem zq0_ok : FnOK Tryz.prog 99 zq0_M.S := by
 refine fm tt zq0_M [fo zq2_ok] Tryz.call99 Tryz.func99 rfl Tryz.results99 Tryz.ntmps99 ?_
 rintro ⟨x, y_⟩ y cx G hm
 have hm : zq0 x y_ = some y := hm
 unfold zq0 at hm
 refine rg G ?_
 obtain ⟨r, h, hm⟩ := obind hm
 refine rs G (hC 1 (zq2_c h) h0) ?_
 obtain ⟨r1, h1, hm⟩ := obind hm
 refine rs G (hC 1 (zq2_c h1) h0) ?_
 refine Ok_seq (rg G (cd hm (fun hm => ?_) (fun hm => ?_)))
 ·refine Ok_seq (rg G (cd hm (fun hm => ?_) (fun hm => ?_)))
  ·refine rg G ?_
   cases hm
   exact rt [] []
  ·refine X_skip (thN (rg G ?_))
   cases hm
   exact rt [] []
 ·refine X_skip (thN (Ok_seq (rg G (cd hm (fun hm => ?_) (fun hm => ?_)))))
  ·refine rg G ?_
   cases hm
   exact rt [] []
  ·refine X_skip (thN (Ok_seq (rg G (cd hm (fun hm => ?_) (fun hm => ?_)))))
   ·refine rg G ?_
    cases hm
    exact rt [] []
   ·refine X_skip (thN (Ok_seq (rg G (cd hm (fun hm => ?_) (fun hm => ?_)))))
    ·refine rg G ?_
     cases hm
     exact rt [] []
    ·refine X_skip (thN (rg G ?_))
     cases hm
     exact rt [] []
noncomputable def zq125_M : MS ((List Int) × (List Int)) Int := ⟨.x .r .r, fun x => zq125 x.1 x.2, fun y => dV y, fun _ => [], fun _ _ => []⟩
theorem zq125_c {s1 s2 y} (hm : zq125 s1 s2 = some y) : zq125_M.C (s1, s2) y := zq125_M.c (s1, s2) hm
theorem zq125_ok : FnOK Tryz.prog 100 zq125_M.S := by
 refine fm tt zq125_M [fo zq0_ok] Tryz.call100 Tryz.func100 rfl Tryz.results100 Tryz.ntmps100 ?_
 rintro ⟨s1, s2⟩ y cx G hm
 have hm : zq125 s1 s2 = some y := hm
 unfold zq125 at hm
 refine rg G (Ok_seq (rs G (hN 1 s1 h0) ?_))
 refine tF hm (fun _ => ⟨[(0, dV s1), (1, dV s2)], [], 32⟩) (fun v1 hr hm => ?_) ?_
 ·refine Ok_block (lp G hm (fun v => ⟨[(0, dV s1), (1, dV s2), (9, dV s1), (10, dV (s1.length : Int)), (11, dV v)], [], 32⟩) ?_)
  rintro v r0 hb hm
  rw [zq125_L1] at hm
  refine rg G (Ok_seq (cd hm (fun hm => ?_) (fun hm => ?_)))
  ·refine X_skip (thN (Ok_seq (Ok_block ?_)))
   obtain ⟨e, h, hm⟩ := obind hm
   refine rs G (hD 1 h h0) ?_
   refine Ok_seq (rs G (hN 2 s2 h0) ?_)
   refine cd hm (fun hm => ?_) (fun hm => ?_)
   ·refine rg G ?_
    have hm := eL hm hb hr
    cases hm
    exact rt [] []
   ·refine X_skip (thN ?_)
    obtain ⟨e2, h1, hm⟩ := obind hm
    refine rs G (hD 2 h1 h0) ?_
    obtain ⟨r1, h2, hm⟩ := obind hm
    refine rs G (hC 2 (zq0_c h2) h0) ?_
    refine rg G (cd hm (fun hm => ?_) (fun hm => ?_))
    ·refine rg G ?_
     have hm := eL hm hb hr
     cases hm
     exact rt [] []
    ·exact X_skip (ibN (thN (rh G (wL G hm))))
  ·exact Ok_exit (thE (thE (ibE (wE G hm hb))))
 rintro ⟨⟩ hm s hw
 refine thN (Ok_weak hw ?_)
 refine Ok_seq (rs G (hN 1 s1 (hN 3 s2 h0)) ?_)
 refine cd hm (fun hm => ?_) (fun hm => ?_)
 ·refine rg G ?_
  cases hm
  exact rt [] []
 ·refine X_skip (thN (rg G ?_))
  cases hm
  exact rt [] []
noncomputable def zq1_M : MS ((List Int)) Int := ⟨.r, zq1, fun y => dV y, fun _ => [], fun _ _ => []⟩
theorem zq1_c {vals y} (hm : zq1 vals = some y) : zq1_M.C vals y := zq1_M.c vals hm
theorem zq1_ok : FnOK Tryz.prog 98 zq1_M.S := by
 refine fm tt zq1_M [] Tryz.call98 Tryz.func98 rfl Tryz.results98 Tryz.ntmps98 ?_
 rintro vals y cx G hm
 have hm : zq1 vals = some y := hm
 unfold zq1 at hm
 refine rg G (rg G (Ok_seq (rs G (hN 1 vals h0) ?_)))
 refine tF hm (fun _ => ⟨[(3, kV .i64 0)], [], 32⟩) (fun v1 hr hm => ?_) ?_
 ·refine Ok_block (lp G hm (fun v => ⟨[(3, kV .i64 0), (6, dV vals), (7, dV (vals.length : Int)), (8, dV v)], [], 32⟩) ?_)
  rintro v r0 hb hm
  rw [zq1_L1] at hm
  refine rg G (Ok_seq (cd hm (fun hm => ?_) (fun hm => ?_)))
  ·refine X_skip (thN (Ok_seq (Ok_block ?_)))
   obtain ⟨e, h, hm⟩ := obind hm
   refine rs G (hD 0 h h0) ?_
   refine rg G (cd hm (fun hm => ?_) (fun hm => ?_))
   ·refine rg G ?_
    have hm := eL hm hb hr
    cases hm
    exact rt [] []
   ·exact X_skip (ibN (thN (rh G (wL G hm))))
  ·exact Ok_exit (thE (thE (ibE (wE G hm hb))))
 rintro ⟨⟩ hm s hw
 refine thN (Ok_weak hw ?_)
 refine rg G ?_
 cases hm
 exact rt [] []
noncomputable def zq3_M : MS (Timetable × Fleet × (List (List Int)) × (List Delay) × Int) ((List Int) × Int × Bool) := ⟨.x .r (.x .r (.x .r (.x .r .r))), fun x => zq3 x.1 x.2.1 x.2.2.1 x.2.2.2.1 x.2.2.2.2, fun y => .tup [dV y.1, dV y.2.1, dV y.2.2], fun _ => [], fun _ _ => []⟩
theorem zq3_c {t f blocks list penalty y} (hm : zq3 t f blocks list penalty = some y) : zq3_M.C (t, f, blocks, list, penalty) y := zq3_M.c (t, f, blocks, list, penalty) hm
theorem zq3_ok : FnOK Tryz.prog 31 zq3_M.S := by
 refine fm tt zq3_M [fo zq14_ok, fo zq27_ok, fo zq28_ok, fo zq18_ok, fo zq0_ok, fo zq125_ok, fo zq1_ok] Tryz.call31 Tryz.func31 rfl Tryz.results31 Tryz.ntmps31 ?_
 rintro ⟨t, f, blocks, list, penalty⟩ y cx G hm
 have hm : zq3 t f blocks list penalty = some y := hm
 unfold zq3 at hm
 refine rg G (Ok_seq ?_)
 obtain ⟨r, h, hm⟩ := obind hm
 refine jn hm (fun v => ⟨[(2, dV blocks), (3, dV list), (4, dV penalty), (5, .ref 16 0), (6, .ref 32 0), (30, dV v)], [bX 16 [dV t.Network.Stops, dV t.Network.Lines, dV t.Trips], bX 32 [dV f.Dead, dV f.Turn]], 64⟩) (fun v hm => ?_) ?_
 ·rcases bf hm with ⟨hb, hm⟩ | ⟨hb, hm⟩
  ·refine re G (hC 4 (zq14_c h) (hO 6 (.b true) (hP hb h0))) ?_
   exact wJ G hm
  ·obtain ⟨r1, h1, hm⟩ := obind hm
   refine re G (hC 4 (zq14_c h) (hO 6 (.b false) (hP hb (hC 8 (zq27_c h1) h0)))) ?_
   exact wJ G hm
 rintro v hm
 refine cd hm (fun hm => ?_) (fun hm => ?_)
 ·refine rg G ?_
  cases hm
  exact rt [] [[.z 1]]
 ·refine X_skip (thN (rg G (rg G (Ok_seq ?_))))
  obtain ⟨u, h2, hm⟩ := obind hm
  refine rs G (hN 2 t.Trips (hK h2 h0)) ?_
  refine tl hm (fun (cost2, x2) => ⟨[(13, .own 16), (14, dV cost2)], [aX 16 3 x2], 48⟩) (fun vv1 hm => ?_) ?_
  ·refine Ok_block (lpP hm (fun (cost, v1, x) => ⟨[(2, dV blocks), (3, dV list), (4, dV penalty), (5, .ref 16 0), (6, .ref 32 0), (13, .own 48), (14, dV cost), (34, dV (w64 (1 * 2 ^ (min ((t.Trips.length : Int) : Int).toNat (IntKind.i64).bits)))), (35, dV v1)], [bX 16 [dV t.Network.Stops, dV t.Network.Lines, dV t.Trips], bX 32 [dV f.Dead, dV f.Turn], aX 48 3 x], 80⟩) (Wk_J G.hL ⟨[(2, []), (3, []), (4, []), (5, []), (6, []), (13, [.o 48]), (14, []), (34, []), (35, [])], [(16, 16, []), (32, 32, [])], [(48, 3, 1, [])], 80⟩ (by kernel_rfl)) ?_)
   rintro ⟨cost, v1, x⟩ r0 hb1 hm
   rw [zq3_L2] at hm
   refine rg G (Ok_seq (cd hm (fun hm => ?_) (fun hm => ?_)))
   ·refine X_skip (thN (jn hm (fun (cost1, x1) => ⟨[(2, dV blocks), (3, dV list), (4, dV penalty), (5, .ref 16 0), (6, .ref 32 0), (13, .own 48), (14, dV cost1), (34, dV (w64 (1 * 2 ^ (min ((t.Trips.length : Int) : Int).toNat (IntKind.i64).bits)))), (35, dV v1)], [bX 16 [dV t.Network.Stops, dV t.Network.Lines, dV t.Trips], bX 32 [dV f.Dead, dV f.Turn], aX 48 3 x1], 80⟩) (fun vv hm => ?_) ?_))
    ·refine Ok_block (rg G (rg G (Ok_seq (rs G (hN 2 t.Trips h0) ?_))))
     refine tl hm (fun v5 => ⟨[(2, dV blocks), (3, dV list), (4, dV penalty), (5, .ref 16 0), (6, .ref 32 0), (13, .own 48), (14, dV cost), (16, .own 64), (34, dV (w64 (1 * 2 ^ (min ((t.Trips.length : Int) : Int).toNat (IntKind.i64).bits)))), (35, dV v1)], [bX 16 [dV t.Network.Stops, dV t.Network.Lines, dV t.Trips], bX 32 [dV f.Dead, dV f.Turn], aX 48 3 x, aX 64 3 v5], 96⟩) (fun v5 hm => ?_) ?_
     ·refine Ok_block (lpP hm (fun (v2, v3) => ⟨[(2, dV blocks), (3, dV list), (4, dV penalty), (5, .ref 16 0), (6, .ref 32 0), (13, .own 48), (14, dV cost), (15, dV v1), (16, .own 64), (34, dV (w64 (1 * 2 ^ (min ((t.Trips.length : Int) : Int).toNat (IntKind.i64).bits)))), (35, dV v1), (39, dV t.Trips), (40, dV (t.Trips.length : Int)), (41, dV v2)], [bX 16 [dV t.Network.Stops, dV t.Network.Lines, dV t.Trips], bX 32 [dV f.Dead, dV f.Turn], aX 48 3 x, aX 64 3 v3], 96⟩) (Wk_J G.hL ⟨[(2, []), (3, []), (4, []), (5, []), (6, []), (13, []), (14, []), (15, []), (16, [.o 64]), (34, []), (35, []), (39, []), (40, []), (41, [])], [(16, 16, []), (32, 32, []), (48, 48, [])], [(64, 3, 1, [])], 96⟩ (by kernel_rfl)) ?_)
      rintro ⟨v2, v3⟩ r0 hb2 hm
      rw [zq3_L1] at hm
      refine rg G (Ok_seq (cd hm (fun hm => ?_) (fun hm => ?_)))
      ·refine X_skip (thN (jn hm (fun v4 => ⟨[(2, dV blocks), (3, dV list), (4, dV penalty), (5, .ref 16 0), (6, .ref 32 0), (13, .own 48), (14, dV cost), (15, dV v1), (16, .own 64), (34, dV (w64 (1 * 2 ^ (min ((t.Trips.length : Int) : Int).toNat (IntKind.i64).bits)))), (35, dV v1), (39, dV t.Trips), (40, dV (t.Trips.length : Int)), (41, dV v2)], [bX 16 [dV t.Network.Stops, dV t.Network.Lines, dV t.Trips], bX 32 [dV f.Dead, dV f.Turn], aX 48 3 x, aX 64 3 v4], 96⟩) (fun v4 hm => ?_) ?_))
       ·refine Ok_block ?_
        obtain ⟨e, h3, hm⟩ := obind hm
        refine rs G (hD 1 h3 h0) ?_
        obtain ⟨u1, h4, hm⟩ := obind hm
        refine rs G (hK h4 h0) ?_
        refine cd hm (fun hm => ?_) (fun hm => ?_)
        ·obtain ⟨u2, h5, hm⟩ := obind hm
         refine re G (hA 4 8 h5 h0) ?_
         exact ibN (wJ G hm)
        ·exact X_skip (ibN (wJ G hm))
       rintro v4 hm
       exact rh G (wL G hm)
      ·exact Ok_exit (thE (thE (ibE (wD G hm hb2))))
     rintro v5 hm s hw
     refine thN (Ok_weak hw ?_)
     refine Ok_seq ?_
     obtain ⟨r2, h6, hm⟩ := obind hm
     refine rs G (hC 4 (zq28_c h6) h0) ?_
     refine cd hm (fun hm => ?_) (fun hm => ?_)
     ·exact Ok_exit (thE (ibE (wJ G hm)))
     ·refine X_skip (thN ?_)
      obtain ⟨r3, h7, hm⟩ := obind hm
      refine rs G (hC 6 (zq18_c h7) h0) ?_
      obtain ⟨r4, h8, hm⟩ := obind hm
      obtain ⟨r5, h9, hm⟩ := obind hm
      obtain ⟨r6, h10, hm⟩ := obind hm
      obtain ⟨r7, h11, hm⟩ := obind hm
      refine rs G (hC 2 (zq0_c h8) (hN 4 v5 (hN 6 x (hC 7 (zq0_c h9) (hC 10 (zq125_c h10) (hC 12 (zq1_c h11) h0)))))) ?_
      refine cd hm (fun hm => ?_) (fun hm => ?_)
      ·exact rh G (ibN (wJ G hm))
      ·exact X_skip (ibN (wJ G hm))
    rintro ⟨cost1, x1⟩ hm
    exact rh G (wL G hm)
   ·exact Ok_exit (thE (thE (ibE (wD G hm hb1))))
  rintro ⟨cost2, x2⟩ hm s1 hw1
  refine thN (Ok_weak hw1 ?_)
  refine rg G ?_
  cases hm
  exact rt [] []
noncomputable def zq121_M : MS (Timetable × Int) Int := ⟨.x .r .r, fun x => zq121 x.1 x.2, fun y => dV y, fun _ => [], fun _ _ => []⟩
theorem zq121_c {t id y} (hm : zq121 t id = some y) : zq121_M.C (t, id) y := zq121_M.c (t, id) hm
theorem zq121_ok : FnOK Tryz.prog 93 zq121_M.S := by
 refine fm tt zq121_M [] Tryz.call93 Tryz.func93 rfl Tryz.results93 Tryz.ntmps93 ?_
 rintro ⟨t, id⟩ y cx G hm
 have hm : zq121 t id = some y := hm
 unfold zq121 at hm
 refine rg G (Ok_seq (rg G (tF hm (fun _ => ⟨[], [], 32⟩) (fun v1 hr hm => ?_) ?_)))
 ·refine Ok_block (lp G hm (fun v => ⟨[(1, dV id), (2, .ref 16 0), (5, dV v)], [bX 16 [dV t.Network.Stops, dV t.Network.Lines, dV t.Trips]], 48⟩) ?_)
  rintro v r0 hb hm
  rw [zq121_L1] at hm
  refine Ok_seq (rs G (hN 3 t.Trips h0) ?_)
  refine cd hm (fun hm => ?_) (fun hm => ?_)
  ·refine X_skip (thN (Ok_seq (Ok_block ?_)))
   obtain ⟨e, h, hm⟩ := obind hm
   refine rs G (hD 3 h h0) ?_
   refine cd hm (fun hm => ?_) (fun hm => ?_)
   ·refine rg G ?_
    have hm := eL hm hb hr
    cases hm
    exact rt [] []
   ·exact X_skip (ibN (thN (rh G (wL G hm))))
  ·exact Ok_exit (thE (thE (ibE (wE G hm hb))))
 rintro ⟨⟩ hm s hw
 refine thN (Ok_weak hw ?_)
 refine rg G ?_
 cases hm
 exact rt [] []
noncomputable def zq99_M : MS ((List Int) × Int) Bool := ⟨.x .r .r, fun x => zq99 x.1 x.2, fun y => dV y, fun _ => [], fun _ _ => []⟩
theorem zq99_c {l n y} (hm : zq99 l n = some y) : zq99_M.C (l, n) y := zq99_M.c (l, n) hm
theorem zq99_ok : FnOK Tryz.prog 150 zq99_M.S := by
 refine fm tt zq99_M [] Tryz.call150 Tryz.func150 rfl Tryz.results150 Tryz.ntmps150 ?_
 rintro ⟨l, n⟩ y cx G hm
 have hm : zq99 l n = some y := hm
 unfold zq99 at hm
 refine rg G (Ok_seq (rg G (tF hm (fun _ => ⟨[], [], 32⟩) (fun v1 hr hm => ?_) ?_)))
 ·refine Ok_block (lp G hm (fun v => ⟨[(0, dV l), (1, dV n), (5, dV v)], [], 32⟩) ?_)
  rintro v r0 hb hm
  rw [zq99_L1] at hm
  refine Ok_seq (rs G (hN 2 l h0) ?_)
  refine cd hm (fun hm => ?_) (fun hm => ?_)
  ·refine X_skip (thN (Ok_seq (Ok_block ?_)))
   obtain ⟨e, h, hm⟩ := obind hm
   refine rs G (hD 2 h h0) ?_
   refine cd hm (fun hm => ?_) (fun hm => ?_)
   ·refine rg G ?_
    have hm := eL hm hb hr
    cases hm
    exact rt [] []
   ·exact X_skip (ibN (thN (rh G (wL G hm))))
  ·exact Ok_exit (thE (thE (ibE (wE G hm hb))))
 rintro ⟨⟩ hm s hw
 refine thN (Ok_weak hw ?_)
 refine rg G ?_
 cases hm
 exact rt [] []
noncomputable def zq48_M : MS (Timetable × Fleet × (List (List Int))) Bool := ⟨.x .r (.x .r .r), fun x => zq48 x.1 x.2.1 x.2.2, fun y => dV y, fun _ => [], fun _ _ => []⟩
theorem zq48_c {t f blocks y} (hm : zq48 t f blocks = some y) : zq48_M.C (t, f, blocks) y := zq48_M.c (t, f, blocks) hm
theorem zq48_ok : FnOK Tryz.prog 91 zq48_M.S := by
 refine fm tt zq48_M [fo zq121_ok, fo zq99_ok, fo zq54_ok] Tryz.call91 Tryz.func91 rfl Tryz.results91 Tryz.ntmps91 ?_
 rintro ⟨t, f, blocks⟩ y cx G hm
 have hm : zq48 t f blocks = some y := hm
 unfold zq48 at hm
 refine rg G (rg G (Ok_seq (rg G (tF hm (fun at_3 => ⟨[(3, .ref 16 0), (7, .own 32)], [bX 16 [dV t.Network.Stops, dV t.Network.Lines, dV t.Trips], aX 32 3 at_3], 64⟩) (fun v5 hr hm => ?_) ?_))))
 ·refine Ok_block (lp G hm (fun (v, at_) => ⟨[(2, dV blocks), (3, .ref 16 0), (4, .ref 32 0), (7, .own 48), (8, dV v)], [bX 16 [dV t.Network.Stops, dV t.Network.Lines, dV t.Trips], bX 32 [dV f.Dead, dV f.Turn], aX 48 3 at_], 80⟩) ?_)
  rintro ⟨v, at_⟩ r0 hb hm
  rw [zq48_L2] at hm
  refine Ok_seq (rs G (hN 2 blocks h0) ?_)
  refine cd hm (fun hm => ?_) (fun hm => ?_)
  ·refine X_skip (thN (Ok_seq (Ok_block (Ok_seq ?_))))
   obtain ⟨e5, h5, hm⟩ := obind hm
   refine jn hm (fun v1 => ⟨[(2, dV blocks), (3, .ref 16 0), (4, .ref 32 0), (7, .own 48), (8, dV v), (43, dV v1)], [bX 16 [dV t.Network.Stops, dV t.Network.Lines, dV t.Trips], bX 32 [dV f.Dead, dV f.Turn], aX 48 3 at_], 80⟩) (fun v1 hm => ?_) ?_
   ·rcases bf hm with ⟨hb1, hm⟩ | ⟨hb1, hm⟩
    ·refine de G [] (hD 2 h5 (hN 4 e5 (hO 6 (.b true) (hP hb1 h0)))) ?_
     exact wJ G hm
    ·rcases bf hm with ⟨hb2, hm⟩ | ⟨hb2, hm⟩
     ·obtain ⟨e6, h6, hm⟩ := obind hm
      obtain ⟨e7, h7, hm⟩ := obind hm
      obtain ⟨e8, h8, hm⟩ := obind hm
      obtain ⟨e9, h9, hm⟩ := obind hm
      refine de G [] (hD 2 h5 (hN 4 e5 (hO 6 (.b false) (hP hb1 (hO 9 (.b true) (hP hb2 (hD 13 h6 (hD 15 h7 (hD 19 h8 (hD 21 h9 h0)))))))))) ?_
      exact wJ G hm
     ·refine de G [] (hD 2 h5 (hN 4 e5 (hO 6 (.b false) (hP hb1 (hO 9 (.b false) (hP hb2 h0)))))) ?_
      exact wJ G hm
   rintro v1 hm
   refine cd hm (fun hm => ?_) (fun hm => ?_)
   ·refine rg G ?_
    have hm := eL hm hb hr
    cases hm
    exact rt [] []
   ·refine X_skip (thN (rg G (tF hm (fun at_2 => ⟨[(2, dV blocks), (3, .ref 16 0), (4, .ref 32 0), (7, .own 48), (8, dV v)], [bX 16 [dV t.Network.Stops, dV t.Network.Lines, dV t.Trips], bX 32 [dV f.Dead, dV f.Turn], aX 48 3 at_2], 80⟩) (fun v4 hr1 hm => ?_) ?_)))
    ·refine Ok_block (lp G hm (fun (v2, at_1) => ⟨[(2, dV blocks), (3, .ref 16 0), (4, .ref 32 0), (7, .own 48), (8, dV v), (9, dV v2)], [bX 16 [dV t.Network.Stops, dV t.Network.Lines, dV t.Trips], bX 32 [dV f.Dead, dV f.Turn], aX 48 3 at_1], 80⟩) ?_)
     rintro ⟨v2, at_1⟩ r0 hb3 hm
     rw [zq48_L1] at hm
     refine Ok_seq ?_
     obtain ⟨e11, h10, hm⟩ := obind hm
     refine rs G (hD 3 h10 (hN 5 e11 h0)) ?_
     refine cd hm (fun hm => ?_) (fun hm => ?_)
     ·refine X_skip (thN (Ok_seq (Ok_block ?_)))
      obtain ⟨e14, h14, hm⟩ := obind hm
      obtain ⟨e15, h15, hm⟩ := obind hm
      obtain ⟨r2, h16, hm⟩ := obind hm
      refine ds G [] (hD 3 h14 (hD 6 h15 (hC 8 (zq121_c h16) h0))) ?_
      refine Ok_seq (jn hm (fun v3 => ⟨[(2, dV blocks), (3, .ref 16 0), (4, .ref 32 0), (7, .own 48), (8, dV v), (9, dV v2), (10, dV r2), (89, dV v3)], [bX 16 [dV t.Network.Stops, dV t.Network.Lines, dV t.Trips], bX 32 [dV f.Dead, dV f.Turn], aX 48 3 at_1], 80⟩) (fun v3 hm => ?_) ?_)
      ·rcases bf hm with ⟨hb4, hm⟩ | ⟨hb4, hm⟩
       ·refine de G [] (hO 2 (.b true) (hP hb4 h0)) ?_
        exact wJ G hm
       ·obtain ⟨r6, h22, hm⟩ := obind hm
        rcases bf hm with ⟨hb5, hm⟩ | ⟨hb5, hm⟩
        ·refine de G [] (hO 2 (.b false) (hP hb4 (hC 5 (zq99_c h22) (hO 7 (.b true) (hP hb5 h0))))) ?_
         exact wJ G hm
        ·rcases bf hm with ⟨hb6, hm⟩ | ⟨hb6, hm⟩
         ·obtain ⟨e18, h23, hm⟩ := obind hm
          obtain ⟨e19, h24, hm⟩ := obind hm
          obtain ⟨r7, h25, hm⟩ := obind hm
          obtain ⟨r8, h26, hm⟩ := obind hm
          refine de G [] (hO 2 (.b false) (hP hb4 (hC 5 (zq99_c h22) (hO 7 (.b false) (hP hb5 (hO 10 (.b true) (hP hb6 (hD 16 h23 (hD 20 h24 (hC 22 (zq121_c h25) (hC 24 (zq54_c h26) h0))))))))))) ?_
          exact wJ G hm
         ·refine de G [] (hO 2 (.b false) (hP hb4 (hC 5 (zq99_c h22) (hO 7 (.b false) (hP hb5 (hO 10 (.b false) (hP hb6 h0))))))) ?_
          exact wJ G hm
      rintro v3 hm
      refine cd hm (fun hm => ?_) (fun hm => ?_)
      ·refine rg G ?_
       have hm := eL hm hb3 hr1
       have hm := eL hm hb hr
       cases hm
       exact rt [] []
      ·refine X_skip (thN ?_)
       obtain ⟨u, h27, hm⟩ := obind hm
       refine re G (hA 3 8 h27 h0) ?_
       exact ibN (thN (rh G (wL G hm)))
     ·exact Ok_exit (thE (thE (ibE (wE G hm hb3))))
    rintro at_2 hm s hw
    refine ibN (thN (Ok_weak hw ?_))
    exact rh G (wL G hm)
  ·exact Ok_exit (thE (thE (ibE (wE G hm hb))))
 rintro at_3 hm s1 hw1
 refine thN (Ok_weak hw1 ?_)
 refine rs G (hN 1 at_3 (hN 4 t.Trips h0)) ?_
 cases hm
 exact rt [] []
noncomputable def zq56_M : MS (Timetable × Fleet × (List (List Int))) Bool := ⟨.x .r (.x .r .r), fun x => zq56 x.1 x.2.1 x.2.2, fun y => dV y, fun _ => [], fun _ _ => []⟩
theorem zq56_c {t f blocks y} (hm : zq56 t f blocks = some y) : zq56_M.C (t, f, blocks) y := zq56_M.c (t, f, blocks) hm
theorem zq56_ok : FnOK Tryz.prog 152 zq56_M.S := by
 refine fm tt zq56_M [fo zq46_ok, fo zq48_ok] Tryz.call152 Tryz.func152 rfl Tryz.results152 Tryz.ntmps152 ?_
 rintro ⟨t, f, blocks⟩ y cx G hm
 have hm : zq56 t f blocks = some y := hm
 unfold zq56 at hm
 refine rg G ?_
 obtain ⟨r, h, hm⟩ := obind hm
 refine jn hm (fun v => ⟨[(6, dV v)], [], 32⟩) (fun v hm => ?_) ?_
 ·rcases bf hm with ⟨hb, hm⟩ | ⟨hb, hm⟩
  ·obtain ⟨r1, h1, hm⟩ := obind hm
   refine re G (hC 2 (zq46_c h) (hO 3 (.b true) (hP hb (hC 7 (zq48_c h1) h0)))) ?_
   exact wJ G hm
  ·refine re G (hC 2 (zq46_c h) (hO 3 (.b false) (hP hb h0))) ?_
   exact wJ G hm
 rintro v hm
 cases hm
 exact rt [] []
noncomputable def zq59_M : MS (Timetable × (List Delay)) Bool := ⟨.x .r .r, fun x => zq59 x.1 x.2, fun y => dV y, fun _ => [], fun _ _ => []⟩
theorem zq59_c {t list y} (hm : zq59 t list = some y) : zq59_M.C (t, list) y := zq59_M.c (t, list) hm
theorem zq59_ok : FnOK Tryz.prog 80 zq59_M.S := by
 refine fm tt zq59_M [fo zq121_ok, fo zq100_ok] Tryz.call80 Tryz.func80 rfl Tryz.results80 Tryz.ntmps80 ?_
 rintro ⟨t, list⟩ y cx G hm
 have hm : zq59 t list = some y := hm
 unfold zq59 at hm
 refine rg G (Ok_seq (rg G (tF hm (fun _ => ⟨[], [], 32⟩) (fun v2 hr hm => ?_) ?_)))
 ·refine Ok_block (lp G hm (fun v => ⟨[(1, dV list), (2, .ref 16 0), (5, dV v)], [bX 16 [dV t.Network.Stops, dV t.Network.Lines, dV t.Trips]], 48⟩) ?_)
  rintro v r0 hb hm
  rw [zq59_L1] at hm
  refine Ok_seq (rs G (hN 2 list h0) ?_)
  refine cd hm (fun hm => ?_) (fun hm => ?_)
  ·refine X_skip (thN (Ok_seq (Ok_block ?_)))
   obtain ⟨e4, h6, hm⟩ := obind hm
   obtain ⟨r2, h7, hm⟩ := obind hm
   refine jn hm (fun v1 => ⟨[(1, dV list), (2, .ref 16 0), (5, dV v), (46, dV v1)], [bX 16 [dV t.Network.Stops, dV t.Network.Lines, dV t.Trips]], 48⟩) (fun v1 hm => ?_) ?_
   ·rcases bf hm with ⟨hb1, hm⟩ | ⟨hb1, hm⟩
    ·refine de G [] (hD 3 h6 (hC 6 (zq121_c h7) (hO 8 (.b true) (hP hb1 h0)))) ?_
     exact wJ G hm
    ·obtain ⟨e5, h8, hm⟩ := obind hm
     obtain ⟨r3, h9, hm⟩ := obind hm
     rcases bf hm with ⟨hb2, hm⟩ | ⟨hb2, hm⟩
     ·refine de G [] (hD 3 h6 (hC 6 (zq121_c h7) (hO 8 (.b false) (hP hb1 (hD 11 h8 (hC 14 (zq100_c h9) (hO 17 (.b true) (hP hb2 h0)))))))) ?_
      exact wJ G hm
     ·rcases bf hm with ⟨hb3, hm⟩ | ⟨hb3, hm⟩
      ·obtain ⟨e6, h10, hm⟩ := obind hm
       obtain ⟨e7, h11, hm⟩ := obind hm
       refine de G [] (hD 3 h6 (hC 6 (zq121_c h7) (hO 8 (.b false) (hP hb1 (hD 11 h8 (hC 14 (zq100_c h9) (hO 17 (.b false) (hP hb2 (hO 20 (.b true) (hP hb3 (hD 24 h10 (hD 29 h11 h0)))))))))))) ?_
       exact wJ G hm
      ·refine de G [] (hD 3 h6 (hC 6 (zq121_c h7) (hO 8 (.b false) (hP hb1 (hD 11 h8 (hC 14 (zq100_c h9) (hO 17 (.b false) (hP hb2 (hO 20 (.b false) (hP hb3 h0)))))))))) ?_
       exact wJ G hm
   rintro v1 hm
   refine cd hm (fun hm => ?_) (fun hm => ?_)
   ·refine rg G ?_
    have hm := eL hm hb hr
    cases hm
    exact rt [] []
   ·exact X_skip (ibN (thN (rh G (wL G hm))))
  ·exact Ok_exit (thE (thE (ibE (wE G hm hb))))
 rintro ⟨⟩ hm s hw
 refine thN (Ok_weak hw ?_)
 refine rg G ?_
 cases hm
 exact rt [] []
noncomputable def zq57_M : MS (Timetable × Fleet × (List (List Int)) × (List Delay)) Bool := ⟨.x .r (.x .r (.x .r .r)), fun x => zq57 x.1 x.2.1 x.2.2.1 x.2.2.2, fun y => dV y, fun _ => [], fun _ _ => []⟩
theorem zq57_c {t f blocks list y} (hm : zq57 t f blocks list = some y) : zq57_M.C (t, f, blocks, list) y := zq57_M.c (t, f, blocks, list) hm
theorem zq57_ok : FnOK Tryz.prog 76 zq57_M.S := by
 refine fm tt zq57_M [fo zq56_ok, fo zq59_ok] Tryz.call76 Tryz.func76 rfl Tryz.results76 Tryz.ntmps76 ?_
 rintro ⟨t, f, blocks, list⟩ y cx G hm
 have hm : zq57 t f blocks list = some y := hm
 unfold zq57 at hm
 refine rg G ?_
 obtain ⟨r, h, hm⟩ := obind hm
 refine jn hm (fun v => ⟨[(8, dV v)], [], 32⟩) (fun v hm => ?_) ?_
 ·rcases bf hm with ⟨hb, hm⟩ | ⟨hb, hm⟩
  ·obtain ⟨r1, h1, hm⟩ := obind hm
   refine re G (hC 3 (zq56_c h) (hO 4 (.b true) (hP hb (hC 7 (zq59_c h1) h0)))) ?_
   exact wJ G hm
  ·refine re G (hC 3 (zq56_c h) (hO 4 (.b false) (hP hb h0))) ?_
   exact wJ G hm
 rintro v hm
 cases hm
 exact rt [] []
noncomputable def zq106_M : MS ((List Int) × Int) ((List Int)) := ⟨.x .r .r, fun x => zq106 x.1 x.2, fun y => dV y, fun _ => [], fun _ _ => []⟩
theorem zq106_c {l n y} (hm : zq106 l n = some y) : zq106_M.C (l, n) y := zq106_M.c (l, n) hm
theorem zq106_ok : FnOK Tryz.prog 177 zq106_M.S := by
 refine fm tt zq106_M [] Tryz.call177 Tryz.func177 rfl Tryz.results177 Tryz.ntmps177 ?_
 rintro ⟨l, n⟩ y cx G hm
 have hm : zq106 l n = some y := hm
 unfold zq106 at hm
 refine rg G (rg G (jn hm (fun v2 => ⟨[(0, dV l), (1, dV n), (5, dV v2)], [], 32⟩) (fun v2 hm => ?_) ?_))
 ·refine Ok_block (lp G hm (fun v => ⟨[(0, dV l), (1, dV n), (5, dV v)], [], 32⟩) ?_)
  rintro v r0 hb hm
  rw [zq106_L1] at hm
  refine Ok_seq (jn hm (fun v1 => ⟨[(0, dV l), (1, dV n), (5, dV v), (17, dV v1)], [], 32⟩) (fun v1 hm => ?_) ?_)
  ·rcases bf hm with ⟨hb1, hm⟩ | ⟨hb1, hm⟩
   ·obtain ⟨e, h, hm⟩ := obind hm
    refine re G (hN 2 l (hO 4 (.b true) (hP hb1 (hD 7 h h0)))) ?_
    exact wJ G hm
   ·refine re G (hN 2 l (hO 4 (.b false) (hP hb1 h0))) ?_
    exact wJ G hm
  rintro v1 hm
  refine cd hm (fun hm => ?_) (fun hm => ?_)
  ·exact X_skip (thN (Ok_block (rh G (ibN (wL G hm)))))
  ·exact Ok_exit (thE (thE (ibE (wD G hm hb))))
 rintro v2 hm
 refine Ok_seq (jn hm (fun v3 => ⟨[(0, dV l), (1, dV n), (5, dV v2), (31, dV v3)], [], 32⟩) (fun v3 hm => ?_) ?_)
 ·rcases bf hm with ⟨hb2, hm⟩ | ⟨hb2, hm⟩
  ·obtain ⟨e1, h1, hm⟩ := obind hm
   refine re G (hN 2 l (hO 4 (.b true) (hP hb2 (hD 7 h1 h0)))) ?_
   exact wJ G hm
  ·refine re G (hN 2 l (hO 4 (.b false) (hP hb2 h0))) ?_
   exact wJ G hm
 rintro v3 hm
 refine cd hm (fun hm => ?_) (fun hm => ?_)
 ·refine rg G ?_
  cases hm
  exact rt [] []
 ·refine X_skip (thN ?_)
  obtain ⟨u5, h7, hm⟩ := obind hm
  obtain ⟨u6, h8, hm⟩ := obind hm
  obtain ⟨u7, h9, hm⟩ := obind hm
  obtain ⟨u8, h10, hm⟩ := obind hm
  obtain ⟨u9, h11, hm⟩ := obind hm
  refine ds G [(3, []), (4, [32]), (7, [96, 128]), (10, []), (11, [144])] (hU 3 h7 (hA 4 8 h8 (hA 7 8 h9 (hV 10 h10 (hA 11 8 h11 h0))))) ?_
  cases hm
  exact rt [] []
noncomputable def zq71_M : MS ((List Int) × Int) ((List Int)) := ⟨.x .r .r, fun x => zq71 x.1 x.2, fun y => dV y, fun _ => [], fun _ _ => []⟩
theorem zq71_c {block number y} (hm : zq71 block number = some y) : zq71_M.C (block, number) y := zq71_M.c (block, number) hm
theorem zq71_ok : FnOK Tryz.prog 173 zq71_M.S := by
 refine fm tt zq71_M [fo zq106_ok] Tryz.call173 Tryz.func173 rfl Tryz.results173 Tryz.ntmps173 ?_
 rintro ⟨block, number⟩ y cx G hm
 have hm : zq71 block number = some y := hm
 unfold zq71 at hm
 refine rg G (rg G (Ok_seq (rg G (tl hm (fun v3 => ⟨[(5, dV v3)], [], 32⟩) (fun v3 hm => ?_) ?_))))
 ·refine Ok_block (lp G hm (fun (v, v1) => ⟨[(0, dV block), (1, dV number), (5, dV v), (6, dV v1)], [], 32⟩) ?_)
  rintro ⟨v, v1⟩ r0 hb hm
  rw [zq71_L1] at hm
  refine Ok_seq (rs G (hN 2 block h0) ?_)
  refine cd hm (fun hm => ?_) (fun hm => ?_)
  ·refine X_skip (thN (jn hm (fun v2 => ⟨[(0, dV block), (1, dV number), (5, dV v2), (6, dV v1)], [], 32⟩) (fun v2 hm => ?_) ?_))
   ·refine Ok_block ?_
    obtain ⟨u, h, hm⟩ := obind hm
    refine rs G (hK h h0) ?_
    refine cd hm (fun hm => ?_) (fun hm => ?_)
    ·obtain ⟨e, h1, hm⟩ := obind hm
     obtain ⟨r, h2, hm⟩ := obind hm
     refine re G (hD 3 h1 (hC 5 (zq106_c h2) h0)) ?_
     exact ibN (wJ G hm)
    ·exact X_skip (ibN (wJ G hm))
   rintro v2 hm
   exact rh G (wL G hm)
  ·exact Ok_exit (thE (thE (ibE (wD G hm hb))))
 rintro v3 hm s hw
 refine thN (Ok_weak hw ?_)
 refine rg G ?_
 cases hm
 exact rt [] []
noncomputable def zq66_M : MS ((List Int) × (List Int)) ((List Int)) := ⟨.x .r .r, fun x => zq66 x.1 x.2, fun _ => .own 0, fun y => [arO 3 y], fun _ _ => []⟩
theorem zq66_c {block cancelled y} (hm : zq66 block cancelled = some y) : zq66_M.C (block, cancelled) y := zq66_M.c (block, cancelled) hm
theorem zq66_ok : FnOK Tryz.prog 174 zq66_M.S := by
 refine fm tt zq66_M [fo zq99_ok] Tryz.call174 Tryz.func174 rfl Tryz.results174 Tryz.ntmps174 ?_
 rintro ⟨block, cancelled⟩ y cx G hm
 have hm : zq66 block cancelled = some y := hm
 unfold zq66 at hm
 refine rg G (rg G (Ok_seq (rg G (tl hm (fun v3 => ⟨[(5, .own 16)], [aX 16 3 v3], 48⟩) (fun v3 hm => ?_) ?_))))
 ·refine Ok_block (lp G hm (fun (v, v1) => ⟨[(0, dV block), (1, dV cancelled), (5, .own 16), (6, dV v)], [aX 16 3 v1], 48⟩) ?_)
  rintro ⟨v, v1⟩ r0 hb hm
  rw [zq66_L1] at hm
  refine Ok_seq (rs G (hN 2 block h0) ?_)
  refine cd hm (fun hm => ?_) (fun hm => ?_)
  ·refine X_skip (thN (jn hm (fun v2 => ⟨[(0, dV block), (1, dV cancelled), (5, .own 16), (6, dV v)], [aX 16 3 v2], 48⟩) (fun v2 hm => ?_) ?_))
   ·refine Ok_block ?_
    obtain ⟨e, h, hm⟩ := obind hm
    obtain ⟨r, h1, hm⟩ := obind hm
    refine rs G (hD 3 h (hC 5 (zq99_c h1) h0)) ?_
    refine cd hm (fun hm => ?_) (fun hm => ?_)
    ·obtain ⟨e1, h2, hm⟩ := obind hm
     obtain ⟨u, h3, hm⟩ := obind hm
     refine re G (hD 3 h2 (hA 6 8 h3 h0)) ?_
     exact ibN (wJ G hm)
    ·exact X_skip (ibN (wJ G hm))
   rintro v2 hm
   exact rh G (wL G hm)
  ·exact Ok_exit (thE (thE (ibE (wD G hm hb))))
 rintro v3 hm s hw
 refine thN (Ok_weak hw ?_)
 refine rg G ?_
 cases hm
 exact rt [16] []
noncomputable def zq65_M : MS (Timetable × Fleet × (List Int)) Bool := ⟨.x .r (.x .r .r), fun x => zq65 x.1 x.2.1 x.2.2, fun y => dV y, fun _ => [], fun _ _ => []⟩
theorem zq65_c {t f list y} (hm : zq65 t f list = some y) : zq65_M.C (t, f, list) y := zq65_M.c (t, f, list) hm
theorem zq65_ok : FnOK Tryz.prog 175 zq65_M.S := by
 refine fm tt zq65_M [fo zq121_ok, fo zq54_ok] Tryz.call175 Tryz.func175 rfl Tryz.results175 Tryz.ntmps175 ?_
 rintro ⟨t, f, list⟩ y cx G hm
 have hm : zq65 t f list = some y := hm
 unfold zq65 at hm
 refine rg G (Ok_seq (rg G (tF hm (fun _ => ⟨[], [], 32⟩) (fun v1 hr hm => ?_) ?_)))
 ·refine Ok_block (lp G hm (fun v => ⟨[(2, dV list), (3, .ref 16 0), (4, .ref 32 0), (7, dV v)], [bX 16 [dV t.Network.Stops, dV t.Network.Lines, dV t.Trips], bX 32 [dV f.Dead, dV f.Turn]], 64⟩) ?_)
  rintro v r0 hb hm
  rw [zq65_L1] at hm
  refine Ok_seq (rs G (hN 2 list h0) ?_)
  refine cd hm (fun hm => ?_) (fun hm => ?_)
  ·refine X_skip (thN (Ok_seq (Ok_block ?_)))
   obtain ⟨e2, h5, hm⟩ := obind hm
   obtain ⟨r3, h6, hm⟩ := obind hm
   obtain ⟨e3, h7, hm⟩ := obind hm
   obtain ⟨r4, h8, hm⟩ := obind hm
   obtain ⟨r5, h9, hm⟩ := obind hm
   refine ds G [] (hD 6 h5 (hC 8 (zq121_c h6) (hD 12 h7 (hC 14 (zq121_c h8) (hC 15 (zq54_c h9) h0))))) ?_
   refine cd hm (fun hm => ?_) (fun hm => ?_)
   ·refine rg G ?_
    have hm := eL hm hb hr
    cases hm
    exact rt [] []
   ·exact X_skip (ibN (thN (rh G (wL G hm))))
  ·exact Ok_exit (thE (thE (ibE (wE G hm hb))))
 rintro ⟨⟩ hm s hw
 refine thN (Ok_weak hw ?_)
 refine rg G ?_
 cases hm
 exact rt [] []
noncomputable def zq60_M : MS ((List Delay) × Int) Int := ⟨.x .r .r, fun x => zq60 x.1 x.2, fun y => dV y, fun _ => [], fun _ _ => []⟩
theorem zq60_c {list id y} (hm : zq60 list id = some y) : zq60_M.C (list, id) y := zq60_M.c (list, id) hm
theorem zq60_ok : FnOK Tryz.prog 155 zq60_M.S := by
 refine fm tt zq60_M [] Tryz.call155 Tryz.func155 rfl Tryz.results155 Tryz.ntmps155 ?_
 rintro ⟨list, id⟩ y cx G hm
 have hm : zq60 list id = some y := hm
 unfold zq60 at hm
 refine rg G (Ok_seq (rg G (tF hm (fun _ => ⟨[], [], 32⟩) (fun v1 hr hm => ?_) ?_)))
 ·refine Ok_block (lp G hm (fun v => ⟨[(0, dV list), (1, dV id), (5, dV v)], [], 32⟩) ?_)
  rintro v r0 hb hm
  rw [zq60_L1] at hm
  refine Ok_seq (rs G (hN 2 list h0) ?_)
  refine cd hm (fun hm => ?_) (fun hm => ?_)
  ·refine X_skip (thN (Ok_seq (Ok_block ?_)))
   obtain ⟨e, h, hm⟩ := obind hm
   refine rs G (hD 2 h h0) ?_
   refine cd hm (fun hm => ?_) (fun hm => ?_)
   ·obtain ⟨e1, h1, hm⟩ := obind hm
    refine rs G (hD 2 h1 h0) ?_
    have hm := eL hm hb hr
    cases hm
    exact rt [] []
   ·exact X_skip (ibN (thN (rh G (wL G hm))))
  ·exact Ok_exit (thE (thE (ibE (wE G hm hb))))
 rintro ⟨⟩ hm s hw
 refine thN (Ok_weak hw ?_)
 refine rg G ?_
 cases hm
 exact rt [] []
noncomputable def zq58_M : MS (Timetable × Fleet × (List (List Int)) × (List Delay)) ((List Int)) := ⟨.x .r (.x .r (.x .r .r)), fun x => zq58 x.1 x.2.1 x.2.2.1 x.2.2.2, fun _ => .own 0, fun y => [arO 3 y], fun _ _ => []⟩
theorem zq58_c {t f blocks list y} (hm : zq58 t f blocks list = some y) : zq58_M.C (t, f, blocks, list) y := zq58_M.c (t, f, blocks, list) hm
theorem zq58_ok : FnOK Tryz.prog 77 zq58_M.S := by
 refine fm tt zq58_M [fo zq121_ok, fo zq120_ok, fo zq52_ok, fo zq102_ok, fo zq60_ok] Tryz.call77 Tryz.func77 rfl Tryz.results77 Tryz.ntmps77 ?_
 rintro ⟨t, f, blocks, list⟩ y cx G hm
 have hm : zq58 t f blocks list = some y := hm
 unfold zq58 at hm
 refine rg G ?_
 obtain ⟨u, h, hm⟩ := obind hm
 refine rs G (hN 2 t.Trips (hO 3 (.l (List.map Enc.e (List.replicate (t.Trips.length : Int).toNat (0 : Int)))) (hP (mk_p (b := 8) (chk_t h) rfl) (hP (rep_m Enc.e (t.Trips.length : Int).toNat (0 : Int)) h0)))) ?_
 refine Ok_seq (rg G (tl hm (fun start3 => ⟨[(9, .own 16)], [aX 16 3 start3], 48⟩) (fun start3 hm => ?_) ?_))
 ·refine Ok_block (lp G hm (fun (before, start) => ⟨[(2, dV blocks), (3, dV list), (4, .ref 16 0), (5, .ref 32 0), (9, .own 48), (10, dV before)], [bX 16 [dV t.Network.Stops, dV t.Network.Lines, dV t.Trips], bX 32 [dV f.Dead, dV f.Turn], aX 48 3 start], 80⟩) ?_)
  rintro ⟨before, start⟩ r0 hb hm
  rw [zq58_L2] at hm
  refine Ok_seq (rs G (hN 2 blocks h0) ?_)
  refine cd hm (fun hm => ?_) (fun hm => ?_)
  ·refine X_skip (thN (Ok_seq (Ok_block (rg G (tl hm (fun start2 => ⟨[(2, dV blocks), (3, dV list), (4, .ref 16 0), (5, .ref 32 0), (9, .own 48), (10, dV before)], [bX 16 [dV t.Network.Stops, dV t.Network.Lines, dV t.Trips], bX 32 [dV f.Dead, dV f.Turn], aX 48 3 start2], 80⟩) (fun start2 hm => ?_) ?_)))))
   ·refine Ok_block (lp G hm (fun (v, start1) => ⟨[(2, dV blocks), (3, dV list), (4, .ref 16 0), (5, .ref 32 0), (9, .own 48), (10, dV before), (11, dV v)], [bX 16 [dV t.Network.Stops, dV t.Network.Lines, dV t.Trips], bX 32 [dV f.Dead, dV f.Turn], aX 48 3 start1], 80⟩) ?_)
    rintro ⟨v, start1⟩ r0 hb1 hm
    rw [zq58_L1] at hm
    refine Ok_seq ?_
    obtain ⟨e, h1, hm⟩ := obind hm
    refine rs G (hD 3 h1 (hN 5 e h0)) ?_
    refine cd hm (fun hm => ?_) (fun hm => ?_)
    ·refine X_skip (thN (Ok_seq (Ok_block ?_)))
     obtain ⟨e3, h5, hm⟩ := obind hm
     obtain ⟨e4, h6, hm⟩ := obind hm
     obtain ⟨r1, h7, hm⟩ := obind hm
     refine ds G [] (hD 3 h5 (hD 6 h6 (hC 8 (zq121_c h7) h0))) ?_
     obtain ⟨e5, h8, hm⟩ := obind hm
     refine rs G (hD 3 h8 h0) ?_
     refine jn hm (fun v1 => ⟨[(2, dV blocks), (3, dV list), (4, .ref 16 0), (5, .ref 32 0), (9, .own 48), (10, dV before), (11, dV v), (12, dV r1), (13, dV v1)], [bX 16 [dV t.Network.Stops, dV t.Network.Lines, dV t.Trips], bX 32 [dV f.Dead, dV f.Turn], aX 48 3 start1], 80⟩) (fun v1 hm => ?_) ?_
     ·refine rg G (cd hm (fun hm => ?_) (fun hm => ?_))
      ·obtain ⟨e8, h12, hm⟩ := obind hm
       obtain ⟨e9, h13, hm⟩ := obind hm
       obtain ⟨r3, h14, hm⟩ := obind hm
       refine ds G [] (hD 3 h12 (hD 7 h13 (hC 9 (zq121_c h14) h0))) ?_
       obtain ⟨r7, h19, hm⟩ := obind hm
       obtain ⟨e11, h20, hm⟩ := obind hm
       obtain ⟨r8, h21, hm⟩ := obind hm
       obtain ⟨r9, h22, hm⟩ := obind hm
       refine de G [] (hC 3 (zq120_c h19) (hD 6 h20 (hE 7 h20 (hC 16 (zq52_c h21) (hC 18 (zq102_c h22) h0))))) ?_
       exact wJ G hm
      ·exact X_skip (wJ G hm)
     rintro v1 hm
     obtain ⟨e16, h28, hm⟩ := obind hm
     obtain ⟨e17, h29, hm⟩ := obind hm
     obtain ⟨r11, h30, hm⟩ := obind hm
     obtain ⟨e18, h31, hm⟩ := obind hm
     obtain ⟨e19, h32, hm⟩ := obind hm
     refine de G [(21, [48])] (hD 6 h28 (hD 9 h29 (hC 11 (zq60_c h30) (hD 16 h31 (hD 20 h32 (hS 21 h32 (w64 ((w64 (v1 + r11)) - e18.Start)) h0)))))) ?_
     exact ibN (thN (rh G (wL G hm)))
    ·exact Ok_exit (thE (thE (ibE (wD G hm hb1))))
   rintro start2 hm s hw
   refine ibN (thN (Ok_weak hw ?_))
   exact rh G (wL G hm)
  ·exact Ok_exit (thE (thE (ibE (wD G hm hb))))
 rintro start3 hm s1 hw1
 refine thN (Ok_weak hw1 ?_)
 refine rg G ?_
 cases hm
 exact rt [16] []
noncomputable def zq70_M : MS ((List Int) × (List Int)) Bool := ⟨.x .r .r, fun x => zq70 x.1 x.2, fun y => dV y, fun _ => [], fun _ _ => []⟩
theorem zq70_c {a b y} (hm : zq70 a b = some y) : zq70_M.C (a, b) y := zq70_M.c (a, b) hm
theorem zq70_ok : FnOK Tryz.prog 176 zq70_M.S := by
 refine fm tt zq70_M [] Tryz.call176 Tryz.func176 rfl Tryz.results176 Tryz.ntmps176 ?_
 rintro ⟨a, b⟩ y cx G hm
 have hm : zq70 a b = some y := hm
 unfold zq70 at hm
 refine rg G (Ok_seq (rg G (tF hm (fun _ => ⟨[(0, dV a), (1, dV b)], [], 32⟩) (fun v2 hr hm => ?_) ?_)))
 ·refine Ok_block (lp G hm (fun v => ⟨[(0, dV a), (1, dV b), (5, dV v)], [], 32⟩) ?_)
  rintro v r0 hb hm
  rw [zq70_L1] at hm
  refine Ok_seq (jn hm (fun v1 => ⟨[(0, dV a), (1, dV b), (5, dV v), (15, dV v1)], [], 32⟩) (fun v1 hm => ?_) ?_)
  ·rcases bf hm with ⟨hb1, hm⟩ | ⟨hb1, hm⟩
   ·refine re G (hN 2 a (hO 4 (.b true) (hP hb1 (hN 7 b h0)))) ?_
    exact wJ G hm
   ·refine re G (hN 2 a (hO 4 (.b false) (hP hb1 h0))) ?_
    exact wJ G hm
  rintro v1 hm
  refine cd hm (fun hm => ?_) (fun hm => ?_)
  ·refine X_skip (thN (Ok_seq (Ok_block ?_)))
   obtain ⟨e2, h2, hm⟩ := obind hm
   obtain ⟨e3, h3, hm⟩ := obind hm
   refine ds G [] (hD 2 h2 (hD 6 h3 h0)) ?_
   refine cd hm (fun hm => ?_) (fun hm => ?_)
   ·obtain ⟨e6, h6, hm⟩ := obind hm
    obtain ⟨e7, h7, hm⟩ := obind hm
    refine ds G [] (hD 2 h6 (hD 6 h7 h0)) ?_
    have hm := eL hm hb hr
    cases hm
    exact rt [] []
   ·exact X_skip (ibN (thN (rh G (wL G hm))))
  ·exact Ok_exit (thE (thE (ibE (wE G hm hb))))
 rintro ⟨⟩ hm s hw
 refine thN (Ok_weak hw ?_)
 refine rs G (hN 1 a (hN 3 b h0)) ?_
 cases hm
 exact rt [] []
noncomputable def zq62_M : MS (Timetable × Fleet × (List Int) × (List Delay) × Int) ((List Int) × Int) := ⟨.x .r (.x .r (.x .r (.x .r .r))), fun x => zq62 x.1 x.2.1 x.2.2.1 x.2.2.2.1 x.2.2.2.2, fun y => .tup [dV y.1, dV y.2], fun _ => [], fun _ _ => []⟩
theorem zq62_c {t f block list penalty y} (hm : zq62 t f block list penalty = some y) : zq62_M.C (t, f, block, list, penalty) y := zq62_M.c (t, f, block, list, penalty) hm
theorem zq62_ok : FnOK Tryz.prog 102 zq62_M.S := by
 refine fm tt zq62_M [fo zq71_ok, fo zq66_ok, fo zq65_ok, fo zq58_ok, fo zq121_ok, fo zq99_ok, fo zq124_ok, fo zq70_ok] Tryz.call102 Tryz.func102 rfl Tryz.results102 Tryz.ntmps102 ?_
 rintro ⟨t, f, block, list, penalty⟩ y cx G hm
 have hm : zq62 t f block list penalty = some y := hm
 unfold zq62 at hm
 refine rg G (rg G (Ok_seq (rg G (tl hm (fun (delays2, cost2) => ⟨[(12, dV delays2), (13, dV cost2)], [], 32⟩) (fun vv1 hm => ?_) ?_))))
 ·refine Ok_block (lp G hm (fun (delays, cost, i) => ⟨[(2, dV block), (3, dV list), (4, dV penalty), (5, .ref 16 0), (6, .ref 32 0), (12, dV delays), (13, dV cost), (14, dV i)], [bX 16 [dV t.Network.Stops, dV t.Network.Lines, dV t.Trips], bX 32 [dV f.Dead, dV f.Turn]], 64⟩) ?_)
  rintro ⟨delays, cost, i⟩ r0 hb hm
  rw [zq62_L2] at hm
  refine Ok_seq ?_
  obtain ⟨u, h, hm⟩ := obind hm
  refine rs G (hN 2 block (hK h h0)) ?_
  refine cd hm (fun hm => ?_) (fun hm => ?_)
  ·refine X_skip (thN (jn hm (fun (delays1, cost1) => ⟨[(2, dV block), (3, dV list), (4, dV penalty), (5, .ref 16 0), (6, .ref 32 0), (12, dV delays1), (13, dV cost1), (14, dV i)], [bX 16 [dV t.Network.Stops, dV t.Network.Lines, dV t.Trips], bX 32 [dV f.Dead, dV f.Turn]], 64⟩) (fun vv hm => ?_) ?_))
   ·refine Ok_block ?_
    obtain ⟨r, h1, hm⟩ := obind hm
    refine rs G (hC 2 (zq71_c h1) h0) ?_
    obtain ⟨r1, h2, hm⟩ := obind hm
    refine rs G (hC 2 (zq66_c h2) h0) ?_
    refine Ok_seq ?_
    obtain ⟨r2, h3, hm⟩ := obind hm
    refine rs G (hC 3 (zq65_c h3) h0) ?_
    refine cd hm (fun hm => ?_) (fun hm => ?_)
    ·exact Ok_exit (thE (ibE (wJ G hm)))
    ·refine X_skip (thN ?_)
     obtain ⟨r3, h4, hm⟩ := obind hm
     refine rs G (hO 3 (.fz [256] [] []) (hF 5 (zq58_c h4) ⟨(flat_cons flat_arr flat_nil), flat_nil⟩ h0)) ?_
     refine rg G (Ok_seq (rg G (tl hm (fun v3 => ⟨[(2, dV block), (3, dV list), (4, dV penalty), (5, .ref 16 0), (6, .ref 32 0), (12, dV delays), (13, dV cost), (14, dV i), (15, dV r), (18, dV v3)], [bX 16 [dV t.Network.Stops, dV t.Network.Lines, dV t.Trips], bX 32 [dV f.Dead, dV f.Turn]], 64⟩) (fun v3 hm => ?_) ?_)))
     ·refine Ok_block (lp G hm (fun (v, v1) => ⟨[(2, dV block), (3, dV list), (4, dV penalty), (5, .ref 16 0), (6, .ref 32 0), (12, dV delays), (13, dV cost), (14, dV i), (15, dV r), (17, .own 48), (18, dV v), (19, dV v1)], [bX 16 [dV t.Network.Stops, dV t.Network.Lines, dV t.Trips], bX 32 [dV f.Dead, dV f.Turn], aX 48 3 r3], 80⟩) ?_)
      rintro ⟨v, v1⟩ r0 hb1 hm
      rw [zq62_L1] at hm
      refine Ok_seq (rs G (hN 2 block h0) ?_)
      refine cd hm (fun hm => ?_) (fun hm => ?_)
      ·refine X_skip (thN (jn hm (fun v2 => ⟨[(2, dV block), (3, dV list), (4, dV penalty), (5, .ref 16 0), (6, .ref 32 0), (12, dV delays), (13, dV cost), (14, dV i), (15, dV r), (17, .own 48), (18, dV v2), (19, dV v1)], [bX 16 [dV t.Network.Stops, dV t.Network.Lines, dV t.Trips], bX 32 [dV f.Dead, dV f.Turn], aX 48 3 r3], 80⟩) (fun v2 hm => ?_) ?_))
       ·refine Ok_block ?_
        obtain ⟨e1, h7, hm⟩ := obind hm
        obtain ⟨r5, h8, hm⟩ := obind hm
        refine ds G [] (hD 3 h7 (hC 5 (zq121_c h8) h0)) ?_
        obtain ⟨e2, h9, hm⟩ := obind hm
        obtain ⟨r6, h10, hm⟩ := obind hm
        refine rs G (hD 3 h9 (hC 5 (zq99_c h10) h0)) ?_
        refine cd hm (fun hm => ?_) (fun hm => ?_)
        ·obtain ⟨r7, h11, hm⟩ := obind hm
         refine re G (hC 4 (zq124_c h11) (hN 5 r7 h0)) ?_
         exact ibN (wJ G hm)
        ·obtain ⟨e4, h14, hm⟩ := obind hm
         obtain ⟨r9, h15, hm⟩ := obind hm
         refine de G [] (hD 3 h14 (hE 4 h14 (hC 7 (zq124_c h15) (hN 8 r9 h0)))) ?_
         exact ibN (wJ G hm)
       rintro v2 hm
       exact rh G (wL G hm)
      ·exact Ok_exit (thE (thE (ibE (wD G hm hb1))))
     rintro v3 hm s hw
     refine thN (Ok_weak hw ?_)
     refine jn hm (fun v4 => ⟨[(2, dV block), (3, dV list), (4, dV penalty), (5, .ref 16 0), (6, .ref 32 0), (12, dV delays), (13, dV cost), (14, dV i), (15, dV r), (18, dV v3), (114, dV v4)], [bX 16 [dV t.Network.Stops, dV t.Network.Lines, dV t.Trips], bX 32 [dV f.Dead, dV f.Turn]], 64⟩) (fun v4 hm => ?_) ?_
     ·rcases bf hm with ⟨hb2, hm⟩ | ⟨hb2, hm⟩
      ·refine re G (hO 2 (.b true) (hP hb2 h0)) ?_
       exact wJ G hm
      ·rcases bf hm with ⟨hb3, hm⟩ | ⟨hb3, hm⟩
       ·refine re G (hO 2 (.b false) (hP hb2 (hO 7 (.b true) (hP hb3 h0)))) ?_
        exact wJ G hm
       ·rcases bf hm with ⟨hb4, hm⟩ | ⟨hb4, hm⟩
        ·rcases bf hm with ⟨hb5, hm⟩ | ⟨hb5, hm⟩
         ·refine re G (hO 2 (.b false) (hP hb2 (hO 7 (.b false) (hP hb3 (hO 11 (.b true) (hP hb4 (hN 13 r (hN 15 delays (hO 17 (.b true) (hP hb5 h0)))))))))) ?_
          exact wJ G hm
         ·rcases bf hm with ⟨hb6, hm⟩ | ⟨hb6, hm⟩
          ·obtain ⟨r10, h16, hm⟩ := obind hm
           refine re G (hO 2 (.b false) (hP hb2 (hO 7 (.b false) (hP hb3 (hO 11 (.b true) (hP hb4 (hN 13 r (hN 15 delays (hO 17 (.b false) (hP hb5 (hN 19 r (hN 21 delays (hO 23 (.b true) (hP hb6 (hC 26 (zq70_c h16) h0))))))))))))))) ?_
           exact wJ G hm
          ·refine re G (hO 2 (.b false) (hP hb2 (hO 7 (.b false) (hP hb3 (hO 11 (.b true) (hP hb4 (hN 13 r (hN 15 delays (hO 17 (.b false) (hP hb5 (hN 19 r (hN 21 delays (hO 23 (.b false) (hP hb6 h0)))))))))))))) ?_
           exact wJ G hm
        ·refine re G (hO 2 (.b false) (hP hb2 (hO 7 (.b false) (hP hb3 (hO 11 (.b false) (hP hb4 h0)))))) ?_
         exact wJ G hm
     rintro v4 hm
     refine cd hm (fun hm => ?_) (fun hm => ?_)
     ·exact rg G (rh G (ibN (wJ G hm)))
     ·exact X_skip (ibN (wJ G hm))
   rintro ⟨delays1, cost1⟩ hm
   exact rh G (wL G hm)
  ·exact Ok_exit (thE (thE (ibE (wD G hm hb))))
 rintro ⟨delays2, cost2⟩ hm s1 hw1
 refine thN (Ok_weak hw1 ?_)
 refine rg G ?_
 cases hm
 exact rt [] []
noncomputable def zq72_M : MS ((List Int) × (List Int)) ((List Int)) := ⟨.x .r .r, fun x => zq72 x.1 x.2, fun y => dV y, fun _ => [], fun _ _ => []⟩
theorem zq72_c {a b y} (hm : zq72 a b = some y) : zq72_M.C (a, b) y := zq72_M.c (a, b) hm
theorem zq72_ok : FnOK Tryz.prog 103 zq72_M.S := by
 refine fm tt zq72_M [fo zq106_ok] Tryz.call103 Tryz.func103 rfl Tryz.results103 Tryz.ntmps103 ?_
 rintro ⟨a, b⟩ y cx G hm
 have hm : zq72 a b = some y := hm
 unfold zq72 at hm
 refine rg G (Ok_seq (rg G (tl hm (fun a2 => ⟨[(0, dV a2)], [], 32⟩) (fun a2 hm => ?_) ?_)))
 ·refine Ok_block (lp G hm (fun (a1, v) => ⟨[(0, dV a1), (1, dV b), (5, dV v)], [], 32⟩) ?_)
  rintro ⟨a1, v⟩ r0 hb hm
  rw [zq72_L1] at hm
  refine Ok_seq (rs G (hN 2 b h0) ?_)
  refine cd hm (fun hm => ?_) (fun hm => ?_)
  ·refine X_skip (thN (Ok_seq (Ok_block ?_)))
   obtain ⟨e, h, hm⟩ := obind hm
   obtain ⟨r, h1, hm⟩ := obind hm
   refine re G (hD 3 h (hC 5 (zq106_c h1) h0)) ?_
   exact ibN (thN (rh G (wL G hm)))
  ·exact Ok_exit (thE (thE (ibE (wD G hm hb))))
 rintro a2 hm s hw
 refine thN (Ok_weak hw ?_)
 refine rg G ?_
 cases hm
 exact rt [] []
noncomputable def zq43_M : MS (Timetable × Fleet × (List (List Int)) × (List Delay) × Int) ((List Int) × Int × Bool) := ⟨.x .r (.x .r (.x .r (.x .r .r))), fun x => zq43 x.1 x.2.1 x.2.2.1 x.2.2.2.1 x.2.2.2.2, fun y => .tup [dV y.1, dV y.2.1, dV y.2.2], fun _ => [], fun _ _ => []⟩
theorem zq43_c {t f blocks list penalty y} (hm : zq43 t f blocks list penalty = some y) : zq43_M.C (t, f, blocks, list, penalty) y := zq43_M.c (t, f, blocks, list, penalty) hm
theorem zq43_ok : FnOK Tryz.prog 32 zq43_M.S := by
 refine fm tt zq43_M [fo zq57_ok, fo zq100_ok, fo zq62_ok, fo zq72_ok] Tryz.call32 Tryz.func32 rfl Tryz.results32 Tryz.ntmps32 ?_
 rintro ⟨t, f, blocks, list, penalty⟩ y cx G hm
 have hm : zq43 t f blocks list penalty = some y := hm
 unfold zq43 at hm
 refine rg G (rg G (Ok_seq ?_))
 obtain ⟨r, h, hm⟩ := obind hm
 refine jn hm (fun v => ⟨[(2, dV blocks), (3, dV list), (4, dV penalty), (5, .ref 16 0), (6, .ref 32 0), (13, .own 48), (29, dV v)], [bX 16 [dV t.Network.Stops, dV t.Network.Lines, dV t.Trips], bX 32 [dV f.Dead, dV f.Turn], aX 48 3 ([] : List Int)], 80⟩) (fun v hm => ?_) ?_
 ·rcases bf hm with ⟨hb, hm⟩ | ⟨hb, hm⟩
  ·refine re G (hC 4 (zq57_c h) (hO 6 (.b true) (hP hb h0))) ?_
   exact wJ G hm
  ·obtain ⟨r1, h1, hm⟩ := obind hm
   refine re G (hC 4 (zq57_c h) (hO 6 (.b false) (hP hb (hC 8 (zq100_c h1) h0)))) ?_
   exact wJ G hm
 rintro v hm
 refine cd hm (fun hm => ?_) (fun hm => ?_)
 ·refine rg G ?_
  cases hm
  exact rt [] []
 ·refine X_skip (thN (rg G (Ok_seq (rg G (tl hm (fun (v4, v5) => ⟨[(13, dV v4), (14, dV v5)], [], 32⟩) (fun vv hm => ?_) ?_)))))
  ·refine Ok_block (lp G hm (fun (v1, v2, v3) => ⟨[(2, dV blocks), (3, dV list), (4, dV penalty), (5, .ref 16 0), (6, .ref 32 0), (13, dV v1), (14, dV v2), (15, dV v3)], [bX 16 [dV t.Network.Stops, dV t.Network.Lines, dV t.Trips], bX 32 [dV f.Dead, dV f.Turn]], 64⟩) ?_)
   rintro ⟨v1, v2, v3⟩ r0 hb1 hm
   rw [zq43_L1] at hm
   refine Ok_seq (rs G (hN 2 blocks h0) ?_)
   refine cd hm (fun hm => ?_) (fun hm => ?_)
   ·refine X_skip (thN (Ok_seq (Ok_block ?_)))
    obtain ⟨e1, h4, hm⟩ := obind hm
    obtain ⟨r3, h5, hm⟩ := obind hm
    refine ds G [] (hD 4 h4 (hC 8 (zq62_c h5) h0)) ?_
    obtain ⟨r4, h6, hm⟩ := obind hm
    refine rs G (hC 2 (zq72_c h6) h0) ?_
    exact rh G (ibN (thN (rh G (wL G hm))))
   ·exact Ok_exit (thE (thE (ibE (wD G hm hb1))))
  rintro ⟨v4, v5⟩ hm s hw
  refine thN (Ok_weak hw ?_)
  refine rg G ?_
  cases hm
  exact rt [] []
noncomputable def zq132_M : MS ((List Int) × (List Int)) Bool := ⟨.x .r .r, fun x => zq132 x.1 x.2, fun y => dV y, fun _ => [], fun _ _ => []⟩
theorem zq132_c {a b y} (hm : zq132 a b = some y) : zq132_M.C (a, b) y := zq132_M.c (a, b) hm
theorem zq132_ok : FnOK Tryz.prog 13 zq132_M.S := by
 refine fm tt zq132_M [] Tryz.call13 Tryz.func13 rfl Tryz.results13 Tryz.ntmps13 ?_
 rintro ⟨a, b⟩ y cx G hm
 have hm : zq132 a b = some y := hm
 unfold zq132 at hm
 refine rg G (Ok_seq (rs G (hN 1 a (hN 3 b h0)) ?_))
 refine cd hm (fun hm => ?_) (fun hm => ?_)
 ·refine rg G ?_
  cases hm
  exact rt [] []
 ·refine X_skip (thN (Ok_seq (rg G (tF hm (fun _ => ⟨[], [], 32⟩) (fun v1 hr hm => ?_) ?_))))
  ·refine Ok_block (lp G hm (fun v => ⟨[(0, dV a), (1, dV b), (5, dV v)], [], 32⟩) ?_)
   rintro v r0 hb hm
   rw [zq132_L1] at hm
   refine Ok_seq (rs G (hN 2 a h0) ?_)
   refine cd hm (fun hm => ?_) (fun hm => ?_)
   ·refine X_skip (thN (Ok_seq (Ok_block ?_)))
    obtain ⟨e2, h2, hm⟩ := obind hm
    obtain ⟨e3, h3, hm⟩ := obind hm
    refine ds G [] (hD 2 h2 (hD 6 h3 h0)) ?_
    refine cd hm (fun hm => ?_) (fun hm => ?_)
    ·refine rg G ?_
     have hm := eL hm hb hr
     cases hm
     exact rt [] []
    ·exact X_skip (ibN (thN (rh G (wL G hm))))
   ·exact Ok_exit (thE (thE (ibE (wE G hm hb))))
  rintro ⟨⟩ hm s hw
  refine thN (Ok_weak hw ?_)
  refine rg G ?_
  cases hm
  exact rt [] []
noncomputable def zq12_M : MS (Timetable × (List Int)) Bool := ⟨.x .r .r, fun x => zq12 x.1 x.2, fun y => dV y, fun _ => [], fun _ _ => []⟩
theorem zq12_c {t cancelled y} (hm : zq12 t cancelled = some y) : zq12_M.C (t, cancelled) y := zq12_M.c (t, cancelled) hm
theorem zq12_ok : FnOK Tryz.prog 105 zq12_M.S := by
 refine fm tt zq12_M [fo zq39_ok] Tryz.call105 Tryz.func105 rfl Tryz.results105 Tryz.ntmps105 ?_
 rintro ⟨t, cancelled⟩ y cx G hm
 have hm : zq12 t cancelled = some y := hm
 unfold zq12 at hm
 refine rg G (rg G (Ok_seq (rs G (hN 1 cancelled h0) ?_)))
 refine tF hm (fun _ => ⟨[], [], 32⟩) (fun v2 hr hm => ?_) ?_
 ·refine Ok_block (lp G hm (fun (id, v) => ⟨[(2, .ref 16 0), (5, dV id), (8, dV cancelled), (9, dV (cancelled.length : Int)), (10, dV v)], [bX 16 [dV t.Network.Stops, dV t.Network.Lines, dV t.Trips]], 48⟩) ?_)
  rintro ⟨id, v⟩ r0 hb hm
  rw [zq12_L1] at hm
  refine rg G (Ok_seq (cd hm (fun hm => ?_) (fun hm => ?_)))
  ·refine X_skip (thN (Ok_seq (Ok_block ?_)))
   obtain ⟨e, h, hm⟩ := obind hm
   refine rs G (hD 0 h h0) ?_
   refine Ok_seq (jn hm (fun v1 => ⟨[(2, .ref 16 0), (7, dV e), (8, dV cancelled), (9, dV (cancelled.length : Int)), (10, dV v), (22, dV v1)], [bX 16 [dV t.Network.Stops, dV t.Network.Lines, dV t.Trips]], 48⟩) (fun v1 hm => ?_) ?_)
   ·rcases bf hm with ⟨hb1, hm⟩ | ⟨hb1, hm⟩
    ·refine re G (hO 3 (.b true) (hP hb1 h0)) ?_
     exact wJ G hm
    ·obtain ⟨r, h1, hm⟩ := obind hm
     refine re G (hO 3 (.b false) (hP hb1 (hC 6 (zq39_c h1) h0))) ?_
     exact wJ G hm
   rintro v1 hm
   refine cd hm (fun hm => ?_) (fun hm => ?_)
   ·refine rg G ?_
    have hm := eL hm hb hr
    cases hm
    exact rt [] []
   ·exact X_skip (thN (rh G (ibN (thN (rh G (wL G hm))))))
  ·exact Ok_exit (thE (thE (ibE (wE G hm hb))))
 rintro ⟨⟩ hm s hw
 refine thN (Ok_weak hw ?_)
 refine rg G ?_
 cases hm
 exact rt [] []
noncomputable def zq5_M : MS (Timetable × Fleet × (List (List Int)) × (List Int)) Bool := ⟨.x .r (.x .r (.x .r .r)), fun x => zq5 x.1 x.2.1 x.2.2.1 x.2.2.2, fun y => dV y, fun _ => [], fun _ _ => []⟩
theorem zq5_c {t f blocks cancelled y} (hm : zq5 t f blocks cancelled = some y) : zq5_M.C (t, f, blocks, cancelled) y := zq5_M.c (t, f, blocks, cancelled) hm
theorem zq5_ok : FnOK Tryz.prog 35 zq5_M.S := by
 refine fm tt zq5_M [fo zq6_ok, fo zq12_ok, fo zq28_ok] Tryz.call35 Tryz.func35 rfl Tryz.results35 Tryz.ntmps35 ?_
 rintro ⟨t, f, blocks, cancelled⟩ y cx G hm
 have hm : zq5 t f blocks cancelled = some y := hm
 unfold zq5 at hm
 refine rg G ?_
 obtain ⟨r, h, hm⟩ := obind hm
 refine jn hm (fun v => ⟨[(8, dV v)], [], 32⟩) (fun v hm => ?_) ?_
 ·rcases bf hm with ⟨hb, hm⟩ | ⟨hb, hm⟩
  ·obtain ⟨r1, h1, hm⟩ := obind hm
   rcases bf hm with ⟨hb1, hm⟩ | ⟨hb1, hm⟩
   ·obtain ⟨r2, h2, hm⟩ := obind hm
    refine re G (hC 3 (zq6_c h) (hO 4 (.b true) (hP hb (hC 7 (zq12_c h1) (hO 9 (.b true) (hP hb1 (hC 14 (zq28_c h2) h0))))))) ?_
    exact wJ G hm
   ·refine re G (hC 3 (zq6_c h) (hO 4 (.b true) (hP hb (hC 7 (zq12_c h1) (hO 9 (.b false) (hP hb1 h0)))))) ?_
    exact wJ G hm
  ·refine re G (hC 3 (zq6_c h) (hO 4 (.b false) (hP hb h0))) ?_
   exact wJ G hm
 rintro v hm
 cases hm
 exact rt [] []
noncomputable def zq4_M : MS (Timetable × Fleet × (List (List Int)) × (List Delay) × Int × (List Int)) (Int × Bool) := ⟨.x .r (.x .r (.x .r (.x .r (.x .r .r)))), fun x => zq4 x.1 x.2.1 x.2.2.1 x.2.2.2.1 x.2.2.2.2.1 x.2.2.2.2.2, fun y => .tup [dV y.1, dV y.2], fun _ => [], fun _ _ => []⟩
theorem zq4_c {t f blocks list penalty cancelled y} (hm : zq4 t f blocks list penalty cancelled = some y) : zq4_M.C (t, f, blocks, list, penalty, cancelled) y := zq4_M.c (t, f, blocks, list, penalty, cancelled) hm
theorem zq4_ok : FnOK Tryz.prog 33 zq4_M.S := by
 refine fm tt zq4_M [fo zq5_ok, fo zq13_ok, fo zq27_ok, fo zq18_ok] Tryz.call33 Tryz.func33 rfl Tryz.results33 Tryz.ntmps33 ?_
 rintro ⟨t, f, blocks, list, penalty, cancelled⟩ y cx G hm
 have hm : zq4 t f blocks list penalty cancelled = some y := hm
 unfold zq4 at hm
 refine rg G (Ok_seq ?_)
 obtain ⟨r, h, hm⟩ := obind hm
 refine jn hm (fun v => ⟨[(2, dV blocks), (3, dV list), (4, dV penalty), (5, dV cancelled), (6, .ref 16 0), (7, .ref 32 0), (30, dV v)], [bX 16 [dV t.Network.Stops, dV t.Network.Lines, dV t.Trips], bX 32 [dV f.Dead, dV f.Turn]], 64⟩) (fun v hm => ?_) ?_
 ·rcases bf hm with ⟨hb, hm⟩ | ⟨hb, hm⟩
  ·refine re G (hC 4 (zq5_c h) (hO 6 (.b true) (hP hb h0))) ?_
   exact wJ G hm
  ·obtain ⟨r1, h1, hm⟩ := obind hm
   rcases bf hm with ⟨hb1, hm⟩ | ⟨hb1, hm⟩
   ·refine re G (hC 4 (zq5_c h) (hO 6 (.b false) (hP hb (hC 9 (zq13_c h1) (hO 12 (.b true) (hP hb1 h0)))))) ?_
    exact wJ G hm
   ·obtain ⟨r2, h2, hm⟩ := obind hm
    refine re G (hC 4 (zq5_c h) (hO 6 (.b false) (hP hb (hC 9 (zq13_c h1) (hO 12 (.b false) (hP hb1 (hC 14 (zq27_c h2) h0))))))) ?_
    exact wJ G hm
 rintro v hm
 refine cd hm (fun hm => ?_) (fun hm => ?_)
 ·refine rg G ?_
  cases hm
  exact rt [] []
 ·refine X_skip (thN ?_)
  obtain ⟨r3, h3, hm⟩ := obind hm
  refine rs G (hC 6 (zq18_c h3) h0) ?_
  cases hm
  exact rt [] []
noncomputable def zq68_M : MS (Timetable × (List Int)) Bool := ⟨.x .r .r, fun x => zq68 x.1 x.2, fun y => dV y, fun _ => [], fun _ _ => []⟩
theorem zq68_c {t list y} (hm : zq68 t list = some y) : zq68_M.C (t, list) y := zq68_M.c (t, list) hm
theorem zq68_ok : FnOK Tryz.prog 207 zq68_M.S := by
 refine fm tt zq68_M [fo zq121_ok] Tryz.call207 Tryz.func207 rfl Tryz.results207 Tryz.ntmps207 ?_
 rintro ⟨t, list⟩ y cx G hm
 have hm : zq68 t list = some y := hm
 unfold zq68 at hm
 refine rg G (Ok_seq (rg G (tF hm (fun _ => ⟨[], [], 32⟩) (fun v2 hr hm => ?_) ?_)))
 ·refine Ok_block (lp G hm (fun v => ⟨[(1, dV list), (2, .ref 16 0), (5, dV v)], [bX 16 [dV t.Network.Stops, dV t.Network.Lines, dV t.Trips]], 48⟩) ?_)
  rintro v r0 hb hm
  rw [zq68_L1] at hm
  refine Ok_seq (rs G (hN 2 list h0) ?_)
  refine cd hm (fun hm => ?_) (fun hm => ?_)
  ·refine X_skip (thN (Ok_seq (Ok_block ?_)))
   obtain ⟨e3, h4, hm⟩ := obind hm
   obtain ⟨r1, h5, hm⟩ := obind hm
   refine jn hm (fun v1 => ⟨[(1, dV list), (2, .ref 16 0), (5, dV v), (34, dV v1)], [bX 16 [dV t.Network.Stops, dV t.Network.Lines, dV t.Trips]], 48⟩) (fun v1 hm => ?_) ?_
   ·rcases bf hm with ⟨hb1, hm⟩ | ⟨hb1, hm⟩
    ·refine de G [] (hD 3 h4 (hC 5 (zq121_c h5) (hO 7 (.b true) (hP hb1 h0)))) ?_
     exact wJ G hm
    ·rcases bf hm with ⟨hb2, hm⟩ | ⟨hb2, hm⟩
     ·obtain ⟨e4, h6, hm⟩ := obind hm
      obtain ⟨e5, h7, hm⟩ := obind hm
      refine de G [] (hD 3 h4 (hC 5 (zq121_c h5) (hO 7 (.b false) (hP hb1 (hO 10 (.b true) (hP hb2 (hD 14 h6 (hD 18 h7 h0)))))))) ?_
      exact wJ G hm
     ·refine de G [] (hD 3 h4 (hC 5 (zq121_c h5) (hO 7 (.b false) (hP hb1 (hO 10 (.b false) (hP hb2 h0)))))) ?_
      exact wJ G hm
   rintro v1 hm
   refine cd hm (fun hm => ?_) (fun hm => ?_)
   ·refine rg G ?_
    have hm := eL hm hb hr
    cases hm
    exact rt [] []
   ·exact X_skip (ibN (thN (rh G (wL G hm))))
  ·exact Ok_exit (thE (thE (ibE (wE G hm hb))))
 rintro ⟨⟩ hm s hw
 refine thN (Ok_weak hw ?_)
 refine rg G ?_
 cases hm
 exact rt [] []
noncomputable def zq69_M : MS (Timetable × Fleet × (List (List Int)) × (List Int)) Bool := ⟨.x .r (.x .r (.x .r .r)), fun x => zq69 x.1 x.2.1 x.2.2.1 x.2.2.2, fun y => dV y, fun _ => [], fun _ _ => []⟩
theorem zq69_c {t f blocks cancelled y} (hm : zq69 t f blocks cancelled = some y) : zq69_M.C (t, f, blocks, cancelled) y := zq69_M.c (t, f, blocks, cancelled) hm
theorem zq69_ok : FnOK Tryz.prog 148 zq69_M.S := by
 refine fm tt zq69_M [fo zq68_ok, fo zq66_ok, fo zq65_ok] Tryz.call148 Tryz.func148 rfl Tryz.results148 Tryz.ntmps148 ?_
 rintro ⟨t, f, blocks, cancelled⟩ y cx G hm
 have hm : zq69 t f blocks cancelled = some y := hm
 unfold zq69 at hm
 refine rg G (Ok_seq ?_)
 obtain ⟨r, h, hm⟩ := obind hm
 refine rs G (hC 2 (zq68_c h) h0) ?_
 refine cd hm (fun hm => ?_) (fun hm => ?_)
 ·refine rg G ?_
  cases hm
  exact rt [] []
 ·refine X_skip (thN (Ok_seq (rg G (tF hm (fun _ => ⟨[], [], 32⟩) (fun v1 hr hm => ?_) ?_))))
  ·refine Ok_block (lp G hm (fun v => ⟨[(2, dV blocks), (3, dV cancelled), (4, .ref 16 0), (5, .ref 32 0), (9, dV v)], [bX 16 [dV t.Network.Stops, dV t.Network.Lines, dV t.Trips], bX 32 [dV f.Dead, dV f.Turn]], 64⟩) ?_)
   rintro v r0 hb hm
   rw [zq69_L1] at hm
   refine Ok_seq (rs G (hN 2 blocks h0) ?_)
   refine cd hm (fun hm => ?_) (fun hm => ?_)
   ·refine X_skip (thN (Ok_seq (Ok_block ?_)))
    obtain ⟨e1, h4, hm⟩ := obind hm
    obtain ⟨r3, h5, hm⟩ := obind hm
    obtain ⟨r4, h6, hm⟩ := obind hm
    refine ds G [] (hD 4 h4 (hC 7 (zq66_c h5) (hC 8 (zq65_c h6) h0))) ?_
    refine cd hm (fun hm => ?_) (fun hm => ?_)
    ·refine rg G ?_
     have hm := eL hm hb hr
     cases hm
     exact rt [] []
    ·exact X_skip (ibN (thN (rh G (wL G hm))))
   ·exact Ok_exit (thE (thE (ibE (wE G hm hb))))
  rintro ⟨⟩ hm s hw
  refine thN (Ok_weak hw ?_)
  refine rg G ?_
  cases hm
  exact rt [] []
noncomputable def zq61_M : MS (Timetable × Fleet × (List (List Int)) × (List Delay) × (List Int)) Bool := ⟨.x .r (.x .r (.x .r (.x .r .r))), fun x => zq61 x.1 x.2.1 x.2.2.1 x.2.2.2.1 x.2.2.2.2, fun y => dV y, fun _ => [], fun _ _ => []⟩
theorem zq61_c {t f blocks list cancelled y} (hm : zq61 t f blocks list cancelled = some y) : zq61_M.C (t, f, blocks, list, cancelled) y := zq61_M.c (t, f, blocks, list, cancelled) hm
theorem zq61_ok : FnOK Tryz.prog 68 zq61_M.S := by
 refine fm tt zq61_M [fo zq57_ok, fo zq69_ok] Tryz.call68 Tryz.func68 rfl Tryz.results68 Tryz.ntmps68 ?_
 rintro ⟨t, f, blocks, list, cancelled⟩ y cx G hm
 have hm : zq61 t f blocks list cancelled = some y := hm
 unfold zq61 at hm
 refine rg G ?_
 obtain ⟨r, h, hm⟩ := obind hm
 refine jn hm (fun v => ⟨[(10, dV v)], [], 32⟩) (fun v hm => ?_) ?_
 ·rcases bf hm with ⟨hb, hm⟩ | ⟨hb, hm⟩
  ·obtain ⟨r1, h1, hm⟩ := obind hm
   refine re G (hC 4 (zq57_c h) (hO 5 (.b true) (hP hb (hC 10 (zq69_c h1) h0)))) ?_
   exact wJ G hm
  ·refine re G (hC 4 (zq57_c h) (hO 5 (.b false) (hP hb h0))) ?_
   exact wJ G hm
 rintro v hm
 cases hm
 exact rt [] []
noncomputable def zq67_M : MS ((List (List Int)) × (List Int)) ((List (List Int))) := ⟨.x .r .r, fun x => zq67 x.1 x.2, fun _ => .own 0, fun y => [arO 35 y], fun _ _ => []⟩
theorem zq67_c {blocks cancelled y} (hm : zq67 blocks cancelled = some y) : zq67_M.C (blocks, cancelled) y := zq67_M.c (blocks, cancelled) hm
theorem zq67_ok : FnOK Tryz.prog 149 zq67_M.S := by
 refine fm tt zq67_M [fo zq66_ok] Tryz.call149 Tryz.func149 rfl Tryz.results149 Tryz.ntmps149 ?_
 rintro ⟨blocks, cancelled⟩ y cx G hm
 have hm : zq67 blocks cancelled = some y := hm
 unfold zq67 at hm
 refine rg G (rg G (Ok_seq (rg G (tl hm (fun v2 => ⟨[(5, .own 16)], [aX 16 35 v2], 48⟩) (fun v2 hm => ?_) ?_))))
 ·refine Ok_block (lp G hm (fun (v, v1) => ⟨[(0, dV blocks), (1, dV cancelled), (5, .own 16), (6, dV v)], [aX 16 35 v1], 48⟩) ?_)
  rintro ⟨v, v1⟩ r0 hb hm
  rw [zq67_L1] at hm
  refine Ok_seq (rs G (hN 2 blocks h0) ?_)
  refine cd hm (fun hm => ?_) (fun hm => ?_)
  ·refine X_skip (thN (Ok_seq (Ok_block ?_)))
   obtain ⟨e, h, hm⟩ := obind hm
   obtain ⟨r, h1, hm⟩ := obind hm
   obtain ⟨u, h2, hm⟩ := obind hm
   refine re G (hD 3 h (hC 6 (zq66_c h1) (hO 7 (.fz [208] [] []) (hA 8 24 h2 h0)))) ?_
   exact ibN (thN (rh G (wL G hm)))
  ·exact Ok_exit (thE (thE (ibE (wD G hm hb))))
 rintro v2 hm s hw
 refine thN (Ok_weak hw ?_)
 refine rg G ?_
 cases hm
 exact rt [16] []
noncomputable def zq64_M : MS (Timetable × Fleet × (List (List Int)) × (List Delay) × (List Int)) ((List Int)) := ⟨.x .r (.x .r (.x .r (.x .r .r))), fun x => zq64 x.1 x.2.1 x.2.2.1 x.2.2.2.1 x.2.2.2.2, fun _ => .own 0, fun y => [arO 3 y], fun _ _ => []⟩
theorem zq64_c {t f blocks list cancelled y} (hm : zq64 t f blocks list cancelled = some y) : zq64_M.C (t, f, blocks, list, cancelled) y := zq64_M.c (t, f, blocks, list, cancelled) hm
theorem zq64_ok : FnOK Tryz.prog 69 zq64_M.S := by
 refine fm tt zq64_M [fo zq67_ok, fo zq58_ok, fo zq99_ok] Tryz.call69 Tryz.func69 rfl Tryz.results69 Tryz.ntmps69 ?_
 rintro ⟨t, f, blocks, list, cancelled⟩ y cx G hm
 have hm : zq64 t f blocks list cancelled = some y := hm
 unfold zq64 at hm
 refine rg G ?_
 obtain ⟨r2, h2, hm⟩ := obind hm
 obtain ⟨r3, h3, hm⟩ := obind hm
 refine ds G [] (hC 4 (zq67_c h2) (hF 6 (zq58_c h3) ⟨(flat_cons flat_arr flat_nil), flat_nil⟩ h0)) ?_
 refine Ok_seq (rg G (tl hm (fun v3 => ⟨[(11, .own 16)], [aX 16 3 v3], 48⟩) (fun v3 hm => ?_) ?_))
 ·refine Ok_block (lp G hm (fun (v, v1) => ⟨[(4, dV cancelled), (5, .ref 16 0), (11, .own 32), (12, dV v)], [bX 16 [dV t.Network.Stops, dV t.Network.Lines, dV t.Trips], aX 32 3 v1], 64⟩) ?_)
  rintro ⟨v, v1⟩ r0 hb hm
  rw [zq64_L1] at hm
  refine Ok_seq (rs G (hN 2 v1 h0) ?_)
  refine cd hm (fun hm => ?_) (fun hm => ?_)
  ·refine X_skip (thN (jn hm (fun v2 => ⟨[(4, dV cancelled), (5, .ref 16 0), (11, .own 32), (12, dV v)], [bX 16 [dV t.Network.Stops, dV t.Network.Lines, dV t.Trips], aX 32 3 v2], 64⟩) (fun v2 hm => ?_) ?_))
   ·refine Ok_block ?_
    obtain ⟨e, h4, hm⟩ := obind hm
    obtain ⟨r4, h5, hm⟩ := obind hm
    refine rs G (hD 4 h4 (hC 7 (zq99_c h5) h0)) ?_
    refine cd hm (fun hm => ?_) (fun hm => ?_)
    ·obtain ⟨e1, h6, hm⟩ := obind hm
     refine re G (hD 2 h6 (hS 3 h6 (-1) h0)) ?_
     exact ibN (wJ G hm)
    ·exact X_skip (ibN (wJ G hm))
   rintro v2 hm
   exact rh G (wL G hm)
  ·exact Ok_exit (thE (thE (ibE (wD G hm hb))))
 rintro v3 hm s hw
 refine thN (Ok_weak hw ?_)
 refine rg G ?_
 cases hm
 exact rt [16] []
noncomputable def zq63_M : MS (Timetable × Fleet × (List (List Int)) × (List Delay) × Int × (List Int)) Int := ⟨.x .r (.x .r (.x .r (.x .r (.x .r .r)))), fun x => zq63 x.1 x.2.1 x.2.2.1 x.2.2.2.1 x.2.2.2.2.1 x.2.2.2.2.2, fun y => dV y, fun _ => [], fun _ _ => []⟩
theorem zq63_c {t f blocks list penalty cancelled y} (hm : zq63 t f blocks list penalty cancelled = some y) : zq63_M.C (t, f, blocks, list, penalty, cancelled) y := zq63_M.c (t, f, blocks, list, penalty, cancelled) hm
theorem zq63_ok : FnOK Tryz.prog 104 zq63_M.S := by
 refine fm tt zq63_M [fo zq64_ok, fo zq124_ok] Tryz.call104 Tryz.func104 rfl Tryz.results104 Tryz.ntmps104 ?_
 rintro ⟨t, f, blocks, list, penalty, cancelled⟩ y cx G hm
 have hm : zq63 t f blocks list penalty cancelled = some y := hm
 unfold zq63 at hm
 refine rg G ?_
 obtain ⟨r, h, hm⟩ := obind hm
 refine rs G (hC 5 (zq64_c h) h0) ?_
 refine rg G (Ok_seq (rg G (tl hm (fun v3 => ⟨[(14, dV v3)], [], 32⟩) (fun v3 hm => ?_) ?_)))
 ·refine Ok_block (lp G hm (fun (v, v1) => ⟨[(4, dV penalty), (6, .ref 16 0), (13, .own 32), (14, dV v), (15, dV v1)], [bX 16 [dV t.Network.Stops, dV t.Network.Lines, dV t.Trips], aX 32 3 r], 64⟩) ?_)
  rintro ⟨v, v1⟩ r0 hb hm
  rw [zq63_L1] at hm
  refine Ok_seq (rs G (hN 2 r h0) ?_)
  refine cd hm (fun hm => ?_) (fun hm => ?_)
  ·refine X_skip (thN (Ok_seq (Ok_block ?_)))
   obtain ⟨e, h1, hm⟩ := obind hm
   refine rs G (hD 2 h1 (hE 3 h1 h0)) ?_
   refine jn hm (fun v2 => ⟨[(4, dV penalty), (6, .ref 16 0), (13, .own 32), (14, dV v), (15, dV v1), (16, dV v2)], [bX 16 [dV t.Network.Stops, dV t.Network.Lines, dV t.Trips], aX 32 3 r], 64⟩) (fun v2 hm => ?_) ?_
   ·refine rg G (cd hm (fun hm => ?_) (fun hm => ?_))
    ·exact rh G (wJ G hm)
    ·exact X_skip (wJ G hm)
   rintro v2 hm
   obtain ⟨r1, h2, hm⟩ := obind hm
   refine re G (hC 4 (zq124_c h2) (hN 5 r1 h0)) ?_
   exact ibN (thN (rh G (wL G hm)))
  ·exact Ok_exit (thE (thE (ibE (wD G hm hb))))
 rintro v3 hm s hw
 refine thN (Ok_weak hw ?_)
 refine rg G ?_
 cases hm
 exact rt [] []
noncomputable def zq44_M : MS (Timetable × Fleet × (List (List Int)) × (List Delay) × Int × (List Int)) (Int × Bool) := ⟨.x .r (.x .r (.x .r (.x .r (.x .r .r)))), fun x => zq44 x.1 x.2.1 x.2.2.1 x.2.2.2.1 x.2.2.2.2.1 x.2.2.2.2.2, fun y => .tup [dV y.1, dV y.2], fun _ => [], fun _ _ => []⟩
theorem zq44_c {t f blocks list penalty cancelled y} (hm : zq44 t f blocks list penalty cancelled = some y) : zq44_M.C (t, f, blocks, list, penalty, cancelled) y := zq44_M.c (t, f, blocks, list, penalty, cancelled) hm
theorem zq44_ok : FnOK Tryz.prog 34 zq44_M.S := by
 refine fm tt zq44_M [fo zq61_ok, fo zq100_ok, fo zq63_ok] Tryz.call34 Tryz.func34 rfl Tryz.results34 Tryz.ntmps34 ?_
 rintro ⟨t, f, blocks, list, penalty, cancelled⟩ y cx G hm
 have hm : zq44 t f blocks list penalty cancelled = some y := hm
 unfold zq44 at hm
 refine rg G (Ok_seq ?_)
 obtain ⟨r, h, hm⟩ := obind hm
 refine jn hm (fun v => ⟨[(2, dV blocks), (3, dV list), (4, dV penalty), (5, dV cancelled), (6, .ref 16 0), (7, .ref 32 0), (25, dV v)], [bX 16 [dV t.Network.Stops, dV t.Network.Lines, dV t.Trips], bX 32 [dV f.Dead, dV f.Turn]], 64⟩) (fun v hm => ?_) ?_
 ·rcases bf hm with ⟨hb, hm⟩ | ⟨hb, hm⟩
  ·refine re G (hC 5 (zq61_c h) (hO 7 (.b true) (hP hb h0))) ?_
   exact wJ G hm
  ·obtain ⟨r1, h1, hm⟩ := obind hm
   refine re G (hC 5 (zq61_c h) (hO 7 (.b false) (hP hb (hC 9 (zq100_c h1) h0)))) ?_
   exact wJ G hm
 rintro v hm
 refine cd hm (fun hm => ?_) (fun hm => ?_)
 ·refine rg G ?_
  cases hm
  exact rt [] []
 ·refine X_skip (thN ?_)
  obtain ⟨r2, h2, hm⟩ := obind hm
  refine rs G (hC 6 (zq63_c h2) h0) ?_
  cases hm
  exact rt [] []
noncomputable def zq38_M : MS (Timetable × (List Int)) Int := ⟨.x .r .r, fun x => zq38 x.1 x.2, fun y => dV y, fun _ => [], fun _ _ => []⟩
theorem zq38_c {t delays y} (hm : zq38 t delays = some y) : zq38_M.C (t, delays) y := zq38_M.c (t, delays) hm
theorem zq38_ok : FnOK Tryz.prog 92 zq38_M.S := by
 refine fm tt zq38_M [fo zq35_ok] Tryz.call92 Tryz.func92 rfl Tryz.results92 Tryz.ntmps92 ?_
 rintro ⟨t, delays⟩ y cx G hm
 have hm : zq38 t delays = some y := hm
 unfold zq38 at hm
 refine rg G (rg G (Ok_seq (rs G (hN 1 delays h0) ?_)))
 refine tl hm (fun d1 => ⟨[(5, dV d1)], [], 32⟩) (fun d1 hm => ?_) ?_
 ·refine Ok_block (lp G hm (fun (d, v) => ⟨[(2, .ref 16 0), (5, dV d), (8, dV delays), (9, dV (delays.length : Int)), (10, dV v)], [bX 16 [dV t.Network.Stops, dV t.Network.Lines, dV t.Trips]], 48⟩) ?_)
  rintro ⟨d, v⟩ r0 hb hm
  rw [zq38_L1] at hm
  refine rg G (Ok_seq (cd hm (fun hm => ?_) (fun hm => ?_)))
  ·refine X_skip (thN (Ok_seq (Ok_block ?_)))
   obtain ⟨e, h, hm⟩ := obind hm
   refine rs G (hD 1 h h0) ?_
   obtain ⟨e2, h3, hm⟩ := obind hm
   obtain ⟨r1, h4, hm⟩ := obind hm
   refine de G [] (hD 6 h3 (hC 8 (zq35_c h4) (hN 10 r1.Stops h0))) ?_
   exact ibN (thN (rh G (wL G hm)))
  ·exact Ok_exit (thE (thE (ibE (wD G hm hb))))
 rintro d1 hm s hw
 refine thN (Ok_weak hw ?_)
 refine rg G ?_
 cases hm
 exact rt [] []
noncomputable def zq10_M : MS (Timetable × Fleet × (List (List Int)) × (List Delay)) (Int × Bool) := ⟨.x .r (.x .r (.x .r .r)), fun x => zq10 x.1 x.2.1 x.2.2.1 x.2.2.2, fun y => .tup [dV y.1, dV y.2], fun _ => [], fun _ _ => []⟩
theorem zq10_c {t f blocks list y} (hm : zq10 t f blocks list = some y) : zq10_M.C (t, f, blocks, list) y := zq10_M.c (t, f, blocks, list) hm
theorem zq10_ok : FnOK Tryz.prog 27 zq10_M.S := by
 refine fm tt zq10_M [fo zq14_ok, fo zq21_ok, fo zq38_ok] Tryz.call27 Tryz.func27 rfl Tryz.results27 Tryz.ntmps27 ?_
 rintro ⟨t, f, blocks, list⟩ y cx G hm
 have hm : zq10 t f blocks list = some y := hm
 unfold zq10 at hm
 refine rg G (Ok_seq ?_)
 obtain ⟨r, h, hm⟩ := obind hm
 refine rs G (hC 4 (zq14_c h) h0) ?_
 refine cd hm (fun hm => ?_) (fun hm => ?_)
 ·refine rg G ?_
  cases hm
  exact rt [] []
 ·refine X_skip (thN ?_)
  obtain ⟨r3, h3, hm⟩ := obind hm
  obtain ⟨r4, h4, hm⟩ := obind hm
  refine ds G [] (hC 5 (zq21_c h3) (hC 6 (zq38_c h4) h0)) ?_
  cases hm
  exact rt [] []
noncomputable def v_FnRecovery_M : MS ((List UInt8)) Bool := ⟨.r, v_FnRecovery, fun y => dV y, fun _ => [], fun _ _ => []⟩
theorem v_FnRecovery_c {code y} (hm : v_FnRecovery code = some y) : v_FnRecovery_M.C code y := v_FnRecovery_M.c code hm
theorem v_FnRecovery_ok : FnOK Tryz.prog 5 v_FnRecovery_M.S := by
 refine fm tt v_FnRecovery_M [fo zq131_ok, fo zq45_ok, fo zq3_ok, fo zq43_ok, fo zq132_ok, fo zq4_ok, fo zq44_ok, fo zq10_ok, fo zq5_ok] Tryz.call5 Tryz.func5 rfl Tryz.results5 Tryz.ntmps5 ?_
 rintro code y cx G hm
 have hm : v_FnRecovery code = some y := hm
 unfold v_FnRecovery at hm
 refine rg G (Ok_seq ?_)
 obtain ⟨r, h, hm⟩ := obind hm
 refine rs G (hC 1 (zq131_c h) h0) ?_
 refine cd hm (fun hm => ?_) (fun hm => ?_)
 ·refine rg G ?_
  cases hm
  exact rt [] []
 ·refine X_skip (thN ?_)
  obtain ⟨r1, h1, hm⟩ := obind hm
  refine rs G (hC 1 (zq45_c h1) h0) ?_
  obtain ⟨r2, h2, hm⟩ := obind hm
  refine rs G (hO 5 (.fz [80, 81] [] []) (hC 5 (zq3_c h2) h0)) ?_
  refine Ok_seq ?_
  obtain ⟨r3, h3, hm⟩ := obind hm
  refine rs G (hC 5 (zq43_c h3) h0) ?_
  refine jn hm (fun v => ⟨[(3, .ref 16 0), (4, .ref 32 0), (5, dV r1.2.2.1), (6, dV r1.2.2.2.1), (7, dV r1.2.2.2.2.1), (8, .own 48), (9, dV r2.1), (10, dV r2.2.1), (11, dV r2.2.2), (69, dV v)], [bX 16 [dV r1.1.Network.Stops, dV r1.1.Network.Lines, dV r1.1.Trips], bX 32 [dV r1.2.1.Dead, dV r1.2.1.Turn], aX 48 3 r1.2.2.2.2.2], 80⟩) (fun v hm => ?_) ?_
  ·rcases bf hm with ⟨hb, hm⟩ | ⟨hb, hm⟩
   ·refine re G (hO 3 (.b true) (hP hb h0)) ?_
    exact wJ G hm
   ·rcases bf hm with ⟨hb1, hm⟩ | ⟨hb1, hm⟩
    ·refine re G (hO 3 (.b false) (hP hb (hO 8 (.b true) (hP hb1 h0)))) ?_
     exact wJ G hm
    ·obtain ⟨r4, h4, hm⟩ := obind hm
     refine re G (hO 3 (.b false) (hP hb (hO 8 (.b false) (hP hb1 (hC 11 (zq132_c h4) h0))))) ?_
     exact wJ G hm
  rintro v hm
  refine cd hm (fun hm => ?_) (fun hm => ?_)
  ·refine rg G ?_
   cases hm
   exact rt [] []
  ·refine X_skip (thN ?_)
   obtain ⟨r5, h5, hm⟩ := obind hm
   refine rs G (hC 6 (zq4_c h5) h0) ?_
   refine Ok_seq ?_
   obtain ⟨r6, h6, hm⟩ := obind hm
   refine rs G (hC 6 (zq44_c h6) h0) ?_
   refine jn hm (fun v1 => ⟨[(3, .ref 16 0), (4, .ref 32 0), (5, dV r1.2.2.1), (6, dV r1.2.2.2.1), (7, dV r1.2.2.2.2.1), (9, dV r2.1), (10, dV r2.2.1), (11, dV r2.2.2), (105, dV v1)], [bX 16 [dV r1.1.Network.Stops, dV r1.1.Network.Lines, dV r1.1.Trips], bX 32 [dV r1.2.1.Dead, dV r1.2.1.Turn]], 64⟩) (fun v1 hm => ?_) ?_
   ·rcases bf hm with ⟨hb2, hm⟩ | ⟨hb2, hm⟩
    ·refine re G (hO 3 (.b true) (hP hb2 h0)) ?_
     exact wJ G hm
    ·rcases bf hm with ⟨hb3, hm⟩ | ⟨hb3, hm⟩
     ·refine re G (hO 3 (.b false) (hP hb2 (hO 8 (.b true) (hP hb3 h0)))) ?_
      exact wJ G hm
     ·rcases bf hm with ⟨hb4, hm⟩ | ⟨hb4, hm⟩
      ·refine re G (hO 3 (.b false) (hP hb2 (hO 8 (.b false) (hP hb3 (hO 10 (.b true) (hP hb4 h0)))))) ?_
       exact wJ G hm
      ·refine re G (hO 3 (.b false) (hP hb2 (hO 8 (.b false) (hP hb3 (hO 10 (.b false) (hP hb4 h0)))))) ?_
       exact wJ G hm
   rintro v1 hm
   refine cd hm (fun hm => ?_) (fun hm => ?_)
   ·refine rg G ?_
    cases hm
    exact rt [] []
   ·refine X_skip (thN (Ok_seq (rg G (cd hm (fun hm => ?_) (fun hm => ?_)))))
    ·refine rs G (hN 1 r2.1 h0) ?_
     cases hm
     exact rt [] []
    ·refine X_skip (thN ?_)
     obtain ⟨r7, h7, hm⟩ := obind hm
     refine rs G (hC 6 (zq4_c h7) h0) ?_
     obtain ⟨r8, h8, hm⟩ := obind hm
     refine rs G (hC 6 (zq4_c h8) h0) ?_
     obtain ⟨r9, h9, hm⟩ := obind hm
     refine rs G (hC 4 (zq10_c h9) h0) ?_
     obtain ⟨r10, h10, hm⟩ := obind hm
     refine jn hm (fun t => ⟨[(2, dV t)], [], 32⟩) (fun t hm => ?_) ?_
     ·rcases bf hm with ⟨hb5, hm⟩ | ⟨hb5, hm⟩
      ·rcases bf hm with ⟨hb6, hm⟩ | ⟨hb6, hm⟩
       ·rcases bf hm with ⟨hb7, hm⟩ | ⟨hb7, hm⟩
        ·rcases bf hm with ⟨hb8, hm⟩ | ⟨hb8, hm⟩
         ·rcases bf hm with ⟨hb9, hm⟩ | ⟨hb9, hm⟩
          ·rcases bf hm with ⟨hb10, hm⟩ | ⟨hb10, hm⟩
           ·refine re G (hC 4 (zq5_c h10) (hO 5 (.b true) (hP hb5 (hO 8 (.b true) (hP hb6 (hO 13 (.b true) (hP hb7 (hO 16 (.b true) (hP hb8 (hO 19 (.b true) (hP hb9 (hO 24 (.b true) (hP hb10 h0))))))))))))) ?_
            exact wJ G hm
           ·refine re G (hC 4 (zq5_c h10) (hO 5 (.b true) (hP hb5 (hO 8 (.b true) (hP hb6 (hO 13 (.b true) (hP hb7 (hO 16 (.b true) (hP hb8 (hO 19 (.b true) (hP hb9 (hO 24 (.b false) (hP hb10 h0))))))))))))) ?_
            exact wJ G hm
          ·refine re G (hC 4 (zq5_c h10) (hO 5 (.b true) (hP hb5 (hO 8 (.b true) (hP hb6 (hO 13 (.b true) (hP hb7 (hO 16 (.b true) (hP hb8 (hO 19 (.b false) (hP hb9 h0))))))))))) ?_
           exact wJ G hm
         ·refine re G (hC 4 (zq5_c h10) (hO 5 (.b true) (hP hb5 (hO 8 (.b true) (hP hb6 (hO 13 (.b true) (hP hb7 (hO 16 (.b false) (hP hb8 h0))))))))) ?_
          exact wJ G hm
        ·refine re G (hC 4 (zq5_c h10) (hO 5 (.b true) (hP hb5 (hO 8 (.b true) (hP hb6 (hO 13 (.b false) (hP hb7 h0))))))) ?_
         exact wJ G hm
       ·refine re G (hC 4 (zq5_c h10) (hO 5 (.b true) (hP hb5 (hO 8 (.b false) (hP hb6 h0))))) ?_
        exact wJ G hm
      ·refine re G (hC 4 (zq5_c h10) (hO 5 (.b false) (hP hb5 h0))) ?_
       exact wJ G hm
     rintro t hm
     cases hm
     exact rt [] []
end Go.Proofs.YtaegkodcjpgndaaGreat
