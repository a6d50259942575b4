/- Each function computes what its model says. Made by program (dec.py). -/
import Derived.Test.YtjljkjbdkjjdcaaPoW1
namespace Go.Proofs.Ytjljkjbdkjjdcaa
open Go Go.Ab
set_option maxRecDepth 100000
set_option maxHeartbeats 4000000
set_option linter.unusedVariables false
set_option linter.unusedSimpArgs false
noncomputable def i_SpeedOf_M : MS (Timetable × (List Report) × Int) (Int × Int × Bool) := ⟨.x .r (.x .r .r), fun x => i_SpeedOf x.1 x.2.1 x.2.2, fun y => .tup [dV y.1, dV y.2.1, dV y.2.2], fun _ => [], fun _ _ => []⟩
theorem i_SpeedOf_c {t list vehicle y} (hm : i_SpeedOf t list vehicle = some y) : i_SpeedOf_M.C (t, list, vehicle) y := i_SpeedOf_M.c (t, list, vehicle) hm
theorem i_SpeedOf_ok : FnOK Try.prog 40 i_SpeedOf_M.S := by
 refine fm tt i_SpeedOf_M [fo i_IsValidReports_ok] Try.call40 Try.func40 rfl Try.results40 Try.ntmps40 ?_
 rintro ⟨t, list, vehicle⟩ y cx G hm
 have hm : i_SpeedOf t list vehicle = some y := hm
 unfold i_SpeedOf at hm
 refine rg G (Ok_seq ?_)
 obtain ⟨r, h, hm⟩ := obind hm
 refine rs G (hC 2 (i_IsValidReports_c h) h0) ?_
 refine cd hm (fun hm => ?_) (fun hm => ?_)
 ·refine rg G ?_
  cases hm
  exact rt [] []
 ·refine X_skip (thN (rg G (Ok_seq (rs G (hN 1 list h0) ?_))))
  refine tl hm (fun i2 => ⟨[(9, .own 16)], [aX 16 70 i2], 48⟩) (fun i2 hm => ?_) ?_
  ·refine Ok_block (lpP hm (fun (v, i) => ⟨[(2, dV vehicle), (9, .own 16), (18, dV list), (19, dV (list.length : Int)), (20, dV v)], [aX 16 70 i], 48⟩) (Wk_J G.hL ⟨[(2, []), (9, [.o 16]), (18, []), (19, []), (20, [])], [], [(16, 70, 4, [])], 48⟩ (by kernel_rfl)) ?_)
   rintro ⟨v, i⟩ r0 hb hm
   rw [i_SpeedOf_L1] at hm
   refine rg G (Ok_seq (cd hm (fun hm => ?_) (fun hm => ?_)))
   ·refine X_skip (thN (jn hm (fun i1 => ⟨[(2, dV vehicle), (9, .own 16), (18, dV list), (19, dV (list.length : Int)), (20, dV v)], [aX 16 70 i1], 48⟩) (fun i1 hm => ?_) ?_))
    ·refine Ok_block ?_
     obtain ⟨e, h1, hm⟩ := obind hm
     refine rs G (hD 0 h1 h0) ?_
     refine rg G (cd hm (fun hm => ?_) (fun hm => ?_))
     ·obtain ⟨u, h2, hm⟩ := obind hm
      refine re G (hA 3 32 h2 h0) ?_
      exact ibN (wJ G hm)
     ·exact X_skip (ibN (wJ G hm))
    rintro i1 hm
    exact rh G (wL G hm)
   ·exact Ok_exit (thE (thE (ibE (wD G hm hb))))
  rintro i2 hm s hw
  refine thN (Ok_weak hw ?_)
  refine Ok_seq (rs G (hN 1 i2 h0) ?_)
  refine cd hm (fun hm => ?_) (fun hm => ?_)
  ·refine rg G ?_
   cases hm
   exact rt [] []
  ·refine X_skip (thN (Ok_seq (rg G (tF hm (fun _ => ⟨[(9, .own 16)], [aX 16 70 i2], 48⟩) (fun v3 hr2 hm => ?_) ?_))))
   ·refine Ok_block (lp G hm (fun v1 => ⟨[(9, .own 16), (12, dV v1)], [aX 16 70 i2], 48⟩) ?_)
    rintro v1 r0 hb1 hm
    rw [i_SpeedOf_L2] at hm
    refine Ok_seq (rs G (hN 2 i2 h0) ?_)
    refine cd hm (fun hm => ?_) (fun hm => ?_)
    ·refine X_skip (thN (Ok_seq (Ok_block ?_)))
     obtain ⟨e5, h7, hm⟩ := obind hm
     obtain ⟨e6, h8, hm⟩ := obind hm
     refine jn hm (fun v2 => ⟨[(9, .own 16), (12, dV v1), (65, dV v2)], [aX 16 70 i2], 48⟩) (fun v2 hm => ?_) ?_
     ·rcases bf hm with ⟨hb2, hm⟩ | ⟨hb2, hm⟩
      ·refine de G [] (hD 2 h7 (hE 4 h7 (hD 6 h8 (hE 8 h8 (hO 10 (.b true) (hP hb2 h0)))))) ?_
       exact wJ G hm
      ·obtain ⟨e7, h9, hm⟩ := obind hm
       obtain ⟨e8, h10, hm⟩ := obind hm
       refine de G [] (hD 2 h7 (hE 4 h7 (hD 6 h8 (hE 8 h8 (hO 10 (.b false) (hP hb2 (hD 13 h9 (hE 15 h9 (hD 19 h10 (hE 21 h10 h0)))))))))) ?_
       exact wJ G hm
     rintro v2 hm
     refine cd hm (fun hm => ?_) (fun hm => ?_)
     ·refine rg G ?_
      have hm := eL hm hb1 hr2
      cases hm
      exact rt [] []
     ·exact X_skip (ibN (thN (rh G (wL G hm))))
    ·exact Ok_exit (thE (thE (ibE (wE G hm hb1))))
   rintro ⟨⟩ hm s1 hw1
   refine thN (Ok_weak hw1 ?_)
   obtain ⟨e10, h11, hm⟩ := obind hm
   refine rs G (hN 2 i2 (hD 4 h11 (hE 5 h11 h0))) ?_
   obtain ⟨e13, h14, hm⟩ := obind hm
   obtain ⟨e14, h15, hm⟩ := obind hm
   refine ds G [] (hD 3 h14 (hE 5 h14 (hD 10 h15 (hE 12 h15 h0)))) ?_
   cases hm
   exact rt [] []
noncomputable def s_SpeedOf_M : MS (Timetable × (List Report) × Int) (Int × Int × Bool) := ⟨.x .r (.x .r .r), fun x => s_SpeedOf x.1 x.2.1 x.2.2, fun y => .tup [dV y.1, dV y.2.1, dV y.2.2], fun _ => [], fun _ _ => []⟩
theorem s_SpeedOf_c {t list vehicle y} (hm : s_SpeedOf t list vehicle = some y) : s_SpeedOf_M.C (t, list, vehicle) y := s_SpeedOf_M.c (t, list, vehicle) hm
theorem s_SpeedOf_ok : FnOK Try.prog 41 s_SpeedOf_M.S := by
 refine fm tt s_SpeedOf_M [fo s_l25Good_ok] Try.call41 Try.func41 rfl Try.results41 Try.ntmps41 ?_
 rintro ⟨t, list, vehicle⟩ y cx G hm
 have hm : s_SpeedOf t list vehicle = some y := hm
 unfold s_SpeedOf at hm
 refine rg G (Ok_seq ?_)
 obtain ⟨r, h, hm⟩ := obind hm
 refine rs G (hC 2 (s_l25Good_c h) h0) ?_
 refine cd hm (fun hm => ?_) (fun hm => ?_)
 ·refine rg G ?_
  cases hm
  exact rt [] []
 ·refine X_skip (thN (rg G (Ok_seq (rg G (tl hm (fun i2 => ⟨[(9, .own 16)], [aX 16 70 i2], 48⟩) (fun i2 hm => ?_) ?_)))))
  ·refine Ok_block (lp G hm (fun (v, i) => ⟨[(1, dV list), (2, dV vehicle), (9, .own 16), (10, dV v)], [aX 16 70 i], 48⟩) ?_)
   rintro ⟨v, i⟩ r0 hb hm
   rw [s_SpeedOf_L1] at hm
   refine Ok_seq (rs G (hN 2 list h0) ?_)
   refine cd hm (fun hm => ?_) (fun hm => ?_)
   ·refine X_skip (thN (jn hm (fun i1 => ⟨[(1, dV list), (2, dV vehicle), (9, .own 16), (10, dV v)], [aX 16 70 i1], 48⟩) (fun i1 hm => ?_) ?_))
    ·refine Ok_block ?_
     obtain ⟨e, h1, hm⟩ := obind hm
     refine rs G (hD 2 h1 h0) ?_
     refine cd hm (fun hm => ?_) (fun hm => ?_)
     ·obtain ⟨e1, h2, hm⟩ := obind hm
      obtain ⟨u, h3, hm⟩ := obind hm
      refine re G (hD 3 h2 (hA 6 32 h3 h0)) ?_
      exact ibN (wJ G hm)
     ·exact X_skip (ibN (wJ G hm))
    rintro i1 hm
    exact rh G (wL G hm)
   ·exact Ok_exit (thE (thE (ibE (wD G hm hb))))
  rintro i2 hm s hw
  refine thN (Ok_weak hw ?_)
  refine rs G (hN 1 i2 h0) ?_
  refine Ok_seq (rg G (tF hm (fun _ => ⟨[(9, .own 16), (11, dV (i2.length : Int))], [aX 16 70 i2], 48⟩) (fun v3 hr2 hm => ?_) ?_))
  ·refine Ok_block (lp G hm (fun v1 => ⟨[(9, .own 16), (11, dV (i2.length : Int)), (12, dV v1)], [aX 16 70 i2], 48⟩) ?_)
   rintro v1 r0 hb1 hm
   rw [s_SpeedOf_L2] at hm
   refine Ok_seq (rg G (cd hm (fun hm => ?_) (fun hm => ?_)))
   ·refine X_skip (thN (Ok_seq (Ok_block ?_)))
    obtain ⟨e6, h8, hm⟩ := obind hm
    obtain ⟨e7, h9, hm⟩ := obind hm
    refine jn hm (fun v2 => ⟨[(9, .own 16), (11, dV (i2.length : Int)), (12, dV v1), (68, dV v2)], [aX 16 70 i2], 48⟩) (fun v2 hm => ?_) ?_
    ·rcases bf hm with ⟨hb2, hm⟩ | ⟨hb2, hm⟩
     ·refine de G [] (hD 2 h8 (hE 4 h8 (hD 6 h9 (hE 8 h9 (hO 10 (.b true) (hP hb2 h0)))))) ?_
      exact wJ G hm
     ·obtain ⟨e8, h10, hm⟩ := obind hm
      obtain ⟨e9, h11, hm⟩ := obind hm
      refine de G [] (hD 2 h8 (hE 4 h8 (hD 6 h9 (hE 8 h9 (hO 10 (.b false) (hP hb2 (hD 14 h10 (hE 16 h10 (hD 19 h11 (hE 21 h11 h0)))))))))) ?_
      exact wJ G hm
    rintro v2 hm
    refine cd hm (fun hm => ?_) (fun hm => ?_)
    ·refine rg G ?_
     have hm := eL hm hb1 hr2
     cases hm
     exact rt [] []
    ·exact X_skip (ibN (thN (rh G (wL G hm))))
   ·exact Ok_exit (thE (thE (ibE (wE G hm hb1))))
  rintro ⟨⟩ hm s1 hw1
  refine thN (Ok_weak hw1 ?_)
  refine Ok_seq (rg G (cd hm (fun hm => ?_) (fun hm => ?_)))
  ·refine rg G ?_
   cases hm
   exact rt [] []
  ·refine X_skip (thN ?_)
   obtain ⟨e15, h16, hm⟩ := obind hm
   obtain ⟨e16, h17, hm⟩ := obind hm
   obtain ⟨e17, h18, hm⟩ := obind hm
   obtain ⟨e18, h19, hm⟩ := obind hm
   refine ds G [] (hD 3 h16 (hE 5 h16 (hD 7 h17 (hE 9 h17 (hD 14 h18 (hE 16 h18 (hD 18 h19 (hE 20 h19 h0)))))))) ?_
   cases hm
   exact rt [] []
noncomputable def s_l1Cur_reports_M : MS (l1Cur × Timetable) ((List Report) × l1Cur) := ⟨.x .b .r, fun x => s_l1Cur_reports x.1 x.2, fun _ => .own 0, fun y => [arO 70 y.1], fun _ y => [bxO y.2]⟩
theorem s_l1Cur_reports_c {c t y} (hm : s_l1Cur_reports c t = some y) : s_l1Cur_reports_M.C (c, t) y := s_l1Cur_reports_M.c (c, t) hm
theorem s_l1Cur_reports_ok : FnOK Try.prog 144 s_l1Cur_reports_M.S := by
 refine fm tt s_l1Cur_reports_M [fo s_l1Cur_now23_ok, fo s_l1Cur_pick_ok, fo s_l4Time_ok, fo s_l1Cur_report_ok, fo s_l1Cur_one_ok, fo s_l1Cur_among_ok] Try.call144 Try.func144 rfl Try.results144 Try.ntmps144 ?_
 rintro ⟨c, t⟩ y cx G hm
 have hm : s_l1Cur_reports c t = some y := hm
 unfold s_l1Cur_reports at hm
 refine rg G (rg G ?_)
 obtain ⟨r, h, hm⟩ := obind hm
 refine rs G (hC 2 (s_l1Cur_now23_c h) h0) ?_
 refine rg G (Ok_seq ?_)
 obtain ⟨r1, h1, hm⟩ := obind hm
 refine rs G (hC 1 (s_l1Cur_pick_c h1) h0) ?_
 refine tl hm (fun (v9, v10, v11, v12) => ⟨[(0, .ref 0 0), (5, .own 32)], [bX 0 [dV v9, dV v10, kV .u64 v11], aX 32 70 v12], 64⟩) (fun vv2 hm => ?_) ?_
 ·refine Ok_block (lp G hm (fun (n, k, x, v, v1, v2, v3) => ⟨[(0, .ref 0 0), (3, .ref 32 0), (5, .own 48), (6, dV n), (7, dV k), (8, dV x)], [bX 0 [dV v, dV v1, kV .u64 v2], bX 32 [dV t.Network.Stops, dV t.Network.Lines, dV t.Trips], aX 48 70 v3], 80⟩) ?_)
  rintro ⟨n, k, x, v, v1, v2, v3⟩ r0 hb hm
  rw [s_l1Cur_reports_L1] at hm
  refine Ok_seq (jn hm (fun v4 => ⟨[(0, .ref 0 0), (3, .ref 32 0), (5, .own 48), (6, dV n), (7, dV k), (8, dV x), (22, dV v4)], [bX 0 [dV v, dV v1, kV .u64 v2], bX 32 [dV t.Network.Stops, dV t.Network.Lines, dV t.Trips], aX 48 70 v3], 80⟩) (fun v4 hm => ?_) ?_)
  ·rcases bf hm with ⟨hb1, hm⟩ | ⟨hb1, hm⟩
   ·obtain ⟨r2, h2, hm⟩ := obind hm
    refine re G (hO 2 (.b true) (hP hb1 (hC 4 (s_l4Time_c h2) h0))) ?_
    exact wJ G hm
   ·refine re G (hO 2 (.b false) (hP hb1 h0)) ?_
    exact wJ G hm
  rintro v4 hm
  refine cd hm (fun hm => ?_) (fun hm => ?_)
  ·refine X_skip (thN (jn hm (fun (n1, k1, v5, v6, v7, v8) => ⟨[(0, .ref 0 0), (3, .ref 32 0), (5, .own 48), (6, dV n1), (7, dV k1), (8, dV x)], [bX 0 [dV v5, dV v6, kV .u64 v7], bX 32 [dV t.Network.Stops, dV t.Network.Lines, dV t.Trips], aX 48 70 v8], 80⟩) (fun vv hm => ?_) ?_))
   ·refine Ok_block ?_
    obtain ⟨r3, h3, hm⟩ := obind hm
    refine rs G (hC 3 (s_l1Cur_pick_c h3) h0) ?_
    obtain ⟨r4, h4, hm⟩ := obind hm
    obtain ⟨u, h5, hm⟩ := obind hm
    refine rs G (hC 5 (s_l1Cur_report_c h4) (hA 7 32 h5 h0)) ?_
    obtain ⟨r5, h6, hm⟩ := obind hm
    refine rs G (hC 1 (s_l1Cur_one_c h6) h0) ?_
    refine cd hm (fun hm => ?_) (fun hm => ?_)
    ·obtain ⟨r6, h7, hm⟩ := obind hm
     refine rs G (hO 3 (.fz [384] [] []) (hC 3 (s_l1Cur_among_c h7) h0)) ?_
     exact rh G (ibN (wJ G hm))
    ·exact X_skip (ibN (wJ G hm))
   rintro ⟨n1, k1, v5, v6, v7, v8⟩ hm
   exact rh G (wL G hm)
  ·exact Ok_exit (thE (thE (ibE (wD G hm hb))))
 rintro ⟨v9, v10, v11, v12⟩ hm s hw
 refine thN (Ok_weak hw ?_)
 refine Ok_seq (rs G (hN 1 v12 h0) ?_)
 refine cd hm (fun hm => ?_) (fun hm => ?_)
 ·refine rg G ?_
  cases hm
  exact rt [32] []
 ·refine X_skip (thN ?_)
  obtain ⟨r7, h8, hm⟩ := obind hm
  refine rs G (hN 2 v12 (hC 3 (s_l1Cur_pick_c h8) h0)) ?_
  obtain ⟨e, h9, hm⟩ := obind hm
  refine rs G (hD 2 h9 (hE 3 h9 h0)) ?_
  refine jn hm (fun (v13, v14, v15, v16, v17, v18) => ⟨[(0, .ref 0 0), (5, .own 32), (9, dV r7.1), (10, .ref 48 0)], [bX 0 [dV v13, dV v14, kV .u64 v15], aX 32 70 v12, bX 48 [dV v16, dV e.Time, dV v17, dV v18]], 80⟩) (fun vv1 hm => ?_) ?_
  ·obtain ⟨r8, h10, hm⟩ := obind hm
   refine rs G (hC 1 (s_l1Cur_pick_c h10) h0) ?_
   refine Ok_block (rg G (cd hm (fun hm => ?_) (fun hm => ?_)))
   ·obtain ⟨r9, h11, hm⟩ := obind hm
    refine re G (hO 2 (.fz [368] [] []) (hC 2 (s_l1Cur_among_c h11) h0)) ?_
    exact ibN (wJ G hm)
   ·refine rg G (cd hm (fun hm => ?_) (fun hm => ?_))
    ·obtain ⟨r10, h12, hm⟩ := obind hm
     refine re G (hO 2 (.fz [400] [] []) (hC 2 (s_l1Cur_among_c h12) h0)) ?_
     exact ibN (wJ G hm)
    ·refine rg G (cd hm (fun hm => ?_) (fun hm => ?_))
     ·obtain ⟨r11, h13, hm⟩ := obind hm
      refine re G (hO 2 (.fz [432] [] []) (hC 2 (s_l1Cur_among_c h13) h0)) ?_
      exact ibN (wJ G hm)
     ·exact X_skip (ibN (wJ G hm))
  rintro ⟨v13, v14, v15, v16, v17, v18⟩ hm
  obtain ⟨e1, h14, hm⟩ := obind hm
  refine rs G (hD 3 h14 (hS 4 h14 (⟨v16, e.Time, v17, v18⟩ : Report) h0)) ?_
  refine rg G ?_
  cases hm
  exact rt [32] []
noncomputable def s_l1Cur_limit25_M : MS l1Cur (Int × l1Cur) := ⟨.b, s_l1Cur_limit25, fun y => dV y.1, fun _ => [], fun _ y => [bxO y.2]⟩
theorem s_l1Cur_limit25_c {c y} (hm : s_l1Cur_limit25 c = some y) : s_l1Cur_limit25_M.C c y := s_l1Cur_limit25_M.c c hm
theorem s_l1Cur_limit25_ok : FnOK Try.prog 145 s_l1Cur_limit25_M.S := by
 refine fm tt s_l1Cur_limit25_M [fo s_l1Cur_pick_ok, fo s_l1Cur_among_ok] Try.call145 Try.func145 rfl Try.results145 Try.ntmps145 ?_
 rintro c y cx G hm
 have hm : s_l1Cur_limit25 c = some y := hm
 unfold s_l1Cur_limit25 at hm
 refine rg G ?_
 obtain ⟨r, h, hm⟩ := obind hm
 obtain ⟨u, h1, hm⟩ := obind hm
 obtain ⟨u1, h2, hm⟩ := obind hm
 obtain ⟨r1, h3, hm⟩ := obind hm
 refine rs G (hC 3 (s_l1Cur_pick_c h) (hK h1 (hO 6 (.fz [48] [] []) (hU 6 h2 (hC 7 (s_l1Cur_among_c h3) h0))))) ?_
 cases hm
 exact rt [] []
noncomputable def s_DrawMissingTrips_M : MS ((List UInt8)) (Timetable × (List Report) × Int × Int) := ⟨.r, s_DrawMissingTrips, fun y => .tup [dV y.1, .own 0, dV y.2.2.1, dV y.2.2.2], fun y => [arO 70 y.2.1], fun _ _ => []⟩
theorem s_DrawMissingTrips_c {code y} (hm : s_DrawMissingTrips code = some y) : s_DrawMissingTrips_M.C code y := s_DrawMissingTrips_M.c code hm
theorem s_DrawMissingTrips_ok : FnOK Try.prog 110 s_DrawMissingTrips_M.S := by
 refine fm tt s_DrawMissingTrips_M [fo s_l1Cur_anyTimetable_ok, fo s_l1Cur_reports_ok, fo s_l1Cur_limit25_ok, fo s_l1Cur_now23_ok] Try.call110 Try.func110 rfl Try.results110 Try.ntmps110 ?_
 rintro code y cx G hm
 have hm : s_DrawMissingTrips code = some y := hm
 unfold s_DrawMissingTrips at hm
 refine rg G (rg G ?_)
 obtain ⟨r, h, hm⟩ := obind hm
 refine rs G (hC 1 (s_l1Cur_anyTimetable_c h) h0) ?_
 obtain ⟨r1, h1, hm⟩ := obind hm
 refine rs G (hO 2 (.fz [160, 161] [] []) (hC 2 (s_l1Cur_reports_c h1) h0)) ?_
 obtain ⟨r2, h2, hm⟩ := obind hm
 refine rs G (hC 1 (s_l1Cur_limit25_c h2) h0) ?_
 obtain ⟨r4, h4, hm⟩ := obind hm
 refine ds G [(5, [112]), (6, [16])] (hC 5 (s_l1Cur_now23_c h4) h0) ?_
 cases hm
 exact rt [240] []
noncomputable def s_DrawStaleVehicles_M : MS ((List UInt8)) (Timetable × (List Report) × Int × Int) := ⟨.r, s_DrawStaleVehicles, fun y => .tup [dV y.1, .own 0, dV y.2.2.1, dV y.2.2.2], fun y => [arO 70 y.2.1], fun _ _ => []⟩
theorem s_DrawStaleVehicles_c {code y} (hm : s_DrawStaleVehicles code = some y) : s_DrawStaleVehicles_M.C code y := s_DrawStaleVehicles_M.c code hm
theorem s_DrawStaleVehicles_ok : FnOK Try.prog 42 s_DrawStaleVehicles_M.S := by
 refine fm tt s_DrawStaleVehicles_M [fo s_DrawMissingTrips_ok] Try.call42 Try.func42 rfl Try.results42 Try.ntmps42 ?_
 rintro code y cx G hm
 have hm : s_DrawStaleVehicles code = some y := hm
 unfold s_DrawStaleVehicles at hm
 refine rg G ?_
 obtain ⟨r, h, hm⟩ := obind hm
 refine rs G (hC 1 (s_DrawMissingTrips_c h) h0) ?_
 refine rg G ?_
 cases hm
 exact rt [96] []
noncomputable def i_areMatched_M : MS (Timetable × (List Report) × Int) Bool := ⟨.x .r (.x .r .r), fun x => i_areMatched x.1 x.2.1 x.2.2, fun y => dV y, fun _ => [], fun _ _ => []⟩
theorem i_areMatched_c {t list limit y} (hm : i_areMatched t list limit = some y) : i_areMatched_M.C (t, list, limit) y := i_areMatched_M.c (t, list, limit) hm
theorem i_areMatched_ok : FnOK Try.prog 111 i_areMatched_M.S := by
 refine fm tt i_areMatched_M [fo i_IsValidReports_ok, fo i_IsValidTime_ok] Try.call111 Try.func111 rfl Try.results111 Try.ntmps111 ?_
 rintro ⟨t, list, limit⟩ y cx G hm
 have hm : i_areMatched t list limit = some y := hm
 unfold i_areMatched at hm
 refine rg G ?_
 obtain ⟨r, h, hm⟩ := obind hm
 refine jn hm (fun v => ⟨[(6, dV v)], [], 32⟩) (fun v hm => ?_) ?_
 ·rcases bf hm with ⟨hb, hm⟩ | ⟨hb, hm⟩
  ·obtain ⟨r1, h1, hm⟩ := obind hm
   refine re G (hC 2 (i_IsValidReports_c h) (hO 3 (.b true) (hP hb (hC 5 (i_IsValidTime_c h1) h0)))) ?_
   exact wJ G hm
  ·refine re G (hC 2 (i_IsValidReports_c h) (hO 3 (.b false) (hP hb h0))) ?_
   exact wJ G hm
 rintro v hm
 cases hm
 exact rt [] []
noncomputable def i_lastReports_M : MS ((List Report)) ((List Report)) := ⟨.r, i_lastReports, fun _ => .own 0, fun y => [arO 70 y], fun _ _ => []⟩
theorem i_lastReports_c {list y} (hm : i_lastReports list = some y) : i_lastReports_M.C list y := i_lastReports_M.c list hm
theorem i_lastReports_ok : FnOK Try.prog 112 i_lastReports_M.S := by
 refine fm tt i_lastReports_M [] Try.call112 Try.func112 rfl Try.results112 Try.ntmps112 ?_
 rintro list y cx G hm
 have hm : i_lastReports list = some y := hm
 unfold i_lastReports at hm
 refine rg G (rg G (Ok_seq (rs G (hN 1 list h0) ?_)))
 refine tl hm (fun v2 => ⟨[(3, .eref 16 4 0 0)], [aX 16 70 v2], 48⟩) (fun v2 hm => ?_) ?_
 ·refine Ok_block (lp G hm (fun (v, v1) => ⟨[(3, .eref 16 4 0 0), (9, dV list), (10, dV (list.length : Int)), (11, dV v)], [aX 16 70 v1], 48⟩) ?_)
  rintro ⟨v, v1⟩ r0 hb hm
  rw [i_lastReports_L1] at hm
  refine rg G (Ok_seq (cd hm (fun hm => ?_) (fun hm => ?_)))
  ·refine X_skip (thN (Ok_seq (Ok_block ?_)))
   obtain ⟨e, h, hm⟩ := obind hm
   refine rs G (hD 0 h h0) ?_
   obtain ⟨u, h2, hm⟩ := obind hm
   obtain ⟨e1, h1, hm⟩ := obind hm
   refine re G (hK h2 (hS 4 h1 e h0)) ?_
   exact ibN (thN (rh G (wL G hm)))
  ·exact Ok_exit (thE (thE (ibE (wD G hm hb))))
 rintro v2 hm s hw
 refine thN (Ok_weak hw ?_)
 refine rg G (Ok_seq ?_)
 obtain ⟨u1, h3, hm⟩ := obind hm
 refine ldS (ls := v2) (t := 168) (T := tyE168) (ob := 16) (el := 70) G (by rw [chk_t h3]; rfl) h0 ?_
 refine tl hm (fun v6 => ⟨[(6, .own 16)], [aX 16 70 v6], 48⟩) (fun v6 hm => ?_) ?_
 ·refine Ok_block (lpP hm (fun (v3, v4) => ⟨[(6, .own 16), (20, .dat (.agg (flatE v2))), (21, dV v3)], [aX 16 70 v4], 48⟩) (Wk_J G.hL ⟨[(6, [.o 16]), (20, []), (21, [])], [], [(16, 70, 4, [])], 48⟩ (by kernel_rfl)) ?_)
  rintro ⟨v3, v4⟩ r0 hb1 hm
  rw [i_lastReports_L2] at hm
  refine rg G (Ok_seq (cd hm (fun hm => ?_) (fun hm => ?_)))
  ·refine X_skip (thN (jn hm (fun v5 => ⟨[(6, .own 16), (20, .dat (.agg (flatE v2))), (21, dV v3)], [aX 16 70 v5], 48⟩) (fun v5 hm => ?_) ?_))
   ·refine Ok_block ?_
    obtain ⟨u2, h5, hm⟩ := obind hm
    obtain ⟨e2, h4, hm⟩ := obind hm
    refine ixS (ls := v2) (t := 168) (el := 70) (kk := .i64) (T := tyE168) (E := tyE70) (len := 100) (e := e2) G (chk_t h5) h4 h0 ?_ (fun _ => ⟨rfl, rfl⟩)
    refine rg G (cd hm (fun hm => ?_) (fun hm => ?_))
    ·obtain ⟨u3, h6, hm⟩ := obind hm
     refine re G (hA 3 32 h6 h0) ?_
     exact ibN (wJ G hm)
    ·exact X_skip (ibN (wJ G hm))
   rintro v5 hm
   exact rh G (wL G hm)
  ·exact Ok_exit (thE (thE (ibE (wD G hm hb1))))
 rintro v6 hm s1 hw1
 refine thN (Ok_weak hw1 ?_)
 refine rg G ?_
 cases hm
 exact rt [16] []
noncomputable def i_StaleVehicles_M : MS (Timetable × (List Report) × Int × Int) ((List Int) × Bool) := ⟨.x .r (.x .r (.x .r .r)), fun x => i_StaleVehicles x.1 x.2.1 x.2.2.1 x.2.2.2, fun y => .tup [dV y.1, dV y.2], fun _ => [], fun _ _ => []⟩
theorem i_StaleVehicles_c {t list now limit y} (hm : i_StaleVehicles t list now limit = some y) : i_StaleVehicles_M.C (t, list, now, limit) y := i_StaleVehicles_M.c (t, list, now, limit) hm
theorem i_StaleVehicles_ok : FnOK Try.prog 43 i_StaleVehicles_M.S := by
 refine fm tt i_StaleVehicles_M [fo i_areMatched_ok, fo i_IsValidTime_ok, fo i_lastReports_ok] Try.call43 Try.func43 rfl Try.results43 Try.ntmps43 ?_
 rintro ⟨t, list, now, limit⟩ y cx G hm
 have hm : i_StaleVehicles t list now limit = some y := hm
 unfold i_StaleVehicles at hm
 refine rg G (Ok_seq ?_)
 obtain ⟨r, h, hm⟩ := obind hm
 refine jn hm (fun v => ⟨[(1, dV list), (2, dV now), (3, dV limit), (25, dV v)], [], 32⟩) (fun v hm => ?_) ?_
 ·rcases bf hm with ⟨hb, hm⟩ | ⟨hb, hm⟩
  ·refine re G (hC 3 (i_areMatched_c h) (hO 5 (.b true) (hP hb h0))) ?_
   exact wJ G hm
  ·obtain ⟨r1, h1, hm⟩ := obind hm
   refine re G (hC 3 (i_areMatched_c h) (hO 5 (.b false) (hP hb (hC 7 (i_IsValidTime_c h1) h0)))) ?_
   exact wJ G hm
 rintro v hm
 refine cd hm (fun hm => ?_) (fun hm => ?_)
 ·refine rg G ?_
  cases hm
  exact rt [] [[.z 1]]
 ·refine X_skip (thN (rg G (Ok_seq (rs G (hN 1 list h0) ?_))))
  refine tl hm (fun v4 => ⟨[(2, dV now), (3, dV limit), (10, .own 16)], [aX 16 70 v4], 48⟩) (fun v4 hm => ?_) ?_
  ·refine Ok_block (lpP hm (fun (v1, v2) => ⟨[(2, dV now), (3, dV limit), (10, .own 16), (26, dV list), (27, dV (list.length : Int)), (28, dV v1)], [aX 16 70 v2], 48⟩) (Wk_J G.hL ⟨[(2, []), (3, []), (10, [.o 16]), (26, []), (27, []), (28, [])], [], [(16, 70, 4, [])], 48⟩ (by kernel_rfl)) ?_)
   rintro ⟨v1, v2⟩ r0 hb1 hm
   rw [i_StaleVehicles_L1] at hm
   refine rg G (Ok_seq (cd hm (fun hm => ?_) (fun hm => ?_)))
   ·refine X_skip (thN (jn hm (fun v3 => ⟨[(2, dV now), (3, dV limit), (10, .own 16), (26, dV list), (27, dV (list.length : Int)), (28, dV v1)], [aX 16 70 v3], 48⟩) (fun v3 hm => ?_) ?_))
    ·refine Ok_block ?_
     obtain ⟨e, h2, hm⟩ := obind hm
     refine rs G (hD 0 h2 h0) ?_
     refine rg G (cd hm (fun hm => ?_) (fun hm => ?_))
     ·obtain ⟨u, h3, hm⟩ := obind hm
      refine re G (hA 3 32 h3 h0) ?_
      exact ibN (wJ G hm)
     ·exact X_skip (ibN (wJ G hm))
    rintro v3 hm
    exact rh G (wL G hm)
   ·exact Ok_exit (thE (thE (ibE (wD G hm hb1))))
  rintro v4 hm s hw
  refine thN (Ok_weak hw ?_)
  refine rg G (Ok_seq ?_)
  obtain ⟨r2, h4, hm⟩ := obind hm
  refine rs G (hF 1 (i_lastReports_c h4) ⟨(flat_cons flat_arr flat_nil), flat_nil⟩ (hN 2 r2 h0)) ?_
  refine tl hm (fun v8 => ⟨[(13, .own 16)], [aX 16 3 v8], 48⟩) (fun v8 hm => ?_) ?_
  ·refine Ok_block (lpP hm (fun (v5, v6) => ⟨[(2, dV now), (3, dV limit), (13, .own 16), (42, .own 32), (43, dV (r2.length : Int)), (44, dV v5)], [aX 16 3 v6, aX 32 70 r2], 64⟩) (Wk_J G.hL ⟨[(2, []), (3, []), (13, [.o 16]), (42, []), (43, []), (44, [])], [(32, 80, [])], [(16, 3, 1, [])], 64⟩ (by kernel_rfl)) ?_)
   rintro ⟨v5, v6⟩ r0 hb2 hm
   rw [i_StaleVehicles_L2] at hm
   refine rg G (Ok_seq (cd hm (fun hm => ?_) (fun hm => ?_)))
   ·refine X_skip (thN (jn hm (fun v7 => ⟨[(2, dV now), (3, dV limit), (13, .own 16), (42, .own 32), (43, dV (r2.length : Int)), (44, dV v5)], [aX 16 3 v7, aX 32 70 r2], 64⟩) (fun v7 hm => ?_) ?_))
    ·refine Ok_block ?_
     obtain ⟨e1, h5, hm⟩ := obind hm
     refine rs G (hD 0 h5 (hE 1 h5 h0)) ?_
     refine rg G (cd hm (fun hm => ?_) (fun hm => ?_))
     ·obtain ⟨u1, h6, hm⟩ := obind hm
      refine re G (hA 4 8 h6 h0) ?_
      exact ibN (wJ G hm)
     ·exact X_skip (ibN (wJ G hm))
    rintro v7 hm
    exact rh G (wL G hm)
   ·exact Ok_exit (thE (thE (ibE (wD G hm hb2))))
  rintro v8 hm s1 hw1
  refine thN (Ok_weak hw1 ?_)
  refine rg G ?_
  cases hm
  exact rt [] []
noncomputable def s_l25Asked_M : MS (Timetable × (List Report) × Int) Bool := ⟨.x .r (.x .r .r), fun x => s_l25Asked x.1 x.2.1 x.2.2, fun y => dV y, fun _ => [], fun _ _ => []⟩
theorem s_l25Asked_c {t list limit y} (hm : s_l25Asked t list limit = some y) : s_l25Asked_M.C (t, list, limit) y := s_l25Asked_M.c (t, list, limit) hm
theorem s_l25Asked_ok : FnOK Try.prog 113 s_l25Asked_M.S := by
 refine fm tt s_l25Asked_M [fo s_l25Good_ok, fo s_l1In_ok] Try.call113 Try.func113 rfl Try.results113 Try.ntmps113 ?_
 rintro ⟨t, list, limit⟩ y cx G hm
 have hm : s_l25Asked t list limit = some y := hm
 unfold s_l25Asked at hm
 refine rg G ?_
 obtain ⟨r, h, hm⟩ := obind hm
 refine jn hm (fun v => ⟨[(6, dV v)], [], 32⟩) (fun v hm => ?_) ?_
 ·rcases bf hm with ⟨hb, hm⟩ | ⟨hb, hm⟩
  ·obtain ⟨r1, h1, hm⟩ := obind hm
   refine re G (hC 2 (s_l25Good_c h) (hO 3 (.b true) (hP hb (hC 5 (s_l1In_c h1) h0)))) ?_
   exact wJ G hm
  ·refine re G (hC 2 (s_l25Good_c h) (hO 3 (.b false) (hP hb h0))) ?_
   exact wJ G hm
 rintro v hm
 cases hm
 exact rt [] []
noncomputable def s_l25Last_M : MS ((List Report)) ((List Report)) := ⟨.r, s_l25Last, fun _ => .own 0, fun y => [arO 70 y], fun _ _ => []⟩
theorem s_l25Last_c {list y} (hm : s_l25Last list = some y) : s_l25Last_M.C list y := s_l25Last_M.c list hm
theorem s_l25Last_ok : FnOK Try.prog 114 s_l25Last_M.S := by
 refine fm tt s_l25Last_M [] Try.call114 Try.func114 rfl Try.results114 Try.ntmps114 ?_
 rintro list y cx G hm
 have hm : s_l25Last list = some y := hm
 unfold s_l25Last at hm
 refine rg G (rg G (Ok_seq (rg G (tl hm (fun v4 => ⟨[(3, .own 16)], [aX 16 70 v4], 48⟩) (fun v4 hm => ?_) ?_))))
 ·refine Ok_block (lp G hm (fun (i, v) => ⟨[(0, dV list), (3, .own 16), (4, dV i)], [aX 16 70 v], 48⟩) ?_)
  rintro ⟨i, v⟩ r0 hb hm
  rw [s_l25Last_L2] at hm
  refine Ok_seq (rg G (cd hm (fun hm => ?_) (fun hm => ?_)))
  ·refine X_skip (thN (jn hm (fun v1 => ⟨[(0, dV list), (3, .own 16), (4, dV i)], [aX 16 70 v1], 48⟩) (fun v1 hm => ?_) ?_))
   ·refine Ok_block (rs G (hN 1 list h0) ?_)
    refine tl hm (fun v3 => ⟨[(0, dV list), (3, .own 16), (4, dV i)], [aX 16 70 v3], 48⟩) (fun v3 hm => ?_) ?_
    ·refine Ok_block (lp G hm (fun v2 => ⟨[(0, dV list), (3, .own 16), (4, dV i), (5, dV v2)], [aX 16 70 v], 48⟩) ?_)
     rintro v2 r0 hb1 hm
     rw [s_l25Last_L1] at hm
     refine Ok_seq (rg G (cd hm (fun hm => ?_) (fun hm => ?_)))
     ·refine X_skip (thN (Ok_seq (Ok_block ?_)))
      obtain ⟨e, h, hm⟩ := obind hm
      refine rs G (hD 2 h h0) ?_
      refine cd hm (fun hm => ?_) (fun hm => ?_)
      ·obtain ⟨e1, h1, hm⟩ := obind hm
       obtain ⟨u, h2, hm⟩ := obind hm
       refine rs G (hD 3 h1 (hA 6 32 h2 h0)) ?_
       exact Ok_exit (ibX rfl (thE (thE (ibE (wD G hm hb1)))))
      ·exact X_skip (ibN (thN (rh G (wL G hm))))
     ·exact Ok_exit (thE (thE (ibE (wD G hm hb1))))
    rintro v3 hm s hw
    exact ibN (wJp hm (Wk.trans hw (Wk_J G.hL ⟨[(0, []), (3, []), (4, [])], [(16, 16, [])], [], 48⟩ (by kernel_rfl))))
   rintro v1 hm
   exact rh G (wL G hm)
  ·exact Ok_exit (thE (thE (ibE (wD G hm hb))))
 rintro v4 hm s1 hw1
 refine thN (Ok_weak hw1 ?_)
 refine rg G ?_
 cases hm
 exact rt [16] []
noncomputable def s_StaleVehicles_M : MS (Timetable × (List Report) × Int × Int) ((List Int) × Bool) := ⟨.x .r (.x .r (.x .r .r)), fun x => s_StaleVehicles x.1 x.2.1 x.2.2.1 x.2.2.2, fun y => .tup [.own 0, dV y.2], fun y => [arO 3 y.1], fun _ _ => []⟩
theorem s_StaleVehicles_c {t list now limit y} (hm : s_StaleVehicles t list now limit = some y) : s_StaleVehicles_M.C (t, list, now, limit) y := s_StaleVehicles_M.c (t, list, now, limit) hm
theorem s_StaleVehicles_ok : FnOK Try.prog 44 s_StaleVehicles_M.S := by
 refine fm tt s_StaleVehicles_M [fo s_l25Asked_ok, fo s_l4Time_ok, fo s_l25Last_ok] Try.call44 Try.func44 rfl Try.results44 Try.ntmps44 ?_
 rintro ⟨t, list, now, limit⟩ y cx G hm
 have hm : s_StaleVehicles t list now limit = some y := hm
 unfold s_StaleVehicles at hm
 refine rg G (rg G (Ok_seq ?_))
 obtain ⟨r, h, hm⟩ := obind hm
 refine jn hm (fun v => ⟨[(1, dV list), (2, dV now), (3, dV limit), (10, .own 16), (25, dV v)], [aX 16 3 ([] : List Int)], 48⟩) (fun v hm => ?_) ?_
 ·rcases bf hm with ⟨hb, hm⟩ | ⟨hb, hm⟩
  ·refine re G (hC 3 (s_l25Asked_c h) (hO 5 (.b true) (hP hb h0))) ?_
   exact wJ G hm
  ·obtain ⟨r1, h1, hm⟩ := obind hm
   refine re G (hC 3 (s_l25Asked_c h) (hO 5 (.b false) (hP hb (hC 7 (s_l4Time_c h1) h0)))) ?_
   exact wJ G hm
 rintro v hm
 refine cd hm (fun hm => ?_) (fun hm => ?_)
 ·refine rg G ?_
  cases hm
  exact rt [16] []
 ·refine X_skip (thN (rg G (Ok_seq (rg G (tl hm (fun v4 => ⟨[(2, dV now), (3, dV limit), (10, .own 16), (11, .own 32)], [aX 16 3 ([] : List Int), aX 32 70 v4], 64⟩) (fun v4 hm => ?_) ?_)))))
  ·refine Ok_block (lp G hm (fun (v1, v2) => ⟨[(1, dV list), (2, dV now), (3, dV limit), (10, .own 16), (11, .own 32), (12, dV v1)], [aX 16 3 ([] : List Int), aX 32 70 v2], 64⟩) ?_)
   rintro ⟨v1, v2⟩ r0 hb1 hm
   rw [s_StaleVehicles_L1] at hm
   refine Ok_seq (rs G (hN 2 list h0) ?_)
   refine cd hm (fun hm => ?_) (fun hm => ?_)
   ·refine X_skip (thN (jn hm (fun v3 => ⟨[(1, dV list), (2, dV now), (3, dV limit), (10, .own 16), (11, .own 32), (12, dV v1)], [aX 16 3 ([] : List Int), aX 32 70 v3], 64⟩) (fun v3 hm => ?_) ?_))
    ·refine Ok_block ?_
     obtain ⟨e, h2, hm⟩ := obind hm
     refine rs G (hD 2 h2 h0) ?_
     refine cd hm (fun hm => ?_) (fun hm => ?_)
     ·obtain ⟨e1, h3, hm⟩ := obind hm
      obtain ⟨u, h4, hm⟩ := obind hm
      refine re G (hD 3 h3 (hA 6 32 h4 h0)) ?_
      exact ibN (wJ G hm)
     ·exact X_skip (ibN (wJ G hm))
    rintro v3 hm
    exact rh G (wL G hm)
   ·exact Ok_exit (thE (thE (ibE (wD G hm hb1))))
  rintro v4 hm s hw
  refine thN (Ok_weak hw ?_)
  obtain ⟨r2, h5, hm⟩ := obind hm
  refine rs G (hF 1 (s_l25Last_c h5) ⟨(flat_cons flat_arr flat_nil), flat_nil⟩ h0) ?_
  refine Ok_seq (rg G (tl hm (fun i2 => ⟨[(10, .own 16)], [aX 16 3 i2], 48⟩) (fun i2 hm => ?_) ?_))
  ·refine Ok_block (lp G hm (fun (v5, i) => ⟨[(2, dV now), (3, dV limit), (10, .own 16), (13, .own 32), (14, dV v5)], [aX 16 3 i, aX 32 70 r2], 64⟩) ?_)
   rintro ⟨v5, i⟩ r0 hb2 hm
   rw [s_StaleVehicles_L2] at hm
   refine Ok_seq (rs G (hN 2 r2 h0) ?_)
   refine cd hm (fun hm => ?_) (fun hm => ?_)
   ·refine X_skip (thN (jn hm (fun i1 => ⟨[(2, dV now), (3, dV limit), (10, .own 16), (13, .own 32), (14, dV v5)], [aX 16 3 i1, aX 32 70 r2], 64⟩) (fun i1 hm => ?_) ?_))
    ·refine Ok_block ?_
     obtain ⟨e2, h6, hm⟩ := obind hm
     refine rs G (hD 3 h6 (hE 5 h6 h0)) ?_
     refine cd hm (fun hm => ?_) (fun hm => ?_)
     ·obtain ⟨e3, h7, hm⟩ := obind hm
      obtain ⟨u1, h8, hm⟩ := obind hm
      refine re G (hD 3 h7 (hE 5 h7 (hA 7 8 h8 h0))) ?_
      exact ibN (wJ G hm)
     ·exact X_skip (ibN (wJ G hm))
    rintro i1 hm
    exact rh G (wL G hm)
   ·exact Ok_exit (thE (thE (ibE (wD G hm hb2))))
  rintro i2 hm s1 hw1
  refine thN (Ok_weak hw1 ?_)
  refine rg G ?_
  cases hm
  exact rt [16] []
noncomputable def v_FnPositions_M : MS ((List UInt8)) Bool := ⟨.r, v_FnPositions, fun y => dV y, fun _ => [], fun _ _ => []⟩
theorem v_FnPositions_c {code y} (hm : v_FnPositions code = some y) : v_FnPositions_M.C code y := v_FnPositions_M.c code hm
theorem v_FnPositions_ok : FnOK Try.prog 5 v_FnPositions_M.S := by
 refine fm tt v_FnPositions_M [fo v_rBig_ok, fo s_DrawPlaceOf_ok, fo i_PlaceOf_ok, fo s_PlaceOf_ok, fo i_FittingTrips_ok, fo s_FittingTrips_ok, fo s_DrawPredictArrivals_ok, fo i_PredictArrivals_ok, fo s_PredictArrivals_ok, fo v_rInts_ok, fo s_DrawSpeedOf_ok, fo i_SpeedOf_ok, fo s_SpeedOf_ok, fo s_DrawStaleVehicles_ok, fo i_StaleVehicles_ok, fo s_StaleVehicles_ok] Try.call5 Try.func5 rfl Try.results5 Try.ntmps5 ?_
 rintro code y cx G hm
 have hm : v_FnPositions code = some y := hm
 unfold v_FnPositions at hm
 refine rg G (Ok_seq ?_)
 obtain ⟨r, h, hm⟩ := obind hm
 refine rs G (hC 1 (v_rBig_c h) h0) ?_
 refine cd hm (fun hm => ?_) (fun hm => ?_)
 ·refine rg G ?_
  cases hm
  exact rt [] []
 ·refine X_skip (thN ?_)
  obtain ⟨r1, h1, hm⟩ := obind hm
  refine rs G (hC 1 (s_DrawPlaceOf_c h1) h0) ?_
  obtain ⟨r2, h2, hm⟩ := obind hm
  refine rs G (hC 2 (i_PlaceOf_c h2) h0) ?_
  refine Ok_seq ?_
  obtain ⟨r3, h3, hm⟩ := obind hm
  refine rs G (hC 2 (s_PlaceOf_c h3) h0) ?_
  refine jn hm (fun v => ⟨[(0, dV code), (3, .ref 16 0), (4, .ref 32 0), (5, dV r2.1), (6, dV r2.2.1), (7, dV r2.2.2), (77, dV v)], [bX 16 [dV r1.1.Network.Stops, dV r1.1.Network.Lines, dV r1.1.Trips], bX 32 [dV r1.2.Vehicle, dV r1.2.Time, dV r1.2.Line, dV r1.2.Done]], 64⟩) (fun v hm => ?_) ?_
  ·rcases bf hm with ⟨hb, hm⟩ | ⟨hb, hm⟩
   ·refine re G (hO 3 (.b true) (hP hb h0)) ?_
    exact wJ G hm
   ·rcases bf hm with ⟨hb1, hm⟩ | ⟨hb1, hm⟩
    ·refine re G (hO 3 (.b false) (hP hb (hO 8 (.b true) (hP hb1 h0)))) ?_
     exact wJ G hm
    ·refine re G (hO 3 (.b false) (hP hb (hO 8 (.b false) (hP hb1 h0)))) ?_
     exact wJ G hm
  rintro v hm
  refine cd hm (fun hm => ?_) (fun hm => ?_)
  ·refine rg G ?_
   cases hm
   exact rt [] []
  ·refine X_skip (thN ?_)
   obtain ⟨r4, h4, hm⟩ := obind hm
   refine rs G (hC 2 (i_FittingTrips_c h4) h0) ?_
   obtain ⟨r5, h5, hm⟩ := obind hm
   refine rs G (hC 2 (s_FittingTrips_c h5) h0) ?_
   refine Ok_seq (jn hm (fun v1 => ⟨[(0, dV code), (3, .ref 16 0), (4, .ref 32 0), (5, dV r2.1), (6, dV r2.2.1), (7, dV r2.2.2), (11, dV r4.1), (13, .own 48), (99, dV v1)], [bX 16 [dV r1.1.Network.Stops, dV r1.1.Network.Lines, dV r1.1.Trips], bX 32 [dV r1.2.Vehicle, dV r1.2.Time, dV r1.2.Line, dV r1.2.Done], aX 48 78 r5.1], 80⟩) (fun v1 hm => ?_) ?_)
   ·rcases bf hm with ⟨hb2, hm⟩ | ⟨hb2, hm⟩
    ·refine re G (hO 3 (.b true) (hP hb2 h0)) ?_
     exact wJ G hm
    ·refine re G (hO 3 (.b false) (hP hb2 (hN 5 r4.1 (hN 7 r5.1 h0)))) ?_
     exact wJ G hm
   rintro v1 hm
   refine cd hm (fun hm => ?_) (fun hm => ?_)
   ·refine rg G ?_
    cases hm
    exact rt [] []
   ·refine X_skip (thN (Ok_seq (rg G (tF hm (fun _ => ⟨[(0, dV code), (3, .ref 16 0), (4, .ref 32 0), (5, dV r2.1), (6, dV r2.2.1), (7, dV r2.2.2)], [bX 16 [dV r1.1.Network.Stops, dV r1.1.Network.Lines, dV r1.1.Trips], bX 32 [dV r1.2.Vehicle, dV r1.2.Time, dV r1.2.Line, dV r1.2.Done]], 64⟩) (fun v8 hr hm => ?_) ?_))))
    ·refine Ok_block (lp G hm (fun runs => ⟨[(0, dV code), (3, .ref 16 0), (4, .ref 32 0), (5, dV r2.1), (6, dV r2.2.1), (7, dV r2.2.2), (11, dV r4.1), (13, .own 48), (15, dV runs)], [bX 16 [dV r1.1.Network.Stops, dV r1.1.Network.Lines, dV r1.1.Trips], bX 32 [dV r1.2.Vehicle, dV r1.2.Time, dV r1.2.Line, dV r1.2.Done], aX 48 78 r5.1], 80⟩) ?_)
     rintro runs r0 hb3 hm
     rw [v_FnPositions_L1] at hm
     refine Ok_seq (rs G (hN 2 r4.1 h0) ?_)
     refine cd hm (fun hm => ?_) (fun hm => ?_)
     ·refine X_skip (thN (Ok_seq (Ok_block ?_)))
      obtain ⟨e3, h9, hm⟩ := obind hm
      obtain ⟨e4, h10, hm⟩ := obind hm
      refine jn hm (fun v2 => ⟨[(0, dV code), (3, .ref 16 0), (4, .ref 32 0), (5, dV r2.1), (6, dV r2.2.1), (7, dV r2.2.2), (11, dV r4.1), (13, .own 48), (15, dV runs), (124, dV v2)], [bX 16 [dV r1.1.Network.Stops, dV r1.1.Network.Lines, dV r1.1.Trips], bX 32 [dV r1.2.Vehicle, dV r1.2.Time, dV r1.2.Line, dV r1.2.Done], aX 48 78 r5.1], 80⟩) (fun v2 hm => ?_) ?_
      ·rcases bf hm with ⟨hb4, hm⟩ | ⟨hb4, hm⟩
       ·refine de G [] (hD 2 h9 (hD 6 h10 (hE 7 h10 (hO 9 (.b true) (hP hb4 h0))))) ?_
        exact wJ G hm
       ·obtain ⟨e5, h11, hm⟩ := obind hm
        refine de G [] (hD 2 h9 (hD 6 h10 (hE 7 h10 (hO 9 (.b false) (hP hb4 (hD 12 h11 h0)))))) ?_
        exact wJ G hm
      rintro v2 hm
      refine cd hm (fun hm => ?_) (fun hm => ?_)
      ·refine rg G ?_
       have hm := eL hm hb3 hr
       cases hm
       exact rt [] []
      ·exact X_skip (ibN (thN (rh G (wL G hm))))
     ·exact Ok_exit (thE (thE (ibE (wE G hm hb3))))
    rintro ⟨⟩ hm s hw
    refine thN (Ok_weak hw ?_)
    refine jF hm (fun _ => ⟨[(0, dV code)], [], 32⟩) (fun v7 hr1 hm => ?_) ?_
    ·refine rg G (cd hm (fun hm => ?_) (fun hm => ?_))
     ·obtain ⟨e7, h12, hm⟩ := obind hm
      refine rs G (hD 5 h12 h0) ?_
      refine rg G (Ok_seq (rg G (tl hm (fun i1 => ⟨[(0, dV code), (4, .ref 16 0), (5, dV r2.1), (6, dV r2.2.1), (16, dV e7.Runs), (17, dV i1)], [bX 16 [dV r1.2.Vehicle, dV r1.2.Time, dV r1.2.Line, dV r1.2.Done]], 48⟩) (fun i1 hm => ?_) ?_)))
      ·refine Ok_block (lp G hm (fun (i, u) => ⟨[(0, dV code), (4, .ref 16 0), (5, dV r2.1), (6, dV r2.2.1), (16, dV e7.Runs), (17, dV i), (18, dV u)], [bX 16 [dV r1.2.Vehicle, dV r1.2.Time, dV r1.2.Line, dV r1.2.Done]], 48⟩) ?_)
       rintro ⟨i, u⟩ r0 hb5 hm
       rw [v_FnPositions_L2] at hm
       refine Ok_seq (rg G (cd hm (fun hm => ?_) (fun hm => ?_)))
       ·refine X_skip (thN (Ok_seq (Ok_block ?_)))
        obtain ⟨e8, h13, hm⟩ := obind hm
        refine re G (hD 3 h13 h0) ?_
        exact ibN (thN (rh G (wL G hm)))
       ·exact Ok_exit (thE (thE (ibE (wD G hm hb5))))
      rintro i1 hm s1 hw1
      refine thN (Ok_weak hw1 ?_)
      refine jn hm (fun v3 => ⟨[(0, dV code), (168, dV v3)], [], 32⟩) (fun v3 hm => ?_) ?_
      ·rcases bf hm with ⟨hb6, hm⟩ | ⟨hb6, hm⟩
       ·refine re G (hO 6 (.b true) (hP hb6 h0)) ?_
        exact wJ G hm
       ·rcases bf hm with ⟨hb7, hm⟩ | ⟨hb7, hm⟩
        ·refine re G (hO 6 (.b false) (hP hb6 (hO 10 (.b true) (hP hb7 h0)))) ?_
         exact wJ G hm
        ·rcases bf hm with ⟨hb8, hm⟩ | ⟨hb8, hm⟩
         ·obtain ⟨e9, h14, hm⟩ := obind hm
          refine re G (hO 6 (.b false) (hP hb6 (hO 10 (.b false) (hP hb7 (hN 13 e7.Runs (hO 15 (.b true) (hP hb8 (hD 19 h14 h0)))))))) ?_
          exact wJ G hm
         ·refine re G (hO 6 (.b false) (hP hb6 (hO 10 (.b false) (hP hb7 (hN 13 e7.Runs (hO 15 (.b false) (hP hb8 h0))))))) ?_
          exact wJ G hm
      rintro v3 hm
      refine cd hm (fun hm => ?_) (fun hm => ?_)
      ·refine rg G ?_
       have hm := eR hm hr1
       cases hm
       exact rt [] []
      ·exact X_skip (wF G hm)
     ·exact X_skip (wF G hm)
    rintro ⟨⟩ hm
    obtain ⟨r8, h15, hm⟩ := obind hm
    refine rs G (hC 1 (s_DrawPredictArrivals_c h15) h0) ?_
    obtain ⟨r9, h16, hm⟩ := obind hm
    refine rs G (hC 3 (i_PredictArrivals_c h16) h0) ?_
    obtain ⟨r10, h17, hm⟩ := obind hm
    refine rs G (hC 3 (s_PredictArrivals_c h17) h0) ?_
    refine Ok_seq (jn hm (fun v4 => ⟨[(0, dV code), (22, dV r9.1), (197, dV v4)], [], 32⟩) (fun v4 hm => ?_) ?_)
    ·rcases bf hm with ⟨hb9, hm⟩ | ⟨hb9, hm⟩
     ·refine re G (hO 3 (.b true) (hP hb9 h0)) ?_
      exact wJ G hm
     ·obtain ⟨r11, h18, hm⟩ := obind hm
      refine re G (hO 3 (.b false) (hP hb9 (hC 6 (v_rInts_c h18) h0))) ?_
      exact wJ G hm
    rintro v4 hm
    refine cd hm (fun hm => ?_) (fun hm => ?_)
    ·refine rg G ?_
     cases hm
     exact rt [] []
    ·refine X_skip (thN (Ok_seq (rg G (tF hm (fun _ => ⟨[(0, dV code)], [], 32⟩) (fun v6 hr3 hm => ?_) ?_))))
     ·refine Ok_block (lp G hm (fun v5 => ⟨[(0, dV code), (22, dV r9.1), (26, dV v5)], [], 32⟩) ?_)
      rintro v5 r0 hb10 hm
      rw [v_FnPositions_L3] at hm
      refine Ok_seq (rs G (hN 2 r9.1 h0) ?_)
      refine cd hm (fun hm => ?_) (fun hm => ?_)
      ·refine X_skip (thN (Ok_seq (Ok_block ?_)))
       obtain ⟨e13, h21, hm⟩ := obind hm
       obtain ⟨e14, h22, hm⟩ := obind hm
       refine ds G [] (hD 2 h21 (hD 7 h22 h0)) ?_
       refine cd hm (fun hm => ?_) (fun hm => ?_)
       ·refine rg G ?_
        have hm := eL hm hb10 hr3
        cases hm
        exact rt [] []
       ·exact X_skip (ibN (thN (rh G (wL G hm))))
      ·exact Ok_exit (thE (thE (ibE (wE G hm hb10))))
     rintro ⟨⟩ hm s2 hw2
     refine thN (Ok_weak hw2 ?_)
     obtain ⟨r13, h23, hm⟩ := obind hm
     refine rs G (hC 1 (s_DrawSpeedOf_c h23) h0) ?_
     obtain ⟨r14, h24, hm⟩ := obind hm
     refine rs G (hC 3 (i_SpeedOf_c h24) h0) ?_
     obtain ⟨r15, h25, hm⟩ := obind hm
     refine rs G (hC 3 (s_SpeedOf_c h25) h0) ?_
     obtain ⟨r16, h26, hm⟩ := obind hm
     refine rs G (hC 1 (s_DrawStaleVehicles_c h26) h0) ?_
     obtain ⟨r17, h27, hm⟩ := obind hm
     refine rs G (hO 4 (.fz [560] [] []) (hC 4 (i_StaleVehicles_c h27) h0)) ?_
     obtain ⟨r18, h28, hm⟩ := obind hm
     refine rs G (hC 4 (s_StaleVehicles_c h28) h0) ?_
     refine jn hm (fun t => ⟨[(2, dV t)], [], 32⟩) (fun t hm => ?_) ?_
     ·rcases bf hm with ⟨hb11, hm⟩ | ⟨hb11, hm⟩
      ·rcases bf hm with ⟨hb12, hm⟩ | ⟨hb12, hm⟩
       ·rcases bf hm with ⟨hb13, hm⟩ | ⟨hb13, hm⟩
        ·rcases bf hm with ⟨hb14, hm⟩ | ⟨hb14, hm⟩
         ·obtain ⟨r19, h29, hm⟩ := obind hm
          refine re G (hO 3 (.b true) (hP hb11 (hO 8 (.b true) (hP hb12 (hO 13 (.b true) (hP hb13 (hO 18 (.b true) (hP hb14 (hC 21 (v_rInts_c h29) h0))))))))) ?_
          exact wJ G hm
         ·refine re G (hO 3 (.b true) (hP hb11 (hO 8 (.b true) (hP hb12 (hO 13 (.b true) (hP hb13 (hO 18 (.b false) (hP hb14 h0)))))))) ?_
          exact wJ G hm
        ·refine re G (hO 3 (.b true) (hP hb11 (hO 8 (.b true) (hP hb12 (hO 13 (.b false) (hP hb13 h0)))))) ?_
         exact wJ G hm
       ·refine re G (hO 3 (.b true) (hP hb11 (hO 8 (.b false) (hP hb12 h0)))) ?_
        exact wJ G hm
      ·refine re G (hO 3 (.b false) (hP hb11 h0)) ?_
       exact wJ G hm
     rintro t hm
     cases hm
     exact rt [] []
end Go.Proofs.Ytjljkjbdkjjdcaa
