/- Each function computes what its model says. Made by program (dec.py). -/
import Derived.Test.YtgminbcbkcacnaaDeW1
namespace Go.Proofs.Ytgminbcbkcacnaa
open Go Go.Ab
set_option maxRecDepth 100000
set_option maxHeartbeats 4000000
set_option linter.unusedVariables false
set_option linter.unusedSimpArgs false
noncomputable def i_TripsRunning_M : MS (Timetable × Int) ((List Int) × Bool) := ⟨.x .r .r, fun x => i_TripsRunning x.1 x.2, fun y => .tup [dV y.1, dV y.2], fun _ => [], fun _ _ => []⟩
theorem i_TripsRunning_c {t at_ y} (hm : i_TripsRunning t at_ = some y) : i_TripsRunning_M.C (t, at_) y := i_TripsRunning_M.c (t, at_) hm
theorem i_TripsRunning_ok : FnOK Try.prog 59 i_TripsRunning_M.S := by
 refine fm tt i_TripsRunning_M [fo i_IsValidTimetable_ok, fo i_IsValidTime_ok, fo i_endOf_ok] Try.call59 Try.func59 rfl Try.results59 Try.ntmps59 ?_
 rintro ⟨t, at_⟩ y cx G hm
 have hm : i_TripsRunning t at_ = some y := hm
 unfold i_TripsRunning at hm
 refine rg G (Ok_seq ?_)
 obtain ⟨r, h, hm⟩ := obind hm
 refine jn hm (fun v => ⟨[(1, dV at_), (2, .ref 16 0), (16, dV v)], [bX 16 [dV t.Network.Stops, dV t.Network.Lines, dV t.Trips]], 48⟩) (fun v hm => ?_) ?_
 ·rcases bf hm with ⟨hb, hm⟩ | ⟨hb, hm⟩
  ·refine re G (hC 1 (i_IsValidTimetable_c h) (hO 3 (.b true) (hP hb h0))) ?_
   exact wJ G hm
  ·obtain ⟨r1, h1, hm⟩ := obind hm
   refine re G (hC 1 (i_IsValidTimetable_c h) (hO 3 (.b false) (hP hb (hC 5 (i_IsValidTime_c h1) h0)))) ?_
   exact wJ G hm
 rintro v hm
 refine cd hm (fun hm => ?_) (fun hm => ?_)
 ·refine rg G ?_
  cases hm
  exact rt [] [[.z 1]]
 ·refine X_skip (thN (rg G (Ok_seq (rs G (hN 2 t.Trips h0) ?_))))
  refine tl hm (fun x2 => ⟨[(6, .own 16)], [aX 16 3 x2], 48⟩) (fun x2 hm => ?_) ?_
  ·refine Ok_block (lpP hm (fun (v1, x) => ⟨[(1, dV at_), (2, .ref 16 0), (6, .own 32), (18, dV t.Trips), (19, dV (t.Trips.length : Int)), (20, dV v1)], [bX 16 [dV t.Network.Stops, dV t.Network.Lines, dV t.Trips], aX 32 3 x], 64⟩) (Wk_J G.hL ⟨[(1, []), (2, []), (6, [.o 32]), (18, []), (19, []), (20, [])], [(16, 16, [])], [(32, 3, 1, [])], 64⟩ (by kernel_rfl)) ?_)
   rintro ⟨v1, x⟩ r0 hb1 hm
   rw [i_TripsRunning_L1] at hm
   refine rg G (Ok_seq (cd hm (fun hm => ?_) (fun hm => ?_)))
   ·refine X_skip (thN (jn hm (fun x1 => ⟨[(1, dV at_), (2, .ref 16 0), (6, .own 32), (18, dV t.Trips), (19, dV (t.Trips.length : Int)), (20, dV v1)], [bX 16 [dV t.Network.Stops, dV t.Network.Lines, dV t.Trips], aX 32 3 x1], 64⟩) (fun x1 hm => ?_) ?_))
    ·refine Ok_block ?_
     obtain ⟨e, h2, hm⟩ := obind hm
     refine rs G (hD 0 h2 h0) ?_
     refine jn hm (fun v2 => ⟨[(1, dV at_), (2, .ref 16 0), (6, .own 32), (8, .ref 48 0), (18, dV t.Trips), (19, dV (t.Trips.length : Int)), (20, dV v1), (34, dV v2)], [bX 16 [dV t.Network.Stops, dV t.Network.Lines, dV t.Trips], aX 32 3 x, bX 48 [dV e.Id, dV e.Line, dV e.Start]], 80⟩) (fun v2 hm => ?_) ?_
     ·rcases bf hm with ⟨hb2, hm⟩ | ⟨hb2, hm⟩
      ·obtain ⟨r2, h3, hm⟩ := obind hm
       refine re G (hO 4 (.b true) (hP hb2 (hC 8 (i_endOf_c h3) h0))) ?_
       exact wJ G hm
      ·refine re G (hO 4 (.b false) (hP hb2 h0)) ?_
       exact wJ G hm
     rintro v2 hm
     refine cd hm (fun hm => ?_) (fun hm => ?_)
     ·obtain ⟨u, h4, hm⟩ := obind hm
      refine re G (hA 4 8 h4 h0) ?_
      exact ibN (wJ G hm)
     ·exact X_skip (ibN (wJ G hm))
    rintro x1 hm
    exact rh G (wL G hm)
   ·exact Ok_exit (thE (thE (ibE (wD G hm hb1))))
  rintro x2 hm s hw
  refine thN (Ok_weak hw ?_)
  refine rg G ?_
  cases hm
  exact rt [] []
noncomputable def s_TripsRunning_M : MS (Timetable × Int) ((List Int) × Bool) := ⟨.x .r .r, fun x => s_TripsRunning x.1 x.2, fun y => .tup [.own 0, dV y.2], fun y => [arO 3 y.1], fun _ _ => []⟩
theorem s_TripsRunning_c {t at_ y} (hm : s_TripsRunning t at_ = some y) : s_TripsRunning_M.C (t, at_) y := s_TripsRunning_M.c (t, at_) hm
theorem s_TripsRunning_ok : FnOK Try.prog 60 s_TripsRunning_M.S := by
 refine fm tt s_TripsRunning_M [fo s_l5Good_ok, fo s_l4Time_ok, fo s_l5End_ok] Try.call60 Try.func60 rfl Try.results60 Try.ntmps60 ?_
 rintro ⟨t, at_⟩ y cx G hm
 have hm : s_TripsRunning t at_ = some y := hm
 unfold s_TripsRunning at hm
 refine rg G (rg G (Ok_seq ?_))
 obtain ⟨r, h, hm⟩ := obind hm
 refine jn hm (fun v => ⟨[(1, dV at_), (2, .ref 16 0), (6, .own 32), (16, dV v)], [bX 16 [dV t.Network.Stops, dV t.Network.Lines, dV t.Trips], aX 32 3 ([] : List Int)], 64⟩) (fun v hm => ?_) ?_
 ·rcases bf hm with ⟨hb, hm⟩ | ⟨hb, hm⟩
  ·refine re G (hC 1 (s_l5Good_c h) (hO 3 (.b true) (hP hb h0))) ?_
   exact wJ G hm
  ·obtain ⟨r1, h1, hm⟩ := obind hm
   refine re G (hC 1 (s_l5Good_c h) (hO 3 (.b false) (hP hb (hC 5 (s_l4Time_c h1) h0)))) ?_
   exact wJ G hm
 rintro v hm
 refine cd hm (fun hm => ?_) (fun hm => ?_)
 ·refine rg G ?_
  cases hm
  exact rt [32] []
 ·refine X_skip (thN (Ok_seq (rg G (tl hm (fun v5 => ⟨[(6, .own 16)], [aX 16 3 v5], 48⟩) (fun v5 hm => ?_) ?_))))
  ·refine Ok_block (lp G hm (fun (v1, v2) => ⟨[(1, dV at_), (2, .ref 16 0), (6, .own 32), (7, dV v1)], [bX 16 [dV t.Network.Stops, dV t.Network.Lines, dV t.Trips], aX 32 3 v2], 64⟩) ?_)
   rintro ⟨v1, v2⟩ r0 hb1 hm
   rw [s_TripsRunning_L1] at hm
   refine Ok_seq (rs G (hN 3 t.Trips h0) ?_)
   refine cd hm (fun hm => ?_) (fun hm => ?_)
   ·refine X_skip (thN (jn hm (fun v3 => ⟨[(1, dV at_), (2, .ref 16 0), (6, .own 32), (7, dV v1)], [bX 16 [dV t.Network.Stops, dV t.Network.Lines, dV t.Trips], aX 32 3 v3], 64⟩) (fun v3 hm => ?_) ?_))
    ·refine Ok_block ?_
     obtain ⟨e, h2, hm⟩ := obind hm
     refine jn hm (fun v4 => ⟨[(1, dV at_), (2, .ref 16 0), (6, .own 32), (7, dV v1), (39, dV v4)], [bX 16 [dV t.Network.Stops, dV t.Network.Lines, dV t.Trips], aX 32 3 v2], 64⟩) (fun v4 hm => ?_) ?_
     ·rcases bf hm with ⟨hb2, hm⟩ | ⟨hb2, hm⟩
      ·obtain ⟨r2, h3, hm⟩ := obind hm
       refine re G (hD 3 h2 (hO 8 (.b true) (hP hb2 (hC 11 (s_l5End_c h3) h0)))) ?_
       exact wJ G hm
      ·refine re G (hD 3 h2 (hO 8 (.b false) (hP hb2 h0))) ?_
       exact wJ G hm
     rintro v4 hm
     refine cd hm (fun hm => ?_) (fun hm => ?_)
     ·obtain ⟨e1, h4, hm⟩ := obind hm
      obtain ⟨u, h5, hm⟩ := obind hm
      refine re G (hD 4 h4 (hA 8 8 h5 h0)) ?_
      exact ibN (wJ G hm)
     ·exact X_skip (ibN (wJ G hm))
    rintro v3 hm
    exact rh G (wL G hm)
   ·exact Ok_exit (thE (thE (ibE (wD G hm hb1))))
  rintro v5 hm s hw
  refine thN (Ok_weak hw ?_)
  refine rg G ?_
  cases hm
  exact rt [16] []
noncomputable def v_vInts_M : MS ((List Int) × (List Int)) Bool := ⟨.x .r .r, fun x => v_vInts x.1 x.2, fun y => dV y, fun _ => [], fun _ _ => []⟩
theorem v_vInts_c {a b y} (hm : v_vInts a b = some y) : v_vInts_M.C (a, b) y := v_vInts_M.c (a, b) hm
theorem v_vInts_ok : FnOK Try.prog 61 v_vInts_M.S := by
 refine fm tt v_vInts_M [] Try.call61 Try.func61 rfl Try.results61 Try.ntmps61 ?_
 rintro ⟨a, b⟩ y cx G hm
 have hm : v_vInts a b = some y := hm
 unfold v_vInts at hm
 refine rg G (Ok_seq (rs G (hN 1 a (hN 3 b h0)) ?_))
 refine cd hm (fun hm => ?_) (fun hm => ?_)
 ·refine rg G ?_
  cases hm
  exact rt [] []
 ·refine X_skip (thN (Ok_seq (rg G (tF hm (fun _ => ⟨[], [], 32⟩) (fun v1 hr hm => ?_) ?_))))
  ·refine Ok_block (lp G hm (fun v => ⟨[(0, dV a), (1, dV b), (5, dV v)], [], 32⟩) ?_)
   rintro v r0 hb hm
   rw [v_vInts_L1] at hm
   refine Ok_seq (rs G (hN 2 a h0) ?_)
   refine cd hm (fun hm => ?_) (fun hm => ?_)
   ·refine X_skip (thN (Ok_seq (Ok_block ?_)))
    obtain ⟨e2, h2, hm⟩ := obind hm
    obtain ⟨e3, h3, hm⟩ := obind hm
    refine ds G [] (hD 2 h2 (hD 6 h3 h0)) ?_
    refine cd hm (fun hm => ?_) (fun hm => ?_)
    ·refine rg G ?_
     have hm := eL hm hb hr
     cases hm
     exact rt [] []
    ·exact X_skip (ibN (thN (rh G (wL G hm))))
   ·exact Ok_exit (thE (thE (ibE (wE G hm hb))))
  rintro ⟨⟩ hm s hw
  refine thN (Ok_weak hw ?_)
  refine rg G ?_
  cases hm
  exact rt [] []
noncomputable def v_FnDepartures_M : MS ((List UInt8)) Bool := ⟨.r, v_FnDepartures, fun y => dV y, fun _ => [], fun _ _ => []⟩
theorem v_FnDepartures_c {code y} (hm : v_FnDepartures code = some y) : v_FnDepartures_M.C code y := v_FnDepartures_M.c code hm
theorem v_FnDepartures_ok : FnOK Try.prog 8 v_FnDepartures_M.S := by
 refine fm tt v_FnDepartures_M [fo v_vBig_ok, fo s_DrawDeparturesAt_ok, fo i_DeparturesAt_ok, fo s_DeparturesAt_ok, fo i_StopTimes_ok, fo v_vHas_ok, fo s_DrawTripsRunning_ok, fo i_TripsRunning_ok, fo s_TripsRunning_ok, fo v_vInts_ok] Try.call8 Try.func8 rfl Try.results8 Try.ntmps8 ?_
 rintro code y cx G hm
 have hm : v_FnDepartures code = some y := hm
 unfold v_FnDepartures at hm
 refine rg G (Ok_seq ?_)
 obtain ⟨r, h, hm⟩ := obind hm
 refine rs G (hC 1 (v_vBig_c h) h0) ?_
 refine cd hm (fun hm => ?_) (fun hm => ?_)
 ·refine rg G ?_
  cases hm
  exact rt [] []
 ·refine X_skip (thN ?_)
  obtain ⟨r1, h1, hm⟩ := obind hm
  refine rs G (hC 1 (s_DrawDeparturesAt_c h1) h0) ?_
  obtain ⟨r2, h2, hm⟩ := obind hm
  refine rs G (hO 3 (.fz [80, 81] [] []) (hC 3 (i_DeparturesAt_c h2) h0)) ?_
  refine Ok_seq ?_
  obtain ⟨r3, h3, hm⟩ := obind hm
  refine rs G (hC 3 (s_DeparturesAt_c h3) h0) ?_
  refine jn hm (fun v => ⟨[(0, dV code), (3, .ref 16 0), (5, dV r1.2.2), (6, dV r2.1), (53, dV v)], [bX 16 [dV r1.1.Network.Stops, dV r1.1.Network.Lines, dV r1.1.Trips]], 48⟩) (fun v hm => ?_) ?_
  ·rcases bf hm with ⟨hb, hm⟩ | ⟨hb, hm⟩
   ·refine re G (hO 3 (.b true) (hP hb h0)) ?_
    exact wJ G hm
   ·refine re G (hO 3 (.b false) (hP hb (hN 5 r2.1 (hN 7 r3.1 h0)))) ?_
    exact wJ G hm
  rintro v hm
  refine cd hm (fun hm => ?_) (fun hm => ?_)
  ·refine rg G ?_
   cases hm
   exact rt [] []
  ·refine X_skip (thN (Ok_seq (rg G (tF hm (fun _ => ⟨[(0, dV code)], [], 32⟩) (fun v5 hr hm => ?_) ?_))))
   ·refine Ok_block (lp G hm (fun times => ⟨[(0, dV code), (3, .ref 16 0), (5, dV r1.2.2), (6, dV r2.1), (10, dV times)], [bX 16 [dV r1.1.Network.Stops, dV r1.1.Network.Lines, dV r1.1.Trips]], 48⟩) ?_)
    rintro times r0 hb1 hm
    rw [v_FnDepartures_L1] at hm
    refine Ok_seq (rs G (hN 2 r2.1 h0) ?_)
    refine cd hm (fun hm => ?_) (fun hm => ?_)
    ·refine X_skip (thN (Ok_seq (Ok_block ?_)))
     obtain ⟨e1, h6, hm⟩ := obind hm
     obtain ⟨r5, h7, hm⟩ := obind hm
     refine ds G [] (hD 3 h6 (hP (show (0 : Int) ≤ 1 ∧ (1 : Int) < 2 by decide) (hC 6 (i_StopTimes_c h7) h0))) ?_
     refine jn hm (fun v1 => ⟨[(0, dV code), (3, .ref 16 0), (5, dV r1.2.2), (6, dV r2.1), (10, dV times), (108, dV v1)], [bX 16 [dV r1.1.Network.Stops, dV r1.1.Network.Lines, dV r1.1.Trips]], 48⟩) (fun v1 hm => ?_) ?_
     ·rcases bf hm with ⟨hb2, hm⟩ | ⟨hb2, hm⟩
      ·refine de G [] (hO 2 (.b true) (hP hb2 h0)) ?_
       exact wJ G hm
      ·obtain ⟨e6, h13, hm⟩ := obind hm
       obtain ⟨r7, h14, hm⟩ := obind hm
       rcases bf hm with ⟨hb3, hm⟩ | ⟨hb3, hm⟩
       ·refine de G [] (hO 2 (.b false) (hP hb2 (hD 6 h13 (hP (show (0 : Int) ≤ 0 ∧ (0 : Int) < 2 by decide) (hC 9 (v_vHas_c h14) (hO 12 (.b true) (hP hb3 h0))))))) ?_
        exact wJ G hm
       ·obtain ⟨e7, h15, hm⟩ := obind hm
        rcases bf hm with ⟨hb4, hm⟩ | ⟨hb4, hm⟩
        ·refine de G [] (hO 2 (.b false) (hP hb2 (hD 6 h13 (hP (show (0 : Int) ≤ 0 ∧ (0 : Int) < 2 by decide) (hC 9 (v_vHas_c h14) (hO 12 (.b false) (hP hb3 (hD 15 h15 (hP (show (0 : Int) ≤ 0 ∧ (0 : Int) < 2 by decide) (hO 21 (.b true) (hP hb4 h0))))))))))) ?_
         exact wJ G hm
        ·rcases bf hm with ⟨hb5, hm⟩ | ⟨hb5, hm⟩
         ·obtain ⟨e8, h16, hm⟩ := obind hm
          obtain ⟨e9, h17, hm⟩ := obind hm
          refine de G [] (hO 2 (.b false) (hP hb2 (hD 6 h13 (hP (show (0 : Int) ≤ 0 ∧ (0 : Int) < 2 by decide) (hC 9 (v_vHas_c h14) (hO 12 (.b false) (hP hb3 (hD 15 h15 (hP (show (0 : Int) ≤ 0 ∧ (0 : Int) < 2 by decide) (hO 21 (.b false) (hP hb4 (hO 24 (.b true) (hP hb5 (hD 28 h16 (hP (show (0 : Int) ≤ 0 ∧ (0 : Int) < 2 by decide) (hD 33 h17 (hP (show (0 : Int) ≤ 0 ∧ (0 : Int) < 2 by decide) h0))))))))))))))))) ?_
          exact wJ G hm
         ·refine de G [] (hO 2 (.b false) (hP hb2 (hD 6 h13 (hP (show (0 : Int) ≤ 0 ∧ (0 : Int) < 2 by decide) (hC 9 (v_vHas_c h14) (hO 12 (.b false) (hP hb3 (hD 15 h15 (hP (show (0 : Int) ≤ 0 ∧ (0 : Int) < 2 by decide) (hO 21 (.b false) (hP hb4 (hO 24 (.b false) (hP hb5 h0))))))))))))) ?_
          exact wJ G hm
     rintro v1 hm
     refine cd hm (fun hm => ?_) (fun hm => ?_)
     ·refine rg G ?_
      have hm := eL hm hb1 hr
      cases hm
      exact rt [] []
     ·exact X_skip (ibN (thN (rh G (wL G hm))))
    ·exact Ok_exit (thE (thE (ibE (wE G hm hb1))))
   rintro ⟨⟩ hm s hw
   refine thN (Ok_weak hw ?_)
   obtain ⟨r9, h18, hm⟩ := obind hm
   refine rs G (hC 1 (s_DrawTripsRunning_c h18) h0) ?_
   obtain ⟨r10, h19, hm⟩ := obind hm
   refine rs G (hO 2 (.fz [48, 49] [] []) (hC 2 (i_TripsRunning_c h19) h0)) ?_
   refine Ok_seq ?_
   obtain ⟨r11, h20, hm⟩ := obind hm
   refine rs G (hC 2 (s_TripsRunning_c h20) h0) ?_
   refine jn hm (fun v2 => ⟨[(13, .ref 16 0), (14, dV r9.2), (15, dV r10.1), (134, dV v2)], [bX 16 [dV r9.1.Network.Stops, dV r9.1.Network.Lines, dV r9.1.Trips]], 48⟩) (fun v2 hm => ?_) ?_
   ·rcases bf hm with ⟨hb6, hm⟩ | ⟨hb6, hm⟩
    ·refine re G (hO 3 (.b true) (hP hb6 h0)) ?_
     exact wJ G hm
    ·obtain ⟨r12, h21, hm⟩ := obind hm
     refine re G (hO 3 (.b false) (hP hb6 (hC 6 (v_vInts_c h21) h0))) ?_
     exact wJ G hm
   rintro v2 hm
   refine cd hm (fun hm => ?_) (fun hm => ?_)
   ·refine rg G ?_
    cases hm
    exact rt [] []
   ·refine X_skip (thN (Ok_seq (rg G (tF hm (fun _ => ⟨[], [], 32⟩) (fun v4 hr1 hm => ?_) ?_))))
    ·refine Ok_block (lp G hm (fun times1 => ⟨[(13, .ref 16 0), (14, dV r9.2), (15, dV r10.1), (19, dV times1)], [bX 16 [dV r9.1.Network.Stops, dV r9.1.Network.Lines, dV r9.1.Trips]], 48⟩) ?_)
     rintro times1 r0 hb7 hm
     rw [v_FnDepartures_L2] at hm
     refine Ok_seq (rs G (hN 2 r10.1 h0) ?_)
     refine cd hm (fun hm => ?_) (fun hm => ?_)
     ·refine X_skip (thN (Ok_seq (Ok_block ?_)))
      obtain ⟨e12, h24, hm⟩ := obind hm
      obtain ⟨r14, h25, hm⟩ := obind hm
      refine ds G [] (hD 3 h24 (hC 5 (i_StopTimes_c h25) h0)) ?_
      refine jn hm (fun v3 => ⟨[(13, .ref 16 0), (14, dV r9.2), (15, dV r10.1), (19, dV times1), (173, dV v3)], [bX 16 [dV r9.1.Network.Stops, dV r9.1.Network.Lines, dV r9.1.Trips]], 48⟩) (fun v3 hm => ?_) ?_
      ·rcases bf hm with ⟨hb8, hm⟩ | ⟨hb8, hm⟩
       ·refine re G (hO 2 (.b true) (hP hb8 h0)) ?_
        exact wJ G hm
       ·rcases bf hm with ⟨hb9, hm⟩ | ⟨hb9, hm⟩
        ·refine re G (hO 2 (.b false) (hP hb8 (hN 4 r14.1 (hO 7 (.b true) (hP hb9 h0))))) ?_
         exact wJ G hm
        ·obtain ⟨e13, h26, hm⟩ := obind hm
         rcases bf hm with ⟨hb10, hm⟩ | ⟨hb10, hm⟩
         ·refine re G (hO 2 (.b false) (hP hb8 (hN 4 r14.1 (hO 7 (.b false) (hP hb9 (hD 9 h26 (hO 14 (.b true) (hP hb10 h0)))))))) ?_
          exact wJ G hm
         ·obtain ⟨e14, h27, hm⟩ := obind hm
          refine re G (hO 2 (.b false) (hP hb8 (hN 4 r14.1 (hO 7 (.b false) (hP hb9 (hD 9 h26 (hO 14 (.b false) (hP hb10 (hN 17 r14.1 (hD 19 h27 h0)))))))))) ?_
          exact wJ G hm
      rintro v3 hm
      refine cd hm (fun hm => ?_) (fun hm => ?_)
      ·refine rg G ?_
       have hm := eL hm hb7 hr1
       cases hm
       exact rt [] []
      ·exact X_skip (ibN (thN (rh G (wL G hm))))
     ·exact Ok_exit (thE (thE (ibE (wE G hm hb7))))
    rintro ⟨⟩ hm s1 hw1
    refine thN (Ok_weak hw1 ?_)
    refine rg G ?_
    cases hm
    exact rt [] []
end Go.Proofs.Ytgminbcbkcacnaa
