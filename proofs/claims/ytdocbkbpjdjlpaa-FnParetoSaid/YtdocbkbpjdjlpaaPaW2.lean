/- Each function computes what its model says. Made by program (dec.py). -/
import Derived.Test.YtdocbkbpjdjlpaaPaW1
namespace Go.Proofs.Ytdocbkbpjdjlpaa
open Go Go.Ab
set_option maxRecDepth 100000
set_option maxHeartbeats 4000000
set_option linter.unusedVariables false
set_option linter.unusedSimpArgs false
noncomputable def i_IsValidJourney_M : MS (Timetable × Int × (List Leg)) Bool := ⟨.x .r (.x .r .r), fun x => i_IsValidJourney x.1 x.2.1 x.2.2, fun y => dV y, fun _ => [], fun _ _ => []⟩
theorem i_IsValidJourney_c {t change legs y} (hm : i_IsValidJourney t change legs = some y) : i_IsValidJourney_M.C (t, change, legs) y := i_IsValidJourney_M.c (t, change, legs) hm
theorem i_IsValidJourney_ok : FnOK Try.prog tJ 56 i_IsValidJourney_M.S := by
 refine fm tt i_IsValidJourney_M [fo i_IsValidTimetable_ok, fo i_isChange_ok, fo i_isJourney_ok] Try.call56 Try.func56 rfl Try.results56 Try.ntmps56 ?_
 rintro ⟨t, change, legs⟩ y cx G hm
 have hm : i_IsValidJourney t change legs = some y := hm
 unfold i_IsValidJourney at hm
 refine rg G ?_
 obtain ⟨r, h, hm⟩ := obind hm
 refine jn hm (fun v => ⟨[(6, dV v)], [], 32⟩) (fun v hm => ?_) ?_
 ·rcases bf hm with ⟨hb, hm⟩ | ⟨hb, hm⟩
  ·obtain ⟨r1, h1, hm⟩ := obind hm
   rcases bf hm with ⟨hb1, hm⟩ | ⟨hb1, hm⟩
   ·obtain ⟨r2, h2, hm⟩ := obind hm
    refine re G (hC 1 (i_IsValidTimetable_c h) (hO 2 (.b true) (hP hb (hC 4 (i_isChange_c h1) (hO 6 (.b true) (hP hb1 (hC 10 (i_isJourney_c h2) h0))))))) ?_
    exact wJ G hm
   ·refine re G (hC 1 (i_IsValidTimetable_c h) (hO 2 (.b true) (hP hb (hC 4 (i_isChange_c h1) (hO 6 (.b false) (hP hb1 h0)))))) ?_
    exact wJ G hm
  ·refine re G (hC 1 (i_IsValidTimetable_c h) (hO 2 (.b false) (hP hb h0))) ?_
   exact wJ G hm
 rintro v hm
 cases hm
 exact rt [] []
noncomputable def i_isFrom_M : MS (Timetable × Int × Int × Int) Bool := ⟨.x .r (.x .r (.x .r .r)), fun x => i_isFrom x.1 x.2.1 x.2.2.1 x.2.2.2, fun y => dV y, fun _ => [], fun _ _ => []⟩
theorem i_isFrom_c {t change from_ at_ y} (hm : i_isFrom t change from_ at_ = some y) : i_isFrom_M.C (t, change, from_, at_) y := i_isFrom_M.c (t, change, from_, at_) hm
theorem i_isFrom_ok : FnOK Try.prog tJ 128 i_isFrom_M.S := by
 refine fm tt i_isFrom_M [fo i_IsValidTimetable_ok, fo i_isChange_ok, fo i_isStop_ok, fo i_IsValidTime_ok] Try.call128 Try.func128 rfl Try.results128 Try.ntmps128 ?_
 rintro ⟨t, change, from_, at_⟩ y cx G hm
 have hm : i_isFrom t change from_ at_ = some y := hm
 unfold i_isFrom at hm
 refine rg G ?_
 obtain ⟨r, h, hm⟩ := obind hm
 refine jn hm (fun v => ⟨[(8, dV v)], [], 32⟩) (fun v hm => ?_) ?_
 ·rcases bf hm with ⟨hb, hm⟩ | ⟨hb, hm⟩
  ·obtain ⟨r1, h1, hm⟩ := obind hm
   rcases bf hm with ⟨hb1, hm⟩ | ⟨hb1, hm⟩
   ·obtain ⟨r2, h2, hm⟩ := obind hm
    rcases bf hm with ⟨hb2, hm⟩ | ⟨hb2, hm⟩
    ·obtain ⟨r3, h3, hm⟩ := obind hm
     refine re G (hC 1 (i_IsValidTimetable_c h) (hO 2 (.b true) (hP hb (hC 4 (i_isChange_c h1) (hO 6 (.b true) (hP hb1 (hC 10 (i_isStop_c h2) (hO 12 (.b true) (hP hb2 (hC 14 (i_IsValidTime_c h3) h0)))))))))) ?_
     exact wJ G hm
    ·refine re G (hC 1 (i_IsValidTimetable_c h) (hO 2 (.b true) (hP hb (hC 4 (i_isChange_c h1) (hO 6 (.b true) (hP hb1 (hC 10 (i_isStop_c h2) (hO 12 (.b false) (hP hb2 h0))))))))) ?_
     exact wJ G hm
   ·refine re G (hC 1 (i_IsValidTimetable_c h) (hO 2 (.b true) (hP hb (hC 4 (i_isChange_c h1) (hO 6 (.b false) (hP hb1 h0)))))) ?_
    exact wJ G hm
  ·refine re G (hC 1 (i_IsValidTimetable_c h) (hO 2 (.b false) (hP hb h0))) ?_
   exact wJ G hm
 rintro v hm
 cases hm
 exact rt [] []
noncomputable def i_earliestArrivals_M : MS (Timetable × Int × Int × Int) ((List Int)) := ⟨.x .r (.x .r (.x .r .r)), fun x => i_earliestArrivals x.1 x.2.1 x.2.2.1 x.2.2.2, fun _ => .own 0, fun y => [arO 3 y], fun _ _ => []⟩
theorem i_earliestArrivals_c {t change from_ at_ y} (hm : i_earliestArrivals t change from_ at_ = some y) : i_earliestArrivals_M.C (t, change, from_, at_) y := i_earliestArrivals_M.c (t, change, from_, at_) hm
theorem i_earliestArrivals_ok : FnOK Try.prog tJ 129 i_earliestArrivals_M.S := by
 refine fm tt i_earliestArrivals_M [fo i_readyAt_ok, fo i_arrivals_ok] Try.call129 Try.func129 rfl Try.results129 Try.ntmps129 ?_
 rintro ⟨t, change, from_, at_⟩ y cx G hm
 have hm : i_earliestArrivals t change from_ at_ = some y := hm
 unfold i_earliestArrivals at hm
 refine rg G ?_
 obtain ⟨r2, h2, hm⟩ := obind hm
 obtain ⟨r3, h3, hm⟩ := obind hm
 refine ds G [] (hC 5 (i_readyAt_c h2) (hF 6 (i_arrivals_c h3) ⟨(flat_cons flat_arr flat_nil), flat_nil⟩ h0)) ?_
 refine Ok_seq (rs G (hN 1 r3 h0) ?_)
 refine tl hm (fun v3 => ⟨[(2, dV from_), (3, dV at_), (9, .own 16)], [aX 16 3 v3], 48⟩) (fun v3 hm => ?_) ?_
 ·refine Ok_block (lp G hm (fun (v, v1) => ⟨[(2, dV from_), (3, dV at_), (9, .own 16), (19, .own 16), (20, dV (r3.length : Int)), (21, dV v)], [aX 16 3 v1], 48⟩) ?_)
  rintro ⟨v, v1⟩ r0 hb hm
  rw [i_earliestArrivals_L1] at hm
  refine rg G (Ok_seq (cd hm (fun hm => ?_) (fun hm => ?_)))
  ·refine X_skip (thN (jn hm (fun v2 => ⟨[(2, dV from_), (3, dV at_), (9, .own 16), (19, .own 16), (20, dV (r3.length : Int)), (21, dV v)], [aX 16 3 v2], 48⟩) (fun v2 hm => ?_) ?_))
   ·refine Ok_block ?_
    obtain ⟨e, h4, hm⟩ := obind hm
    refine rs G (hD 1 h4 (hE 2 h4 h0)) ?_
    refine rg G (cd hm (fun hm => ?_) (fun hm => ?_))
    ·obtain ⟨e1, h5, hm⟩ := obind hm
     refine re G (hD 2 h5 (hS 3 h5 (-1) h0)) ?_
     exact ibN (wJ G hm)
    ·exact X_skip (ibN (wJ G hm))
   rintro v2 hm
   exact rh G (wL G hm)
  ·exact Ok_exit (thE (thE (ibE (wD G hm hb))))
 rintro v3 hm s hw
 refine thN (Ok_weak hw ?_)
 obtain ⟨e2, h6, hm⟩ := obind hm
 refine rs G (hD 3 h6 (hS 4 h6 at_ h0)) ?_
 refine rg G ?_
 cases hm
 exact rt [16] []
noncomputable def i_EarliestArrivals_M : MS (Timetable × Int × Int × Int) ((List Int) × Bool) := ⟨.x .r (.x .r (.x .r .r)), fun x => i_EarliestArrivals x.1 x.2.1 x.2.2.1 x.2.2.2, fun y => .tup [dV y.1, dV y.2], fun _ => [], fun _ _ => []⟩
theorem i_EarliestArrivals_c {t change from_ at_ y} (hm : i_EarliestArrivals t change from_ at_ = some y) : i_EarliestArrivals_M.C (t, change, from_, at_) y := i_EarliestArrivals_M.c (t, change, from_, at_) hm
theorem i_EarliestArrivals_ok : FnOK Try.prog tJ 57 i_EarliestArrivals_M.S := by
 refine fm tt i_EarliestArrivals_M [fo i_isFrom_ok, fo i_earliestArrivals_ok] Try.call57 Try.func57 rfl Try.results57 Try.ntmps57 ?_
 rintro ⟨t, change, from_, at_⟩ y cx G hm
 have hm : i_EarliestArrivals t change from_ at_ = some y := hm
 unfold i_EarliestArrivals at hm
 refine rg G (Ok_seq ?_)
 obtain ⟨r, h, hm⟩ := obind hm
 refine rs G (hC 4 (i_isFrom_c h) h0) ?_
 refine cd hm (fun hm => ?_) (fun hm => ?_)
 ·refine rg G ?_
  cases hm
  exact rt [] [[.z 1]]
 ·refine X_skip (thN ?_)
  obtain ⟨r1, h1, hm⟩ := obind hm
  refine rs G (hC 4 (i_earliestArrivals_c h1) h0) ?_
  cases hm
  exact rt [] []
noncomputable def v_FnPareto_M : MS ((List UInt8)) Bool := ⟨.r, v_FnPareto, fun y => dV y, fun _ => [], fun _ _ => []⟩
theorem v_FnPareto_c {code y} (hm : v_FnPareto code = some y) : v_FnPareto_M.C code y := v_FnPareto_M.c code hm
theorem v_FnPareto_ok : FnOK Try.prog tJ 7 v_FnPareto_M.S := by
 refine fm tt v_FnPareto_M [fo v_vBig_ok, fo s_DrawParetoJourneys_ok, fo i_ParetoJourneys_ok, fo s_ParetoJourneys_ok, fo i_IsValidJourney_ok, fo i_EarliestArrivals_ok] Try.call7 Try.func7 rfl Try.results7 Try.ntmps7 ?_
 rintro code y cx G hm
 have hm : v_FnPareto code = some y := hm
 unfold v_FnPareto at hm
 refine rg G (Ok_seq ?_)
 obtain ⟨r, h, hm⟩ := obind hm
 refine rs G (hC 1 (v_vBig_c h) h0) ?_
 refine cd hm (fun hm => ?_) (fun hm => ?_)
 ·refine rg G ?_
  cases hm
  exact rt [] []
 ·refine X_skip (thN ?_)
  obtain ⟨r1, h1, hm⟩ := obind hm
  refine rs G (hC 1 (s_DrawParetoJourneys_c h1) h0) ?_
  obtain ⟨r2, h2, hm⟩ := obind hm
  refine rs G (hO 5 (.fz [80, 81] [] []) (hC 5 (i_ParetoJourneys_c h2) h0)) ?_
  refine Ok_seq ?_
  obtain ⟨r3, h3, hm⟩ := obind hm
  refine rs G (hC 5 (s_ParetoJourneys_c h3) h0) ?_
  refine jn hm (fun v => ⟨[(3, .ref 16 0), (4, dV r1.2.1), (5, dV r1.2.2.1), (6, dV r1.2.2.2.1), (7, dV r1.2.2.2.2), (8, dV r2.1), (9, dV r2.2), (54, dV v)], [bX 16 35 [dV r1.1.Network.Stops, dV r1.1.Network.Lines, dV r1.1.Trips]], 48⟩) (fun v hm => ?_) ?_
  ·rcases bf hm with ⟨hb, hm⟩ | ⟨hb, hm⟩
   ·refine re G (hO 3 (.b true) (hP hb h0)) ?_
    exact wJ G hm
   ·refine re G (hO 3 (.b false) (hP hb (hN 5 r2.1 (hN 7 r3.1 h0)))) ?_
    exact wJ G hm
  rintro v hm
  refine cd hm (fun hm => ?_) (fun hm => ?_)
  ·refine rg G ?_
   cases hm
   exact rt [] []
  ·refine X_skip (thN (Ok_seq (rg G (cd hm (fun hm => ?_) (fun hm => ?_)))))
   ·refine rs G (hN 1 r2.1 h0) ?_
    cases hm
    exact rt [] []
   ·refine X_skip (thN (Ok_seq (rg G (tF hm (fun _ => ⟨[(3, .ref 16 0), (4, dV r1.2.1), (5, dV r1.2.2.1), (6, dV r1.2.2.2.1), (7, dV r1.2.2.2.2), (8, dV r2.1)], [bX 16 35 [dV r1.1.Network.Stops, dV r1.1.Network.Lines, dV r1.1.Trips]], 48⟩) (fun v4 hr hm => ?_) ?_))))
    ·refine Ok_block (lp G hm (fun l => ⟨[(3, .ref 16 0), (4, dV r1.2.1), (5, dV r1.2.2.1), (6, dV r1.2.2.2.1), (7, dV r1.2.2.2.2), (8, dV r2.1), (12, dV l)], [bX 16 35 [dV r1.1.Network.Stops, dV r1.1.Network.Lines, dV r1.1.Trips]], 48⟩) ?_)
     rintro l r0 hb1 hm
     rw [v_FnPareto_L1] at hm
     refine Ok_seq (rs G (hN 2 r2.1 h0) ?_)
     refine cd hm (fun hm => ?_) (fun hm => ?_)
     ·refine X_skip (thN (Ok_seq (Ok_block ?_)))
      obtain ⟨e, h4, hm⟩ := obind hm
      refine rs G (hD 2 h4 h0) ?_
      refine Ok_seq ?_
      obtain ⟨r4, h5, hm⟩ := obind hm
      refine jn hm (fun v1 => ⟨[(3, .ref 16 0), (4, dV r1.2.1), (5, dV r1.2.2.1), (6, dV r1.2.2.2.1), (7, dV r1.2.2.2.2), (8, dV r2.1), (12, dV l), (13, dV e), (79, dV v1)], [bX 16 35 [dV r1.1.Network.Stops, dV r1.1.Network.Lines, dV r1.1.Trips]], 48⟩) (fun v1 hm => ?_) ?_
      ·rcases bf hm with ⟨hb2, hm⟩ | ⟨hb2, hm⟩
       ·refine re G (hC 3 (i_IsValidJourney_c h5) (hO 5 (.b true) (hP hb2 h0))) ?_
        exact wJ G hm
       ·refine re G (hC 3 (i_IsValidJourney_c h5) (hO 5 (.b false) (hP hb2 (hN 7 e h0)))) ?_
        exact wJ G hm
      rintro v1 hm
      refine cd hm (fun hm => ?_) (fun hm => ?_)
      ·refine rg G ?_
       have hm := eL hm hb1 hr
       cases hm
       exact rt [] []
      ·refine X_skip (thN (jn hm (fun v2 => ⟨[(3, .ref 16 0), (4, dV r1.2.1), (5, dV r1.2.2.1), (6, dV r1.2.2.2.1), (7, dV r1.2.2.2.2), (8, dV r2.1), (12, dV l), (117, dV v2)], [bX 16 35 [dV r1.1.Network.Stops, dV r1.1.Network.Lines, dV r1.1.Trips]], 48⟩) (fun v2 hm => ?_) ?_))
       ·rcases bf hm with ⟨hb3, hm⟩ | ⟨hb3, hm⟩
        ·obtain ⟨e7, h11, hm⟩ := obind hm
         rcases bf hm with ⟨hb4, hm⟩ | ⟨hb4, hm⟩
         ·refine de G [] (hO 2 (.b true) (hP hb3 (hN 4 e (hD 8 h11 (hN 10 e7 (hO 12 (.b true) (hP hb4 h0))))))) ?_
          exact wJ G hm
         ·obtain ⟨e8, h12, hm⟩ := obind hm
          obtain ⟨e9, h13, hm⟩ := obind hm
          obtain ⟨e10, h14, hm⟩ := obind hm
          obtain ⟨e11, h15, hm⟩ := obind hm
          refine de G [] (hO 2 (.b true) (hP hb3 (hN 4 e (hD 8 h11 (hN 10 e7 (hO 12 (.b false) (hP hb4 (hN 15 e (hD 17 h12 (hD 23 h13 (hD 28 h14 (hN 30 e10 (hD 32 h15 h0))))))))))))) ?_
          exact wJ G hm
        ·refine de G [] (hO 2 (.b false) (hP hb3 h0)) ?_
         exact wJ G hm
       rintro v2 hm
       refine cd hm (fun hm => ?_) (fun hm => ?_)
       ·refine rg G ?_
        have hm := eL hm hb1 hr
        cases hm
        exact rt [] []
       ·exact X_skip (ibN (thN (rh G (wL G hm))))
     ·exact Ok_exit (thE (thE (ibE (wE G hm hb1))))
    rintro ⟨⟩ hm s hw
    refine thN (Ok_weak hw ?_)
    obtain ⟨r7, h16, hm⟩ := obind hm
    refine rs G (hC 4 (i_EarliestArrivals_c h16) h0) ?_
    refine Ok_seq (jn hm (fun v3 => ⟨[(6, dV r1.2.2.2.1), (8, dV r2.1), (14, dV r7.1), (133, dV v3)], [], 32⟩) (fun v3 hm => ?_) ?_)
    ·rcases bf hm with ⟨hb5, hm⟩ | ⟨hb5, hm⟩
     ·refine re G (hO 2 (.b true) (hP hb5 h0)) ?_
      exact wJ G hm
     ·refine re G (hO 2 (.b false) (hP hb5 (hN 4 r7.1 h0))) ?_
      exact wJ G hm
    rintro v3 hm
    refine cd hm (fun hm => ?_) (fun hm => ?_)
    ·refine rg G ?_
     cases hm
     exact rt [] []
    ·refine X_skip (thN (Ok_seq (rs G (hN 1 r2.1 h0) ?_)))
     refine cd hm (fun hm => ?_) (fun hm => ?_)
     ·obtain ⟨e13, h17, hm⟩ := obind hm
      refine rs G (hD 2 h17 h0) ?_
      cases hm
      exact rt [] []
     ·refine X_skip (thN ?_)
      obtain ⟨e14, h18, hm⟩ := obind hm
      refine rs G (hN 2 r2.1 (hD 4 h18 h0)) ?_
      obtain ⟨e17, h21, hm⟩ := obind hm
      obtain ⟨e18, h22, hm⟩ := obind hm
      refine ds G [] (hN 2 e14 (hD 4 h21 (hD 9 h22 h0))) ?_
      cases hm
      exact rt [] []
end Go.Proofs.Ytdocbkbpjdjlpaa
