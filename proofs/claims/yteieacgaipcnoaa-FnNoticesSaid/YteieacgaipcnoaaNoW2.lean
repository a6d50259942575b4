/- Each function computes what its model says. Made by program (dec.py). -/
import Derived.Test.YteieacgaipcnoaaNoW1
namespace Go.Proofs.Yteieacgaipcnoaa
open Go Go.Ab
set_option maxRecDepth 100000
set_option maxHeartbeats 4000000
set_option linter.unusedVariables false
set_option linter.unusedSimpArgs false
noncomputable def s_DelayMessages_M : MS (Timetable × (List TripDelay) × Int) ((List Message) × Bool) := ⟨.x .r (.x .r .r), fun x => s_DelayMessages x.1 x.2.1 x.2.2, fun y => .tup [.own 0, dV y.2], fun y => [arO 76 y.1], fun _ _ => []⟩
theorem s_DelayMessages_c {t delays limit y} (hm : s_DelayMessages t delays limit = some y) : s_DelayMessages_M.C (t, delays, limit) y := s_DelayMessages_M.c (t, delays, limit) hm
theorem s_DelayMessages_ok : FnOK Try.prog tJ 19 s_DelayMessages_M.S := by
 refine fm tt s_DelayMessages_M [fo s_l23Good_ok, fo s_l1In_ok, fo s_l23Delay_ok, fo s_l1Most_ok] Try.call19 Try.func19 rfl Try.results19 Try.ntmps19 ?_
 rintro ⟨t, delays, limit⟩ y cx G hm
 have hm : s_DelayMessages t delays limit = some y := hm
 unfold s_DelayMessages at hm
 refine rg G (rg G (Ok_seq ?_))
 obtain ⟨r, h, hm⟩ := obind hm
 refine jn hm (fun v => ⟨[(1, dV delays), (2, dV limit), (3, .ref 16 0), (8, .own 32), (21, dV v)], [bX 16 45 [dV t.Network.Stops, dV t.Network.Lines, dV t.Trips], aX 32 76 ([] : List Message)], 64⟩) (fun v hm => ?_) ?_
 ·rcases bf hm with ⟨hb, hm⟩ | ⟨hb, hm⟩
  ·refine re G (hC 2 (s_l23Good_c h) (hO 4 (.b true) (hP hb h0))) ?_
   exact wJ G hm
  ·obtain ⟨r1, h1, hm⟩ := obind hm
   refine re G (hC 2 (s_l23Good_c h) (hO 4 (.b false) (hP hb (hC 6 (s_l1In_c h1) h0)))) ?_
   exact wJ G hm
 rintro v hm
 refine cd hm (fun hm => ?_) (fun hm => ?_)
 ·refine rg G ?_
  cases hm
  exact rt [32] []
 ·refine X_skip (thN (Ok_seq (rg G (tl hm (fun i2 => ⟨[(8, .own 16)], [aX 16 76 i2], 48⟩) (fun i2 hm => ?_) ?_))))
  ·refine Ok_block (lp G hm (fun (v1, i) => ⟨[(1, dV delays), (2, dV limit), (3, .ref 16 0), (8, .own 32), (9, dV v1)], [bX 16 45 [dV t.Network.Stops, dV t.Network.Lines, dV t.Trips], aX 32 76 i], 64⟩) ?_)
   rintro ⟨v1, i⟩ r0 hb1 hm
   rw [s_DelayMessages_L2] at hm
   refine Ok_seq (rs G (hN 4 t.Network.Lines h0) ?_)
   refine cd hm (fun hm => ?_) (fun hm => ?_)
   ·refine X_skip (thN (jn hm (fun i1 => ⟨[(1, dV delays), (2, dV limit), (3, .ref 16 0), (8, .own 32), (9, dV v1)], [bX 16 45 [dV t.Network.Stops, dV t.Network.Lines, dV t.Trips], aX 32 76 i1], 64⟩) (fun i1 hm => ?_) ?_))
    ·refine Ok_block (rg G (Ok_seq (rg G (tl hm (fun v5 => ⟨[(1, dV delays), (2, dV limit), (3, .ref 16 0), (8, .own 32), (9, dV v1), (10, dV v5)], [bX 16 45 [dV t.Network.Stops, dV t.Network.Lines, dV t.Trips], aX 32 76 i], 64⟩) (fun v5 hm => ?_) ?_))))
     ·refine Ok_block (lp G hm (fun (v2, v3) => ⟨[(1, dV delays), (2, dV limit), (3, .ref 16 0), (8, .own 32), (9, dV v1), (10, dV v2), (11, dV v3)], [bX 16 45 [dV t.Network.Stops, dV t.Network.Lines, dV t.Trips], aX 32 76 i], 64⟩) ?_)
      rintro ⟨v2, v3⟩ r0 hb2 hm
      rw [s_DelayMessages_L1] at hm
      refine Ok_seq (rs G (hN 3 t.Trips h0) ?_)
      refine cd hm (fun hm => ?_) (fun hm => ?_)
      ·refine X_skip (thN (jn hm (fun v4 => ⟨[(1, dV delays), (2, dV limit), (3, .ref 16 0), (8, .own 32), (9, dV v1), (10, dV v4), (11, dV v3)], [bX 16 45 [dV t.Network.Stops, dV t.Network.Lines, dV t.Trips], aX 32 76 i], 64⟩) (fun v4 hm => ?_) ?_))
       ·refine Ok_block ?_
        obtain ⟨e, h2, hm⟩ := obind hm
        refine rs G (hD 3 h2 h0) ?_
        refine cd hm (fun hm => ?_) (fun hm => ?_)
        ·obtain ⟨e1, h3, hm⟩ := obind hm
         obtain ⟨r2, h4, hm⟩ := obind hm
         obtain ⟨r3, h5, hm⟩ := obind hm
         refine re G (hD 5 h3 (hC 8 (s_l23Delay_c h4) (hC 9 (s_l1Most_c h5) h0))) ?_
         exact ibN (wJ G hm)
        ·exact X_skip (ibN (wJ G hm))
       rintro v4 hm
       exact rh G (wL G hm)
      ·exact Ok_exit (thE (thE (ibE (wD G hm hb2))))
     rintro v5 hm s hw
     refine thN (Ok_weak hw ?_)
     refine rg G (cd hm (fun hm => ?_) (fun hm => ?_))
     ·obtain ⟨e2, h6, hm⟩ := obind hm
      obtain ⟨u, h7, hm⟩ := obind hm
      refine re G (hD 5 h6 (hA 11 64 h7 h0)) ?_
      exact ibN (wJ G hm)
     ·exact X_skip (ibN (wJ G hm))
    rintro i1 hm
    exact rh G (wL G hm)
   ·exact Ok_exit (thE (thE (ibE (wD G hm hb1))))
  rintro i2 hm s1 hw1
  refine thN (Ok_weak hw1 ?_)
  refine rg G ?_
  cases hm
  exact rt [16] []
noncomputable def v_FnNotices_M : MS ((List UInt8)) Bool := ⟨.r, v_FnNotices, fun y => dV y, fun _ => [], fun _ _ => []⟩
theorem v_FnNotices_c {code y} (hm : v_FnNotices code = some y) : v_FnNotices_M.C code y := v_FnNotices_M.c code hm
theorem v_FnNotices_ok : FnOK Try.prog tJ 3 v_FnNotices_M.S := by
 refine fm tt v_FnNotices_M [fo v_rBig_ok, fo s_DrawMergeNotices_ok, fo i_MergeNotices_ok, fo s_MergeNotices_ok, fo v_rMessages_ok, fo s_DrawActiveMessages_ok, fo i_ActiveMessages_ok, fo s_ActiveMessages_ok, fo v_rInts_ok, fo s_DrawMessagesFor_ok, fo i_MessagesFor_ok, fo s_MessagesFor_ok, fo s_DrawDelayMessages_ok, fo i_DelayMessages_ok, fo s_DelayMessages_ok] Try.call3 Try.func3 rfl Try.results3 Try.ntmps3 ?_
 rintro code y cx G hm
 have hm : v_FnNotices code = some y := hm
 unfold v_FnNotices at hm
 refine rg G (Ok_seq ?_)
 obtain ⟨r, h, hm⟩ := obind hm
 refine rs G (hC 1 (v_rBig_c h) h0) ?_
 refine cd hm (fun hm => ?_) (fun hm => ?_)
 ·refine rg G ?_
  cases hm
  exact rt [] []
 ·refine X_skip (thN ?_)
  obtain ⟨r1, h1, hm⟩ := obind hm
  refine rs G (hC 1 (s_DrawMergeNotices_c h1) h0) ?_
  obtain ⟨r2, h2, hm⟩ := obind hm
  refine rs G (hO 2 (.fz [80, 81] [] []) (hC 2 (i_MergeNotices_c h2) h0)) ?_
  refine Ok_seq ?_
  obtain ⟨r3, h3, hm⟩ := obind hm
  refine rs G (hC 2 (s_MergeNotices_c h3) h0) ?_
  refine jn hm (fun v => ⟨[(0, dV code), (3, dV r1.1), (4, dV r1.2), (5, dV r2.1), (6, dV r2.2), (58, dV v)], [], 32⟩) (fun v hm => ?_) ?_
  ·rcases bf hm with ⟨hb, hm⟩ | ⟨hb, hm⟩
   ·refine re G (hO 3 (.b true) (hP hb h0)) ?_
    exact wJ G hm
   ·obtain ⟨r4, h4, hm⟩ := obind hm
    refine re G (hO 3 (.b false) (hP hb (hC 6 (v_rMessages_c h4) h0))) ?_
    exact wJ G hm
  rintro v hm
  refine cd hm (fun hm => ?_) (fun hm => ?_)
  ·refine rg G ?_
   cases hm
   exact rt [] []
  ·refine X_skip (thN (jF hm (fun _ => ⟨[(0, dV code)], [], 32⟩) (fun v4 hr hm => ?_) ?_))
   ·refine rg G (cd hm (fun hm => ?_) (fun hm => ?_))
    ·obtain ⟨r5, h5, hm⟩ := obind hm
     refine rs G (hC 1 (i_MergeNotices_c h5) h0) ?_
     refine jn hm (fun v1 => ⟨[(0, dV code), (82, dV v1)], [], 32⟩) (fun v1 hm => ?_) ?_
     ·rcases bf hm with ⟨hb1, hm⟩ | ⟨hb1, hm⟩
      ·refine re G (hO 2 (.b true) (hP hb1 h0)) ?_
       exact wJ G hm
      ·obtain ⟨r6, h6, hm⟩ := obind hm
       rcases bf hm with ⟨hb2, hm⟩ | ⟨hb2, hm⟩
       ·refine re G (hO 2 (.b false) (hP hb1 (hC 5 (v_rMessages_c h6) (hO 8 (.b true) (hP hb2 h0))))) ?_
        exact wJ G hm
       ·refine re G (hO 2 (.b false) (hP hb1 (hC 5 (v_rMessages_c h6) (hO 8 (.b false) (hP hb2 (hN 10 r2.1 (hN 12 r1.1 (hN 14 r1.2 h0)))))))) ?_
        exact wJ G hm
     rintro v1 hm
     refine cd hm (fun hm => ?_) (fun hm => ?_)
     ·refine rg G ?_
      have hm := eR hm hr
      cases hm
      exact rt [] []
     ·exact X_skip (wF G hm)
    ·exact X_skip (wF G hm)
   rintro ⟨⟩ hm
   obtain ⟨r8, h7, hm⟩ := obind hm
   refine rs G (hC 1 (s_DrawActiveMessages_c h7) h0) ?_
   obtain ⟨r9, h8, hm⟩ := obind hm
   refine rs G (hO 2 (.fz [48] [] []) (hC 2 (i_ActiveMessages_c h8) h0)) ?_
   refine Ok_seq ?_
   obtain ⟨r10, h9, hm⟩ := obind hm
   refine rs G (hC 2 (s_ActiveMessages_c h9) h0) ?_
   refine jn hm (fun v2 => ⟨[(0, dV code), (108, dV v2)], [], 32⟩) (fun v2 hm => ?_) ?_
   ·rcases bf hm with ⟨hb3, hm⟩ | ⟨hb3, hm⟩
    ·refine re G (hO 3 (.b true) (hP hb3 h0)) ?_
     exact wJ G hm
    ·obtain ⟨r11, h10, hm⟩ := obind hm
     refine re G (hO 3 (.b false) (hP hb3 (hC 6 (v_rInts_c h10) h0))) ?_
     exact wJ G hm
   rintro v2 hm
   refine cd hm (fun hm => ?_) (fun hm => ?_)
   ·refine rg G ?_
    cases hm
    exact rt [] []
   ·refine X_skip (thN ?_)
    obtain ⟨r12, h11, hm⟩ := obind hm
    refine rs G (hC 1 (s_DrawMessagesFor_c h11) h0) ?_
    obtain ⟨r13, h12, hm⟩ := obind hm
    refine rs G (hO 3 (.fz [48] [] []) (hC 3 (i_MessagesFor_c h12) h0)) ?_
    refine Ok_seq ?_
    obtain ⟨r14, h13, hm⟩ := obind hm
    refine rs G (hC 3 (s_MessagesFor_c h13) h0) ?_
    refine jn hm (fun v3 => ⟨[(0, dV code), (137, dV v3)], [], 32⟩) (fun v3 hm => ?_) ?_
    ·rcases bf hm with ⟨hb4, hm⟩ | ⟨hb4, hm⟩
     ·refine re G (hO 3 (.b true) (hP hb4 h0)) ?_
      exact wJ G hm
     ·obtain ⟨r15, h14, hm⟩ := obind hm
      refine re G (hO 3 (.b false) (hP hb4 (hC 6 (v_rInts_c h14) h0))) ?_
      exact wJ G hm
    rintro v3 hm
    refine cd hm (fun hm => ?_) (fun hm => ?_)
    ·refine rg G ?_
     cases hm
     exact rt [] []
    ·refine X_skip (thN ?_)
     obtain ⟨r16, h15, hm⟩ := obind hm
     refine rs G (hC 1 (s_DrawDelayMessages_c h15) h0) ?_
     obtain ⟨r17, h16, hm⟩ := obind hm
     refine rs G (hO 3 (.fz [48] [] []) (hC 3 (i_DelayMessages_c h16) h0)) ?_
     obtain ⟨r18, h17, hm⟩ := obind hm
     refine rs G (hC 3 (s_DelayMessages_c h17) h0) ?_
     refine jn hm (fun a => ⟨[(2, dV a)], [], 32⟩) (fun a hm => ?_) ?_
     ·rcases bf hm with ⟨hb5, hm⟩ | ⟨hb5, hm⟩
      ·obtain ⟨r19, h18, hm⟩ := obind hm
       rcases bf hm with ⟨hb6, hm⟩ | ⟨hb6, hm⟩
       ·refine re G (hO 3 (.b true) (hP hb5 (hC 6 (v_rMessages_c h18) (hO 8 (.b true) (hP hb6 (hN 10 r17.1 (hN 14 r16.1.Network.Lines h0))))))) ?_
        exact wJ G hm
       ·refine re G (hO 3 (.b true) (hP hb5 (hC 6 (v_rMessages_c h18) (hO 8 (.b false) (hP hb6 h0))))) ?_
        exact wJ G hm
      ·refine re G (hO 3 (.b false) (hP hb5 h0)) ?_
       exact wJ G hm
     rintro a hm
     cases hm
     exact rt [] []
end Go.Proofs.Yteieacgaipcnoaa
