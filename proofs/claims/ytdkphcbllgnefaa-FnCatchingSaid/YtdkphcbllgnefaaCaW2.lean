/- Each function computes what its model says. Made by program (dec.py). -/
import Derived.Test.YtdkphcbllgnefaaCaW1
namespace Go.Proofs.Ytdkphcbllgnefaa
open Go Go.Ab
set_option maxRecDepth 100000
set_option maxHeartbeats 4000000
set_option linter.unusedVariables false
set_option linter.unusedSimpArgs false
noncomputable def s_WalkGroups_M : MS (Network × (List Walk) × Int) ((List (List Int)) × Bool) := ⟨.x .r (.x .r .r), fun x => s_WalkGroups x.1 x.2.1 x.2.2, fun y => .tup [.own 0, dV y.2], fun y => [arO 37 y.1], fun _ _ => []⟩
theorem s_WalkGroups_c {n list limit y} (hm : s_WalkGroups n list limit = some y) : s_WalkGroups_M.C (n, list, limit) y := s_WalkGroups_M.c (n, list, limit) hm
theorem s_WalkGroups_ok : FnOK Try.prog 13 s_WalkGroups_M.S := by
 refine fm tt s_WalkGroups_M [fo s_l7Good_ok, fo s_l1In_ok, fo s_l1Has_ok, fo s_l7Times_ok] Try.call13 Try.func13 rfl Try.results13 Try.ntmps13 ?_
 rintro ⟨n, list, limit⟩ y cx G hm
 have hm : s_WalkGroups n list limit = some y := hm
 unfold s_WalkGroups at hm
 refine rg G (rg G (Ok_seq ?_))
 obtain ⟨r, h, hm⟩ := obind hm
 refine jn hm (fun v => ⟨[(1, dV list), (2, dV limit), (3, .ref 16 0), (8, .own 32), (25, dV v)], [bX 16 [dV n.Stops, dV n.Lines], aX 32 37 ([] : List (List Int))], 64⟩) (fun v hm => ?_) ?_
 ·rcases bf hm with ⟨hb, hm⟩ | ⟨hb, hm⟩
  ·refine re G (hC 2 (s_l7Good_c h) (hO 4 (.b true) (hP hb h0))) ?_
   exact wJ G hm
  ·obtain ⟨r1, h1, hm⟩ := obind hm
   refine re G (hC 2 (s_l7Good_c h) (hO 4 (.b false) (hP hb (hC 6 (s_l1In_c h1) h0)))) ?_
   exact wJ G hm
 rintro v hm
 refine cd hm (fun hm => ?_) (fun hm => ?_)
 ·refine rg G ?_
  cases hm
  exact rt [32] []
 ·refine X_skip (thN (rg G (Ok_seq (rg G (tl hm (fun s2 => ⟨[(3, .ref 16 0), (8, .own 32), (9, .own 48)], [bX 16 [dV n.Stops, dV n.Lines], aX 32 37 ([] : List (List Int)), aX 48 57 s2], 80⟩) (fun s2 hm => ?_) ?_)))))
  ·refine Ok_block (lp G hm (fun (group, s) => ⟨[(1, dV list), (2, dV limit), (3, .ref 16 0), (8, .own 32), (9, .own 48), (10, dV group)], [bX 16 [dV n.Stops, dV n.Lines], aX 32 37 ([] : List (List Int)), aX 48 57 s], 80⟩) ?_)
   rintro ⟨group, s⟩ r0 hb1 hm
   rw [s_WalkGroups_L1] at hm
   refine Ok_seq (rs G (hN 2 list h0) ?_)
   refine cd hm (fun hm => ?_) (fun hm => ?_)
   ·refine X_skip (thN (jn hm (fun s1 => ⟨[(1, dV list), (2, dV limit), (3, .ref 16 0), (8, .own 32), (9, .own 48), (10, dV group)], [bX 16 [dV n.Stops, dV n.Lines], aX 32 37 ([] : List (List Int)), aX 48 57 s1], 80⟩) (fun s1 hm => ?_) ?_))
    ·refine Ok_block ?_
     obtain ⟨e, h2, hm⟩ := obind hm
     refine rs G (hD 2 h2 h0) ?_
     refine cd hm (fun hm => ?_) (fun hm => ?_)
     ·obtain ⟨e1, h3, hm⟩ := obind hm
      obtain ⟨u, h4, hm⟩ := obind hm
      refine re G (hD 3 h3 (hA 6 24 h4 h0)) ?_
      exact ibN (wJ G hm)
     ·exact X_skip (ibN (wJ G hm))
    rintro s1 hm
    exact rh G (wL G hm)
   ·exact Ok_exit (thE (thE (ibE (wD G hm hb1))))
  rintro s2 hm s3 hw
  refine thN (Ok_weak hw ?_)
  refine rg G (Ok_seq (rg G (tl hm (fun seen2 => ⟨[(8, .own 16)], [aX 16 37 seen2], 48⟩) (fun seen2 hm => ?_) ?_)))
  ·refine Ok_block (lp G hm (fun (k, seen, times) => ⟨[(3, .ref 16 0), (8, .own 32), (9, .own 48), (11, .own 64), (12, dV k)], [bX 16 [dV n.Stops, dV n.Lines], aX 32 37 seen, aX 48 57 s2, aX 64 3 times], 96⟩) ?_)
   rintro ⟨k, seen, times⟩ r0 hb2 hm
   rw [s_WalkGroups_L3] at hm
   refine Ok_seq (rs G (hN 3 n.Stops h0) ?_)
   refine cd hm (fun hm => ?_) (fun hm => ?_)
   ·refine X_skip (thN (jn hm (fun (seen1, times1) => ⟨[(3, .ref 16 0), (8, .own 32), (9, .own 48), (11, .own 64), (12, dV k)], [bX 16 [dV n.Stops, dV n.Lines], aX 32 37 seen1, aX 48 57 s2, aX 64 3 times1], 96⟩) (fun vv2 hm => ?_) ?_))
    ·refine Ok_block (Ok_seq ?_)
     obtain ⟨r2, h5, hm⟩ := obind hm
     refine rs G (hC 2 (s_l1Has_c h5) h0) ?_
     refine cd hm (fun hm => ?_) (fun hm => ?_)
     ·exact Ok_exit (thE (ibE (wJ G hm)))
     ·refine X_skip (thN (rg G ?_))
      obtain ⟨r3, h6, hm⟩ := obind hm
      refine rs G (hN 2 n.Stops (hF 5 (s_l7Times_c h6) ⟨(flat_cons flat_arr flat_nil), flat_nil⟩ h0)) ?_
      refine Ok_seq (rg G (tl hm (fun (times4, v4) => ⟨[(3, .ref 16 0), (8, .own 32), (9, .own 48), (11, .own 64), (12, dV k), (13, .own 80)], [bX 16 [dV n.Stops, dV n.Lines], aX 32 37 seen, aX 48 57 s2, aX 64 3 times4, aX 80 3 v4], 112⟩) (fun vv1 hm => ?_) ?_))
      ·refine Ok_block (lp G hm (fun (v1, times2, v2) => ⟨[(3, .ref 16 0), (8, .own 32), (9, .own 48), (11, .own 64), (12, dV k), (13, .own 80), (14, .own 96), (15, dV v1)], [bX 16 [dV n.Stops, dV n.Lines], aX 32 37 seen, aX 48 57 s2, aX 64 3 times2, aX 80 3 v2, aX 96 3 r3], 128⟩) ?_)
       rintro ⟨v1, times2, v2⟩ r0 hb3 hm
       rw [s_WalkGroups_L2] at hm
       refine Ok_seq (rs G (hN 2 r3 h0) ?_)
       refine cd hm (fun hm => ?_) (fun hm => ?_)
       ·refine X_skip (thN (jn hm (fun (times3, v3) => ⟨[(3, .ref 16 0), (8, .own 32), (9, .own 48), (11, .own 64), (12, dV k), (13, .own 80), (14, .own 96), (15, dV v1)], [bX 16 [dV n.Stops, dV n.Lines], aX 32 37 seen, aX 48 57 s2, aX 64 3 times3, aX 80 3 v3, aX 96 3 r3], 128⟩) (fun vv hm => ?_) ?_))
        ·refine Ok_block ?_
         obtain ⟨e2, h7, hm⟩ := obind hm
         refine rs G (hD 2 h7 (hE 3 h7 h0)) ?_
         refine cd hm (fun hm => ?_) (fun hm => ?_)
         ·obtain ⟨u1, h8, hm⟩ := obind hm
          refine rs G (hA 3 8 h8 h0) ?_
          obtain ⟨u2, h9, hm⟩ := obind hm
          refine re G (hA 3 8 h9 h0) ?_
          exact ibN (wJ G hm)
         ·exact X_skip (ibN (wJ G hm))
        rintro ⟨times3, v3⟩ hm
        exact rh G (wL G hm)
       ·exact Ok_exit (thE (thE (ibE (wD G hm hb3))))
      rintro ⟨times4, v4⟩ hm s4 hw1
      refine thN (Ok_weak hw1 ?_)
      obtain ⟨u3, h10, hm⟩ := obind hm
      refine re G (hO 2 (.fz [80] [] []) (hA 3 24 h10 h0)) ?_
      exact ibN (wJ G hm)
    rintro ⟨seen1, times1⟩ hm
    exact rh G (wL G hm)
   ·exact Ok_exit (thE (thE (ibE (wD G hm hb2))))
  rintro seen2 hm s5 hw2
  refine thN (Ok_weak hw2 ?_)
  refine rg G ?_
  cases hm
  exact rt [16] []
noncomputable def v_rInts_M : MS ((List Int) × (List Int)) Bool := ⟨.x .r .r, fun x => v_rInts x.1 x.2, fun y => dV y, fun _ => [], fun _ _ => []⟩
theorem v_rInts_c {a b y} (hm : v_rInts a b = some y) : v_rInts_M.C (a, b) y := v_rInts_M.c (a, b) hm
theorem v_rInts_ok : FnOK Try.prog 21 v_rInts_M.S := by
 refine fm tt v_rInts_M [] Try.call21 Try.func21 rfl Try.results21 Try.ntmps21 ?_
 rintro ⟨a, b⟩ y cx G hm
 have hm : v_rInts a b = some y := hm
 unfold v_rInts at hm
 refine rg G (Ok_seq (rs G (hN 1 a (hN 3 b h0)) ?_))
 refine cd hm (fun hm => ?_) (fun hm => ?_)
 ·refine rg G ?_
  cases hm
  exact rt [] []
 ·refine X_skip (thN (Ok_seq (rg G (tF hm (fun _ => ⟨[], [], 32⟩) (fun v1 hr hm => ?_) ?_))))
  ·refine Ok_block (lp G hm (fun v => ⟨[(0, dV a), (1, dV b), (5, dV v)], [], 32⟩) ?_)
   rintro v r0 hb hm
   rw [v_rInts_L1] at hm
   refine Ok_seq (rs G (hN 2 a h0) ?_)
   refine cd hm (fun hm => ?_) (fun hm => ?_)
   ·refine X_skip (thN (Ok_seq (Ok_block ?_)))
    obtain ⟨e2, h2, hm⟩ := obind hm
    obtain ⟨e3, h3, hm⟩ := obind hm
    refine ds G [] (hD 2 h2 (hD 6 h3 h0)) ?_
    refine cd hm (fun hm => ?_) (fun hm => ?_)
    ·refine rg G ?_
     have hm := eL hm hb hr
     cases hm
     exact rt [] []
    ·exact X_skip (ibN (thN (rh G (wL G hm))))
   ·exact Ok_exit (thE (thE (ibE (wE G hm hb))))
  rintro ⟨⟩ hm s hw
  refine thN (Ok_weak hw ?_)
  refine rg G ?_
  cases hm
  exact rt [] []
noncomputable def v_rTable_M : MS ((List (List Int)) × (List (List Int))) Bool := ⟨.x .r .r, fun x => v_rTable x.1 x.2, fun y => dV y, fun _ => [], fun _ _ => []⟩
theorem v_rTable_c {a b y} (hm : v_rTable a b = some y) : v_rTable_M.C (a, b) y := v_rTable_M.c (a, b) hm
theorem v_rTable_ok : FnOK Try.prog 14 v_rTable_M.S := by
 refine fm tt v_rTable_M [fo v_rInts_ok] Try.call14 Try.func14 rfl Try.results14 Try.ntmps14 ?_
 rintro ⟨a, b⟩ y cx G hm
 have hm : v_rTable a b = some y := hm
 unfold v_rTable at hm
 refine rg G (Ok_seq (rs G (hN 1 a (hN 3 b h0)) ?_))
 refine cd hm (fun hm => ?_) (fun hm => ?_)
 ·refine rg G ?_
  cases hm
  exact rt [] []
 ·refine X_skip (thN (Ok_seq (rg G (tF hm (fun _ => ⟨[], [], 32⟩) (fun v1 hr hm => ?_) ?_))))
  ·refine Ok_block (lp G hm (fun v => ⟨[(0, dV a), (1, dV b), (5, dV v)], [], 32⟩) ?_)
   rintro v r0 hb hm
   rw [v_rTable_L1] at hm
   refine Ok_seq (rs G (hN 2 a h0) ?_)
   refine cd hm (fun hm => ?_) (fun hm => ?_)
   ·refine X_skip (thN (Ok_seq (Ok_block ?_)))
    obtain ⟨e2, h3, hm⟩ := obind hm
    obtain ⟨e3, h4, hm⟩ := obind hm
    obtain ⟨r1, h5, hm⟩ := obind hm
    refine ds G [] (hD 2 h3 (hD 6 h4 (hC 8 (v_rInts_c h5) h0))) ?_
    refine cd hm (fun hm => ?_) (fun hm => ?_)
    ·refine rg G ?_
     have hm := eL hm hb hr
     cases hm
     exact rt [] []
    ·exact X_skip (ibN (thN (rh G (wL G hm))))
   ·exact Ok_exit (thE (thE (ibE (wE G hm hb))))
  rintro ⟨⟩ hm s hw
  refine thN (Ok_weak hw ?_)
  refine rg G ?_
  cases hm
  exact rt [] []
noncomputable def s_l1Cur_idOf_M : MS (l1Cur × Timetable) (Int × l1Cur) := ⟨.x .b .r, fun x => s_l1Cur_idOf x.1 x.2, fun y => dV y.1, fun _ => [], fun _ y => [bxO y.2]⟩
theorem s_l1Cur_idOf_c {c t y} (hm : s_l1Cur_idOf c t = some y) : s_l1Cur_idOf_M.C (c, t) y := s_l1Cur_idOf_M.c (c, t) hm
theorem s_l1Cur_idOf_ok : FnOK Try.prog 64 s_l1Cur_idOf_M.S := by
 refine fm tt s_l1Cur_idOf_M [fo s_l1Cur_one_ok, fo s_l1Cur_pick_ok] Try.call64 Try.func64 rfl Try.results64 Try.ntmps64 ?_
 rintro ⟨c, t⟩ y cx G hm
 have hm : s_l1Cur_idOf c t = some y := hm
 unfold s_l1Cur_idOf at hm
 refine rg G (Ok_seq (jn hm (fun (v, v1, v2, v3) => ⟨[(0, .ref 0 0), (3, .ref 32 0), (12, dV v)], [bX 0 [dV v1, dV v2, kV .u64 v3], bX 32 [dV t.Network.Stops, dV t.Network.Lines, dV t.Trips]], 64⟩) (fun vv hm => ?_) ?_))
 ·rcases bf hm with ⟨hb, hm⟩ | ⟨hb, hm⟩
  ·refine re G (hN 2 t.Trips (hO 4 (.b true) (hP hb h0))) ?_
   exact wJ G hm
  ·obtain ⟨r, h, hm⟩ := obind hm
   refine re G (hN 2 t.Trips (hO 4 (.b false) (hP hb (hC 6 (s_l1Cur_one_c h) h0)))) ?_
   exact wJ G hm
 rintro ⟨v, v1, v2, v3⟩ hm
 refine cd hm (fun hm => ?_) (fun hm => ?_)
 ·obtain ⟨r1, h1, hm⟩ := obind hm
  refine rs G (hC 1 (s_l1Cur_pick_c h1) h0) ?_
  cases hm
  exact rt [] []
 ·refine X_skip (thN ?_)
  obtain ⟨r3, h4, hm⟩ := obind hm
  obtain ⟨e1, h5, hm⟩ := obind hm
  refine ds G [(6, [0])] (hN 5 t.Trips (hC 6 (s_l1Cur_pick_c h4) (hD 7 h5 h0))) ?_
  cases hm
  exact rt [] []
noncomputable def s_DrawChangeTime_M : MS ((List UInt8)) (Timetable × (List Walk) × Int × Int) := ⟨.r, s_DrawChangeTime, fun y => .tup [dV y.1, .own 0, dV y.2.2.1, dV y.2.2.2], fun y => [arO 57 y.2.1], fun _ _ => []⟩
theorem s_DrawChangeTime_c {code y} (hm : s_DrawChangeTime code = some y) : s_DrawChangeTime_M.C code y := s_DrawChangeTime_M.c code hm
theorem s_DrawChangeTime_ok : FnOK Try.prog 15 s_DrawChangeTime_M.S := by
 refine fm tt s_DrawChangeTime_M [fo s_l1Cur_anyTimetable_ok, fo s_l1Cur_walks_ok, fo s_l1Cur_idOf_ok] Try.call15 Try.func15 rfl Try.results15 Try.ntmps15 ?_
 rintro code y cx G hm
 have hm : s_DrawChangeTime code = some y := hm
 unfold s_DrawChangeTime at hm
 refine rg G (rg G ?_)
 obtain ⟨r, h, hm⟩ := obind hm
 refine rs G (hC 1 (s_l1Cur_anyTimetable_c h) h0) ?_
 obtain ⟨r1, h1, hm⟩ := obind hm
 refine rs G (hO 3 (.fz [160] [] []) (hC 3 (s_l1Cur_walks_c h1) h0)) ?_
 obtain ⟨r2, h2, hm⟩ := obind hm
 refine rs G (hO 2 (.fz [161] [] []) (hC 2 (s_l1Cur_idOf_c h2) h0)) ?_
 obtain ⟨r4, h4, hm⟩ := obind hm
 refine ds G [(5, [112]), (6, [16])] (hC 5 (s_l1Cur_idOf_c h4) h0) ?_
 cases hm
 exact rt [256] []
noncomputable def i_tripIndex_1_M : MS (Trip × Int) Bool := ⟨.x .r .b, fun x => i_tripIndex_1 x.1 x.2, fun y => dV y, fun _ => [], fun x _ => [bxO x.2]⟩
theorem i_tripIndex_1_c {x c1 y} (hm : i_tripIndex_1 x c1 = some y) : i_tripIndex_1_M.C (x, c1) y := i_tripIndex_1_M.c (x, c1) hm
theorem i_tripIndex_1_ok : FnOK Try.prog 105 i_tripIndex_1_M.S := by
 refine fm tt i_tripIndex_1_M [] Try.call105 Try.func105 rfl Try.results105 Try.ntmps105 ?_
 rintro ⟨x, c1⟩ y cx G hm
 have hm : i_tripIndex_1 x c1 = some y := hm
 unfold i_tripIndex_1 at hm
 refine rg G (rg G ?_)
 cases hm
 exact rt [] []
noncomputable def slices_IndexFunc_Trip__i_tripIndex_1_M : MS ((List Trip) × Int) Int := ⟨⟨[.rd, .fn 105 [.bx]], fun x => [Enc.e x.1, .agg [.sc undef]], fun x => [bxO x.2], 1, 1, fun _ => rfl, fun _ => rfl, rfl, (by
  rintro ⟨a0, a1⟩ ⟨b0, b1⟩ h hO
  have q0 : a0 = b0 := qI 0 h
  have q1 : a1 = b1 := Enc.inj _ _ (congrArg (fun l => (obD l 0).getD 0 (.sc undef)) hO)
  subst q0; subst q1; rfl)⟩, fun x => slices_IndexFunc_Trip__i_tripIndex_1 x.1 x.2, fun y => dV y, fun _ => [], fun x _ => [bxO x.2]⟩
theorem slices_IndexFunc_Trip__i_tripIndex_1_c {s c1 y} (hm : slices_IndexFunc_Trip__i_tripIndex_1 s c1 = some y) : slices_IndexFunc_Trip__i_tripIndex_1_M.C (s, c1) y := slices_IndexFunc_Trip__i_tripIndex_1_M.c (s, c1) hm
theorem slices_IndexFunc_Trip__i_tripIndex_1_ok : FnOK Try.prog 104 slices_IndexFunc_Trip__i_tripIndex_1_M.S := by
 refine fm tt slices_IndexFunc_Trip__i_tripIndex_1_M [fo i_tripIndex_1_ok] Try.call104 Try.func104 rfl Try.results104 Try.ntmps104 ?_
 rintro ⟨s, c1⟩ y cx G hm
 have hm : slices_IndexFunc_Trip__i_tripIndex_1 s c1 = some y := hm
 obtain ⟨f, hf_f⟩ : ∃ q, (fun (z0 : Trip) => i_tripIndex_1 z0 c1) = q := ⟨_, rfl⟩
 have hm : slices_IndexFunc_Trip s f = some y := by rw [← hf_f]; exact hm
 unfold slices_IndexFunc_Trip at hm
 refine rg G (Ok_seq (rs G (hN 1 s h0) ?_))
 refine tF hm (fun _ => ⟨[(1, .fn 105 [.ref 0 0])], [bX 0 [dV c1]], 48⟩) (fun v1 hr hm => ?_) ?_
 ·refine Ok_block (lp G hm (fun v => ⟨[(0, dV s), (1, .fn 105 [.ref 0 0]), (7, dV (s.length : Int)), (8, dV v)], [bX 0 [dV c1]], 48⟩) ?_)
  rintro v r0 hb hm
  rw [slices_IndexFunc_Trip_L1] at hm
  refine rg G (Ok_seq (cd hm (fun hm => ?_) (fun hm => ?_)))
  ·refine X_skip (thN (Ok_seq (Ok_block (rg G ?_))))
   obtain ⟨e, h, hm⟩ := obind hm
   obtain ⟨r, h1, hm⟩ := obind hm
   have h1 : i_tripIndex_1 e c1 = some r := by rw [← hf_f] at h1; exact h1
   refine rs G (hD 3 h (hC 5 (i_tripIndex_1_c h1) h0)) ?_
   refine cd hm (fun hm => ?_) (fun hm => ?_)
   ·refine rg G ?_
    have hm := eL hm hb hr
    cases hm
    exact rt [] []
   ·exact X_skip (ibN (thN (rh G (wL G hm))))
  ·exact Ok_exit (thE (thE (ibE (wE G hm hb))))
 rintro ⟨⟩ hm s1 hw
 refine thN (Ok_weak hw ?_)
 refine rg G ?_
 cases hm
 exact rt [] []
noncomputable def i_tripIndex_M : MS (Timetable × Int) Int := ⟨.x .r .r, fun x => i_tripIndex x.1 x.2, fun y => dV y, fun _ => [], fun _ _ => []⟩
theorem i_tripIndex_c {t id y} (hm : i_tripIndex t id = some y) : i_tripIndex_M.C (t, id) y := i_tripIndex_M.c (t, id) hm
theorem i_tripIndex_ok : FnOK Try.prog 65 i_tripIndex_M.S := by
 refine fm tt i_tripIndex_M [fo slices_IndexFunc_Trip__i_tripIndex_1_ok] Try.call65 Try.func65 rfl Try.results65 Try.ntmps65 ?_
 rintro ⟨t, id⟩ y cx G hm
 have hm : i_tripIndex t id = some y := hm
 unfold i_tripIndex at hm
 refine rg G ?_
 obtain ⟨r, h, hm⟩ := obind hm
 refine rs G (hC 3 (slices_IndexFunc_Trip__i_tripIndex_1_c h) h0) ?_
 cases hm
 exact rt [] []
noncomputable def i_ChangeTime_M : MS (Timetable × (List Walk) × Int × Int) (Int × Int × Bool) := ⟨.x .r (.x .r (.x .r .r)), fun x => i_ChangeTime x.1 x.2.1 x.2.2.1 x.2.2.2, fun y => .tup [dV y.1, dV y.2.1, dV y.2.2], fun _ => [], fun _ _ => []⟩
theorem i_ChangeTime_c {t list from_ to y} (hm : i_ChangeTime t list from_ to = some y) : i_ChangeTime_M.C (t, list, from_, to) y := i_ChangeTime_M.c (t, list, from_, to) hm
theorem i_ChangeTime_ok : FnOK Try.prog 16 i_ChangeTime_M.S := by
 refine fm tt i_ChangeTime_M [fo i_IsValidTimetable_ok, fo i_areWalks_ok, fo i_tripIndex_ok, fo i_walkTable_ok, fo i_stopTimes_ok, fo i_lineOf_ok] Try.call16 Try.func16 rfl Try.results16 Try.ntmps16 ?_
 rintro ⟨t, list, from_, to⟩ y cx G hm
 have hm : i_ChangeTime t list from_ to = some y := hm
 unfold i_ChangeTime at hm
 refine rg G (Ok_seq ?_)
 obtain ⟨r, h, hm⟩ := obind hm
 refine jn hm (fun v => ⟨[(1, dV list), (2, dV from_), (3, dV to), (4, .ref 16 0), (39, dV v)], [bX 16 [dV t.Network.Stops, dV t.Network.Lines, dV t.Trips]], 48⟩) (fun v hm => ?_) ?_
 ·rcases bf hm with ⟨hb, hm⟩ | ⟨hb, hm⟩
  ·refine re G (hC 1 (i_IsValidTimetable_c h) (hO 3 (.b true) (hP hb h0))) ?_
   exact wJ G hm
  ·obtain ⟨r1, h1, hm⟩ := obind hm
   rcases bf hm with ⟨hb1, hm⟩ | ⟨hb1, hm⟩
   ·refine re G (hC 1 (i_IsValidTimetable_c h) (hO 3 (.b false) (hP hb (hC 7 (i_areWalks_c h1) (hO 10 (.b true) (hP hb1 h0)))))) ?_
    exact wJ G hm
   ·refine re G (hC 1 (i_IsValidTimetable_c h) (hO 3 (.b false) (hP hb (hC 7 (i_areWalks_c h1) (hO 10 (.b false) (hP hb1 h0)))))) ?_
    exact wJ G hm
 rintro v hm
 refine cd hm (fun hm => ?_) (fun hm => ?_)
 ·refine rg G ?_
  cases hm
  exact rt [] []
 ·refine X_skip (thN ?_)
  obtain ⟨r4, h4, hm⟩ := obind hm
  obtain ⟨r5, h5, hm⟩ := obind hm
  refine ds G [] (hC 2 (i_tripIndex_c h4) (hC 5 (i_tripIndex_c h5) h0)) ?_
  refine Ok_seq (jn hm (fun v1 => ⟨[(1, dV list), (4, .ref 16 0), (11, dV r4), (12, dV r5), (51, dV v1)], [bX 16 [dV t.Network.Stops, dV t.Network.Lines, dV t.Trips]], 48⟩) (fun v1 hm => ?_) ?_)
  ·rcases bf hm with ⟨hb2, hm⟩ | ⟨hb2, hm⟩
   ·refine re G (hO 2 (.b true) (hP hb2 h0)) ?_
    exact wJ G hm
   ·refine re G (hO 2 (.b false) (hP hb2 h0)) ?_
    exact wJ G hm
  rintro v1 hm
  refine cd hm (fun hm => ?_) (fun hm => ?_)
  ·refine rg G ?_
   cases hm
   exact rt [] []
  ·refine X_skip (thN ?_)
   obtain ⟨e2, h8, hm⟩ := obind hm
   obtain ⟨e3, h9, hm⟩ := obind hm
   refine ds G [(12, [208]), (13, [224])] (hD 3 h8 (hD 8 h9 h0)) ?_
   obtain ⟨r6, h10, hm⟩ := obind hm
   refine rs G (hC 3 (i_walkTable_c h10) h0) ?_
   obtain ⟨r9, h13, hm⟩ := obind hm
   obtain ⟨r10, h14, hm⟩ := obind hm
   refine ds G [] (hC 2 (i_stopTimes_c h13) (hC 5 (i_stopTimes_c h14) h0)) ?_
   refine rg G (Ok_seq ?_)
   obtain ⟨r11, h15, hm⟩ := obind hm
   refine rs G (hC 2 (i_lineOf_c h15) (hN 4 r11.Stops h0)) ?_
   refine tl hm (fun (q5, r18) => ⟨[(18, dV q5), (19, dV r18)], [], 32⟩) (fun vv3 hm => ?_) ?_
   ·refine Ok_block (lp G hm (fun (q, r12, v2) => ⟨[(4, .ref 16 0), (14, .ref 32 0), (15, .own 48), (16, .own 64), (17, .own 80), (18, dV q), (19, dV r12), (75, dV r11.Stops), (76, dV (r11.Stops.length : Int)), (77, dV v2)], [bX 16 [dV t.Network.Stops, dV t.Network.Lines, dV t.Trips], bX 32 [dV e3.Id, dV e3.Line, dV e3.Start], tX 48 37 [some 3] r6 48 none, aX 64 3 r9, aX 80 3 r10], 112⟩) ?_)
    rintro ⟨q, r12, v2⟩ r0 hb3 hm
    rw [i_ChangeTime_L2] at hm
    refine rg G (Ok_seq (cd hm (fun hm => ?_) (fun hm => ?_)))
    ·refine X_skip (thN (jn hm (fun (q1, r13) => ⟨[(4, .ref 16 0), (14, .ref 32 0), (15, .own 48), (16, .own 64), (17, .own 80), (18, dV q1), (19, dV r13), (75, dV r11.Stops), (76, dV (r11.Stops.length : Int)), (77, dV v2)], [bX 16 [dV t.Network.Stops, dV t.Network.Lines, dV t.Trips], bX 32 [dV e3.Id, dV e3.Line, dV e3.Start], tX 48 37 [some 3] r6 48 none, aX 64 3 r9, aX 80 3 r10], 112⟩) (fun vv2 hm => ?_) ?_))
     ·refine Ok_block ?_
      obtain ⟨e4, h16, hm⟩ := obind hm
      refine rs G (hD 1 h16 h0) ?_
      refine Ok_seq (rg G (cd hm (fun hm => ?_) (fun hm => ?_)))
      ·exact Ok_exit (thE (ibE (wJ G hm)))
      ·refine X_skip (thN ?_)
       obtain ⟨r14, h17, hm⟩ := obind hm
       obtain ⟨u, h18, hm⟩ := obind hm
       refine rs G (hC 2 (i_lineOf_c h17) (hN 5 r10 (hU 7 h18 (hN 8 ((r14.Stops.take (w64 ((r10.length : Int) - 1)).toNat).drop (0 : Int).toNat) h0)))) ?_
       refine tl hm (fun (q4, r17) => ⟨[(4, .ref 16 0), (14, .ref 32 0), (15, .own 48), (16, .own 64), (17, .own 80), (18, dV q4), (19, dV r17), (75, dV r11.Stops), (76, dV (r11.Stops.length : Int)), (77, dV v2)], [bX 16 [dV t.Network.Stops, dV t.Network.Lines, dV t.Trips], bX 32 [dV e3.Id, dV e3.Line, dV e3.Start], tX 48 37 [some 3] r6 48 none, aX 64 3 r9, aX 80 3 r10], 112⟩) (fun vv1 hm => ?_) ?_
       ·refine Ok_block (lp G hm (fun (q2, r15, v3) => ⟨[(4, .ref 16 0), (14, .ref 32 0), (15, .own 48), (16, .own 64), (17, .own 80), (18, dV q2), (19, dV r15), (20, dV v2), (21, dV e4), (75, dV r11.Stops), (76, dV (r11.Stops.length : Int)), (77, dV v2), (91, dV ((r14.Stops.take (w64 ((r10.length : Int) - 1)).toNat).drop (0 : Int).toNat)), (92, dV (((r14.Stops.take (w64 ((r10.length : Int) - 1)).toNat).drop (0 : Int).toNat).length : Int)), (93, dV v3)], [bX 16 [dV t.Network.Stops, dV t.Network.Lines, dV t.Trips], bX 32 [dV e3.Id, dV e3.Line, dV e3.Start], tX 48 37 [some 3] r6 48 none, aX 64 3 r9, aX 80 3 r10], 112⟩) ?_)
        rintro ⟨q2, r15, v3⟩ r0 hb4 hm
        rw [i_ChangeTime_L1] at hm
        refine rg G (Ok_seq (cd hm (fun hm => ?_) (fun hm => ?_)))
        ·refine X_skip (thN (jn hm (fun (q3, r16) => ⟨[(4, .ref 16 0), (14, .ref 32 0), (15, .own 48), (16, .own 64), (17, .own 80), (18, dV q3), (19, dV r16), (20, dV v2), (21, dV e4), (75, dV r11.Stops), (76, dV (r11.Stops.length : Int)), (77, dV v2), (91, dV ((r14.Stops.take (w64 ((r10.length : Int) - 1)).toNat).drop (0 : Int).toNat)), (92, dV (((r14.Stops.take (w64 ((r10.length : Int) - 1)).toNat).drop (0 : Int).toNat).length : Int)), (93, dV v3)], [bX 16 [dV t.Network.Stops, dV t.Network.Lines, dV t.Trips], bX 32 [dV e3.Id, dV e3.Line, dV e3.Start], tX 48 37 [some 3] r6 48 none, aX 64 3 r9, aX 80 3 r10], 112⟩) (fun vv hm => ?_) ?_))
         ·refine Ok_block ?_
          obtain ⟨e5, h19, hm⟩ := obind hm
          refine rs G (hD 1 h19 h0) ?_
          obtain ⟨e8, h22, hm⟩ := obind hm
          obtain ⟨e9, h23, hm⟩ := obind hm
          refine ds G [] (hD 2 h22 (hE 3 h22 (hD 6 h23 (hE 7 h23 h0)))) ?_
          obtain ⟨e10, h24, hm⟩ := obind hm
          obtain ⟨e11, h25, hm⟩ := obind hm
          refine jn hm (fun v4 => ⟨[(4, .ref 16 0), (14, .ref 32 0), (15, .own 48), (16, .own 64), (17, .own 80), (18, dV q2), (19, dV r15), (20, dV v2), (21, dV e4), (24, dV (w64 (e8 - e9))), (75, dV r11.Stops), (76, dV (r11.Stops.length : Int)), (77, dV v2), (91, dV ((r14.Stops.take (w64 ((r10.length : Int) - 1)).toNat).drop (0 : Int).toNat)), (92, dV (((r14.Stops.take (w64 ((r10.length : Int) - 1)).toNat).drop (0 : Int).toNat).length : Int)), (93, dV v3), (134, dV v4)], [bX 16 [dV t.Network.Stops, dV t.Network.Lines, dV t.Trips], bX 32 [dV e3.Id, dV e3.Line, dV e3.Start], tX 48 37 [some 3] r6 48 none, aX 64 3 r9, aX 80 3 r10], 112⟩) (fun v4 hm => ?_) ?_
          ·rcases bf hm with ⟨hb5, hm⟩ | ⟨hb5, hm⟩
           ·obtain ⟨e12, h26, hm⟩ := obind hm
            obtain ⟨e13, h27, hm⟩ := obind hm
            rcases bf hm with ⟨hb6, hm⟩ | ⟨hb6, hm⟩
            ·rcases bf hm with ⟨hb7, hm⟩ | ⟨hb7, hm⟩
             ·refine re G (hD 2 h24 (hE 3 h24 (hE 5 h24 (hP (idx_b (f := Enc.e) h25) (hO 6 (.d2 (Enc.e e10) (Enc.e e11)) (hP (idx_m2 (f := Enc.e) h24) (hP (idx_m2 (f := Enc.e) h25) (hO 8 (.b true) (hP hb5 (hD 12 h26 (hE 13 h24 (hE 15 h24 (hP (idx_b (f := Enc.e) h27) (hO 16 (.d2 (Enc.e e10) (Enc.e e13)) (hP (idx_m2 (f := Enc.e) h24) (hP (idx_m2 (f := Enc.e) h27) (hO 19 (.b true) (hP hb6 (hO 22 (.b true) (hP hb7 h0)))))))))))))))))))) ?_
              exact wJ G hm
             ·refine re G (hD 2 h24 (hE 3 h24 (hE 5 h24 (hP (idx_b (f := Enc.e) h25) (hO 6 (.d2 (Enc.e e10) (Enc.e e11)) (hP (idx_m2 (f := Enc.e) h24) (hP (idx_m2 (f := Enc.e) h25) (hO 8 (.b true) (hP hb5 (hD 12 h26 (hE 13 h24 (hE 15 h24 (hP (idx_b (f := Enc.e) h27) (hO 16 (.d2 (Enc.e e10) (Enc.e e13)) (hP (idx_m2 (f := Enc.e) h24) (hP (idx_m2 (f := Enc.e) h27) (hO 19 (.b true) (hP hb6 (hO 22 (.b false) (hP hb7 h0)))))))))))))))))))) ?_
              exact wJ G hm
            ·refine re G (hD 2 h24 (hE 3 h24 (hE 5 h24 (hP (idx_b (f := Enc.e) h25) (hO 6 (.d2 (Enc.e e10) (Enc.e e11)) (hP (idx_m2 (f := Enc.e) h24) (hP (idx_m2 (f := Enc.e) h25) (hO 8 (.b true) (hP hb5 (hD 12 h26 (hE 13 h24 (hE 15 h24 (hP (idx_b (f := Enc.e) h27) (hO 16 (.d2 (Enc.e e10) (Enc.e e13)) (hP (idx_m2 (f := Enc.e) h24) (hP (idx_m2 (f := Enc.e) h27) (hO 19 (.b false) (hP hb6 h0)))))))))))))))))) ?_
             exact wJ G hm
           ·refine re G (hD 2 h24 (hE 3 h24 (hE 5 h24 (hP (idx_b (f := Enc.e) h25) (hO 6 (.d2 (Enc.e e10) (Enc.e e11)) (hP (idx_m2 (f := Enc.e) h24) (hP (idx_m2 (f := Enc.e) h25) (hO 8 (.b false) (hP hb5 h0))))))))) ?_
            exact wJ G hm
          rintro v4 hm
          refine cd hm (fun hm => ?_) (fun hm => ?_)
          ·exact rh G (ibN (wJ G hm))
          ·exact X_skip (ibN (wJ G hm))
         rintro ⟨q3, r16⟩ hm
         exact rh G (wL G hm)
        ·exact Ok_exit (thE (thE (ibE (wD G hm hb4))))
       rintro ⟨q4, r17⟩ hm s hw
       exact ibN (wJp hm (Wk.trans hw (Wk_J G.hL ⟨[(4, []), (14, []), (15, []), (16, []), (17, []), (18, []), (19, []), (75, []), (76, []), (77, [])], [(16, 16, []), (32, 32, []), (48, 48, []), (64, 64, []), (80, 80, [])], [], 112⟩ (by kernel_rfl))))
     rintro ⟨q1, r13⟩ hm
     exact rh G (wL G hm)
    ·exact Ok_exit (thE (thE (ibE (wD G hm hb3))))
   rintro ⟨q5, r18⟩ hm s1 hw1
   refine thN (Ok_weak hw1 ?_)
   refine Ok_seq (rg G (cd hm (fun hm => ?_) (fun hm => ?_)))
   ·refine rg G ?_
    cases hm
    exact rt [] []
   ·refine X_skip (thN (rg G ?_))
    cases hm
    exact rt [] []
noncomputable def s_l5Find_M : MS (Timetable × Int) Int := ⟨.x .r .r, fun x => s_l5Find x.1 x.2, fun y => dV y, fun _ => [], fun _ _ => []⟩
theorem s_l5Find_c {t id y} (hm : s_l5Find t id = some y) : s_l5Find_M.C (t, id) y := s_l5Find_M.c (t, id) hm
theorem s_l5Find_ok : FnOK Try.prog 66 s_l5Find_M.S := by
 refine fm tt s_l5Find_M [] Try.call66 Try.func66 rfl Try.results66 Try.ntmps66 ?_
 rintro ⟨t, id⟩ y cx G hm
 have hm : s_l5Find t id = some y := hm
 unfold s_l5Find at hm
 refine rg G (Ok_seq (rg G (tF hm (fun _ => ⟨[], [], 32⟩) (fun v1 hr hm => ?_) ?_)))
 ·refine Ok_block (lp G hm (fun v => ⟨[(1, dV id), (2, .ref 16 0), (5, dV v)], [bX 16 [dV t.Network.Stops, dV t.Network.Lines, dV t.Trips]], 48⟩) ?_)
  rintro v r0 hb hm
  rw [s_l5Find_L1] at hm
  refine Ok_seq (rs G (hN 3 t.Trips h0) ?_)
  refine cd hm (fun hm => ?_) (fun hm => ?_)
  ·refine X_skip (thN (Ok_seq (Ok_block ?_)))
   obtain ⟨e, h, hm⟩ := obind hm
   refine rs G (hD 3 h h0) ?_
   refine cd hm (fun hm => ?_) (fun hm => ?_)
   ·refine rg G ?_
    have hm := eL hm hb hr
    cases hm
    exact rt [] []
   ·exact X_skip (ibN (thN (rh G (wL G hm))))
  ·exact Ok_exit (thE (thE (ibE (wE G hm hb))))
 rintro ⟨⟩ hm s hw
 refine thN (Ok_weak hw ?_)
 refine rg G ?_
 cases hm
 exact rt [] []
noncomputable def s_ChangeTime_M : MS (Timetable × (List Walk) × Int × Int) (Int × Int × Bool) := ⟨.x .r (.x .r (.x .r .r)), fun x => s_ChangeTime x.1 x.2.1 x.2.2.1 x.2.2.2, fun y => .tup [dV y.1, dV y.2.1, dV y.2.2], fun _ => [], fun _ _ => []⟩
theorem s_ChangeTime_c {t list from_ to y} (hm : s_ChangeTime t list from_ to = some y) : s_ChangeTime_M.C (t, list, from_, to) y := s_ChangeTime_M.c (t, list, from_, to) hm
theorem s_ChangeTime_ok : FnOK Try.prog 17 s_ChangeTime_M.S := by
 refine fm tt s_ChangeTime_M [fo s_l5Good_ok, fo s_l7Good_ok, fo s_l5Find_ok, fo s_l5Stops_ok, fo s_l7Times_ok, fo s_l5At_ok] Try.call17 Try.func17 rfl Try.results17 Try.ntmps17 ?_
 rintro ⟨t, list, from_, to⟩ y cx G hm
 have hm : s_ChangeTime t list from_ to = some y := hm
 unfold s_ChangeTime at hm
 refine rg G (Ok_seq ?_)
 obtain ⟨r, h, hm⟩ := obind hm
 refine jn hm (fun v => ⟨[(1, dV list), (2, dV from_), (3, dV to), (4, .ref 16 0), (47, dV v)], [bX 16 [dV t.Network.Stops, dV t.Network.Lines, dV t.Trips]], 48⟩) (fun v hm => ?_) ?_
 ·rcases bf hm with ⟨hb, hm⟩ | ⟨hb, hm⟩
  ·refine re G (hC 1 (s_l5Good_c h) (hO 3 (.b true) (hP hb h0))) ?_
   exact wJ G hm
  ·obtain ⟨r1, h1, hm⟩ := obind hm
   rcases bf hm with ⟨hb1, hm⟩ | ⟨hb1, hm⟩
   ·refine re G (hC 1 (s_l5Good_c h) (hO 3 (.b false) (hP hb (hC 7 (s_l7Good_c h1) (hO 10 (.b true) (hP hb1 h0)))))) ?_
    exact wJ G hm
   ·rcases bf hm with ⟨hb2, hm⟩ | ⟨hb2, hm⟩
    ·refine re G (hC 1 (s_l5Good_c h) (hO 3 (.b false) (hP hb (hC 7 (s_l7Good_c h1) (hO 10 (.b false) (hP hb1 (hO 15 (.b true) (hP hb2 h0)))))))) ?_
     exact wJ G hm
    ·obtain ⟨r2, h2, hm⟩ := obind hm
     rcases bf hm with ⟨hb3, hm⟩ | ⟨hb3, hm⟩
     ·refine re G (hC 1 (s_l5Good_c h) (hO 3 (.b false) (hP hb (hC 7 (s_l7Good_c h1) (hO 10 (.b false) (hP hb1 (hO 15 (.b false) (hP hb2 (hC 18 (s_l5Find_c h2) (hO 21 (.b true) (hP hb3 h0))))))))))) ?_
      exact wJ G hm
     ·obtain ⟨r3, h3, hm⟩ := obind hm
      refine re G (hC 1 (s_l5Good_c h) (hO 3 (.b false) (hP hb (hC 7 (s_l7Good_c h1) (hO 10 (.b false) (hP hb1 (hO 15 (.b false) (hP hb2 (hC 18 (s_l5Find_c h2) (hO 21 (.b false) (hP hb3 (hC 24 (s_l5Find_c h3) h0)))))))))))) ?_
      exact wJ G hm
 rintro v hm
 refine cd hm (fun hm => ?_) (fun hm => ?_)
 ·refine rg G ?_
  cases hm
  exact rt [] []
 ·refine X_skip (thN ?_)
  obtain ⟨r6, h6, hm⟩ := obind hm
  obtain ⟨r7, h7, hm⟩ := obind hm
  refine ds G [] (hC 2 (s_l5Find_c h6) (hC 5 (s_l5Find_c h7) h0)) ?_
  obtain ⟨r10, h10, hm⟩ := obind hm
  obtain ⟨r11, h11, hm⟩ := obind hm
  refine ds G [] (hC 2 (s_l5Stops_c h10) (hC 5 (s_l5Stops_c h11) h0)) ?_
  refine rg G (Ok_seq (rg G (tl hm (fun (m4, d4) => ⟨[(15, dV m4), (16, dV d4)], [], 32⟩) (fun vv2 hm => ?_) ?_)))
  ·refine Ok_block (lp G hm (fun (m, d, v1) => ⟨[(1, dV list), (4, .ref 16 0), (11, dV r6), (12, dV r7), (13, dV r10), (14, dV r11), (15, dV m), (16, dV d), (17, dV v1)], [bX 16 [dV t.Network.Stops, dV t.Network.Lines, dV t.Trips]], 48⟩) ?_)
   rintro ⟨m, d, v1⟩ r0 hb4 hm
   rw [s_ChangeTime_L2] at hm
   refine Ok_seq (rs G (hN 2 r10 h0) ?_)
   refine cd hm (fun hm => ?_) (fun hm => ?_)
   ·refine X_skip (thN (Ok_seq (Ok_block ?_)))
    obtain ⟨e1, h14, hm⟩ := obind hm
    obtain ⟨r13, h15, hm⟩ := obind hm
    refine ds G [] (hN 3 t.Network.Stops (hD 7 h14 (hC 9 (s_l7Times_c h15) h0))) ?_
    refine rg G (tl hm (fun (m3, d3) => ⟨[(1, dV list), (4, .ref 16 0), (11, dV r6), (12, dV r7), (13, dV r10), (14, dV r11), (15, dV m3), (16, dV d3), (17, dV v1)], [bX 16 [dV t.Network.Stops, dV t.Network.Lines, dV t.Trips]], 48⟩) (fun vv1 hm => ?_) ?_)
    ·refine Ok_block (lp G hm (fun (m1, d1, v2) => ⟨[(1, dV list), (4, .ref 16 0), (11, dV r6), (12, dV r7), (13, dV r10), (14, dV r11), (15, dV m1), (16, dV d1), (17, dV v1), (18, .own 32), (19, dV v2)], [bX 16 [dV t.Network.Stops, dV t.Network.Lines, dV t.Trips], aX 32 3 r13], 64⟩) ?_)
     rintro ⟨m1, d1, v2⟩ r0 hb5 hm
     rw [s_ChangeTime_L1] at hm
     refine Ok_seq (rs G (hN 3 r11 h0) ?_)
     refine cd hm (fun hm => ?_) (fun hm => ?_)
     ·refine X_skip (thN (jn hm (fun (m2, d2) => ⟨[(1, dV list), (4, .ref 16 0), (11, dV r6), (12, dV r7), (13, dV r10), (14, dV r11), (15, dV m2), (16, dV d2), (17, dV v1), (18, .own 32), (19, dV v2)], [bX 16 [dV t.Network.Stops, dV t.Network.Lines, dV t.Trips], aX 32 3 r13], 64⟩) (fun vv hm => ?_) ?_))
      ·refine Ok_block ?_
       obtain ⟨r16, h18, hm⟩ := obind hm
       obtain ⟨r17, h19, hm⟩ := obind hm
       refine ds G [] (hC 3 (s_l5At_c h18) (hC 7 (s_l5At_c h19) h0)) ?_
       obtain ⟨e2, h20, hm⟩ := obind hm
       obtain ⟨e3, h21, hm⟩ := obind hm
       refine jn hm (fun v3 => ⟨[(1, dV list), (4, .ref 16 0), (11, dV r6), (12, dV r7), (13, dV r10), (14, dV r11), (15, dV m1), (16, dV d1), (17, dV v1), (18, .own 32), (19, dV v2), (20, dV (w64 (r16 - r17))), (119, dV v3)], [bX 16 [dV t.Network.Stops, dV t.Network.Lines, dV t.Trips], aX 32 3 r13], 64⟩) (fun v3 hm => ?_) ?_
       ·rcases bf hm with ⟨hb6, hm⟩ | ⟨hb6, hm⟩
        ·obtain ⟨e4, h22, hm⟩ := obind hm
         obtain ⟨e5, h23, hm⟩ := obind hm
         rcases bf hm with ⟨hb7, hm⟩ | ⟨hb7, hm⟩
         ·rcases bf hm with ⟨hb8, hm⟩ | ⟨hb8, hm⟩
          ·refine re G (hD 3 h20 (hD 5 h21 (hE 6 h21 (hO 8 (.b true) (hP hb6 (hD 13 h22 (hD 15 h23 (hE 16 h23 (hO 19 (.b true) (hP hb7 (hO 22 (.b true) (hP hb8 h0)))))))))))) ?_
           exact wJ G hm
          ·refine re G (hD 3 h20 (hD 5 h21 (hE 6 h21 (hO 8 (.b true) (hP hb6 (hD 13 h22 (hD 15 h23 (hE 16 h23 (hO 19 (.b true) (hP hb7 (hO 22 (.b false) (hP hb8 h0)))))))))))) ?_
           exact wJ G hm
         ·refine re G (hD 3 h20 (hD 5 h21 (hE 6 h21 (hO 8 (.b true) (hP hb6 (hD 13 h22 (hD 15 h23 (hE 16 h23 (hO 19 (.b false) (hP hb7 h0)))))))))) ?_
          exact wJ G hm
        ·refine re G (hD 3 h20 (hD 5 h21 (hE 6 h21 (hO 8 (.b false) (hP hb6 h0))))) ?_
         exact wJ G hm
       rintro v3 hm
       refine cd hm (fun hm => ?_) (fun hm => ?_)
       ·refine rg G ?_
        obtain ⟨e6, h24, hm⟩ := obind hm
        refine re G (hD 2 h24 h0) ?_
        exact ibN (wJ G hm)
       ·exact X_skip (ibN (wJ G hm))
      rintro ⟨m2, d2⟩ hm
      exact rh G (wL G hm)
     ·exact Ok_exit (thE (thE (ibE (wD G hm hb5))))
    rintro ⟨m3, d3⟩ hm s hw
    refine ibN (thN (Ok_weak hw ?_))
    exact rh G (wL G hm)
   ·exact Ok_exit (thE (thE (ibE (wD G hm hb4))))
  rintro ⟨m4, d4⟩ hm s1 hw1
  refine thN (Ok_weak hw1 ?_)
  refine Ok_seq (rg G (cd hm (fun hm => ?_) (fun hm => ?_)))
  ·refine rg G ?_
   cases hm
   exact rt [] []
  ·refine X_skip (thN (rg G ?_))
   cases hm
   exact rt [] []
noncomputable def v_FnCatching_M : MS ((List UInt8)) Bool := ⟨.r, v_FnCatching, fun y => dV y, fun _ => [], fun _ _ => []⟩
theorem v_FnCatching_c {code y} (hm : v_FnCatching code = some y) : v_FnCatching_M.C code y := v_FnCatching_M.c code hm
theorem v_FnCatching_ok : FnOK Try.prog 3 v_FnCatching_M.S := by
 refine fm tt v_FnCatching_M [fo v_rBig_ok, fo s_DrawCatchTrips_ok, fo i_CatchTrips_ok, fo s_CatchTrips_ok, fo i_WalkingTimes_ok, fo s_DrawWalkGroups_ok, fo i_WalkGroups_ok, fo s_WalkGroups_ok, fo v_rTable_ok, fo s_DrawChangeTime_ok, fo i_ChangeTime_ok, fo s_ChangeTime_ok] Try.call3 Try.func3 rfl Try.results3 Try.ntmps3 ?_
 rintro code y cx G hm
 have hm : v_FnCatching code = some y := hm
 unfold v_FnCatching at hm
 refine rg G (Ok_seq ?_)
 obtain ⟨r, h, hm⟩ := obind hm
 refine rs G (hC 1 (v_rBig_c h) h0) ?_
 refine cd hm (fun hm => ?_) (fun hm => ?_)
 ·refine rg G ?_
  cases hm
  exact rt [] []
 ·refine X_skip (thN ?_)
  obtain ⟨r1, h1, hm⟩ := obind hm
  refine rs G (hC 1 (s_DrawCatchTrips_c h1) h0) ?_
  obtain ⟨r2, h2, hm⟩ := obind hm
  refine rs G (hO 4 (.fz [80, 81] [] []) (hC 4 (i_CatchTrips_c h2) h0)) ?_
  obtain ⟨r3, h3, hm⟩ := obind hm
  refine rs G (hC 4 (s_CatchTrips_c h3) h0) ?_
  refine Ok_seq (jn hm (fun v => ⟨[(0, dV code), (3, .ref 16 0), (4, dV r1.2.1), (5, dV r1.2.2.1), (6, dV r1.2.2.2), (7, dV r2.1), (9, .own 32), (68, dV v)], [bX 16 [dV r1.1.Network.Stops, dV r1.1.Network.Lines, dV r1.1.Trips], aX 32 41 r3.1], 64⟩) (fun v hm => ?_) ?_)
  ·rcases bf hm with ⟨hb, hm⟩ | ⟨hb, hm⟩
   ·refine re G (hO 3 (.b true) (hP hb h0)) ?_
    exact wJ G hm
   ·refine re G (hO 3 (.b false) (hP hb (hN 5 r2.1 (hN 7 r3.1 h0)))) ?_
    exact wJ G hm
  rintro v hm
  refine cd hm (fun hm => ?_) (fun hm => ?_)
  ·refine rg G ?_
   cases hm
   exact rt [] []
  ·refine X_skip (thN ?_)
   obtain ⟨r4, h4, hm⟩ := obind hm
   refine rs G (hC 4 (i_WalkingTimes_c h4) h0) ?_
   refine Ok_seq (rg G (tF hm (fun _ => ⟨[(0, dV code)], [], 32⟩) (fun v4 hr hm => ?_) ?_))
   ·refine Ok_block (lp G hm (fun x => ⟨[(0, dV code), (6, dV r1.2.2.2), (7, dV r2.1), (9, .own 16), (11, dV r4.1), (12, dV r4.2), (13, dV x)], [aX 16 41 r3.1], 48⟩) ?_)
    rintro x r0 hb1 hm
    rw [v_FnCatching_L1] at hm
    refine Ok_seq (rs G (hN 2 r2.1 h0) ?_)
    refine cd hm (fun hm => ?_) (fun hm => ?_)
    ·refine X_skip (thN (Ok_seq (Ok_block ?_)))
     obtain ⟨e, h5, hm⟩ := obind hm
     refine rs G (hD 2 h5 h0) ?_
     obtain ⟨e5, h10, hm⟩ := obind hm
     refine jn hm (fun v1 => ⟨[(0, dV code), (6, dV r1.2.2.2), (7, dV r2.1), (9, .own 16), (11, dV r4.1), (12, dV r4.2), (13, dV x), (131, dV v1)], [aX 16 41 r3.1], 48⟩) (fun v1 hm => ?_) ?_
     ·rcases bf hm with ⟨hb2, hm⟩ | ⟨hb2, hm⟩
      ·refine de G [] (hD 3 h10 (hE 4 h10 (hO 6 (.b true) (hP hb2 h0)))) ?_
       exact wJ G hm
      ·rcases bf hm with ⟨hb3, hm⟩ | ⟨hb3, hm⟩
       ·refine de G [] (hD 3 h10 (hE 4 h10 (hO 6 (.b false) (hP hb2 (hO 10 (.b true) (hP hb3 h0)))))) ?_
        exact wJ G hm
       ·obtain ⟨e6, h11, hm⟩ := obind hm
        rcases bf hm with ⟨hb4, hm⟩ | ⟨hb4, hm⟩
        ·refine de G [] (hD 3 h10 (hE 4 h10 (hO 6 (.b false) (hP hb2 (hO 10 (.b false) (hP hb3 (hD 14 h11 (hO 18 (.b true) (hP hb4 h0))))))))) ?_
         exact wJ G hm
        ·obtain ⟨e7, h12, hm⟩ := obind hm
         rcases bf hm with ⟨hb5, hm⟩ | ⟨hb5, hm⟩
         ·refine de G [] (hD 3 h10 (hE 4 h10 (hO 6 (.b false) (hP hb2 (hO 10 (.b false) (hP hb3 (hD 14 h11 (hO 18 (.b false) (hP hb4 (hD 25 h12 (hO 30 (.b true) (hP hb5 h0)))))))))))) ?_
          exact wJ G hm
         ·rcases bf hm with ⟨hb6, hm⟩ | ⟨hb6, hm⟩
          ·obtain ⟨e8, h13, hm⟩ := obind hm
           refine de G [] (hD 3 h10 (hE 4 h10 (hO 6 (.b false) (hP hb2 (hO 10 (.b false) (hP hb3 (hD 14 h11 (hO 18 (.b false) (hP hb4 (hD 25 h12 (hO 30 (.b false) (hP hb5 (hO 33 (.b true) (hP hb6 (hD 37 h13 h0))))))))))))))) ?_
           exact wJ G hm
          ·refine de G [] (hD 3 h10 (hE 4 h10 (hO 6 (.b false) (hP hb2 (hO 10 (.b false) (hP hb3 (hD 14 h11 (hO 18 (.b false) (hP hb4 (hD 25 h12 (hO 30 (.b false) (hP hb5 (hO 33 (.b false) (hP hb6 h0)))))))))))))) ?_
           exact wJ G hm
     rintro v1 hm
     refine cd hm (fun hm => ?_) (fun hm => ?_)
     ·refine rg G ?_
      have hm := eL hm hb1 hr
      cases hm
      exact rt [] []
     ·exact X_skip (ibN (thN (rh G (wL G hm))))
    ·exact Ok_exit (thE (thE (ibE (wE G hm hb1))))
   rintro ⟨⟩ hm s hw
   refine thN (Ok_weak hw ?_)
   obtain ⟨r6, h14, hm⟩ := obind hm
   refine rs G (hC 1 (s_DrawWalkGroups_c h14) h0) ?_
   obtain ⟨r7, h15, hm⟩ := obind hm
   refine rs G (hO 3 (.fz [48] [] []) (hC 3 (i_WalkGroups_c h15) h0)) ?_
   refine Ok_seq ?_
   obtain ⟨r8, h16, hm⟩ := obind hm
   refine rs G (hC 3 (s_WalkGroups_c h16) h0) ?_
   refine jn hm (fun v2 => ⟨[(0, dV code), (15, .ref 16 0), (18, dV r7.1), (19, dV r7.2), (160, dV v2)], [bX 16 [dV r6.1.Stops, dV r6.1.Lines]], 48⟩) (fun v2 hm => ?_) ?_
   ·rcases bf hm with ⟨hb7, hm⟩ | ⟨hb7, hm⟩
    ·refine re G (hO 3 (.b true) (hP hb7 h0)) ?_
     exact wJ G hm
    ·obtain ⟨r9, h17, hm⟩ := obind hm
     refine re G (hO 3 (.b false) (hP hb7 (hC 6 (v_rTable_c h17) h0))) ?_
     exact wJ G hm
   rintro v2 hm
   refine cd hm (fun hm => ?_) (fun hm => ?_)
   ·refine rg G ?_
    cases hm
    exact rt [] []
   ·refine X_skip (thN (rg G (Ok_seq (rg G (tl hm (fun i1 => ⟨[(0, dV code), (15, .ref 16 0), (19, dV r7.2), (22, dV i1)], [bX 16 [dV r6.1.Stops, dV r6.1.Lines]], 48⟩) (fun i1 hm => ?_) ?_)))))
    ·refine Ok_block (lp G hm (fun (i, u) => ⟨[(0, dV code), (15, .ref 16 0), (18, dV r7.1), (19, dV r7.2), (22, dV i), (23, dV u)], [bX 16 [dV r6.1.Stops, dV r6.1.Lines]], 48⟩) ?_)
     rintro ⟨i, u⟩ r0 hb8 hm
     rw [v_FnCatching_L2] at hm
     refine Ok_seq (rs G (hN 2 r7.1 h0) ?_)
     refine cd hm (fun hm => ?_) (fun hm => ?_)
     ·refine X_skip (thN (Ok_seq (Ok_block ?_)))
      obtain ⟨e10, h18, hm⟩ := obind hm
      refine re G (hD 3 h18 (hN 5 e10 h0)) ?_
      exact ibN (thN (rh G (wL G hm)))
     ·exact Ok_exit (thE (thE (ibE (wD G hm hb8))))
    rintro i1 hm s1 hw1
    refine thN (Ok_weak hw1 ?_)
    refine Ok_seq (jn hm (fun v3 => ⟨[(0, dV code), (181, dV v3)], [], 32⟩) (fun v3 hm => ?_) ?_)
    ·rcases bf hm with ⟨hb9, hm⟩ | ⟨hb9, hm⟩
     ·refine re G (hO 1 (.b true) (hP hb9 (hN 5 r6.1.Stops h0))) ?_
      exact wJ G hm
     ·refine re G (hO 1 (.b false) (hP hb9 h0)) ?_
      exact wJ G hm
    rintro v3 hm
    refine cd hm (fun hm => ?_) (fun hm => ?_)
    ·refine rg G ?_
     cases hm
     exact rt [] []
    ·refine X_skip (thN ?_)
     obtain ⟨r10, h19, hm⟩ := obind hm
     refine rs G (hC 1 (s_DrawChangeTime_c h19) h0) ?_
     obtain ⟨r11, h20, hm⟩ := obind hm
     refine rs G (hC 4 (i_ChangeTime_c h20) h0) ?_
     obtain ⟨r12, h21, hm⟩ := obind hm
     refine rs G (hC 4 (s_ChangeTime_c h21) h0) ?_
     refine jn hm (fun t => ⟨[(2, dV t)], [], 32⟩) (fun t hm => ?_) ?_
     ·rcases bf hm with ⟨hb10, hm⟩ | ⟨hb10, hm⟩
      ·rcases bf hm with ⟨hb11, hm⟩ | ⟨hb11, hm⟩
       ·rcases bf hm with ⟨hb12, hm⟩ | ⟨hb12, hm⟩
        ·refine re G (hO 3 (.b true) (hP hb10 (hO 8 (.b true) (hP hb11 (hO 13 (.b true) (hP hb12 h0)))))) ?_
         exact wJ G hm
        ·refine re G (hO 3 (.b true) (hP hb10 (hO 8 (.b true) (hP hb11 (hO 13 (.b false) (hP hb12 h0)))))) ?_
         exact wJ G hm
       ·refine re G (hO 3 (.b true) (hP hb10 (hO 8 (.b false) (hP hb11 h0)))) ?_
        exact wJ G hm
      ·refine re G (hO 3 (.b false) (hP hb10 h0)) ?_
       exact wJ G hm
     rintro t hm
     cases hm
     exact rt [] []
end Go.Proofs.Ytdkphcbllgnefaa
