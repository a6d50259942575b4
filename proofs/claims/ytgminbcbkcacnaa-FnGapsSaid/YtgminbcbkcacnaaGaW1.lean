/- Each function computes what its model says. Made by program (dec.py). -/
import Derived.Test.YtgminbcbkcacnaaTy
import Derived.Test.YtgminbcbkcacnaaAbC
import Derived.Test.YtgminbcbkcacnaaGaM
namespace Go.Proofs.Ytgminbcbkcacnaa
open Go Go.Ab
set_option maxRecDepth 100000
set_option maxHeartbeats 4000000
set_option linter.unusedVariables false
set_option linter.unusedSimpArgs false
theorem tt : TT Try.prog ty := ⟨by kernel_rfl, ty_ok⟩
noncomputable def v_rBig_M : MS ((List UInt8)) Bool := ⟨.r, v_rBig, fun y => dV y, fun _ => [], fun _ _ => []⟩
theorem v_rBig_c {code y} (hm : v_rBig code = some y) : v_rBig_M.C code y := v_rBig_M.c code hm
theorem v_rBig_ok : FnOK Try.prog 39 v_rBig_M.S := by
 refine fm tt v_rBig_M [] Try.call39 Try.func39 rfl Try.results39 Try.ntmps39 ?_
 rintro code y cx G hm
 have hm : v_rBig code = some y := hm
 unfold v_rBig at hm
 refine rg G (rs G (hN 1 code h0) ?_)
 cases hm
 exact rt [] []
noncomputable def s_l1Cur_next_M : MS l1Cur (Int × l1Cur) := ⟨.b, s_l1Cur_next, fun y => dV y.1, fun _ => [], fun _ y => [bxO y.2]⟩
theorem s_l1Cur_next_c {c y} (hm : s_l1Cur_next c = some y) : s_l1Cur_next_M.C c y := s_l1Cur_next_M.c c hm
theorem s_l1Cur_next_ok : FnOK Try.prog 202 s_l1Cur_next_M.S := by
 refine fm tt s_l1Cur_next_M [] Try.call202 Try.func202 rfl Try.results202 Try.ntmps202 ?_
 rintro c y cx G hm
 have hm : s_l1Cur_next c = some y := hm
 unfold s_l1Cur_next at hm
 refine rg G (rg G (jn hm (fun v => ⟨[(0, .ref 0 0), (3, dV v)], [bX 0 [dV c.code_, dV c.at_, kV .u64 c.seed_.v]], 48⟩) (fun v hm => ?_) ?_))
 ·refine ds G [] (hN 8 c.code_ h0) ?_
  refine cd hm (fun hm => ?_) (fun hm => ?_)
  ·obtain ⟨e1, h1, hm⟩ := obind hm
   refine de G [] (hD 8 h1 h0) ?_
   exact wJ G hm
  ·exact X_skip (wJ G hm)
 rintro v hm
 refine rg G (rg G (Ok_seq (ds G [] (hN 8 c.code_ h0) ?_)))
 refine cd hm (fun hm => ?_) (fun hm => ?_)
 ·refine rg G ?_
  cases hm
  exact rt [] []
 ·refine X_skip (thN ?_)
  obtain ⟨u, h2, hm⟩ := obind hm
  refine rs G (hK h2 h0) ?_
  cases hm
  exact rt [] []
noncomputable def s_l1Cur_pick_M : MS (l1Cur × Int) (Int × l1Cur) := ⟨.x .b .r, fun x => s_l1Cur_pick x.1 x.2, fun y => dV y.1, fun _ => [], fun _ y => [bxO y.2]⟩
theorem s_l1Cur_pick_c {c n y} (hm : s_l1Cur_pick c n = some y) : s_l1Cur_pick_M.C (c, n) y := s_l1Cur_pick_M.c (c, n) hm
theorem s_l1Cur_pick_ok : FnOK Try.prog 101 s_l1Cur_pick_M.S := by
 refine fm tt s_l1Cur_pick_M [fo s_l1Cur_next_ok] Try.call101 Try.func101 rfl Try.results101 Try.ntmps101 ?_
 rintro ⟨c, n⟩ y cx G hm
 have hm : s_l1Cur_pick c n = some y := hm
 unfold s_l1Cur_pick at hm
 refine rg G (Ok_seq (rg G (cd hm (fun hm => ?_) (fun hm => ?_))))
 ·refine rg G ?_
  cases hm
  exact rt [] []
 ·refine X_skip (thN ?_)
  obtain ⟨r, h, hm⟩ := obind hm
  refine rs G (hC 1 (s_l1Cur_next_c h) h0) ?_
  refine jn hm (fun (v, v1, v2, v3) => ⟨[(0, .ref 0 0), (1, dV n), (5, dV v)], [bX 0 [dV v1, dV v2, kV .u64 v3]], 48⟩) (fun vv hm => ?_) ?_
  ·refine rg G (cd hm (fun hm => ?_) (fun hm => ?_))
   ·obtain ⟨r1, h1, hm⟩ := obind hm
    refine re G (hC 3 (s_l1Cur_next_c h1) h0) ?_
    exact wJ G hm
   ·exact X_skip (wJ G hm)
  rintro ⟨v, v1, v2, v3⟩ hm
  obtain ⟨u, h2, hm⟩ := obind hm
  refine rs G (hK h2 h0) ?_
  cases hm
  exact rt [] []
noncomputable def s_l1Num_MR (rec_ : Int → Option (ByteArray)) : MS Int ByteArray := ⟨.r, rec_, fun y => dV y, fun _ => [], fun _ _ => []⟩
noncomputable def s_l1Num_M : MS Int ByteArray := s_l1Num_MR s_l1Num
theorem s_l1Num_c {n y} (hm : s_l1Num n = some y) : s_l1Num_M.C n y := s_l1Num_M.c n hm
theorem s_l1Num_cR {rec_ : Int → Option (ByteArray)} {n y} (hm : rec_ n = some y) : (s_l1Num_MR rec_).C n y := (s_l1Num_MR rec_).c n hm
theorem s_l1Num_okF {rec_ : Int → Option (ByteArray)} (hrec : FnOK Try.prog 250 (s_l1Num_MR rec_).S) : FnOK Try.prog 250 (s_l1Num_MR (s_l1Num_F rec_)).S := by
 refine fm tt (s_l1Num_MR (s_l1Num_F rec_)) [fo hrec] Try.call250 Try.func250 rfl Try.results250 Try.ntmps250 ?_
 rintro n y cx G hm
 have hm : s_l1Num_F rec_ n = some y := hm
 unfold s_l1Num_F at hm
 refine rg G (Ok_seq (rg G (cd hm (fun hm => ?_) (fun hm => ?_))))
 ·obtain ⟨r, h, hm⟩ := obind hm
  obtain ⟨u, h1, hm⟩ := obind hm
  refine rs G (hC 2 (s_l1Num_cR h) (hP (cat_p (chk_t h1)) h0)) ?_
  cases hm
  exact rt [] []
 ·refine X_skip (thN (Ok_seq (rg G (cd hm (fun hm => ?_) (fun hm => ?_)))))
  ·obtain ⟨u1, h2, hm⟩ := obind hm
   refine rs G (hK h2 h0) ?_
   cases hm
   exact rt [] []
  ·refine X_skip (thN ?_)
   obtain ⟨u7, h9, hm⟩ := obind hm
   obtain ⟨r2, h10, hm⟩ := obind hm
   obtain ⟨u8, h11, hm⟩ := obind hm
   obtain ⟨u9, h12, hm⟩ := obind hm
   obtain ⟨u10, h13, hm⟩ := obind hm
   obtain ⟨u11, h14, hm⟩ := obind hm
   refine ds G [] (hK h9 (hC 2 (s_l1Num_cR h10) (hK h11 (hK h12 (hK h13 (hP (cat_p (chk_t h14)) h0)))))) ?_
   cases hm
   exact rt [] []
theorem s_l1Num_okn : ∀ k, FnOK Try.prog 250 (s_l1Num_MR (s_l1Num_k k)).S
 | 0 => ⟨fun args w => Try.call250 args w, fun vs w F ds obs κ hp => by obtain ⟨x, y, _, _, h⟩ := hp; cases h⟩
 | k + 1 => s_l1Num_okF (s_l1Num_okn k)
theorem s_l1Num_ok : FnOK Try.prog 250 s_l1Num_M.S := s_l1Num_okn 4294967296
noncomputable def s_l2Place_M : MS (Line × Int) Int := ⟨.x .r .r, fun x => s_l2Place x.1 x.2, fun y => dV y, fun _ => [], fun _ _ => []⟩
theorem s_l2Place_c {x stop y} (hm : s_l2Place x stop = some y) : s_l2Place_M.C (x, stop) y := s_l2Place_M.c (x, stop) hm
theorem s_l2Place_ok : FnOK Try.prog 159 s_l2Place_M.S := by
 refine fm tt s_l2Place_M [] Try.call159 Try.func159 rfl Try.results159 Try.ntmps159 ?_
 rintro ⟨x, stop⟩ y cx G hm
 have hm : s_l2Place x stop = some y := hm
 unfold s_l2Place at hm
 refine rg G (Ok_seq (rg G (tF hm (fun _ => ⟨[], [], 32⟩) (fun v1 hr hm => ?_) ?_)))
 ·refine Ok_block (lp G hm (fun v => ⟨[(1, dV stop), (2, .ref 16 0), (5, dV v)], [bX 16 [dV x.Name, dV x.Stops, dV x.Runs]], 48⟩) ?_)
  rintro v r0 hb hm
  rw [s_l2Place_L1] at hm
  refine Ok_seq (rs G (hN 3 x.Stops h0) ?_)
  refine cd hm (fun hm => ?_) (fun hm => ?_)
  ·refine X_skip (thN (Ok_seq (Ok_block ?_)))
   obtain ⟨e, h, hm⟩ := obind hm
   refine rs G (hD 3 h h0) ?_
   refine cd hm (fun hm => ?_) (fun hm => ?_)
   ·refine rg G ?_
    have hm := eL hm hb hr
    cases hm
    exact rt [] []
   ·exact X_skip (ibN (thN (rh G (wL G hm))))
  ·exact Ok_exit (thE (thE (ibE (wE G hm hb))))
 rintro ⟨⟩ hm s hw
 refine thN (Ok_weak hw ?_)
 refine rg G ?_
 cases hm
 exact rt [] []
noncomputable def s_l1Cur_line_M : MS (l1Cur × ByteArray × Int) (Line × l1Cur) := ⟨.x .b (.x .r .r), fun x => s_l1Cur_line x.1 x.2.1 x.2.2, fun y => .aggv [dV y.1.Name, .own 0, .own 1], fun y => [arO 3 y.1.Stops, arO 3 y.1.Runs], fun _ y => [bxO y.2]⟩
theorem s_l1Cur_line_c {c name stops y} (hm : s_l1Cur_line c name stops = some y) : s_l1Cur_line_M.C (c, name, stops) y := s_l1Cur_line_M.c (c, name, stops) hm
theorem s_l1Cur_line_ok : FnOK Try.prog 249 s_l1Cur_line_M.S := by
 refine fm tt s_l1Cur_line_M [fo s_l1Cur_pick_ok, fo s_l2Place_ok] Try.call249 Try.func249 rfl Try.results249 Try.ntmps249 ?_
 rintro ⟨c, name, stops⟩ y cx G hm
 have hm : s_l1Cur_line c name stops = some y := hm
 unfold s_l1Cur_line at hm
 refine rg G (rg G ?_)
 obtain ⟨r, h, hm⟩ := obind hm
 refine rs G (hC 2 (s_l1Cur_pick_c h) h0) ?_
 refine Ok_seq ?_
 obtain ⟨r1, h1, hm⟩ := obind hm
 refine rs G (hC 1 (s_l1Cur_pick_c h1) h0) ?_
 refine tl hm (fun (v7, v8, v9, v10) => ⟨[(0, .ref 0 0), (2, dV stops), (6, .ref 32 0), (7, .ref 48 0)], [bX 0 [dV v7, dV v8, kV .u64 v9], bX 32 [dV ByteArray.empty, .dat (.sc (.slice none 0 0)), .dat (.sc (.slice none 0 0))], bX 48 [dV name, .own 64, .dat (.sc (.slice none 0 0))], aX 64 3 v10], 96⟩) (fun vv1 hm => ?_) ?_
 ·refine Ok_block (lpP hm (fun (v, v1, v2, v3, v4, v5) => ⟨[(0, .ref 0 0), (2, dV stops), (6, .ref 32 0), (7, .ref 48 0), (8, dV v), (9, dV v1)], [bX 0 [dV v2, dV v3, kV .u64 v4], bX 32 [dV ByteArray.empty, .dat (.sc (.slice none 0 0)), .dat (.sc (.slice none 0 0))], bX 48 [dV name, .own 64, .dat (.sc (.slice none 0 0))], aX 64 3 v5], 96⟩) (Wk_J G.hL ⟨[(0, []), (2, []), (6, []), (7, []), (8, []), (9, [])], [(0, 0, []), (32, 16, []), (48, 64, [.k, .o 64])], [(64, 3, 1, [])], 96⟩ (by kernel_rfl)) ?_)
  rintro ⟨v, v1, v2, v3, v4, v5⟩ r0 hb hm
  rw [s_l1Cur_line_L1] at hm
  refine Ok_seq (rg G (cd hm (fun hm => ?_) (fun hm => ?_)))
  ·refine X_skip (thN (Ok_seq (Ok_block (jn hm (fun v6 => ⟨[(0, .ref 0 0), (2, dV stops), (6, .ref 32 0), (7, .ref 48 0), (8, dV v), (9, dV v1)], [bX 0 [dV v2, dV v3, kV .u64 v4], bX 32 [dV ByteArray.empty, .dat (.sc (.slice none 0 0)), .dat (.sc (.slice none 0 0))], bX 48 [dV name, .own 64, .dat (.sc (.slice none 0 0))], aX 64 3 v6], 96⟩) (fun v6 hm => ?_) ?_))))
   ·obtain ⟨r2, h2, hm⟩ := obind hm
    refine rs G (hC 2 (s_l2Place_c h2) h0) ?_
    refine cd hm (fun hm => ?_) (fun hm => ?_)
    ·obtain ⟨u, h3, hm⟩ := obind hm
     refine re G (hA 4 8 h3 h0) ?_
     exact wJ G hm
    ·exact X_skip (wJ G hm)
   rintro v6 hm
   obtain ⟨r3, h4, hm⟩ := obind hm
   obtain ⟨u1, h5, hm⟩ := obind hm
   refine re G (hC 3 (s_l1Cur_pick_c h4) (hK h5 h0)) ?_
   exact ibN (thN (rh G (wL G hm)))
  ·exact Ok_exit (thE (thE (ibE (wD G hm hb))))
 rintro ⟨v7, v8, v9, v10⟩ hm s hw
 refine thN (Ok_weak hw ?_)
 refine jn hm (fun v11 => ⟨[(0, .ref 0 0), (6, .ref 32 0), (7, .ref 48 0)], [bX 0 [dV v7, dV v8, kV .u64 v9], bX 32 [dV ByteArray.empty, .dat (.sc (.slice none 0 0)), .dat (.sc (.slice none 0 0))], bX 48 [dV name, .own 64, .dat (.sc (.slice none 0 0))], aX 64 3 v11], 96⟩) (fun v11 hm => ?_) ?_
 ·refine rs G (hN 2 v10 h0) ?_
  refine cd hm (fun hm => ?_) (fun hm => ?_)
  ·obtain ⟨e1, h9, hm⟩ := obind hm
   obtain ⟨u4, h10, hm⟩ := obind hm
   obtain ⟨u5, h11, hm⟩ := obind hm
   refine de G [(10, [64, 304]), (12, [48, 320])] (hD 4 h9 (hE 5 h9 (hK h10 (hA 10 8 h11 h0)))) ?_
   exact wJ G hm
  ·exact X_skip (wJ G hm)
 rintro v11 hm
 refine Ok_seq (rg G (tl hm (fun (v17, v18, v19, v20) => ⟨[(0, .ref 0 0), (6, .ref 32 0), (7, .ref 48 0)], [bX 0 [dV v17, dV v18, kV .u64 v19], bX 32 [dV ByteArray.empty, .dat (.sc (.slice none 0 0)), .dat (.sc (.slice none 0 0))], bX 48 [dV name, .own 64, .own 80], aX 64 3 v11, aX 80 3 v20], 112⟩) (fun vv hm => ?_) ?_))
 ·refine Ok_block (lpP hm (fun (v12, v13, v14, v15, v16) => ⟨[(0, .ref 0 0), (6, .ref 32 0), (7, .ref 48 0), (10, dV v12)], [bX 0 [dV v13, dV v14, kV .u64 v15], bX 32 [dV ByteArray.empty, .dat (.sc (.slice none 0 0)), .dat (.sc (.slice none 0 0))], bX 48 [dV name, .own 64, .own 80], aX 64 3 v11, aX 80 3 v16], 112⟩) (Wk_J G.hL ⟨[(0, []), (6, []), (7, []), (10, [])], [(0, 0, []), (32, 32, []), (48, 48, [.k, .k, .o 80]), (64, 64, [])], [(80, 3, 1, [])], 112⟩ (by kernel_rfl)) ?_)
  rintro ⟨v12, v13, v14, v15, v16⟩ r0 hb1 hm
  rw [s_l1Cur_line_L2] at hm
  refine Ok_seq (rs G (hN 3 v11 h0) ?_)
  refine cd hm (fun hm => ?_) (fun hm => ?_)
  ·refine X_skip (thN (Ok_seq (Ok_block ?_)))
   obtain ⟨r5, h14, hm⟩ := obind hm
   obtain ⟨u7, h15, hm⟩ := obind hm
   refine de G [(3, [0]), (6, [80, 272]), (8, [48, 288])] (hC 3 (s_l1Cur_pick_c h14) (hA 6 8 h15 h0)) ?_
   exact ibN (thN (rh G (wL G hm)))
  ·exact Ok_exit (thE (thE (ibE (wD G hm hb1))))
 rintro ⟨v17, v18, v19, v20⟩ hm s1 hw1
 refine thN (Ok_weak hw1 ?_)
 refine rg G ?_
 cases hm
 exact rt [64, 80] []
noncomputable def s_l1Cur_line_f_M : MS (l1Cur × ByteArray × Int) (Line × l1Cur) := ⟨.x .b (.x .r .r), fun x => s_l1Cur_line_f x.1 x.2.1 x.2.2, fun y => dV y.1, fun _ => [], fun _ y => [bxO y.2]⟩
theorem s_l1Cur_line_f_c {c name stops y} (hm : s_l1Cur_line_f c name stops = some y) : s_l1Cur_line_f_M.C (c, name, stops) y := s_l1Cur_line_f_M.c (c, name, stops) hm
theorem s_l1Cur_line_f_ok : FnOK Try.prog 249 s_l1Cur_line_f_M.S := by
 refine fm tt s_l1Cur_line_f_M [fo s_l1Cur_pick_ok, fo s_l2Place_ok] Try.call249 Try.func249 rfl Try.results249 Try.ntmps249 ?_
 rintro ⟨c, name, stops⟩ y cx G hm
 have hm : s_l1Cur_line_f c name stops = some y := hm
 unfold s_l1Cur_line_f at hm
 refine rg G (rg G ?_)
 obtain ⟨r, h, hm⟩ := obind hm
 refine rs G (hC 2 (s_l1Cur_pick_c h) h0) ?_
 refine Ok_seq ?_
 obtain ⟨r1, h1, hm⟩ := obind hm
 refine rs G (hC 1 (s_l1Cur_pick_c h1) h0) ?_
 refine tl hm (fun (v7, v8, v9, v10) => ⟨[(0, .ref 0 0), (2, dV stops), (6, .ref 32 0), (7, .ref 48 0)], [bX 0 [dV v7, dV v8, kV .u64 v9], bX 32 [dV ByteArray.empty, .dat (.sc (.slice none 0 0)), .dat (.sc (.slice none 0 0))], bX 48 [dV name, .own 64, .dat (.sc (.slice none 0 0))], aX 64 3 v10], 96⟩) (fun vv1 hm => ?_) ?_
 ·refine Ok_block (lpP hm (fun (v, v1, v2, v3, v4, v5) => ⟨[(0, .ref 0 0), (2, dV stops), (6, .ref 32 0), (7, .ref 48 0), (8, dV v), (9, dV v1)], [bX 0 [dV v2, dV v3, kV .u64 v4], bX 32 [dV ByteArray.empty, .dat (.sc (.slice none 0 0)), .dat (.sc (.slice none 0 0))], bX 48 [dV name, .own 64, .dat (.sc (.slice none 0 0))], aX 64 3 v5], 96⟩) (Wk_J G.hL ⟨[(0, []), (2, []), (6, []), (7, []), (8, []), (9, [])], [(0, 0, []), (32, 16, []), (48, 64, [.k, .o 64])], [(64, 3, 1, [])], 96⟩ (by kernel_rfl)) ?_)
  rintro ⟨v, v1, v2, v3, v4, v5⟩ r0 hb hm
  rw [s_l1Cur_line_f_L1] at hm
  refine Ok_seq (rg G (cd hm (fun hm => ?_) (fun hm => ?_)))
  ·refine X_skip (thN (Ok_seq (Ok_block (jn hm (fun v6 => ⟨[(0, .ref 0 0), (2, dV stops), (6, .ref 32 0), (7, .ref 48 0), (8, dV v), (9, dV v1)], [bX 0 [dV v2, dV v3, kV .u64 v4], bX 32 [dV ByteArray.empty, .dat (.sc (.slice none 0 0)), .dat (.sc (.slice none 0 0))], bX 48 [dV name, .own 64, .dat (.sc (.slice none 0 0))], aX 64 3 v6], 96⟩) (fun v6 hm => ?_) ?_))))
   ·obtain ⟨r2, h2, hm⟩ := obind hm
    refine rs G (hC 2 (s_l2Place_c h2) h0) ?_
    refine cd hm (fun hm => ?_) (fun hm => ?_)
    ·obtain ⟨u, h3, hm⟩ := obind hm
     refine re G (hA 4 8 h3 h0) ?_
     exact wJ G hm
    ·exact X_skip (wJ G hm)
   rintro v6 hm
   obtain ⟨r3, h4, hm⟩ := obind hm
   obtain ⟨u1, h5, hm⟩ := obind hm
   refine re G (hC 3 (s_l1Cur_pick_c h4) (hK h5 h0)) ?_
   exact ibN (thN (rh G (wL G hm)))
  ·exact Ok_exit (thE (thE (ibE (wD G hm hb))))
 rintro ⟨v7, v8, v9, v10⟩ hm s hw
 refine thN (Ok_weak hw ?_)
 refine jn hm (fun v11 => ⟨[(0, .ref 0 0), (6, .ref 32 0), (7, .ref 48 0)], [bX 0 [dV v7, dV v8, kV .u64 v9], bX 32 [dV ByteArray.empty, .dat (.sc (.slice none 0 0)), .dat (.sc (.slice none 0 0))], bX 48 [dV name, .own 64, .dat (.sc (.slice none 0 0))], aX 64 3 v11], 96⟩) (fun v11 hm => ?_) ?_
 ·refine rs G (hN 2 v10 h0) ?_
  refine cd hm (fun hm => ?_) (fun hm => ?_)
  ·obtain ⟨e1, h9, hm⟩ := obind hm
   obtain ⟨u4, h10, hm⟩ := obind hm
   obtain ⟨u5, h11, hm⟩ := obind hm
   refine de G [(10, [64, 304]), (12, [48, 320])] (hD 4 h9 (hE 5 h9 (hK h10 (hA 10 8 h11 h0)))) ?_
   exact wJ G hm
  ·exact X_skip (wJ G hm)
 rintro v11 hm
 refine Ok_seq (rg G (tl hm (fun (v17, v18, v19, v20) => ⟨[(0, .ref 0 0), (6, .ref 32 0), (7, .ref 48 0)], [bX 0 [dV v17, dV v18, kV .u64 v19], bX 32 [dV ByteArray.empty, .dat (.sc (.slice none 0 0)), .dat (.sc (.slice none 0 0))], bX 48 [dV name, .own 64, .own 80], aX 64 3 v11, aX 80 3 v20], 112⟩) (fun vv hm => ?_) ?_))
 ·refine Ok_block (lpP hm (fun (v12, v13, v14, v15, v16) => ⟨[(0, .ref 0 0), (6, .ref 32 0), (7, .ref 48 0), (10, dV v12)], [bX 0 [dV v13, dV v14, kV .u64 v15], bX 32 [dV ByteArray.empty, .dat (.sc (.slice none 0 0)), .dat (.sc (.slice none 0 0))], bX 48 [dV name, .own 64, .own 80], aX 64 3 v11, aX 80 3 v16], 112⟩) (Wk_J G.hL ⟨[(0, []), (6, []), (7, []), (10, [])], [(0, 0, []), (32, 32, []), (48, 48, [.k, .k, .o 80]), (64, 64, [])], [(80, 3, 1, [])], 112⟩ (by kernel_rfl)) ?_)
  rintro ⟨v12, v13, v14, v15, v16⟩ r0 hb1 hm
  rw [s_l1Cur_line_f_L2] at hm
  refine Ok_seq (rs G (hN 3 v11 h0) ?_)
  refine cd hm (fun hm => ?_) (fun hm => ?_)
  ·refine X_skip (thN (Ok_seq (Ok_block ?_)))
   obtain ⟨r5, h14, hm⟩ := obind hm
   obtain ⟨u7, h15, hm⟩ := obind hm
   refine de G [(3, [0]), (6, [80, 272]), (8, [48, 288])] (hC 3 (s_l1Cur_pick_c h14) (hA 6 8 h15 h0)) ?_
   exact ibN (thN (rh G (wL G hm)))
  ·exact Ok_exit (thE (thE (ibE (wD G hm hb1))))
 rintro ⟨v17, v18, v19, v20⟩ hm s1 hw1
 refine thN (Ok_weak hw1 ?_)
 refine rg G ?_
 cases hm
 exact rt [] []
noncomputable def s_l1Cur_one_M : MS (l1Cur × Int) (Bool × l1Cur) := ⟨.x .b .r, fun x => s_l1Cur_one x.1 x.2, fun y => dV y.1, fun _ => [], fun _ y => [bxO y.2]⟩
theorem s_l1Cur_one_c {c n y} (hm : s_l1Cur_one c n = some y) : s_l1Cur_one_M.C (c, n) y := s_l1Cur_one_M.c (c, n) hm
theorem s_l1Cur_one_ok : FnOK Try.prog 100 s_l1Cur_one_M.S := by
 refine fm tt s_l1Cur_one_M [fo s_l1Cur_pick_ok] Try.call100 Try.func100 rfl Try.results100 Try.ntmps100 ?_
 rintro ⟨c, n⟩ y cx G hm
 have hm : s_l1Cur_one c n = some y := hm
 unfold s_l1Cur_one at hm
 refine rg G ?_
 obtain ⟨r, h, hm⟩ := obind hm
 refine rs G (hC 2 (s_l1Cur_pick_c h) h0) ?_
 cases hm
 exact rt [] []
noncomputable def s_l2Back_f_M : MS ((List Int)) ((List Int)) := ⟨.r, s_l2Back_f, fun y => dV y, fun _ => [], fun _ _ => []⟩
theorem s_l2Back_f_c {list y} (hm : s_l2Back_f list = some y) : s_l2Back_f_M.C list y := s_l2Back_f_M.c list hm
theorem s_l2Back_f_ok : FnOK Try.prog 251 s_l2Back_f_M.S := by
 refine fm tt s_l2Back_f_M [] Try.call251 Try.func251 rfl Try.results251 Try.ntmps251 ?_
 rintro list y cx G hm
 have hm : s_l2Back_f list = some y := hm
 unfold s_l2Back_f at hm
 refine rg G (rg G (Ok_seq (rs G (hN 1 list h0) ?_)))
 refine tl hm (fun i1 => ⟨[(3, .own 16)], [aX 16 3 i1], 48⟩) (fun i1 hm => ?_) ?_
 ·refine Ok_block (lp G hm (fun (v, i) => ⟨[(0, dV list), (3, .own 16), (4, dV v)], [aX 16 3 i], 48⟩) ?_)
  rintro ⟨v, i⟩ r0 hb hm
  rw [s_l2Back_f_L1] at hm
  refine Ok_seq (rg G (cd hm (fun hm => ?_) (fun hm => ?_)))
  ·refine X_skip (thN (Ok_seq (Ok_block ?_)))
   obtain ⟨e, h, hm⟩ := obind hm
   obtain ⟨u, h1, hm⟩ := obind hm
   refine re G (hD 3 h (hA 6 8 h1 h0)) ?_
   exact ibN (thN (rh G (wL G hm)))
  ·exact Ok_exit (thE (thE (ibE (wD G hm hb))))
 rintro i1 hm s hw
 refine thN (Ok_weak hw ?_)
 refine rg G ?_
 cases hm
 exact rt [] []
noncomputable def s_l1Own_M : MS ((List Int)) ((List Int)) := ⟨.r, s_l1Own, fun _ => .own 0, fun y => [arO 3 y], fun _ _ => []⟩
theorem s_l1Own_c {l y} (hm : s_l1Own l = some y) : s_l1Own_M.C l y := s_l1Own_M.c l hm
theorem s_l1Own_ok : FnOK Try.prog 263 s_l1Own_M.S := by
 refine fm tt s_l1Own_M [] Try.call263 Try.func263 rfl Try.results263 Try.ntmps263 ?_
 rintro l y cx G hm
 have hm : s_l1Own l = some y := hm
 unfold s_l1Own at hm
 refine rg G ?_
 obtain ⟨u, h, hm⟩ := obind hm
 refine rs G (hA 2 8 h h0) ?_
 cases hm
 exact rt [64] []
noncomputable def s_l1Cur_of_w_M : MS (l1Cur × (List ByteArray)) (ByteArray × l1Cur) := ⟨.x .b (.s 9), fun x => s_l1Cur_of_w x.1 x.2, fun y => dV y.1, fun _ => [], fun x y => [bxO y.2, arO 9 x.2]⟩
theorem s_l1Cur_of_w_c {c list y} (hm : s_l1Cur_of_w c list = some y) : s_l1Cur_of_w_M.C (c, list) y := s_l1Cur_of_w_M.c (c, list) hm
theorem s_l1Cur_of_w_ok : FnOK Try.prog 147 s_l1Cur_of_w_M.S := by
 refine fm tt s_l1Cur_of_w_M [fo s_l1Cur_pick_ok] Try.call147 Try.func147 rfl Try.results147 Try.ntmps147 ?_
 rintro ⟨c, list⟩ y cx G hm
 have hm : s_l1Cur_of_w c list = some y := hm
 unfold s_l1Cur_of_w at hm
 refine rg G ?_
 obtain ⟨r, h, hm⟩ := obind hm
 obtain ⟨e, h1, hm⟩ := obind hm
 refine rs G (hN 3 list (hC 4 (s_l1Cur_pick_c h) (hD 5 h1 (hE 6 h1 h0)))) ?_
 cases hm
 exact rt [] []
noncomputable def s_l2Own_t_M : MS Network Network := ⟨.r, s_l2Own_t, fun _ => .aggv [.own 0, .own 1], fun y => [arO 9 y.Stops, taO 150 [none, some 3, some 3] y.Lines], fun _ _ => []⟩
theorem s_l2Own_t_c {n y} (hm : s_l2Own_t n = some y) : s_l2Own_t_M.C n y := s_l2Own_t_M.c n hm
theorem s_l2Own_t_ok : FnOK Try.prog 224 s_l2Own_t_M.S := by
 refine fm tt s_l2Own_t_M [fo s_l1Own_ok] Try.call224 Try.func224 rfl Try.results224 Try.ntmps224 ?_
 rintro n y cx G hm
 have hm : s_l2Own_t n = some y := hm
 unfold s_l2Own_t at hm
 refine rg G ?_
 obtain ⟨u, h, hm⟩ := obind hm
 refine rs G (hA 3 16 h h0) ?_
 refine Ok_seq (rg G (tl hm (fun v2 => ⟨[(2, .ref 16 0), (3, .ref 32 0)], [bX 16 [.dat (.sc (.slice none 0 0)), .dat (.sc (.slice none 0 0))], bX 32 [.own 48, .own 64], aX 48 9 (([] : List ByteArray) ++ n.Stops), tX 64 150 [none, some 3, some 3] v2 64 none], 96⟩) (fun v2 hm => ?_) ?_))
 ·refine Ok_block (lpP hm (fun (v, v1) => ⟨[(1, .ref 16 0), (2, .ref 32 0), (3, .ref 48 0), (4, dV v)], [bX 16 [dV n.Stops, dV n.Lines], bX 32 [.dat (.sc (.slice none 0 0)), .dat (.sc (.slice none 0 0))], bX 48 [.own 64, .own 80], aX 64 9 (([] : List ByteArray) ++ n.Stops), tX 80 150 [none, some 3, some 3] v1 80 none], 112⟩) (Wk_J G.hL ⟨[(1, []), (2, []), (3, []), (4, [])], [(16, 16, []), (32, 32, []), (48, 128, [.k, .o 80]), (64, 96, [])], [(80, 150, 3, [none, some 3, some 3])], 112⟩ (by kernel_rfl)) ?_)
  rintro ⟨v, v1⟩ r0 hb hm
  rw [s_l2Own_t_L1] at hm
  refine Ok_seq (rs G (hN 3 n.Lines h0) ?_)
  refine cd hm (fun hm => ?_) (fun hm => ?_)
  ·refine X_skip (thN (Ok_seq (Ok_block ?_)))
   obtain ⟨e3, h7, hm⟩ := obind hm
   obtain ⟨e4, h8, hm⟩ := obind hm
   obtain ⟨r2, h9, hm⟩ := obind hm
   obtain ⟨e5, h10, hm⟩ := obind hm
   obtain ⟨r3, h11, hm⟩ := obind hm
   obtain ⟨u2, h12, hm⟩ := obind hm
   refine de G [(23, [416, 528]), (24, [80, 560]), (26, [48, 576])] (hD 5 h7 (hD 11 h8 (hC 14 (s_l1Own_c h9) (hD 18 h10 (hC 21 (s_l1Own_c h11) (hP (nodupB_ok (l := [416, 528]) rfl) (hA 24 64 h12 h0))))))) ?_
   exact ibN (thN (rh G (wL G hm)))
  ·exact Ok_exit (thE (thE (ibE (wD G hm hb))))
 rintro v2 hm s hw
 refine thN (Ok_weak hw ?_)
 refine rg G ?_
 cases hm
 exact rt [48, 64] []
noncomputable def s_l1Cur_network_t_M : MS l1Cur (Network × l1Cur) := ⟨.b, s_l1Cur_network_t, fun _ => .aggv [.own 0, .own 1], fun y => [arO 9 y.1.Stops, taO 150 [none, some 3, some 3] y.1.Lines], fun _ y => [bxO y.2]⟩
theorem s_l1Cur_network_t_c {c y} (hm : s_l1Cur_network_t c = some y) : s_l1Cur_network_t_M.C c y := s_l1Cur_network_t_M.c c hm
theorem s_l1Cur_network_t_ok : FnOK Try.prog 200 s_l1Cur_network_t_M.S := by
 refine fm tt s_l1Cur_network_t_M [fo s_l1Cur_pick_ok, fo s_l1Num_ok, fo s_l1Cur_line_f_ok, fo s_l1Cur_one_ok, fo s_l2Back_f_ok, fo s_l2Own_t_ok] Try.call200 Try.func200 rfl Try.results200 Try.ntmps200 ?_
 rintro c y cx G hm
 have hm : s_l1Cur_network_t c = some y := hm
 unfold s_l1Cur_network_t at hm
 refine rg G ?_
 obtain ⟨r, h, hm⟩ := obind hm
 refine rs G (hC 1 (s_l1Cur_pick_c h) h0) ?_
 obtain ⟨u, h1, hm⟩ := obind hm
 refine rs G (hO 2 (.fz [96] [] []) (hU 2 h1 h0)) ?_
 refine Ok_seq ?_
 obtain ⟨r1, h2, hm⟩ := obind hm
 refine rs G (hC 1 (s_l1Cur_pick_c h2) h0) ?_
 refine tl hm (fun (v4, v5, v6, v7) => ⟨[(0, .ref 0 0), (2, .ref 32 0), (4, .ref 48 0)], [bX 0 [dV v4, dV v5, kV .u64 v6], bX 32 [.dat (.sc (.slice none 0 0)), .dat (.sc (.slice none 0 0))], bX 48 [dV ((([(str [112, 111, 114, 116]), (str [109, 105, 108, 108]), (str [112, 97, 114, 107]), (str [104, 97, 108, 108]), (str [100, 111, 99, 107]), (str [102, 97, 105, 114])] : List ByteArray).take (w64 (2 + r.1)).toNat).drop (0 : Int).toNat), .own 64], aX 64 150 v7], 96⟩) (fun vv1 hm => ?_) ?_
 ·refine Ok_block (lpP hm (fun (x, v, v1, v2, v3) => ⟨[(0, .ref 0 0), (2, .ref 32 0), (3, dV (w64 (2 + r.1))), (4, .ref 48 0), (5, dV x)], [bX 0 [dV v, dV v1, kV .u64 v2], bX 32 [.dat (.sc (.slice none 0 0)), .dat (.sc (.slice none 0 0))], bX 48 [dV ((([(str [112, 111, 114, 116]), (str [109, 105, 108, 108]), (str [112, 97, 114, 107]), (str [104, 97, 108, 108]), (str [100, 111, 99, 107]), (str [102, 97, 105, 114])] : List ByteArray).take (w64 (2 + r.1)).toNat).drop (0 : Int).toNat), .own 64], aX 64 150 v3], 96⟩) (Wk_J G.hL ⟨[(0, []), (2, []), (3, []), (4, []), (5, [])], [(0, 0, []), (32, 16, []), (48, 160, [.k, .o 64])], [(64, 150, 3, [])], 96⟩ (by kernel_rfl)) ?_)
  rintro ⟨x, v, v1, v2, v3⟩ r0 hb hm
  rw [s_l1Cur_network_t_L1] at hm
  refine Ok_seq (rg G (cd hm (fun hm => ?_) (fun hm => ?_)))
  ·refine X_skip (thN (Ok_seq (Ok_block ?_)))
   obtain ⟨r4, h7, hm⟩ := obind hm
   obtain ⟨u3, h8, hm⟩ := obind hm
   obtain ⟨r5, h9, hm⟩ := obind hm
   obtain ⟨u4, h10, hm⟩ := obind hm
   refine de G [(7, [0]), (8, []), (9, [64, 256]), (11, [48, 272])] (hC 4 (s_l1Num_c h7) (hP (cat_p (chk_t h8)) (hC 7 (s_l1Cur_line_f_c h9) (hA 9 64 h10 h0)))) ?_
   exact ibN (thN (rh G (wL G hm)))
  ·exact Ok_exit (thE (thE (ibE (wD G hm hb))))
 rintro ⟨v4, v5, v6, v7⟩ hm s hw
 refine thN (Ok_weak hw ?_)
 refine jn hm (fun (v8, v9, v10, v11) => ⟨[(0, .ref 0 0), (2, .ref 32 0), (4, .ref 48 0)], [bX 0 [dV v8, dV v9, kV .u64 v10], bX 32 [.dat (.sc (.slice none 0 0)), .dat (.sc (.slice none 0 0))], bX 48 [dV ((([(str [112, 111, 114, 116]), (str [109, 105, 108, 108]), (str [112, 97, 114, 107]), (str [104, 97, 108, 108]), (str [100, 111, 99, 107]), (str [102, 97, 105, 114])] : List ByteArray).take (w64 (2 + r.1)).toNat).drop (0 : Int).toNat), .own 64], aX 64 150 v11], 96⟩) (fun vv hm => ?_) ?_
 ·obtain ⟨r6, h11, hm⟩ := obind hm
  refine rs G (hC 1 (s_l1Cur_one_c h11) h0) ?_
  refine cd hm (fun hm => ?_) (fun hm => ?_)
  ·obtain ⟨e, h12, hm⟩ := obind hm
   refine rs G (hD 2 h12 (hE 3 h12 h0)) ?_
   obtain ⟨r9, h16, hm⟩ := obind hm
   obtain ⟨r10, h17, hm⟩ := obind hm
   obtain ⟨u6, h18, hm⟩ := obind hm
   refine de G [(9, []), (10, [64, 368]), (12, [48, 384])] (hC 4 (s_l2Back_f_c h16) (hC 7 (s_l2Back_f_c h17) (hA 10 64 h18 h0))) ?_
   exact wJ G hm
  ·exact X_skip (wJ G hm)
 rintro ⟨v8, v9, v10, v11⟩ hm
 obtain ⟨r11, h19, hm⟩ := obind hm
 refine rs G (hO 1 (.fz [64] [] []) (hC 1 (s_l2Own_t_c h19) h0)) ?_
 cases hm
 exact rt [112, 113] []
noncomputable def s_l1Cur_among_M : MS (l1Cur × (List Int)) (Int × l1Cur) := ⟨.x .b .r, fun x => s_l1Cur_among x.1 x.2, fun y => dV y.1, fun _ => [], fun _ y => [bxO y.2]⟩
theorem s_l1Cur_among_c {c list y} (hm : s_l1Cur_among c list = some y) : s_l1Cur_among_M.C (c, list) y := s_l1Cur_among_M.c (c, list) hm
theorem s_l1Cur_among_ok : FnOK Try.prog 102 s_l1Cur_among_M.S := by
 refine fm tt s_l1Cur_among_M [fo s_l1Cur_pick_ok] Try.call102 Try.func102 rfl Try.results102 Try.ntmps102 ?_
 rintro ⟨c, list⟩ y cx G hm
 have hm : s_l1Cur_among c list = some y := hm
 unfold s_l1Cur_among at hm
 refine rg G ?_
 obtain ⟨r, h, hm⟩ := obind hm
 obtain ⟨e, h1, hm⟩ := obind hm
 refine rs G (hN 3 list (hC 4 (s_l1Cur_pick_c h) (hD 5 h1 h0))) ?_
 cases hm
 exact rt [] []
noncomputable def s_l1Cur_among_w_M : MS (l1Cur × (List Int)) (Int × l1Cur) := ⟨.x .b (.s 3), fun x => s_l1Cur_among_w x.1 x.2, fun y => dV y.1, fun _ => [], fun x y => [bxO y.2, arO 3 x.2]⟩
theorem s_l1Cur_among_w_c {c list y} (hm : s_l1Cur_among_w c list = some y) : s_l1Cur_among_w_M.C (c, list) y := s_l1Cur_among_w_M.c (c, list) hm
theorem s_l1Cur_among_w_ok : FnOK Try.prog 102 s_l1Cur_among_w_M.S := by
 refine fm tt s_l1Cur_among_w_M [fo s_l1Cur_pick_ok] Try.call102 Try.func102 rfl Try.results102 Try.ntmps102 ?_
 rintro ⟨c, list⟩ y cx G hm
 have hm : s_l1Cur_among_w c list = some y := hm
 unfold s_l1Cur_among_w at hm
 refine rg G ?_
 obtain ⟨r, h, hm⟩ := obind hm
 obtain ⟨e, h1, hm⟩ := obind hm
 refine rs G (hN 3 list (hC 4 (s_l1Cur_pick_c h) (hD 5 h1 (hE 6 h1 h0)))) ?_
 cases hm
 exact rt [] []
noncomputable def s_l1Cur_anyNetwork_M : MS l1Cur (Network × l1Cur) := ⟨.b, s_l1Cur_anyNetwork, fun y => .aggv [.own 0, dV y.1.Lines], fun y => [arO 9 y.1.Stops], fun _ y => [bxO y.2]⟩
theorem s_l1Cur_anyNetwork_c {c y} (hm : s_l1Cur_anyNetwork c = some y) : s_l1Cur_anyNetwork_M.C c y := s_l1Cur_anyNetwork_M.c c hm
theorem s_l1Cur_anyNetwork_ok : FnOK Try.prog 214 s_l1Cur_anyNetwork_M.S := by
 refine fm tt s_l1Cur_anyNetwork_M [fo s_l1Cur_network_t_ok, fo s_l1Cur_pick_ok, fo s_l1Cur_of_w_ok, fo s_l1Cur_among_w_ok, fo s_l1Num_ok, fo s_l1Cur_line_ok] Try.call214 Try.func214 rfl Try.results214 Try.ntmps214 ?_
 rintro c y cx G hm
 have hm : s_l1Cur_anyNetwork c = some y := hm
 unfold s_l1Cur_anyNetwork at hm
 refine rg G ?_
 obtain ⟨r, h, hm⟩ := obind hm
 refine rs G (hC 1 (s_l1Cur_network_t_c h) h0) ?_
 obtain ⟨r1, h1, hm⟩ := obind hm
 refine rs G (hN 3 r.1.Lines (hC 4 (s_l1Cur_pick_c h1) h0)) ?_
 obtain ⟨e, h2, hm⟩ := obind hm
 refine rs G (hD 3 h2 (hE 4 h2 h0)) ?_
 refine jF hm (fun (v, v1, v2, v3, v4, v5, v6) => ⟨[(0, .ref 0 0), (2, .ref 32 0), (3, .ref 48 0), (4, dV r1.1), (5, .ref 64 0)], [bX 0 [dV v, dV v1, kV .u64 v2], bX 32 [.dat (.sc (.slice none 0 0)), .dat (.sc (.slice none 0 0))], bX 48 [.own 80, .own 96], bX 64 [dV v3, .row 96 96 r1.1.toNat 1, .own 112], aX 80 9 v4, tX 96 150 [none, some 3, some 3] v5 96 (some (r1.1.toNat, 2)), aX 112 3 v6], 144⟩) (fun v17 hr hm => ?_) ?_
 ·obtain ⟨r2, h3, hm⟩ := obind hm
  refine rs G (hC 1 (s_l1Cur_pick_c h3) h0) ?_
  refine Ok_block (rg G (cd hm (fun hm => ?_) (fun hm => ?_)))
  ·obtain ⟨r4, h6, hm⟩ := obind hm
   obtain ⟨e2, h7, hm⟩ := obind hm
   refine de G [(4, [0, 416]), (6, [48])] (hC 4 (s_l1Cur_of_w_c h6) (hD 5 h7 (hS 6 h7 r4.1 h0))) ?_
   exact ibN (wFp hm (Wk.trans (Wk_S (.c 272 2) (Enc.e e) (.cons (idx_m2 (f := Enc.e) (l := r.1.Lines) (i := r1.1) h2) .nil) (by kernel_rfl)) (Wk_J G.hL ⟨[(0, []), (2, []), (3, []), (4, []), (5, [])], [(0, 0, []), (32, 16, []), (48, 64, []), (64, 272, []), (80, 48, []), (96, 49, []), (112, 480, [])], [], 144⟩ (by kernel_rfl))))
  ·refine rg G (cd hm (fun hm => ?_) (fun hm => ?_))
   ·obtain ⟨r5, h8, hm⟩ := obind hm
    refine re G (hC 2 (s_l1Cur_of_w_c h8) h0) ?_
    exact ibN (wFp hm (Wk.trans (Wk_S (.c 272 2) (Enc.e e) (.cons (idx_m2 (f := Enc.e) (l := r.1.Lines) (i := r1.1) h2) .nil) (by kernel_rfl)) (Wk_J G.hL ⟨[(0, []), (2, []), (3, []), (4, []), (5, [])], [(0, 0, []), (32, 16, []), (48, 64, []), (64, 272, []), (80, 48, []), (96, 49, []), (112, 480, [])], [], 144⟩ (by kernel_rfl))))
   ·refine rg G (cd hm (fun hm => ?_) (fun hm => ?_))
    ·obtain ⟨r8, h12, hm⟩ := obind hm
     obtain ⟨r9, h13, hm⟩ := obind hm
     obtain ⟨e4, h14, hm⟩ := obind hm
     refine de G [(6, [0]), (8, [0]), (11, [49])] (hO 5 (.dn (Enc.e e) (e.Stops.length : Int)) (hP (idx_m2 (f := Enc.e) h2) (hP (len_m Enc.e e.Stops) (hC 6 (s_l1Cur_pick_c h12) (hC 8 (s_l1Cur_pick_c h13) (hE 10 h2 (hP (idx_b (f := Enc.e) h14) (hO 11 (.sd2 (Enc.e e) (Enc.e e4) (List.map Enc.e (e.Stops.set r8.1.toNat (w64 (r9.1 - 1)))) (List.map Enc.e (r.1.Lines.set r1.1.toNat (⟨e.Name, (e.Stops.set r8.1.toNat (w64 (r9.1 - 1))), e.Runs⟩ : Line)))) (hP (idx_m2 (f := Enc.e) h2) (hP (idx_m2 (f := Enc.e) h14) (hP (set_m Enc.e e.Stops r8.1.toNat (w64 (r9.1 - 1))) (hP (set_m Enc.e r.1.Lines r1.1.toNat (⟨e.Name, (e.Stops.set r8.1.toNat (w64 (r9.1 - 1))), e.Runs⟩ : Line)) h0)))))))))))) ?_
     exact ibN (wFp hm (Wk.trans (Wk_S (.c 272 2) (Enc.e (⟨e.Name, (e.Stops.set r8.1.toNat (w64 (r9.1 - 1))), e.Runs⟩ : Line)) (.cons (idx_m2 (f := Enc.e) (l := (r.1.Lines.set r1.1.toNat (⟨e.Name, (e.Stops.set r8.1.toNat (w64 (r9.1 - 1))), e.Runs⟩ : Line))) (i := r1.1) (idx_set (y := (⟨e.Name, (e.Stops.set r8.1.toNat (w64 (r9.1 - 1))), e.Runs⟩ : Line)) h2)) .nil) (by kernel_rfl)) (Wk_J G.hL ⟨[(0, []), (2, []), (3, []), (4, []), (5, [])], [(0, 0, []), (32, 16, []), (48, 64, []), (64, 272, []), (80, 48, []), (96, 49, []), (112, 624, [])], [], 144⟩ (by kernel_rfl))))
    ·refine rg G (cd hm (fun hm => ?_) (fun hm => ?_))
     ·obtain ⟨r12, h18, hm⟩ := obind hm
      obtain ⟨r13, h19, hm⟩ := obind hm
      obtain ⟨e6, h20, hm⟩ := obind hm
      refine de G [(6, [0]), (9, [0, 592]), (11, [49])] (hO 5 (.dn (Enc.e e) (e.Runs.length : Int)) (hP (idx_m2 (f := Enc.e) h2) (hP (len_m Enc.e e.Runs) (hC 6 (s_l1Cur_pick_c h18) (hC 9 (s_l1Cur_among_w_c h19) (hE 10 h2 (hP (idx_b (f := Enc.e) h20) (hO 11 (.sd2 (Enc.e e) (Enc.e e6) (List.map Enc.e (e.Runs.set r12.1.toNat r13.1)) (List.map Enc.e (r.1.Lines.set r1.1.toNat (⟨e.Name, e.Stops, (e.Runs.set r12.1.toNat r13.1)⟩ : Line)))) (hP (idx_m2 (f := Enc.e) h2) (hP (idx_m2 (f := Enc.e) h20) (hP (set_m Enc.e e.Runs r12.1.toNat r13.1) (hP (set_m Enc.e r.1.Lines r1.1.toNat (⟨e.Name, e.Stops, (e.Runs.set r12.1.toNat r13.1)⟩ : Line)) h0)))))))))))) ?_
      exact ibN (wFp hm (Wk.trans (Wk_S (.c 272 2) (Enc.e (⟨e.Name, e.Stops, (e.Runs.set r12.1.toNat r13.1)⟩ : Line)) (.cons (idx_m2 (f := Enc.e) (l := (r.1.Lines.set r1.1.toNat (⟨e.Name, e.Stops, (e.Runs.set r12.1.toNat r13.1)⟩ : Line))) (i := r1.1) (idx_set (y := (⟨e.Name, e.Stops, (e.Runs.set r12.1.toNat r13.1)⟩ : Line)) h2)) .nil) (by kernel_rfl)) (Wk_J G.hL ⟨[(0, []), (2, []), (3, []), (4, []), (5, [])], [(0, 0, []), (32, 16, []), (48, 64, []), (64, 272, []), (80, 48, []), (96, 49, []), (112, 656, [])], [], 144⟩ (by kernel_rfl))))
     ·refine rg G (cd hm (fun hm => ?_) (fun hm => ?_))
      ·obtain ⟨u, h21, hm⟩ := obind hm
       refine re G (hO 3 (.sd (Enc.e e) (List.map Enc.e (e.Runs ++ ([3] : List Int)))) (hP (idx_m2 (f := Enc.e) h2) (hP (app_p (f := Enc.e) (g := Enc.e) (l := e.Runs) (r := ([3] : List Int)) (b := 8) (chk_t h21) rfl) (hP (app_m Enc.e e.Runs ([3] : List Int)) h0)))) ?_
       exact ibN (wF G hm)
      ·refine rg G (cd hm (fun hm => ?_) (fun hm => ?_))
       ·refine rg G (rg G ?_)
        have hm := eR hm hr
        cases hm
        exact rt [48] []
       ·refine rg G (cd hm (fun hm => ?_) (fun hm => ?_))
        ·refine Ok_seq (rg G (tl hm (fun (v13, v14, v15, v16) => ⟨[(0, .ref 0 0), (2, .ref 32 0), (3, .ref 48 0)], [bX 0 [dV v13, dV v14, kV .u64 v15], bX 32 [.dat (.sc (.slice none 0 0)), .dat (.sc (.slice none 0 0))], bX 48 [.own 64, .own 80], aX 64 9 r.1.Stops, tX 80 150 [none, some 3, some 3] v16 80 none], 112⟩) (fun vv hm => ?_) ?_))
         ·refine Ok_block (lp G hm (fun (v7, v8, v9, v10, v11) => ⟨[(0, .ref 0 0), (2, .ref 32 0), (3, .ref 48 0), (6, dV v7)], [bX 0 [dV v8, dV v9, kV .u64 v10], bX 32 [.dat (.sc (.slice none 0 0)), .dat (.sc (.slice none 0 0))], bX 48 [.own 64, .own 80], aX 64 9 r.1.Stops, tX 80 150 [none, some 3, some 3] v11 80 none], 112⟩) ?_)
          rintro ⟨v7, v8, v9, v10, v11⟩ r0 hb hm
          rw [s_l1Cur_anyNetwork_L1] at hm
          refine Ok_seq ?_
          obtain ⟨r16, h23, hm⟩ := obind hm
          refine jn hm (fun v12 => ⟨[(0, .ref 0 0), (2, .ref 32 0), (3, .ref 48 0), (6, dV v7), (85, dV v12)], [bX 0 [dV r16.2.code_, dV r16.2.at_, kV .u64 r16.2.seed_.v], bX 32 [.dat (.sc (.slice none 0 0)), .dat (.sc (.slice none 0 0))], bX 48 [.own 64, .own 80], aX 64 9 r.1.Stops, tX 80 150 [none, some 3, some 3] v11 80 none], 112⟩) (fun v12 hm => ?_) ?_
          ·rcases bf hm with ⟨hb1, hm⟩ | ⟨hb1, hm⟩
           ·refine de G [(4, [0])] (hN 2 v11 (hC 4 (s_l1Cur_pick_c h23) (hO 7 (.b true) (hP hb1 h0)))) ?_
            exact wJ G hm
           ·refine de G [(4, [0])] (hN 2 v11 (hC 4 (s_l1Cur_pick_c h23) (hO 7 (.b false) (hP hb1 h0)))) ?_
            exact wJ G hm
          rintro v12 hm
          refine cd hm (fun hm => ?_) (fun hm => ?_)
          ·refine X_skip (thN (Ok_seq (Ok_block ?_)))
           obtain ⟨r19, h28, hm⟩ := obind hm
           obtain ⟨u3, h29, hm⟩ := obind hm
           obtain ⟨r20, h30, hm⟩ := obind hm
           obtain ⟨u4, h31, hm⟩ := obind hm
           refine de G [(9, [0]), (10, [256, 257]), (11, [80, 272]), (13, [48, 288])] (hC 4 (s_l1Num_c h28) (hP (cat_p (chk_t h29)) (hN 8 r.1.Stops (hC 9 (s_l1Cur_line_c h30) (hP (nodupB_ok (l := [256, 257]) rfl) (hA 11 64 h31 h0)))))) ?_
           exact ibN (thN (rh G (wL G hm)))
          ·exact Ok_exit (thE (thE (ibE (wD G hm hb))))
         rintro ⟨v13, v14, v15, v16⟩ hm s hw
         refine thN (Ok_weak hw ?_)
         refine rg G ?_
         have hm := eR hm hr
         cases hm
         exact rt [64] []
        ·exact X_skip (ibN (wFp hm (Wk.trans (Wk_S (.c 272 2) (Enc.e e) (.cons (idx_m2 (f := Enc.e) (l := r.1.Lines) (i := r1.1) h2) .nil) (by kernel_rfl)) (Wk_J G.hL ⟨[(0, []), (2, []), (3, []), (4, []), (5, [])], [(0, 0, []), (32, 16, []), (48, 64, []), (64, 272, []), (80, 48, []), (96, 49, []), (112, 560, [])], [], 144⟩ (by kernel_rfl)))))
 rintro ⟨v, v1, v2, v3, v4, v5, v6⟩ hm
 obtain ⟨e9, h32, hm⟩ := obind hm
 refine rs G (hD 4 h32 (hS 5 h32 (⟨v3, e9.Stops, v6⟩ : Line) (hP (Eq.refl r1.1.toNat) (hP (Eq.refl r1.1.toNat) h0)))) ?_
 refine rg G ?_
 cases hm
 exact rt [80] []
noncomputable def s_l1Cur_patterns_M : MS (l1Cur × Int) (Network × Int × (List Pattern) × l1Cur) := ⟨.x .b .r, fun x => s_l1Cur_patterns x.1 x.2, fun y => .tup [.aggv [.own 0, dV y.1.Lines], dV y.2.1, .own 1], fun y => [arO 9 y.1.Stops, arO 114 y.2.2.1], fun _ y => [bxO y.2.2.2]⟩
theorem s_l1Cur_patterns_c {c most y} (hm : s_l1Cur_patterns c most = some y) : s_l1Cur_patterns_M.C (c, most) y := s_l1Cur_patterns_M.c (c, most) hm
theorem s_l1Cur_patterns_ok : FnOK Try.prog 186 s_l1Cur_patterns_M.S := by
 refine fm tt s_l1Cur_patterns_M [fo s_l1Cur_anyNetwork_ok, fo s_l1Cur_among_ok, fo s_l1Cur_pick_ok] Try.call186 Try.func186 rfl Try.results186 Try.ntmps186 ?_
 rintro ⟨c, most⟩ y cx G hm
 have hm : s_l1Cur_patterns c most = some y := hm
 unfold s_l1Cur_patterns at hm
 refine rg G ?_
 obtain ⟨r, h, hm⟩ := obind hm
 refine rs G (hC 1 (s_l1Cur_anyNetwork_c h) h0) ?_
 obtain ⟨u, h1, hm⟩ := obind hm
 obtain ⟨r1, h2, hm⟩ := obind hm
 refine rs G (hO 3 (.fz [144] [] []) (hU 3 h1 (hC 4 (s_l1Cur_among_c h2) h0))) ?_
 refine rg G (Ok_seq ?_)
 obtain ⟨r2, h3, hm⟩ := obind hm
 refine rs G (hC 1 (s_l1Cur_pick_c h3) h0) ?_
 refine tl hm (fun (v4, v5, v6, k1) => ⟨[(0, .ref 0 0), (4, .ref 32 0), (7, .ref 48 0), (8, dV r1.1), (9, .own 64)], [bX 0 [dV v4, dV v5, kV .u64 v6], bX 32 [.dat (.sc (.slice none 0 0)), .dat (.sc (.slice none 0 0))], bX 48 [.own 80, dV r.1.Lines], aX 64 114 k1, aX 80 9 r.1.Stops], 112⟩) (fun vv2 hm => ?_) ?_
 ·refine Ok_block (lp G hm (fun (x, v, v1, v2, k) => ⟨[(0, .ref 0 0), (4, .ref 32 0), (7, .ref 48 0), (8, dV r1.1), (9, .own 64), (10, dV x)], [bX 0 [dV v, dV v1, kV .u64 v2], bX 32 [.dat (.sc (.slice none 0 0)), .dat (.sc (.slice none 0 0))], bX 48 [.own 80, dV r.1.Lines], aX 64 114 k, aX 80 9 r.1.Stops], 112⟩) ?_)
  rintro ⟨x, v, v1, v2, k⟩ r0 hb hm
  rw [s_l1Cur_patterns_L1] at hm
  refine Ok_seq (jn hm (fun v3 => ⟨[(0, .ref 0 0), (4, .ref 32 0), (7, .ref 48 0), (8, dV r1.1), (9, .own 64), (10, dV x), (31, dV v3)], [bX 0 [dV v, dV v1, kV .u64 v2], bX 32 [.dat (.sc (.slice none 0 0)), .dat (.sc (.slice none 0 0))], bX 48 [.own 80, dV r.1.Lines], aX 64 114 k, aX 80 9 r.1.Stops], 112⟩) (fun v3 hm => ?_) ?_)
  ·rcases bf hm with ⟨hb1, hm⟩ | ⟨hb1, hm⟩
   ·refine re G (hO 2 (.b true) (hP hb1 (hN 5 r.1.Lines h0))) ?_
    exact wJ G hm
   ·refine re G (hO 2 (.b false) (hP hb1 h0)) ?_
    exact wJ G hm
  rintro v3 hm
  refine cd hm (fun hm => ?_) (fun hm => ?_)
  ·refine X_skip (thN (Ok_seq (Ok_block ?_)))
   obtain ⟨r3, h4, hm⟩ := obind hm
   obtain ⟨r4, h5, hm⟩ := obind hm
   obtain ⟨u1, h6, hm⟩ := obind hm
   refine re G (hN 4 r.1.Lines (hC 5 (s_l1Cur_pick_c h4) (hC 8 (s_l1Cur_pick_c h5) (hA 11 16 h6 h0)))) ?_
   exact ibN (thN (rh G (wL G hm)))
  ·exact Ok_exit (thE (thE (ibE (wD G hm hb))))
 rintro ⟨v4, v5, v6, k1⟩ hm s hw
 refine thN (Ok_weak hw ?_)
 refine Ok_seq (rs G (hN 1 k1 h0) ?_)
 refine cd hm (fun hm => ?_) (fun hm => ?_)
 ·refine rg G ?_
  cases hm
  exact rt [80, 64] []
 ·refine X_skip (thN ?_)
  obtain ⟨r5, h7, hm⟩ := obind hm
  refine rs G (hN 2 k1 (hC 3 (s_l1Cur_pick_c h7) h0)) ?_
  obtain ⟨e, h8, hm⟩ := obind hm
  refine rs G (hD 2 h8 (hE 3 h8 h0)) ?_
  refine jn hm (fun (k2, v7, v8, v9, k3, v10, v11) => ⟨[(0, .ref 0 0), (4, .ref 32 0), (7, .ref 48 0), (8, dV k2), (9, .own 64), (11, dV r5.1), (12, .ref 80 0)], [bX 0 [dV v7, dV v8, kV .u64 v9], bX 32 [.dat (.sc (.slice none 0 0)), .dat (.sc (.slice none 0 0))], bX 48 [.own 96, dV r.1.Lines], aX 64 114 k3, bX 80 [dV v10, dV v11], aX 96 9 r.1.Stops], 128⟩) (fun vv1 hm => ?_) ?_
  ·obtain ⟨r6, h9, hm⟩ := obind hm
   refine rs G (hC 1 (s_l1Cur_pick_c h9) h0) ?_
   refine Ok_block (rg G (cd hm (fun hm => ?_) (fun hm => ?_)))
   ·obtain ⟨r7, h10, hm⟩ := obind hm
    refine re G (hO 2 (.fz [416] [] []) (hC 2 (s_l1Cur_among_c h10) h0)) ?_
    exact ibN (wJ G hm)
   ·refine rg G (cd hm (fun hm => ?_) (fun hm => ?_))
    ·obtain ⟨r8, h11, hm⟩ := obind hm
     refine re G (hO 3 (.fz [464] [] []) (hC 3 (s_l1Cur_among_c h11) h0)) ?_
     exact ibN (wJ G hm)
    ·refine rg G (cd hm (fun hm => ?_) (fun hm => ?_))
     ·obtain ⟨r9, h12, hm⟩ := obind hm
      refine re G (hO 2 (.fz [480] [] []) (hC 2 (s_l1Cur_among_c h12) h0)) ?_
      exact ibN (wJ G hm)
     ·refine rg G (cd hm (fun hm => ?_) (fun hm => ?_))
      ·refine tl hm (fun (v15, v16, v17, k5) => ⟨[(0, .ref 0 0), (4, .ref 32 0), (7, .ref 48 0), (8, dV r1.1), (9, .own 64), (11, dV r5.1), (12, .ref 80 0)], [bX 0 [dV v15, dV v16, kV .u64 v17], bX 32 [.dat (.sc (.slice none 0 0)), .dat (.sc (.slice none 0 0))], bX 48 [.own 96, dV r.1.Lines], aX 64 114 k5, bX 80 [dV e.Line, dV e.Offset], aX 96 9 r.1.Stops], 128⟩) (fun vv hm => ?_) ?_
       ·refine Ok_block (lp G hm (fun (v12, v13, v14, k4) => ⟨[(0, .ref 0 0), (4, .ref 32 0), (7, .ref 48 0), (8, dV r1.1), (9, .own 64), (11, dV r5.1), (12, .ref 80 0)], [bX 0 [dV v12, dV v13, kV .u64 v14], bX 32 [.dat (.sc (.slice none 0 0)), .dat (.sc (.slice none 0 0))], bX 48 [.own 96, dV r.1.Lines], aX 64 114 k4, bX 80 [dV e.Line, dV e.Offset], aX 96 9 r.1.Stops], 128⟩) ?_)
        rintro ⟨v12, v13, v14, k4⟩ r0 hb2 hm
        rw [s_l1Cur_patterns_L2] at hm
        refine Ok_seq ?_
        obtain ⟨r10, h13, hm⟩ := obind hm
        refine rs G (hN 1 k4 (hC 3 (s_l1Cur_pick_c h13) h0)) ?_
        refine cd hm (fun hm => ?_) (fun hm => ?_)
        ·refine X_skip (thN (Ok_block ?_))
         obtain ⟨u2, h14, hm⟩ := obind hm
         refine re G (hA 3 16 h14 h0) ?_
         exact ibN (wL G hm)
        ·exact Ok_exit (thE (thE (ibE (wD G hm hb2))))
       rintro ⟨v15, v16, v17, k5⟩ hm s1 hw1
       exact ibN (wJp hm (Wk.trans hw1 (Wk_J G.hL ⟨[(0, []), (4, []), (7, []), (8, []), (9, []), (11, []), (12, [])], [(0, 0, []), (32, 32, []), (48, 48, []), (64, 64, []), (80, 80, []), (96, 96, [])], [], 128⟩ (by kernel_rfl))))
      ·exact X_skip (ibN (wJ G hm))
  rintro ⟨k2, v7, v8, v9, k3, v10, v11⟩ hm
  obtain ⟨e1, h15, hm⟩ := obind hm
  refine rs G (hD 3 h15 (hS 4 h15 (⟨v10, v11⟩ : Pattern) h0)) ?_
  refine rg G ?_
  cases hm
  exact rt [96, 64] []
noncomputable def s_l1In_M : MS (Int × Int × Int) Bool := ⟨.x .r (.x .r .r), fun x => s_l1In x.1 x.2.1 x.2.2, fun y => dV y, fun _ => [], fun _ _ => []⟩
theorem s_l1In_c {x a b y} (hm : s_l1In x a b = some y) : s_l1In_M.C (x, a, b) y := s_l1In_M.c (x, a, b) hm
theorem s_l1In_ok : FnOK Try.prog 109 s_l1In_M.S := by
 refine fm tt s_l1In_M [] Try.call109 Try.func109 rfl Try.results109 Try.ntmps109 ?_
 rintro ⟨x, a, b⟩ y cx G hm
 have hm : s_l1In x a b = some y := hm
 unfold s_l1In at hm
 refine rg G (jn hm (fun v => ⟨[(6, dV v)], [], 32⟩) (fun v hm => ?_) ?_)
 ·rcases bf hm with ⟨hb, hm⟩ | ⟨hb, hm⟩
  ·refine re G (hO 3 (.b true) (hP hb h0)) ?_
   exact wJ G hm
  ·refine re G (hO 3 (.b false) (hP hb h0)) ?_
   exact wJ G hm
 rintro v hm
 cases hm
 exact rt [] []
noncomputable def s_l2Name_M : MS ByteArray Bool := ⟨.r, s_l2Name, fun y => dV y, fun _ => [], fun _ _ => []⟩
theorem s_l2Name_c {s y} (hm : s_l2Name s = some y) : s_l2Name_M.C s y := s_l2Name_M.c s hm
theorem s_l2Name_ok : FnOK Try.prog 149 s_l2Name_M.S := by
 refine fm tt s_l2Name_M [fo s_l1In_ok] Try.call149 Try.func149 rfl Try.results149 Try.ntmps149 ?_
 rintro s y cx G hm
 have hm : s_l2Name s = some y := hm
 unfold s_l2Name at hm
 refine rg G (Ok_seq ?_)
 obtain ⟨r, h, hm⟩ := obind hm
 refine jn hm (fun v => ⟨[(0, dV s), (17, dV v)], [], 32⟩) (fun v hm => ?_) ?_
 ·rcases bf hm with ⟨hb, hm⟩ | ⟨hb, hm⟩
  ·refine re G (hC 2 (s_l1In_c h) (hO 4 (.b true) (hP hb h0))) ?_
   exact wJ G hm
  ·obtain ⟨u, h1, hm⟩ := obind hm
   rcases bf hm with ⟨hb1, hm⟩ | ⟨hb1, hm⟩
   ·refine re G (hC 2 (s_l1In_c h) (hO 4 (.b false) (hP hb (hK h1 (hO 9 (.b true) (hP hb1 h0)))))) ?_
    exact wJ G hm
   ·obtain ⟨u1, h2, hm⟩ := obind hm
    refine re G (hC 2 (s_l1In_c h) (hO 4 (.b false) (hP hb (hK h1 (hO 9 (.b false) (hP hb1 (hK h2 h0))))))) ?_
    exact wJ G hm
 rintro v hm
 refine cd hm (fun hm => ?_) (fun hm => ?_)
 ·refine rg G ?_
  cases hm
  exact rt [] []
 ·refine X_skip (thN (Ok_seq (rg G (tF hm (fun _ => ⟨[], [], 32⟩) (fun v3 hr hm => ?_) ?_))))
  ·refine Ok_block (lp G hm (fun v1 => ⟨[(0, dV s), (3, dV v1)], [], 32⟩) ?_)
   rintro v1 r0 hb2 hm
   rw [s_l2Name_L1] at hm
   refine Ok_seq (rg G (cd hm (fun hm => ?_) (fun hm => ?_)))
   ·refine X_skip (thN (Ok_seq (Ok_block ?_)))
    obtain ⟨u2, h3, hm⟩ := obind hm
    refine jn hm (fun v2 => ⟨[(0, dV s), (3, dV v1), (45, dV v2)], [], 32⟩) (fun v2 hm => ?_) ?_
    ·rcases bf hm with ⟨hb3, hm⟩ | ⟨hb3, hm⟩
     ·obtain ⟨u3, h4, hm⟩ := obind hm
      rcases bf hm with ⟨hb4, hm⟩ | ⟨hb4, hm⟩
      ·refine re G (hK h3 (hO 4 (.b true) (hP hb3 (hK h4 (hO 15 (.b true) (hP hb4 h0)))))) ?_
       exact wJ G hm
      ·obtain ⟨u4, h5, hm⟩ := obind hm
       refine re G (hK h3 (hO 4 (.b true) (hP hb3 (hK h4 (hO 15 (.b false) (hP hb4 (hK h5 h0))))))) ?_
       exact wJ G hm
     ·obtain ⟨u5, h6, hm⟩ := obind hm
      rcases bf hm with ⟨hb5, hm⟩ | ⟨hb5, hm⟩
      ·obtain ⟨u6, h7, hm⟩ := obind hm
       rcases bf hm with ⟨hb6, hm⟩ | ⟨hb6, hm⟩
       ·refine re G (hK h3 (hO 4 (.b false) (hP hb3 (hK h6 (hO 10 (.b true) (hP hb5 (hK h7 (hO 15 (.b true) (hP hb6 h0))))))))) ?_
        exact wJ G hm
       ·obtain ⟨u7, h8, hm⟩ := obind hm
        refine re G (hK h3 (hO 4 (.b false) (hP hb3 (hK h6 (hO 10 (.b true) (hP hb5 (hK h7 (hO 15 (.b false) (hP hb6 (hK h8 h0)))))))))) ?_
        exact wJ G hm
      ·refine re G (hK h3 (hO 4 (.b false) (hP hb3 (hK h6 (hO 10 (.b false) (hP hb5 h0)))))) ?_
       exact wJ G hm
    rintro v2 hm
    refine cd hm (fun hm => ?_) (fun hm => ?_)
    ·refine rg G ?_
     have hm := eL hm hb2 hr
     cases hm
     exact rt [] []
    ·exact X_skip (ibN (thN (rh G (wL G hm))))
   ·exact Ok_exit (thE (thE (ibE (wE G hm hb2))))
  rintro ⟨⟩ hm s1 hw
  refine thN (Ok_weak hw ?_)
  refine rg G ?_
  cases hm
  exact rt [] []
noncomputable def s_l2Find_M : MS ((List ByteArray) × ByteArray) Int := ⟨.x .r .r, fun x => s_l2Find x.1 x.2, fun y => dV y, fun _ => [], fun _ _ => []⟩
theorem s_l2Find_c {list name y} (hm : s_l2Find list name = some y) : s_l2Find_M.C (list, name) y := s_l2Find_M.c (list, name) hm
theorem s_l2Find_ok : FnOK Try.prog 257 s_l2Find_M.S := by
 refine fm tt s_l2Find_M [] Try.call257 Try.func257 rfl Try.results257 Try.ntmps257 ?_
 rintro ⟨list, name⟩ y cx G hm
 have hm : s_l2Find list name = some y := hm
 unfold s_l2Find at hm
 refine rg G (Ok_seq (rg G (tF hm (fun _ => ⟨[], [], 32⟩) (fun v1 hr hm => ?_) ?_)))
 ·refine Ok_block (lp G hm (fun v => ⟨[(0, dV list), (1, dV name), (5, dV v)], [], 32⟩) ?_)
  rintro v r0 hb hm
  rw [s_l2Find_L1] at hm
  refine Ok_seq (rs G (hN 2 list h0) ?_)
  refine cd hm (fun hm => ?_) (fun hm => ?_)
  ·refine X_skip (thN (Ok_seq (Ok_block ?_)))
   obtain ⟨e, h, hm⟩ := obind hm
   refine rs G (hD 2 h h0) ?_
   refine cd hm (fun hm => ?_) (fun hm => ?_)
   ·refine rg G ?_
    have hm := eL hm hb hr
    cases hm
    exact rt [] []
   ·exact X_skip (ibN (thN (rh G (wL G hm))))
  ·exact Ok_exit (thE (thE (ibE (wE G hm hb))))
 rintro ⟨⟩ hm s hw
 refine thN (Ok_weak hw ?_)
 refine rg G ?_
 cases hm
 exact rt [] []
noncomputable def s_l2Line_M : MS (Line × Int) Bool := ⟨.x .r .r, fun x => s_l2Line x.1 x.2, fun y => dV y, fun _ => [], fun _ _ => []⟩
theorem s_l2Line_c {x stops y} (hm : s_l2Line x stops = some y) : s_l2Line_M.C (x, stops) y := s_l2Line_M.c (x, stops) hm
theorem s_l2Line_ok : FnOK Try.prog 258 s_l2Line_M.S := by
 refine fm tt s_l2Line_M [fo s_l2Name_ok, fo s_l1In_ok, fo s_l2Place_ok] Try.call258 Try.func258 rfl Try.results258 Try.ntmps258 ?_
 rintro ⟨x, stops⟩ y cx G hm
 have hm : s_l2Line x stops = some y := hm
 unfold s_l2Line at hm
 refine rg G (Ok_seq ?_)
 obtain ⟨r, h, hm⟩ := obind hm
 refine jn hm (fun v => ⟨[(1, dV stops), (2, .ref 16 0), (27, dV v)], [bX 16 [dV x.Name, dV x.Stops, dV x.Runs]], 48⟩) (fun v hm => ?_) ?_
 ·rcases bf hm with ⟨hb, hm⟩ | ⟨hb, hm⟩
  ·refine re G (hC 2 (s_l2Name_c h) (hO 4 (.b true) (hP hb h0))) ?_
   exact wJ G hm
  ·obtain ⟨r1, h1, hm⟩ := obind hm
   rcases bf hm with ⟨hb1, hm⟩ | ⟨hb1, hm⟩
   ·refine re G (hC 2 (s_l2Name_c h) (hO 4 (.b false) (hP hb (hN 7 x.Stops (hC 8 (s_l1In_c h1) (hO 11 (.b true) (hP hb1 h0))))))) ?_
    exact wJ G hm
   ·refine re G (hC 2 (s_l2Name_c h) (hO 4 (.b false) (hP hb (hN 7 x.Stops (hC 8 (s_l1In_c h1) (hO 11 (.b false) (hP hb1 (hN 14 x.Runs (hN 17 x.Stops h0))))))))) ?_
    exact wJ G hm
 rintro v hm
 refine cd hm (fun hm => ?_) (fun hm => ?_)
 ·refine rg G ?_
  cases hm
  exact rt [] []
 ·refine X_skip (thN (Ok_seq (rg G (tF hm (fun _ => ⟨[(2, .ref 16 0)], [bX 16 [dV x.Name, dV x.Stops, dV x.Runs]], 48⟩) (fun v5 hr hm => ?_) ?_))))
  ·refine Ok_block (lp G hm (fun v1 => ⟨[(1, dV stops), (2, .ref 16 0), (5, dV v1)], [bX 16 [dV x.Name, dV x.Stops, dV x.Runs]], 48⟩) ?_)
   rintro v1 r0 hb2 hm
   rw [s_l2Line_L1] at hm
   refine Ok_seq (rs G (hN 3 x.Stops h0) ?_)
   refine cd hm (fun hm => ?_) (fun hm => ?_)
   ·refine X_skip (thN (Ok_seq (Ok_block ?_)))
    obtain ⟨e2, h6, hm⟩ := obind hm
    obtain ⟨r4, h7, hm⟩ := obind hm
    refine jn hm (fun v2 => ⟨[(1, dV stops), (2, .ref 16 0), (5, dV v1), (54, dV v2)], [bX 16 [dV x.Name, dV x.Stops, dV x.Runs]], 48⟩) (fun v2 hm => ?_) ?_
    ·rcases bf hm with ⟨hb3, hm⟩ | ⟨hb3, hm⟩
     ·refine de G [] (hD 3 h6 (hC 7 (s_l1In_c h7) (hO 9 (.b true) (hP hb3 h0)))) ?_
      exact wJ G hm
     ·obtain ⟨e3, h8, hm⟩ := obind hm
      obtain ⟨r5, h9, hm⟩ := obind hm
      refine de G [] (hD 3 h6 (hC 7 (s_l1In_c h7) (hO 9 (.b false) (hP hb3 (hD 14 h8 (hC 16 (s_l2Place_c h9) h0)))))) ?_
      exact wJ G hm
    rintro v2 hm
    refine cd hm (fun hm => ?_) (fun hm => ?_)
    ·refine rg G ?_
     have hm := eL hm hb2 hr
     cases hm
     exact rt [] []
    ·exact X_skip (ibN (thN (rh G (wL G hm))))
   ·exact Ok_exit (thE (thE (ibE (wE G hm hb2))))
  rintro ⟨⟩ hm s hw
  refine thN (Ok_weak hw ?_)
  refine Ok_seq (rg G (tF hm (fun _ => ⟨[], [], 32⟩) (fun v4 hr1 hm => ?_) ?_))
  ·refine Ok_block (lp G hm (fun v3 => ⟨[(2, .ref 16 0), (6, dV v3)], [bX 16 [dV x.Name, dV x.Stops, dV x.Runs]], 48⟩) ?_)
   rintro v3 r0 hb4 hm
   rw [s_l2Line_L2] at hm
   refine Ok_seq (rs G (hN 3 x.Runs h0) ?_)
   refine cd hm (fun hm => ?_) (fun hm => ?_)
   ·refine X_skip (thN (Ok_seq (Ok_block ?_)))
    obtain ⟨e5, h10, hm⟩ := obind hm
    obtain ⟨r7, h11, hm⟩ := obind hm
    refine rs G (hD 3 h10 (hC 5 (s_l1In_c h11) h0)) ?_
    refine cd hm (fun hm => ?_) (fun hm => ?_)
    ·refine rg G ?_
     have hm := eL hm hb4 hr1
     cases hm
     exact rt [] []
    ·exact X_skip (ibN (thN (rh G (wL G hm))))
   ·exact Ok_exit (thE (thE (ibE (wE G hm hb4))))
  rintro ⟨⟩ hm s1 hw1
  refine thN (Ok_weak hw1 ?_)
  refine rg G ?_
  cases hm
  exact rt [] []
noncomputable def s_l2LineNamed_M : MS (Network × ByteArray) Int := ⟨.x .r .r, fun x => s_l2LineNamed x.1 x.2, fun y => dV y, fun _ => [], fun _ _ => []⟩
theorem s_l2LineNamed_c {n name y} (hm : s_l2LineNamed n name = some y) : s_l2LineNamed_M.C (n, name) y := s_l2LineNamed_M.c (n, name) hm
theorem s_l2LineNamed_ok : FnOK Try.prog 259 s_l2LineNamed_M.S := by
 refine fm tt s_l2LineNamed_M [] Try.call259 Try.func259 rfl Try.results259 Try.ntmps259 ?_
 rintro ⟨n, name⟩ y cx G hm
 have hm : s_l2LineNamed n name = some y := hm
 unfold s_l2LineNamed at hm
 refine rg G (Ok_seq (rg G (tF hm (fun _ => ⟨[], [], 32⟩) (fun v1 hr hm => ?_) ?_)))
 ·refine Ok_block (lp G hm (fun v => ⟨[(1, dV name), (2, .ref 16 0), (5, dV v)], [bX 16 [dV n.Stops, dV n.Lines]], 48⟩) ?_)
  rintro v r0 hb hm
  rw [s_l2LineNamed_L1] at hm
  refine Ok_seq (rs G (hN 3 n.Lines h0) ?_)
  refine cd hm (fun hm => ?_) (fun hm => ?_)
  ·refine X_skip (thN (Ok_seq (Ok_block ?_)))
   obtain ⟨e, h, hm⟩ := obind hm
   refine rs G (hD 3 h h0) ?_
   refine cd hm (fun hm => ?_) (fun hm => ?_)
   ·refine rg G ?_
    have hm := eL hm hb hr
    cases hm
    exact rt [] []
   ·exact X_skip (ibN (thN (rh G (wL G hm))))
  ·exact Ok_exit (thE (thE (ibE (wE G hm hb))))
 rintro ⟨⟩ hm s hw
 refine thN (Ok_weak hw ?_)
 refine rg G ?_
 cases hm
 exact rt [] []
noncomputable def s_l2Good_M : MS Network Bool := ⟨.r, s_l2Good, fun y => dV y, fun _ => [], fun _ _ => []⟩
theorem s_l2Good_c {n y} (hm : s_l2Good n = some y) : s_l2Good_M.C n y := s_l2Good_M.c n hm
theorem s_l2Good_ok : FnOK Try.prog 216 s_l2Good_M.S := by
 refine fm tt s_l2Good_M [fo s_l1In_ok, fo s_l2Name_ok, fo s_l2Find_ok, fo s_l2Line_ok, fo s_l2LineNamed_ok] Try.call216 Try.func216 rfl Try.results216 Try.ntmps216 ?_
 rintro n y cx G hm
 have hm : s_l2Good n = some y := hm
 unfold s_l2Good at hm
 refine rg G (Ok_seq ?_)
 obtain ⟨r, h, hm⟩ := obind hm
 refine jn hm (fun v => ⟨[(1, .ref 16 0), (16, dV v)], [bX 16 [dV n.Stops, dV n.Lines]], 48⟩) (fun v hm => ?_) ?_
 ·rcases bf hm with ⟨hb, hm⟩ | ⟨hb, hm⟩
  ·refine re G (hN 2 n.Stops (hC 3 (s_l1In_c h) (hO 5 (.b true) (hP hb h0)))) ?_
   exact wJ G hm
  ·obtain ⟨r1, h1, hm⟩ := obind hm
   refine re G (hN 2 n.Stops (hC 3 (s_l1In_c h) (hO 5 (.b false) (hP hb (hN 8 n.Lines (hC 9 (s_l1In_c h1) h0)))))) ?_
   exact wJ G hm
 rintro v hm
 refine cd hm (fun hm => ?_) (fun hm => ?_)
 ·refine rg G ?_
  cases hm
  exact rt [] []
 ·refine X_skip (thN (Ok_seq (rg G (tF hm (fun _ => ⟨[(1, .ref 16 0)], [bX 16 [dV n.Stops, dV n.Lines]], 48⟩) (fun v5 hr hm => ?_) ?_))))
  ·refine Ok_block (lp G hm (fun i => ⟨[(1, .ref 16 0), (3, dV i)], [bX 16 [dV n.Stops, dV n.Lines]], 48⟩) ?_)
   rintro i r0 hb1 hm
   rw [s_l2Good_L1] at hm
   refine Ok_seq (rs G (hN 3 n.Stops h0) ?_)
   refine cd hm (fun hm => ?_) (fun hm => ?_)
   ·refine X_skip (thN (Ok_seq (Ok_block ?_)))
    obtain ⟨e2, h6, hm⟩ := obind hm
    obtain ⟨r4, h7, hm⟩ := obind hm
    refine jn hm (fun v1 => ⟨[(1, .ref 16 0), (3, dV i), (42, dV v1)], [bX 16 [dV n.Stops, dV n.Lines]], 48⟩) (fun v1 hm => ?_) ?_
    ·rcases bf hm with ⟨hb2, hm⟩ | ⟨hb2, hm⟩
     ·refine de G [] (hD 3 h6 (hC 5 (s_l2Name_c h7) (hO 7 (.b true) (hP hb2 h0)))) ?_
      exact wJ G hm
     ·obtain ⟨e3, h8, hm⟩ := obind hm
      obtain ⟨r5, h9, hm⟩ := obind hm
      refine de G [] (hD 3 h6 (hC 5 (s_l2Name_c h7) (hO 7 (.b false) (hP hb2 (hD 13 h8 (hC 15 (s_l2Find_c h9) h0)))))) ?_
      exact wJ G hm
    rintro v1 hm
    refine cd hm (fun hm => ?_) (fun hm => ?_)
    ·refine rg G ?_
     have hm := eL hm hb1 hr
     cases hm
     exact rt [] []
    ·exact X_skip (ibN (thN (rh G (wL G hm))))
   ·exact Ok_exit (thE (thE (ibE (wE G hm hb1))))
  rintro ⟨⟩ hm s hw
  refine thN (Ok_weak hw ?_)
  refine Ok_seq (rg G (tF hm (fun _ => ⟨[], [], 32⟩) (fun v4 hr1 hm => ?_) ?_))
  ·refine Ok_block (lp G hm (fun v2 => ⟨[(1, .ref 16 0), (4, dV v2)], [bX 16 [dV n.Stops, dV n.Lines]], 48⟩) ?_)
   rintro v2 r0 hb3 hm
   rw [s_l2Good_L2] at hm
   refine Ok_seq (rs G (hN 3 n.Lines h0) ?_)
   refine cd hm (fun hm => ?_) (fun hm => ?_)
   ·refine X_skip (thN (Ok_seq (Ok_block ?_)))
    obtain ⟨e7, h14, hm⟩ := obind hm
    obtain ⟨r9, h15, hm⟩ := obind hm
    refine jn hm (fun v3 => ⟨[(1, .ref 16 0), (4, dV v2), (71, dV v3)], [bX 16 [dV n.Stops, dV n.Lines]], 48⟩) (fun v3 hm => ?_) ?_
    ·rcases bf hm with ⟨hb4, hm⟩ | ⟨hb4, hm⟩
     ·refine de G [] (hD 3 h14 (hN 7 n.Stops (hC 8 (s_l2Line_c h15) (hO 10 (.b true) (hP hb4 h0))))) ?_
      exact wJ G hm
     ·obtain ⟨e8, h16, hm⟩ := obind hm
      obtain ⟨r10, h17, hm⟩ := obind hm
      refine de G [] (hD 3 h14 (hN 7 n.Stops (hC 8 (s_l2Line_c h15) (hO 10 (.b false) (hP hb4 (hD 15 h16 (hC 18 (s_l2LineNamed_c h17) h0))))))) ?_
      exact wJ G hm
    rintro v3 hm
    refine cd hm (fun hm => ?_) (fun hm => ?_)
    ·refine rg G ?_
     have hm := eL hm hb3 hr1
     cases hm
     exact rt [] []
    ·exact X_skip (ibN (thN (rh G (wL G hm))))
   ·exact Ok_exit (thE (thE (ibE (wE G hm hb3))))
  rintro ⟨⟩ hm s1 hw1
  refine thN (Ok_weak hw1 ?_)
  refine rg G ?_
  cases hm
  exact rt [] []
noncomputable def s_l1Cur_stop10_w_M : MS (l1Cur × Network × (List Pattern)) (Int × l1Cur) := ⟨.x .b (.x .r (.s 114)), fun x => s_l1Cur_stop10_w x.1 x.2.1 x.2.2, fun y => dV y.1, fun _ => [], fun x y => [bxO y.2, arO 114 x.2.2]⟩
theorem s_l1Cur_stop10_w_c {c n list y} (hm : s_l1Cur_stop10_w c n list = some y) : s_l1Cur_stop10_w_M.C (c, n, list) y := s_l1Cur_stop10_w_M.c (c, n, list) hm
theorem s_l1Cur_stop10_w_ok : FnOK Try.prog 187 s_l1Cur_stop10_w_M.S := by
 refine fm tt s_l1Cur_stop10_w_M [fo s_l2Good_ok, fo s_l1Cur_one_ok, fo s_l1Cur_pick_ok, fo s_l1In_ok] Try.call187 Try.func187 rfl Try.results187 Try.ntmps187 ?_
 rintro ⟨c, n, list⟩ y cx G hm
 have hm : s_l1Cur_stop10_w c n list = some y := hm
 unfold s_l1Cur_stop10_w at hm
 refine rg G (jF hm (fun (v, v1, v2) => ⟨[(0, .ref 0 0), (2, .own 1), (4, .ref 32 0)], [bX 0 [dV v, dV v1, kV .u64 v2], aX 1 114 list, bX 32 [dV n.Stops, dV n.Lines]], 64⟩) (fun v7 hr hm => ?_) ?_)
 ·refine jn hm (fun (v3, v4, v5, v6) => ⟨[(0, .ref 0 0), (2, .own 1), (4, .ref 32 0), (19, dV v3)], [bX 0 [dV v4, dV v5, kV .u64 v6], aX 1 114 list, bX 32 [dV n.Stops, dV n.Lines]], 64⟩) (fun vv hm => ?_) ?_
  ·rcases bf hm with ⟨hb, hm⟩ | ⟨hb, hm⟩
   ·obtain ⟨r, h, hm⟩ := obind hm
    rcases bf hm with ⟨hb1, hm⟩ | ⟨hb1, hm⟩
    ·obtain ⟨r1, h1, hm⟩ := obind hm
     refine re G (hN 1 list (hO 3 (.b true) (hP hb (hC 5 (s_l2Good_c h) (hO 7 (.b true) (hP hb1 (hC 9 (s_l1Cur_one_c h1) h0))))))) ?_
     exact wJ G hm
    ·refine re G (hN 1 list (hO 3 (.b true) (hP hb (hC 5 (s_l2Good_c h) (hO 7 (.b false) (hP hb1 h0)))))) ?_
     exact wJ G hm
   ·refine re G (hN 1 list (hO 3 (.b false) (hP hb h0))) ?_
    exact wJ G hm
  rintro ⟨v3, v4, v5, v6⟩ hm
  refine cd hm (fun hm => ?_) (fun hm => ?_)
  ·obtain ⟨r2, h2, hm⟩ := obind hm
   obtain ⟨e, h3, hm⟩ := obind hm
   refine rs G (hN 3 list (hC 4 (s_l1Cur_pick_c h2) (hD 5 h3 (hE 6 h3 h0)))) ?_
   obtain ⟨r3, h4, hm⟩ := obind hm
   refine rs G (hN 4 n.Lines (hC 6 (s_l1In_c h4) h0)) ?_
   refine cd hm (fun hm => ?_) (fun hm => ?_)
   ·obtain ⟨e4, h9, hm⟩ := obind hm
    obtain ⟨e5, h10, hm⟩ := obind hm
    obtain ⟨r5, h11, hm⟩ := obind hm
    obtain ⟨e6, h12, hm⟩ := obind hm
    refine ds G [(16, [0])] (hD 4 h9 (hD 12 h10 (hN 15 e5.Stops (hC 16 (s_l1Cur_pick_c h11) (hD 17 h12 h0))))) ?_
    have hm := eR hm hr
    cases hm
    exact rt [] []
   ·exact X_skip (wF G hm)
  ·exact X_skip (wF G hm)
 rintro ⟨v, v1, v2⟩ hm
 obtain ⟨r7, h13, hm⟩ := obind hm
 obtain ⟨r8, h14, hm⟩ := obind hm
 obtain ⟨u, h15, hm⟩ := obind hm
 refine rs G (hN 3 n.Stops (hC 5 (s_l1Cur_pick_c h13) (hC 7 (s_l1Cur_pick_c h14) (hK h15 h0)))) ?_
 cases hm
 exact rt [] []
noncomputable def s_DrawPassingRests_M : MS ((List UInt8)) (Network × Int × (List Pattern) × Int) := ⟨.r, s_DrawPassingRests, fun y => .tup [dV y.1, dV y.2.1, .own 0, dV y.2.2.2], fun y => [arO 114 y.2.2.1], fun _ _ => []⟩
theorem s_DrawPassingRests_c {code y} (hm : s_DrawPassingRests code = some y) : s_DrawPassingRests_M.C code y := s_DrawPassingRests_M.c code hm
theorem s_DrawPassingRests_ok : FnOK Try.prog 165 s_DrawPassingRests_M.S := by
 refine fm tt s_DrawPassingRests_M [fo s_l1Cur_patterns_ok, fo s_l1Cur_stop10_w_ok] Try.call165 Try.func165 rfl Try.results165 Try.ntmps165 ?_
 rintro code y cx G hm
 have hm : s_DrawPassingRests code = some y := hm
 unfold s_DrawPassingRests at hm
 refine rg G (rg G ?_)
 obtain ⟨r, h, hm⟩ := obind hm
 refine rs G (hC 1 (s_l1Cur_patterns_c h) h0) ?_
 refine Ok_weak (Wk_J (x' := (⟨[(2, .ref 16 0), (6, .ref 32 0), (7, .ref 48 0), (8, dV r.2.1), (9, .own 64)], [bX 16 [.dat (.sc (.slice none 0 0)), .dat (.sc (.slice none 0 0))], bX 32 [dV r.2.2.2.code_, dV r.2.2.2.at_, kV .u64 r.2.2.2.seed_.v], bX 48 [dV r.1.Stops, dV r.1.Lines], aX 64 114 r.2.2.1], 96⟩ : X)) G.hL ⟨[(2, []), (6, []), (7, []), (8, []), (9, [])], [(16, 16, []), (32, 112, []), (48, 240, []), (64, 161, [])], [], 96⟩ (by kernel_rfl)) ?_
 obtain ⟨r2, h2, hm⟩ := obind hm
 refine ds G [(6, [32, 64]), (7, [16])] (hC 6 (s_l1Cur_stop10_w_c h2) h0) ?_
 cases hm
 exact rt [64] []
noncomputable def s_DrawGapsAt_M : MS ((List UInt8)) (Network × Int × (List Pattern) × Int) := ⟨.r, s_DrawGapsAt, fun y => .tup [dV y.1, dV y.2.1, .own 0, dV y.2.2.2], fun y => [arO 114 y.2.2.1], fun _ _ => []⟩
theorem s_DrawGapsAt_c {code y} (hm : s_DrawGapsAt code = some y) : s_DrawGapsAt_M.C code y := s_DrawGapsAt_M.c code hm
theorem s_DrawGapsAt_ok : FnOK Try.prog 62 s_DrawGapsAt_M.S := by
 refine fm tt s_DrawGapsAt_M [fo s_DrawPassingRests_ok] Try.call62 Try.func62 rfl Try.results62 Try.ntmps62 ?_
 rintro code y cx G hm
 have hm : s_DrawGapsAt code = some y := hm
 unfold s_DrawGapsAt at hm
 refine rg G ?_
 obtain ⟨r, h, hm⟩ := obind hm
 refine rs G (hC 1 (s_DrawPassingRests_c h) h0) ?_
 cases hm
 exact rt [96] []
noncomputable def i_within_M : MS (Int × Int × Int) Bool := ⟨.x .r (.x .r .r), fun x => i_within x.1 x.2.1 x.2.2, fun y => dV y, fun _ => [], fun _ _ => []⟩
theorem i_within_c {n lo hi y} (hm : i_within n lo hi = some y) : i_within_M.C (n, lo, hi) y := i_within_M.c (n, lo, hi) hm
theorem i_within_ok : FnOK Try.prog 104 i_within_M.S := by
 refine fm tt i_within_M [] Try.call104 Try.func104 rfl Try.results104 Try.ntmps104 ?_
 rintro ⟨n, lo, hi⟩ y cx G hm
 have hm : i_within n lo hi = some y := hm
 unfold i_within at hm
 refine rg G (jn hm (fun v => ⟨[(6, dV v)], [], 32⟩) (fun v hm => ?_) ?_)
 ·rcases bf hm with ⟨hb, hm⟩ | ⟨hb, hm⟩
  ·refine re G (hO 3 (.b true) (hP hb h0)) ?_
   exact wJ G hm
  ·refine re G (hO 3 (.b false) (hP hb h0)) ?_
   exact wJ G hm
 rintro v hm
 cases hm
 exact rt [] []
noncomputable def i_isName_M : MS ByteArray Bool := ⟨.r, i_isName, fun y => dV y, fun _ => [], fun _ _ => []⟩
theorem i_isName_c {s y} (hm : i_isName s = some y) : i_isName_M.C s y := i_isName_M.c s hm
theorem i_isName_ok : FnOK Try.prog 148 i_isName_M.S := by
 refine fm tt i_isName_M [] Try.call148 Try.func148 rfl Try.results148 Try.ntmps148 ?_
 rintro s y cx G hm
 have hm : i_isName s = some y := hm
 unfold i_isName at hm
 refine rg G (Ok_seq (jn hm (fun v => ⟨[(0, dV s), (12, dV v)], [], 32⟩) (fun v hm => ?_) ?_))
 ·rcases bf hm with ⟨hb, hm⟩ | ⟨hb, hm⟩
  ·refine re G (hO 3 (.b true) (hP hb h0)) ?_
   exact wJ G hm
  ·refine re G (hO 3 (.b false) (hP hb h0)) ?_
   exact wJ G hm
 rintro v hm
 refine cd hm (fun hm => ?_) (fun hm => ?_)
 ·refine rg G ?_
  cases hm
  exact rt [] []
 ·refine X_skip (thN (Ok_seq (rg G (tF hm (fun _ => ⟨[], [], 32⟩) (fun v4 hr hm => ?_) ?_))))
  ·refine Ok_block (lp G hm (fun v1 => ⟨[(0, dV s), (14, dV (s.size : Int)), (15, dV v1)], [], 32⟩) ?_)
   rintro v1 r0 hb1 hm
   rw [i_isName_L1] at hm
   refine rg G (Ok_seq (cd hm (fun hm => ?_) (fun hm => ?_)))
   ·refine X_skip (thN (Ok_seq (Ok_block (rg G ?_))))
    obtain ⟨u, h, hm⟩ := obind hm
    refine jn hm (fun v2 => ⟨[(0, dV s), (3, dV v1), (4, dV v2), (14, dV (s.size : Int)), (15, dV v1)], [], 32⟩) (fun v2 hm => ?_) ?_
    ·rcases bf hm with ⟨hb2, hm⟩ | ⟨hb2, hm⟩
     ·obtain ⟨u1, h1, hm⟩ := obind hm
      refine re G (hK h (hO 4 (.b true) (hP hb2 (hK h1 h0)))) ?_
      exact wJ G hm
     ·refine re G (hK h (hO 4 (.b false) (hP hb2 h0))) ?_
      exact wJ G hm
    rintro v2 hm
    refine jn hm (fun v3 => ⟨[(0, dV s), (14, dV (s.size : Int)), (15, dV v1), (45, dV v3)], [], 32⟩) (fun v3 hm => ?_) ?_
    ·rcases bf hm with ⟨hb3, hm⟩ | ⟨hb3, hm⟩
     ·rcases bf hm with ⟨hb4, hm⟩ | ⟨hb4, hm⟩
      ·refine re G (hO 2 (.b true) (hP hb3 (hO 5 (.b true) (hP hb4 h0)))) ?_
       exact wJ G hm
      ·obtain ⟨u2, h2, hm⟩ := obind hm
       rcases bf hm with ⟨hb5, hm⟩ | ⟨hb5, hm⟩
       ·refine re G (hO 2 (.b true) (hP hb3 (hO 5 (.b false) (hP hb4 (hK h2 (hO 11 (.b true) (hP hb5 h0))))))) ?_
        exact wJ G hm
       ·obtain ⟨u3, h3, hm⟩ := obind hm
        refine re G (hO 2 (.b true) (hP hb3 (hO 5 (.b false) (hP hb4 (hK h2 (hO 11 (.b false) (hP hb5 (hK h3 h0)))))))) ?_
        exact wJ G hm
     ·refine re G (hO 2 (.b false) (hP hb3 h0)) ?_
      exact wJ G hm
    rintro v3 hm
    refine cd hm (fun hm => ?_) (fun hm => ?_)
    ·refine rg G ?_
     have hm := eL hm hb1 hr
     cases hm
     exact rt [] []
    ·exact X_skip (ibN (thN (rh G (wL G hm))))
   ·exact Ok_exit (thE (thE (ibE (wE G hm hb1))))
  rintro ⟨⟩ hm s1 hw
  refine thN (Ok_weak hw ?_)
  refine rg G ?_
  cases hm
  exact rt [] []
noncomputable def slices_Index_string_M : MS ((List ByteArray) × ByteArray) Int := ⟨.x .r .r, fun x => slices_Index_string x.1 x.2, fun y => dV y, fun _ => [], fun _ _ => []⟩
theorem slices_Index_string_c {s v y} (hm : slices_Index_string s v = some y) : slices_Index_string_M.C (s, v) y := slices_Index_string_M.c (s, v) hm
theorem slices_Index_string_ok : FnOK Try.prog 260 slices_Index_string_M.S := by
 refine fm tt slices_Index_string_M [] Try.call260 Try.func260 rfl Try.results260 Try.ntmps260 ?_
 rintro ⟨s, v⟩ y cx G hm
 have hm : slices_Index_string s v = some y := hm
 unfold slices_Index_string at hm
 refine rg G (Ok_seq (rs G (hN 1 s h0) ?_))
 refine tF hm (fun _ => ⟨[], [], 32⟩) (fun v2 hr hm => ?_) ?_
 ·refine Ok_block (lp G hm (fun v1 => ⟨[(0, dV s), (1, dV v), (7, dV (s.length : Int)), (8, dV v1)], [], 32⟩) ?_)
  rintro v1 r0 hb hm
  rw [slices_Index_string_L1] at hm
  refine rg G (Ok_seq (cd hm (fun hm => ?_) (fun hm => ?_)))
  ·refine X_skip (thN (Ok_seq (Ok_block (rg G ?_))))
   obtain ⟨e, h, hm⟩ := obind hm
   refine rs G (hD 3 h h0) ?_
   refine cd hm (fun hm => ?_) (fun hm => ?_)
   ·refine rg G ?_
    have hm := eL hm hb hr
    cases hm
    exact rt [] []
   ·exact X_skip (ibN (thN (rh G (wL G hm))))
  ·exact Ok_exit (thE (thE (ibE (wE G hm hb))))
 rintro ⟨⟩ hm s1 hw
 refine thN (Ok_weak hw ?_)
 refine rg G ?_
 cases hm
 exact rt [] []
noncomputable def i_areNames_M : MS ((List ByteArray)) Bool := ⟨.r, i_areNames, fun y => dV y, fun _ => [], fun _ _ => []⟩
theorem i_areNames_c {names y} (hm : i_areNames names = some y) : i_areNames_M.C names y := i_areNames_M.c names hm
theorem i_areNames_ok : FnOK Try.prog 218 i_areNames_M.S := by
 refine fm tt i_areNames_M [fo i_isName_ok, fo slices_Index_string_ok] Try.call218 Try.func218 rfl Try.results218 Try.ntmps218 ?_
 rintro names y cx G hm
 have hm : i_areNames names = some y := hm
 unfold i_areNames at hm
 refine rg G (Ok_seq (rs G (hN 1 names h0) ?_))
 refine tF hm (fun _ => ⟨[], [], 32⟩) (fun v2 hr hm => ?_) ?_
 ·refine Ok_block (lp G hm (fun v => ⟨[(0, dV names), (5, dV names), (6, dV (names.length : Int)), (7, dV v)], [], 32⟩) ?_)
  rintro v r0 hb hm
  rw [i_areNames_L1] at hm
  refine rg G (Ok_seq (cd hm (fun hm => ?_) (fun hm => ?_)))
  ·refine X_skip (thN (Ok_seq (Ok_block ?_)))
   obtain ⟨e, h, hm⟩ := obind hm
   refine rs G (hD 1 h h0) ?_
   obtain ⟨r, h1, hm⟩ := obind hm
   refine jn hm (fun v1 => ⟨[(0, dV names), (5, dV names), (6, dV (names.length : Int)), (7, dV v), (21, dV v1)], [], 32⟩) (fun v1 hm => ?_) ?_
   ·rcases bf hm with ⟨hb1, hm⟩ | ⟨hb1, hm⟩
    ·refine re G (hC 1 (i_isName_c h1) (hO 3 (.b true) (hP hb1 h0))) ?_
     exact wJ G hm
    ·obtain ⟨r1, h2, hm⟩ := obind hm
     refine re G (hC 1 (i_isName_c h1) (hO 3 (.b false) (hP hb1 (hC 6 (slices_Index_string_c h2) h0)))) ?_
     exact wJ G hm
   rintro v1 hm
   refine cd hm (fun hm => ?_) (fun hm => ?_)
   ·refine rg G ?_
    have hm := eL hm hb hr
    cases hm
    exact rt [] []
   ·exact X_skip (ibN (thN (rh G (wL G hm))))
  ·exact Ok_exit (thE (thE (ibE (wE G hm hb))))
 rintro ⟨⟩ hm s hw
 refine thN (Ok_weak hw ?_)
 refine rg G ?_
 cases hm
 exact rt [] []
noncomputable def i_lineNames_M : MS Network ((List ByteArray)) := ⟨.r, i_lineNames, fun _ => .own 0, fun y => [arO 9 y], fun _ _ => []⟩
theorem i_lineNames_c {n y} (hm : i_lineNames n = some y) : i_lineNames_M.C n y := i_lineNames_M.c n hm
theorem i_lineNames_ok : FnOK Try.prog 219 i_lineNames_M.S := by
 refine fm tt i_lineNames_M [] Try.call219 Try.func219 rfl Try.results219 Try.ntmps219 ?_
 rintro n y cx G hm
 have hm : i_lineNames n = some y := hm
 unfold i_lineNames at hm
 refine rg G ?_
 obtain ⟨u, h, hm⟩ := obind hm
 refine rs G (hN 2 n.Lines (hO 3 (.l (List.map Enc.e (List.replicate (n.Lines.length : Int).toNat (ByteArray.empty : ByteArray)))) (hP (mk_p (b := 16) (chk_t h) rfl) (hP (rep_m Enc.e (n.Lines.length : Int).toNat (ByteArray.empty : ByteArray)) h0)))) ?_
 refine Ok_seq (rs G (hN 2 n.Lines h0) ?_)
 refine tl hm (fun i1 => ⟨[(3, .own 16)], [aX 16 9 i1], 48⟩) (fun i1 hm => ?_) ?_
 ·refine Ok_block (lp G hm (fun (v, i) => ⟨[(3, .own 16), (11, dV n.Lines), (12, dV (n.Lines.length : Int)), (13, dV v)], [aX 16 9 i], 48⟩) ?_)
  rintro ⟨v, i⟩ r0 hb hm
  rw [i_lineNames_L1] at hm
  refine rg G (Ok_seq (cd hm (fun hm => ?_) (fun hm => ?_)))
  ·refine X_skip (thN (Ok_seq (Ok_block ?_)))
   obtain ⟨e, h1, hm⟩ := obind hm
   refine rs G (hD 1 h1 h0) ?_
   obtain ⟨e1, h2, hm⟩ := obind hm
   refine re G (hD 4 h2 (hS 5 h2 e.Name h0)) ?_
   exact ibN (thN (rh G (wL G hm)))
  ·exact Ok_exit (thE (thE (ibE (wD G hm hb))))
 rintro i1 hm s hw
 refine thN (Ok_weak hw ?_)
 refine rg G ?_
 cases hm
 exact rt [16] []
noncomputable def i_isStop_M : MS (Network × Int) Bool := ⟨.x .r .r, fun x => i_isStop x.1 x.2, fun y => dV y, fun _ => [], fun _ _ => []⟩
theorem i_isStop_c {n stop y} (hm : i_isStop n stop = some y) : i_isStop_M.C (n, stop) y := i_isStop_M.c (n, stop) hm
theorem i_isStop_ok : FnOK Try.prog 113 i_isStop_M.S := by
 refine fm tt i_isStop_M [] Try.call113 Try.func113 rfl Try.results113 Try.ntmps113 ?_
 rintro ⟨n, stop⟩ y cx G hm
 have hm : i_isStop n stop = some y := hm
 unfold i_isStop at hm
 refine rg G (jn hm (fun v => ⟨[(4, dV v)], [], 32⟩) (fun v hm => ?_) ?_)
 ·rcases bf hm with ⟨hb, hm⟩ | ⟨hb, hm⟩
  ·refine re G (hO 2 (.b true) (hP hb (hN 6 n.Stops h0))) ?_
   exact wJ G hm
  ·refine re G (hO 2 (.b false) (hP hb h0)) ?_
   exact wJ G hm
 rintro v hm
 cases hm
 exact rt [] []
noncomputable def slices_Index_int_M : MS ((List Int) × Int) Int := ⟨.x .r .r, fun x => slices_Index_int x.1 x.2, fun y => dV y, fun _ => [], fun _ _ => []⟩
theorem slices_Index_int_c {s v y} (hm : slices_Index_int s v = some y) : slices_Index_int_M.C (s, v) y := slices_Index_int_M.c (s, v) hm
theorem slices_Index_int_ok : FnOK Try.prog 116 slices_Index_int_M.S := by
 refine fm tt slices_Index_int_M [] Try.call116 Try.func116 rfl Try.results116 Try.ntmps116 ?_
 rintro ⟨s, v⟩ y cx G hm
 have hm : slices_Index_int s v = some y := hm
 unfold slices_Index_int at hm
 refine rg G (Ok_seq (rs G (hN 1 s h0) ?_))
 refine tF hm (fun _ => ⟨[], [], 32⟩) (fun v2 hr hm => ?_) ?_
 ·refine Ok_block (lp G hm (fun v1 => ⟨[(0, dV s), (1, dV v), (7, dV (s.length : Int)), (8, dV v1)], [], 32⟩) ?_)
  rintro v1 r0 hb hm
  rw [slices_Index_int_L1] at hm
  refine rg G (Ok_seq (cd hm (fun hm => ?_) (fun hm => ?_)))
  ·refine X_skip (thN (Ok_seq (Ok_block (rg G ?_))))
   obtain ⟨e, h, hm⟩ := obind hm
   refine rs G (hD 3 h h0) ?_
   refine cd hm (fun hm => ?_) (fun hm => ?_)
   ·refine rg G ?_
    have hm := eL hm hb hr
    cases hm
    exact rt [] []
   ·exact X_skip (ibN (thN (rh G (wL G hm))))
  ·exact Ok_exit (thE (thE (ibE (wE G hm hb))))
 rintro ⟨⟩ hm s1 hw
 refine thN (Ok_weak hw ?_)
 refine rg G ?_
 cases hm
 exact rt [] []
noncomputable def i_isValidLine_M : MS (Network × Line) Bool := ⟨.x .r .r, fun x => i_isValidLine x.1 x.2, fun y => dV y, fun _ => [], fun _ _ => []⟩
theorem i_isValidLine_c {n l y} (hm : i_isValidLine n l = some y) : i_isValidLine_M.C (n, l) y := i_isValidLine_M.c (n, l) hm
theorem i_isValidLine_ok : FnOK Try.prog 220 i_isValidLine_M.S := by
 refine fm tt i_isValidLine_M [fo i_within_ok, fo i_isStop_ok, fo slices_Index_int_ok] Try.call220 Try.func220 rfl Try.results220 Try.ntmps220 ?_
 rintro ⟨n, l⟩ y cx G hm
 have hm : i_isValidLine n l = some y := hm
 unfold i_isValidLine at hm
 refine rg G (Ok_seq ?_)
 obtain ⟨r, h, hm⟩ := obind hm
 refine jn hm (fun v => ⟨[(2, .ref 16 0), (3, .ref 32 0), (23, dV v)], [bX 16 [dV n.Stops, dV n.Lines], bX 32 [dV l.Name, dV l.Stops, dV l.Runs]], 64⟩) (fun v hm => ?_) ?_
 ·rcases bf hm with ⟨hb, hm⟩ | ⟨hb, hm⟩
  ·refine re G (hN 2 l.Stops (hC 3 (i_within_c h) (hO 5 (.b true) (hP hb h0)))) ?_
   exact wJ G hm
  ·refine re G (hN 2 l.Stops (hC 3 (i_within_c h) (hO 5 (.b false) (hP hb (hN 8 l.Runs (hN 11 l.Stops h0)))))) ?_
   exact wJ G hm
 rintro v hm
 refine cd hm (fun hm => ?_) (fun hm => ?_)
 ·refine rg G ?_
  cases hm
  exact rt [] []
 ·refine X_skip (thN (Ok_seq (rs G (hN 2 l.Stops h0) ?_)))
  refine tF hm (fun _ => ⟨[(3, .ref 16 0)], [bX 16 [dV l.Name, dV l.Stops, dV l.Runs]], 48⟩) (fun v5 hr hm => ?_) ?_
  ·refine Ok_block (lp G hm (fun v1 => ⟨[(2, .ref 16 0), (3, .ref 32 0), (25, dV l.Stops), (26, dV (l.Stops.length : Int)), (27, dV v1)], [bX 16 [dV n.Stops, dV n.Lines], bX 32 [dV l.Name, dV l.Stops, dV l.Runs]], 64⟩) ?_)
   rintro v1 r0 hb1 hm
   rw [i_isValidLine_L1] at hm
   refine rg G (Ok_seq (cd hm (fun hm => ?_) (fun hm => ?_)))
   ·refine X_skip (thN (Ok_seq (Ok_block ?_)))
    obtain ⟨e, h1, hm⟩ := obind hm
    refine rs G (hD 1 h1 h0) ?_
    obtain ⟨r1, h2, hm⟩ := obind hm
    refine jn hm (fun v2 => ⟨[(2, .ref 16 0), (3, .ref 32 0), (25, dV l.Stops), (26, dV (l.Stops.length : Int)), (27, dV v1), (43, dV v2)], [bX 16 [dV n.Stops, dV n.Lines], bX 32 [dV l.Name, dV l.Stops, dV l.Runs]], 64⟩) (fun v2 hm => ?_) ?_
    ·rcases bf hm with ⟨hb2, hm⟩ | ⟨hb2, hm⟩
     ·refine re G (hC 2 (i_isStop_c h2) (hO 4 (.b true) (hP hb2 h0))) ?_
      exact wJ G hm
     ·obtain ⟨r2, h3, hm⟩ := obind hm
      refine re G (hC 2 (i_isStop_c h2) (hO 4 (.b false) (hP hb2 (hC 8 (slices_Index_int_c h3) h0)))) ?_
      exact wJ G hm
    rintro v2 hm
    refine cd hm (fun hm => ?_) (fun hm => ?_)
    ·refine rg G ?_
     have hm := eL hm hb1 hr
     cases hm
     exact rt [] []
    ·exact X_skip (ibN (thN (rh G (wL G hm))))
   ·exact Ok_exit (thE (thE (ibE (wE G hm hb1))))
  rintro ⟨⟩ hm s hw
  refine thN (Ok_weak hw ?_)
  refine Ok_seq (rs G (hN 2 l.Runs h0) ?_)
  refine tF hm (fun _ => ⟨[], [], 32⟩) (fun v4 hr1 hm => ?_) ?_
  ·refine Ok_block (lp G hm (fun v3 => ⟨[(46, dV l.Runs), (47, dV (l.Runs.length : Int)), (48, dV v3)], [], 32⟩) ?_)
   rintro v3 r0 hb3 hm
   rw [i_isValidLine_L2] at hm
   refine rg G (Ok_seq (cd hm (fun hm => ?_) (fun hm => ?_)))
   ·refine X_skip (thN (Ok_seq (Ok_block ?_)))
    obtain ⟨e2, h4, hm⟩ := obind hm
    refine rs G (hD 0 h4 h0) ?_
    obtain ⟨r4, h5, hm⟩ := obind hm
    refine rs G (hC 1 (i_within_c h5) h0) ?_
    refine cd hm (fun hm => ?_) (fun hm => ?_)
    ·refine rg G ?_
     have hm := eL hm hb3 hr1
     cases hm
     exact rt [] []
    ·exact X_skip (ibN (thN (rh G (wL G hm))))
   ·exact Ok_exit (thE (thE (ibE (wE G hm hb3))))
  rintro ⟨⟩ hm s1 hw1
  refine thN (Ok_weak hw1 ?_)
  refine rg G ?_
  cases hm
  exact rt [] []
noncomputable def i_IsValidNetwork_M : MS Network Bool := ⟨.r, i_IsValidNetwork, fun y => dV y, fun _ => [], fun _ _ => []⟩
theorem i_IsValidNetwork_c {n y} (hm : i_IsValidNetwork n = some y) : i_IsValidNetwork_M.C n y := i_IsValidNetwork_M.c n hm
theorem i_IsValidNetwork_ok : FnOK Try.prog 133 i_IsValidNetwork_M.S := by
 refine fm tt i_IsValidNetwork_M [fo i_within_ok, fo i_areNames_ok, fo i_lineNames_ok, fo i_isValidLine_ok] Try.call133 Try.func133 rfl Try.results133 Try.ntmps133 ?_
 rintro n y cx G hm
 have hm : i_IsValidNetwork n = some y := hm
 unfold i_IsValidNetwork at hm
 refine rg G (Ok_seq ?_)
 obtain ⟨r, h, hm⟩ := obind hm
 refine jn hm (fun v => ⟨[(1, .ref 16 0), (28, dV v)], [bX 16 [dV n.Stops, dV n.Lines]], 48⟩) (fun v hm => ?_) ?_
 ·rcases bf hm with ⟨hb, hm⟩ | ⟨hb, hm⟩
  ·refine re G (hN 2 n.Stops (hC 3 (i_within_c h) (hO 5 (.b true) (hP hb h0)))) ?_
   exact wJ G hm
  ·obtain ⟨r1, h1, hm⟩ := obind hm
   rcases bf hm with ⟨hb1, hm⟩ | ⟨hb1, hm⟩
   ·refine re G (hN 2 n.Stops (hC 3 (i_within_c h) (hO 5 (.b false) (hP hb (hN 8 n.Lines (hC 9 (i_within_c h1) (hO 12 (.b true) (hP hb1 h0)))))))) ?_
    exact wJ G hm
   ·obtain ⟨r2, h2, hm⟩ := obind hm
    rcases bf hm with ⟨hb2, hm⟩ | ⟨hb2, hm⟩
    ·refine re G (hN 2 n.Stops (hC 3 (i_within_c h) (hO 5 (.b false) (hP hb (hN 8 n.Lines (hC 9 (i_within_c h1) (hO 12 (.b false) (hP hb1 (hC 15 (i_areNames_c h2) (hO 18 (.b true) (hP hb2 h0))))))))))) ?_
     exact wJ G hm
    ·obtain ⟨r3, h3, hm⟩ := obind hm
     obtain ⟨r4, h4, hm⟩ := obind hm
     refine re G (hN 2 n.Stops (hC 3 (i_within_c h) (hO 5 (.b false) (hP hb (hN 8 n.Lines (hC 9 (i_within_c h1) (hO 12 (.b false) (hP hb1 (hC 15 (i_areNames_c h2) (hO 18 (.b false) (hP hb2 (hC 20 (i_lineNames_c h3) (hC 21 (i_areNames_c h4) h0))))))))))))) ?_
     exact wJ G hm
 rintro v hm
 refine cd hm (fun hm => ?_) (fun hm => ?_)
 ·refine rg G ?_
  cases hm
  exact rt [] []
 ·refine X_skip (thN (Ok_seq (rs G (hN 2 n.Lines h0) ?_)))
  refine tF hm (fun _ => ⟨[], [], 32⟩) (fun v2 hr hm => ?_) ?_
  ·refine Ok_block (lp G hm (fun v1 => ⟨[(1, .ref 16 0), (30, dV n.Lines), (31, dV (n.Lines.length : Int)), (32, dV v1)], [bX 16 [dV n.Stops, dV n.Lines]], 48⟩) ?_)
   rintro v1 r0 hb3 hm
   rw [i_IsValidNetwork_L1] at hm
   refine rg G (Ok_seq (cd hm (fun hm => ?_) (fun hm => ?_)))
   ·refine X_skip (thN (Ok_seq (Ok_block ?_)))
    obtain ⟨e, h5, hm⟩ := obind hm
    refine rs G (hD 0 h5 h0) ?_
    obtain ⟨r5, h6, hm⟩ := obind hm
    refine rs G (hC 2 (i_isValidLine_c h6) h0) ?_
    refine cd hm (fun hm => ?_) (fun hm => ?_)
    ·refine rg G ?_
     have hm := eL hm hb3 hr
     cases hm
     exact rt [] []
    ·exact X_skip (ibN (thN (rh G (wL G hm))))
   ·exact Ok_exit (thE (thE (ibE (wE G hm hb3))))
  rintro ⟨⟩ hm s hw
  refine thN (Ok_weak hw ?_)
  refine rg G ?_
  cases hm
  exact rt [] []
noncomputable def i_isLine_M : MS (Network × Int) Bool := ⟨.x .r .r, fun x => i_isLine x.1 x.2, fun y => dV y, fun _ => [], fun _ _ => []⟩
theorem i_isLine_c {n line y} (hm : i_isLine n line = some y) : i_isLine_M.C (n, line) y := i_isLine_M.c (n, line) hm
theorem i_isLine_ok : FnOK Try.prog 172 i_isLine_M.S := by
 refine fm tt i_isLine_M [] Try.call172 Try.func172 rfl Try.results172 Try.ntmps172 ?_
 rintro ⟨n, line⟩ y cx G hm
 have hm : i_isLine n line = some y := hm
 unfold i_isLine at hm
 refine rg G (jn hm (fun v => ⟨[(4, dV v)], [], 32⟩) (fun v hm => ?_) ?_)
 ·rcases bf hm with ⟨hb, hm⟩ | ⟨hb, hm⟩
  ·refine re G (hO 2 (.b true) (hP hb (hN 6 n.Lines h0))) ?_
   exact wJ G hm
  ·refine re G (hO 2 (.b false) (hP hb h0)) ?_
   exact wJ G hm
 rintro v hm
 cases hm
 exact rt [] []
noncomputable def i_IsValidPatterns_M : MS (Network × Int × (List Pattern)) Bool := ⟨.x .r (.x .r .r), fun x => i_IsValidPatterns x.1 x.2.1 x.2.2, fun y => dV y, fun _ => [], fun _ _ => []⟩
theorem i_IsValidPatterns_c {n period list y} (hm : i_IsValidPatterns n period list = some y) : i_IsValidPatterns_M.C (n, period, list) y := i_IsValidPatterns_M.c (n, period, list) hm
theorem i_IsValidPatterns_ok : FnOK Try.prog 65 i_IsValidPatterns_M.S := by
 refine fm tt i_IsValidPatterns_M [fo i_IsValidNetwork_ok, fo i_within_ok, fo i_isLine_ok] Try.call65 Try.func65 rfl Try.results65 Try.ntmps65 ?_
 rintro ⟨n, period, list⟩ y cx G hm
 have hm : i_IsValidPatterns n period list = some y := hm
 unfold i_IsValidPatterns at hm
 refine rg G (Ok_seq ?_)
 obtain ⟨r, h, hm⟩ := obind hm
 refine jn hm (fun v => ⟨[(1, dV period), (2, dV list), (3, .ref 16 0), (22, dV v)], [bX 16 [dV n.Stops, dV n.Lines]], 48⟩) (fun v hm => ?_) ?_
 ·rcases bf hm with ⟨hb, hm⟩ | ⟨hb, hm⟩
  ·refine re G (hC 1 (i_IsValidNetwork_c h) (hO 3 (.b true) (hP hb h0))) ?_
   exact wJ G hm
  ·obtain ⟨r1, h1, hm⟩ := obind hm
   rcases bf hm with ⟨hb1, hm⟩ | ⟨hb1, hm⟩
   ·refine re G (hC 1 (i_IsValidNetwork_c h) (hO 3 (.b false) (hP hb (hC 5 (i_within_c h1) (hO 8 (.b true) (hP hb1 h0)))))) ?_
    exact wJ G hm
   ·obtain ⟨r2, h2, hm⟩ := obind hm
    refine re G (hC 1 (i_IsValidNetwork_c h) (hO 3 (.b false) (hP hb (hC 5 (i_within_c h1) (hO 8 (.b false) (hP hb1 (hN 10 list (hC 11 (i_within_c h2) h0)))))))) ?_
    exact wJ G hm
 rintro v hm
 refine cd hm (fun hm => ?_) (fun hm => ?_)
 ·refine rg G ?_
  cases hm
  exact rt [] []
 ·refine X_skip (thN (Ok_seq (rs G (hN 1 list h0) ?_)))
  refine tF hm (fun _ => ⟨[], [], 32⟩) (fun v3 hr hm => ?_) ?_
  ·refine Ok_block (lp G hm (fun v1 => ⟨[(1, dV period), (3, .ref 16 0), (23, dV list), (24, dV (list.length : Int)), (25, dV v1)], [bX 16 [dV n.Stops, dV n.Lines]], 48⟩) ?_)
   rintro v1 r0 hb2 hm
   rw [i_IsValidPatterns_L1] at hm
   refine rg G (Ok_seq (cd hm (fun hm => ?_) (fun hm => ?_)))
   ·refine X_skip (thN (Ok_seq (Ok_block ?_)))
    obtain ⟨e, h3, hm⟩ := obind hm
    refine rs G (hD 0 h3 h0) ?_
    obtain ⟨r3, h4, hm⟩ := obind hm
    refine jn hm (fun v2 => ⟨[(1, dV period), (3, .ref 16 0), (23, dV list), (24, dV (list.length : Int)), (25, dV v1), (41, dV v2)], [bX 16 [dV n.Stops, dV n.Lines]], 48⟩) (fun v2 hm => ?_) ?_
    ·rcases bf hm with ⟨hb3, hm⟩ | ⟨hb3, hm⟩
     ·refine re G (hC 3 (i_isLine_c h4) (hO 5 (.b true) (hP hb3 h0))) ?_
      exact wJ G hm
     ·obtain ⟨r4, h5, hm⟩ := obind hm
      refine re G (hC 3 (i_isLine_c h4) (hO 5 (.b false) (hP hb3 (hC 10 (i_within_c h5) h0)))) ?_
      exact wJ G hm
    rintro v2 hm
    refine cd hm (fun hm => ?_) (fun hm => ?_)
    ·refine rg G ?_
     have hm := eL hm hb2 hr
     cases hm
     exact rt [] []
    ·exact X_skip (ibN (thN (rh G (wL G hm))))
   ·exact Ok_exit (thE (thE (ibE (wE G hm hb2))))
  rintro ⟨⟩ hm s hw
  refine thN (Ok_weak hw ?_)
  refine rg G ?_
  cases hm
  exact rt [] []
noncomputable def i_arePassed_M : MS (Network × Int × (List Pattern) × Int) Bool := ⟨.x .r (.x .r (.x .r .r)), fun x => i_arePassed x.1 x.2.1 x.2.2.1 x.2.2.2, fun y => dV y, fun _ => [], fun _ _ => []⟩
theorem i_arePassed_c {n period list stop y} (hm : i_arePassed n period list stop = some y) : i_arePassed_M.C (n, period, list, stop) y := i_arePassed_M.c (n, period, list, stop) hm
theorem i_arePassed_ok : FnOK Try.prog 166 i_arePassed_M.S := by
 refine fm tt i_arePassed_M [fo i_IsValidPatterns_ok, fo i_isStop_ok] Try.call166 Try.func166 rfl Try.results166 Try.ntmps166 ?_
 rintro ⟨n, period, list, stop⟩ y cx G hm
 have hm : i_arePassed n period list stop = some y := hm
 unfold i_arePassed at hm
 refine rg G ?_
 obtain ⟨r, h, hm⟩ := obind hm
 refine jn hm (fun v => ⟨[(8, dV v)], [], 32⟩) (fun v hm => ?_) ?_
 ·rcases bf hm with ⟨hb, hm⟩ | ⟨hb, hm⟩
  ·obtain ⟨r1, h1, hm⟩ := obind hm
   refine re G (hC 3 (i_IsValidPatterns_c h) (hO 4 (.b true) (hP hb (hC 7 (i_isStop_c h1) h0)))) ?_
   exact wJ G hm
  ·refine re G (hC 3 (i_IsValidPatterns_c h) (hO 4 (.b false) (hP hb h0))) ?_
   exact wJ G hm
 rintro v hm
 cases hm
 exact rt [] []
noncomputable def i_total_M : MS ((List Int)) Int := ⟨.r, i_total, fun y => dV y, fun _ => [], fun _ _ => []⟩
theorem i_total_c {list y} (hm : i_total list = some y) : i_total_M.C list y := i_total_M.c list hm
theorem i_total_ok : FnOK Try.prog 237 i_total_M.S := by
 refine fm tt i_total_M [] Try.call237 Try.func237 rfl Try.results237 Try.ntmps237 ?_
 rintro list y cx G hm
 have hm : i_total list = some y := hm
 unfold i_total at hm
 refine rg G (rg G (Ok_seq (rs G (hN 1 list h0) ?_)))
 refine tl hm (fun v2 => ⟨[(3, dV v2)], [], 32⟩) (fun v2 hm => ?_) ?_
 ·refine Ok_block (lp G hm (fun (v, v1) => ⟨[(3, dV v), (6, dV list), (7, dV (list.length : Int)), (8, dV v1)], [], 32⟩) ?_)
  rintro ⟨v, v1⟩ r0 hb hm
  rw [i_total_L1] at hm
  refine rg G (Ok_seq (cd hm (fun hm => ?_) (fun hm => ?_)))
  ·refine X_skip (thN (Ok_seq (Ok_block ?_)))
   obtain ⟨e, h, hm⟩ := obind hm
   refine rs G (hD 0 h h0) ?_
   exact rh G (ibN (thN (rh G (wL G hm))))
  ·exact Ok_exit (thE (thE (ibE (wD G hm hb))))
 rintro v2 hm s hw
 refine thN (Ok_weak hw ?_)
 refine rg G ?_
 cases hm
 exact rt [] []
noncomputable def i_restAt_M : MS (Network × Int × Pattern × Int) Int := ⟨.x .r (.x .r (.x .r .r)), fun x => i_restAt x.1 x.2.1 x.2.2.1 x.2.2.2, fun y => dV y, fun _ => [], fun _ _ => []⟩
theorem i_restAt_c {n period p stop y} (hm : i_restAt n period p stop = some y) : i_restAt_M.C (n, period, p, stop) y := i_restAt_M.c (n, period, p, stop) hm
theorem i_restAt_ok : FnOK Try.prog 193 i_restAt_M.S := by
 refine fm tt i_restAt_M [fo slices_Index_int_ok, fo i_total_ok] Try.call193 Try.func193 rfl Try.results193 Try.ntmps193 ?_
 rintro ⟨n, period, p, stop⟩ y cx G hm
 have hm : i_restAt n period p stop = some y := hm
 unfold i_restAt at hm
 refine rg G ?_
 obtain ⟨e, h, hm⟩ := obind hm
 refine rs G (hD 4 h h0) ?_
 obtain ⟨r, h1, hm⟩ := obind hm
 refine rs G (hC 3 (slices_Index_int_c h1) h0) ?_
 refine Ok_seq (rg G (cd hm (fun hm => ?_) (fun hm => ?_)))
 ·refine rg G ?_
  cases hm
  exact rt [] []
 ·refine X_skip (thN ?_)
  obtain ⟨u2, h5, hm⟩ := obind hm
  obtain ⟨r2, h6, hm⟩ := obind hm
  obtain ⟨u3, h7, hm⟩ := obind hm
  refine ds G [(5, [])] (hU 5 h5 (hC 6 (i_total_c h6) (hK h7 h0))) ?_
  cases hm
  exact rt [] []
noncomputable def math_bits_Len64_M : MS ((IK .u64)) Int := ⟨.r, math_bits_Len64, fun y => dV y, fun _ => [], fun _ _ => []⟩
theorem math_bits_Len64_c {x y} (hm : math_bits_Len64 x = some y) : math_bits_Len64_M.C x y := math_bits_Len64_M.c x hm
theorem math_bits_Len64_ok : FnOK Try.prog 275 math_bits_Len64_M.S := by
 refine fm tt math_bits_Len64_M [] Try.call275 Try.func275 rfl Try.results275 Try.ntmps275 ?_
 rintro x y cx G hm
 have hm : math_bits_Len64 x = some y := hm
 unfold math_bits_Len64 at hm
 refine rg G (jn hm (fun (x1, v) => ⟨[(0, kV .u64 x1), (2, dV v)], [], 32⟩) (fun vv2 hm => ?_) ?_)
 ·refine rg G (cd hm (fun hm => ?_) (fun hm => ?_))
  ·obtain ⟨u, h, hm⟩ := obind hm
   refine rs G (hK h h0) ?_
   exact rh G (wJ G hm)
  ·exact X_skip (wJ G hm)
 rintro ⟨x1, v⟩ hm
 refine jn hm (fun (x2, v1) => ⟨[(0, kV .u64 x2), (2, dV v1)], [], 32⟩) (fun vv1 hm => ?_) ?_
 ·refine rg G (cd hm (fun hm => ?_) (fun hm => ?_))
  ·obtain ⟨u1, h1, hm⟩ := obind hm
   refine rs G (hK h1 h0) ?_
   exact rh G (wJ G hm)
  ·exact X_skip (wJ G hm)
 rintro ⟨x2, v1⟩ hm
 refine jn hm (fun (x3, v2) => ⟨[(0, kV .u64 x3), (2, dV v2)], [], 32⟩) (fun vv hm => ?_) ?_
 ·refine rg G (cd hm (fun hm => ?_) (fun hm => ?_))
  ·obtain ⟨u2, h2, hm⟩ := obind hm
   refine rs G (hK h2 h0) ?_
   exact rh G (wJ G hm)
  ·exact X_skip (wJ G hm)
 rintro ⟨x3, v2⟩ hm
 obtain ⟨u3, h3, hm⟩ := obind hm
 refine rs G (hK h3 h0) ?_
 cases hm
 exact rt [] []
noncomputable def math_bits_Len_M : MS ((IK .u64)) Int := ⟨.r, math_bits_Len, fun y => dV y, fun _ => [], fun _ _ => []⟩
theorem math_bits_Len_c {x y} (hm : math_bits_Len x = some y) : math_bits_Len_M.C x y := math_bits_Len_M.c x hm
theorem math_bits_Len_ok : FnOK Try.prog 234 math_bits_Len_M.S := by
 refine fm tt math_bits_Len_M [fo math_bits_Len64_ok] Try.call234 Try.func234 rfl Try.results234 Try.ntmps234 ?_
 rintro x y cx G hm
 have hm : math_bits_Len x = some y := hm
 unfold math_bits_Len at hm
 refine rg G (Ok_seq (cF (X_skip (thN ?_))))
 obtain ⟨r, h, hm⟩ := obind hm
 refine rs G (hC 1 (math_bits_Len64_c h) h0) ?_
 cases hm
 exact rt [] []
noncomputable def cmp_isNaN_int_M : MS Int Bool := ⟨.r, cmp_isNaN_int, fun y => dV y, fun _ => [], fun _ _ => []⟩
theorem cmp_isNaN_int_c {x y} (hm : cmp_isNaN_int x = some y) : cmp_isNaN_int_M.C x y := cmp_isNaN_int_M.c x hm
theorem cmp_isNaN_int_ok : FnOK Try.prog 276 cmp_isNaN_int_M.S := by
 refine fm tt cmp_isNaN_int_M [] Try.call276 Try.func276 rfl Try.results276 Try.ntmps276 ?_
 rintro x y cx G hm
 have hm : cmp_isNaN_int x = some y := hm
 unfold cmp_isNaN_int at hm
 refine rg G (rg G ?_)
 cases hm
 exact rt [] []
noncomputable def cmp_Less_int_M : MS (Int × Int) Bool := ⟨.x .r .r, fun x => cmp_Less_int x.1 x.2, fun y => dV y, fun _ => [], fun _ _ => []⟩
theorem cmp_Less_int_c {x y_ y} (hm : cmp_Less_int x y_ = some y) : cmp_Less_int_M.C (x, y_) y := cmp_Less_int_M.c (x, y_) hm
theorem cmp_Less_int_ok : FnOK Try.prog 294 cmp_Less_int_M.S := by
 refine fm tt cmp_Less_int_M [fo cmp_isNaN_int_ok] Try.call294 Try.func294 rfl Try.results294 Try.ntmps294 ?_
 rintro ⟨x, y_⟩ y cx G hm
 have hm : cmp_Less_int x y_ = some y := hm
 unfold cmp_Less_int at hm
 refine rg G ?_
 obtain ⟨r, h, hm⟩ := obind hm
 refine jn hm (fun v => ⟨[(4, dV v)], [], 32⟩) (fun v hm => ?_) ?_
 ·rcases bf hm with ⟨hb, hm⟩ | ⟨hb, hm⟩
  ·obtain ⟨r1, h1, hm⟩ := obind hm
   rcases bf hm with ⟨hb1, hm⟩ | ⟨hb1, hm⟩
   ·refine re G (hC 1 (cmp_isNaN_int_c h) (hO 2 (.b true) (hP hb (hC 4 (cmp_isNaN_int_c h1) (hO 7 (.b true) (hP hb1 h0)))))) ?_
    exact wJ G hm
   ·refine re G (hC 1 (cmp_isNaN_int_c h) (hO 2 (.b true) (hP hb (hC 4 (cmp_isNaN_int_c h1) (hO 7 (.b false) (hP hb1 h0)))))) ?_
    exact wJ G hm
  ·refine re G (hC 1 (cmp_isNaN_int_c h) (hO 2 (.b false) (hP hb h0))) ?_
   exact wJ G hm
 rintro v hm
 cases hm
 exact rt [] []
noncomputable def slices_insertionSortOrdered_int_w_M : MS ((List Int) × Int × Int) ((List Int)) := ⟨.x (.s 3) (.x .r .r), fun x => slices_insertionSortOrdered_int_w x.1 x.2.1 x.2.2, fun _ => .tup [], fun _ => [], fun _ y => [arO 3 y]⟩
theorem slices_insertionSortOrdered_int_w_c {data a b y} (hm : slices_insertionSortOrdered_int_w data a b = some y) : slices_insertionSortOrdered_int_w_M.C (data, a, b) y := slices_insertionSortOrdered_int_w_M.c (data, a, b) hm
theorem slices_insertionSortOrdered_int_w_ok : FnOK Try.prog 288 slices_insertionSortOrdered_int_w_M.S := by
 refine fm tt slices_insertionSortOrdered_int_w_M [fo cmp_Less_int_ok] Try.call288 Try.func288 rfl Try.results288 Try.ntmps288 ?_
 rintro ⟨data, a, b⟩ y cx G hm
 have hm : slices_insertionSortOrdered_int_w data a b = some y := hm
 unfold slices_insertionSortOrdered_int_w at hm
 refine rg G (Ok_block (lp G hm (fun (v, data1) => ⟨[(0, .own 0), (1, dV a), (2, dV b), (6, dV v)], [aX 0 3 data1], 48⟩) ?_))
 rintro ⟨v, data1⟩ r0 hb hm
 rw [slices_insertionSortOrdered_int_w_L2] at hm
 refine Ok_seq (rg G (cd hm (fun hm => ?_) (fun hm => ?_)))
 ·refine X_skip (thN (Ok_seq (Ok_block (rg G (tl hm (fun data3 => ⟨[(0, .own 0), (1, dV a), (2, dV b), (6, dV v)], [aX 0 3 data3], 48⟩) (fun data3 hm => ?_) ?_)))))
  ·refine Ok_block (lp G hm (fun (v1, data2) => ⟨[(0, .own 0), (1, dV a), (2, dV b), (6, dV v), (7, dV v1)], [aX 0 3 data2], 48⟩) ?_)
   rintro ⟨v1, data2⟩ r0 hb1 hm
   rw [slices_insertionSortOrdered_int_w_L1] at hm
   refine Ok_seq (jn hm (fun v2 => ⟨[(0, .own 0), (1, dV a), (2, dV b), (6, dV v), (7, dV v1), (30, dV v2)], [aX 0 3 data2], 48⟩) (fun v2 hm => ?_) ?_)
   ·rcases bf hm with ⟨hb2, hm⟩ | ⟨hb2, hm⟩
    ·obtain ⟨e2, h3, hm⟩ := obind hm
     obtain ⟨e3, h4, hm⟩ := obind hm
     obtain ⟨r1, h5, hm⟩ := obind hm
     refine de G [] (hO 3 (.b true) (hP hb2 (hD 6 h3 (hE 7 h3 (hD 11 h4 (hE 12 h4 (hC 13 (cmp_Less_int_c h5) h0))))))) ?_
     exact wJ G hm
    ·refine de G [] (hO 3 (.b false) (hP hb2 h0)) ?_
     exact wJ G hm
   rintro v2 hm
   refine cd hm (fun hm => ?_) (fun hm => ?_)
   ·refine X_skip (thN (Ok_seq (Ok_block ?_)))
    obtain ⟨e8, h10, hm⟩ := obind hm
    obtain ⟨e9, h11, hm⟩ := obind hm
    obtain ⟨e10, h12, hm⟩ := obind hm
    obtain ⟨e11, h13, hm⟩ := obind hm
    refine de G [(15, [0]), (17, [0])] (hD 8 h10 (hE 9 h10 (hD 12 h11 (hE 13 h11 (hD 14 h12 (hS 15 h12 e8 (hD 16 h13 (hS 17 h13 e9 h0)))))))) ?_
    exact ibN (thN (rh G (wL G hm)))
   ·exact Ok_exit (thE (thE (ibE (wD G hm hb1))))
  rintro data3 hm s hw
  refine ibN (thN (Ok_weak hw ?_))
  exact rh G (wL G hm)
 ·have hm := eD hm hb
  refine Ok_exit (thE (thE (ibE ?_)))
  cases hm
  exact fN [] []
noncomputable def slices_siftDownOrdered_int_w_M : MS ((List Int) × Int × Int × Int) ((List Int)) := ⟨.x (.s 3) (.x .r (.x .r .r)), fun x => slices_siftDownOrdered_int_w x.1 x.2.1 x.2.2.1 x.2.2.2, fun _ => .tup [], fun _ => [], fun _ y => [arO 3 y]⟩
theorem slices_siftDownOrdered_int_w_c {data lo hi first y} (hm : slices_siftDownOrdered_int_w data lo hi first = some y) : slices_siftDownOrdered_int_w_M.C (data, lo, hi, first) y := slices_siftDownOrdered_int_w_M.c (data, lo, hi, first) hm
theorem slices_siftDownOrdered_int_w_ok : FnOK Try.prog 299 slices_siftDownOrdered_int_w_M.S := by
 refine fm tt slices_siftDownOrdered_int_w_M [fo cmp_Less_int_ok] Try.call299 Try.func299 rfl Try.results299 Try.ntmps299 ?_
 rintro ⟨data, lo, hi, first⟩ y cx G hm
 have hm : slices_siftDownOrdered_int_w data lo hi first = some y := hm
 unfold slices_siftDownOrdered_int_w at hm
 refine rg G (Ok_block (lp G hm (fun (v, data1) => ⟨[(0, .own 0), (2, dV hi), (3, dV first), (8, dV v)], [aX 0 3 data1], 48⟩) ?_))
 rintro ⟨v, data1⟩ r0 hb hm
 rw [slices_siftDownOrdered_int_w_L1] at hm
 refine Ok_block (rg G (Ok_seq (rg G (cd hm (fun hm => ?_) (fun hm => ?_)))))
 ·have hm := eD hm hb
  refine Ok_exit (thE (ibX rfl (thE (ibE ?_))))
  cases hm
  exact fN [] []
 ·refine X_skip (thN (jn hm (fun v1 => ⟨[(0, .own 0), (2, dV hi), (3, dV first), (8, dV v), (9, dV v1)], [aX 0 3 data1], 48⟩) (fun v1 hm => ?_) ?_))
  ·refine jn hm (fun v2 => ⟨[(0, .own 0), (2, dV hi), (3, dV first), (8, dV v), (9, dV (w64 ((w64 (2 * v)) + 1))), (36, dV v2)], [aX 0 3 data1], 48⟩) (fun v2 hm => ?_) ?_
   ·rcases bf hm with ⟨hb1, hm⟩ | ⟨hb1, hm⟩
    ·obtain ⟨e3, h3, hm⟩ := obind hm
     obtain ⟨e4, h4, hm⟩ := obind hm
     obtain ⟨r2, h5, hm⟩ := obind hm
     refine de G [] (hO 4 (.b true) (hP hb1 (hD 9 h3 (hE 10 h3 (hD 16 h4 (hE 17 h4 (hC 18 (cmp_Less_int_c h5) h0))))))) ?_
     exact wJ G hm
    ·refine de G [] (hO 4 (.b false) (hP hb1 h0)) ?_
     exact wJ G hm
   rintro v2 hm
   refine cd hm (fun hm => ?_) (fun hm => ?_)
   ·exact rh G (wJ G hm)
   ·exact X_skip (wJ G hm)
  rintro v1 hm
  refine Ok_seq ?_
  obtain ⟨e7, h9, hm⟩ := obind hm
  obtain ⟨e8, h10, hm⟩ := obind hm
  obtain ⟨r4, h11, hm⟩ := obind hm
  refine ds G [] (hD 4 h9 (hE 5 h9 (hD 10 h10 (hE 11 h10 (hC 12 (cmp_Less_int_c h11) h0))))) ?_
  refine cd hm (fun hm => ?_) (fun hm => ?_)
  ·have hm := eD hm hb
   cases hm
   exact rt [] []
  ·refine X_skip (thN ?_)
   obtain ⟨e14, h16, hm⟩ := obind hm
   obtain ⟨e15, h17, hm⟩ := obind hm
   obtain ⟨e16, h18, hm⟩ := obind hm
   obtain ⟨e17, h19, hm⟩ := obind hm
   refine ds G [(21, [0]), (23, [0])] (hD 12 h16 (hE 13 h16 (hD 18 h17 (hE 19 h17 (hD 20 h18 (hS 21 h18 e14 (hD 22 h19 (hS 23 h19 e15 h0)))))))) ?_
   exact rh G (ibN (wL G hm))
noncomputable def slices_heapSortOrdered_int_w_M : MS ((List Int) × Int × Int) ((List Int)) := ⟨.x (.s 3) (.x .r .r), fun x => slices_heapSortOrdered_int_w x.1 x.2.1 x.2.2, fun _ => .tup [], fun _ => [], fun _ y => [arO 3 y]⟩
theorem slices_heapSortOrdered_int_w_c {data a b y} (hm : slices_heapSortOrdered_int_w data a b = some y) : slices_heapSortOrdered_int_w_M.C (data, a, b) y := slices_heapSortOrdered_int_w_M.c (data, a, b) hm
theorem slices_heapSortOrdered_int_w_ok : FnOK Try.prog 289 slices_heapSortOrdered_int_w_M.S := by
 refine fm tt slices_heapSortOrdered_int_w_M [fo slices_siftDownOrdered_int_w_ok] Try.call289 Try.func289 rfl Try.results289 Try.ntmps289 ?_
 rintro ⟨data, a, b⟩ y cx G hm
 have hm : slices_heapSortOrdered_int_w data a b = some y := hm
 unfold slices_heapSortOrdered_int_w at hm
 refine rg G (rg G (rg G (Ok_seq ?_)))
 obtain ⟨u, h, hm⟩ := obind hm
 refine rs G (hK h h0) ?_
 refine tl hm (fun data2 => ⟨[(0, .own 0), (6, dV a), (7, kV .i64 0), (8, dV (w64 (b - a)))], [aX 0 3 data2], 48⟩) (fun data2 hm => ?_) ?_
 ·refine Ok_block (lp G hm (fun (v, data1) => ⟨[(0, .own 0), (6, dV a), (7, kV .i64 0), (8, dV (w64 (b - a))), (9, dV v)], [aX 0 3 data1], 48⟩) ?_)
  rintro ⟨v, data1⟩ r0 hb hm
  rw [slices_heapSortOrdered_int_w_L1] at hm
  refine Ok_seq (rg G (cd hm (fun hm => ?_) (fun hm => ?_)))
  ·refine X_skip (thN (Ok_seq (Ok_block ?_)))
   obtain ⟨r, h1, hm⟩ := obind hm
   refine re G (hC 4 (slices_siftDownOrdered_int_w_c h1) h0) ?_
   exact ibN (thN (rh G (wL G hm)))
  ·exact Ok_exit (thE (thE (ibE (wD G hm hb))))
 rintro data2 hm s hw
 refine thN (Ok_weak hw ?_)
 refine rg G (Ok_block (lp G hm (fun (v1, data3) => ⟨[(0, .own 0), (6, dV a), (7, kV .i64 0), (10, dV v1)], [aX 0 3 data3], 48⟩) ?_))
 rintro ⟨v1, data3⟩ r0 hb1 hm
 rw [slices_heapSortOrdered_int_w_L2] at hm
 refine Ok_seq (rg G (cd hm (fun hm => ?_) (fun hm => ?_)))
 ·refine X_skip (thN (Ok_seq (Ok_block ?_)))
  obtain ⟨e4, h6, hm⟩ := obind hm
  obtain ⟨e5, h7, hm⟩ := obind hm
  obtain ⟨e6, h8, hm⟩ := obind hm
  obtain ⟨e7, h9, hm⟩ := obind hm
  refine ds G [(17, [0]), (19, [0])] (hD 10 h6 (hE 11 h6 (hD 14 h7 (hE 15 h7 (hD 16 h8 (hS 17 h8 e4 (hD 18 h9 (hS 19 h9 e5 h0)))))))) ?_
  obtain ⟨r1, h10, hm⟩ := obind hm
  refine re G (hC 4 (slices_siftDownOrdered_int_w_c h10) h0) ?_
  exact ibN (thN (rh G (wL G hm)))
 ·have hm := eD hm hb1
  refine Ok_exit (thE (thE (ibE ?_)))
  cases hm
  exact fN [] []
noncomputable def slices_order2Ordered_int_M : MS ((List Int) × Int × Int × Int) (Int × Int × Int) := ⟨.x .r (.x .r (.x .r .b)), fun x => slices_order2Ordered_int x.1 x.2.1 x.2.2.1 x.2.2.2, fun y => .tup [dV y.1, dV y.2.1], fun _ => [], fun _ y => [bxO y.2.2]⟩
theorem slices_order2Ordered_int_c {data a b swaps y} (hm : slices_order2Ordered_int data a b swaps = some y) : slices_order2Ordered_int_M.C (data, a, b, swaps) y := slices_order2Ordered_int_M.c (data, a, b, swaps) hm
theorem slices_order2Ordered_int_ok : FnOK Try.prog 302 slices_order2Ordered_int_M.S := by
 refine fm tt slices_order2Ordered_int_M [fo cmp_Less_int_ok] Try.call302 Try.func302 rfl Try.results302 Try.ntmps302 ?_
 rintro ⟨data, a, b, swaps⟩ y cx G hm
 have hm : slices_order2Ordered_int data a b swaps = some y := hm
 unfold slices_order2Ordered_int at hm
 refine rg G (Ok_seq ?_)
 obtain ⟨e2, h3, hm⟩ := obind hm
 obtain ⟨e3, h4, hm⟩ := obind hm
 obtain ⟨r1, h5, hm⟩ := obind hm
 refine ds G [] (hD 2 h3 (hD 6 h4 (hC 8 (cmp_Less_int_c h5) h0))) ?_
 refine cd hm (fun hm => ?_) (fun hm => ?_)
 ·refine rg G (rg G ?_)
  cases hm
  exact rt [] []
 ·refine X_skip (thN (rg G ?_))
  cases hm
  exact rt [] []
noncomputable def slices_medianOrdered_int_M : MS ((List Int) × Int × Int × Int × Int) (Int × Int) := ⟨.x .r (.x .r (.x .r (.x .r .b))), fun x => slices_medianOrdered_int x.1 x.2.1 x.2.2.1 x.2.2.2.1 x.2.2.2.2, fun y => dV y.1, fun _ => [], fun _ y => [bxO y.2]⟩
theorem slices_medianOrdered_int_c {data a b c swaps y} (hm : slices_medianOrdered_int data a b c swaps = some y) : slices_medianOrdered_int_M.C (data, a, b, c, swaps) y := slices_medianOrdered_int_M.c (data, a, b, c, swaps) hm
theorem slices_medianOrdered_int_ok : FnOK Try.prog 301 slices_medianOrdered_int_M.S := by
 refine fm tt slices_medianOrdered_int_M [fo slices_order2Ordered_int_ok] Try.call301 Try.func301 rfl Try.results301 Try.ntmps301 ?_
 rintro ⟨data, a, b, c, swaps⟩ y cx G hm
 have hm : slices_medianOrdered_int data a b c swaps = some y := hm
 unfold slices_medianOrdered_int at hm
 refine rg G ?_
 obtain ⟨r, h, hm⟩ := obind hm
 refine rs G (hC 4 (slices_order2Ordered_int_c h) h0) ?_
 obtain ⟨r1, h1, hm⟩ := obind hm
 refine rs G (hC 4 (slices_order2Ordered_int_c h1) h0) ?_
 obtain ⟨r2, h2, hm⟩ := obind hm
 refine rs G (hC 4 (slices_order2Ordered_int_c h2) h0) ?_
 refine rg G ?_
 cases hm
 exact rt [] []
noncomputable def slices_medianAdjacentOrdered_int_M : MS ((List Int) × Int × Int) (Int × Int) := ⟨.x .r (.x .r .b), fun x => slices_medianAdjacentOrdered_int x.1 x.2.1 x.2.2, fun y => dV y.1, fun _ => [], fun _ y => [bxO y.2]⟩
theorem slices_medianAdjacentOrdered_int_c {data a swaps y} (hm : slices_medianAdjacentOrdered_int data a swaps = some y) : slices_medianAdjacentOrdered_int_M.C (data, a, swaps) y := slices_medianAdjacentOrdered_int_M.c (data, a, swaps) hm
theorem slices_medianAdjacentOrdered_int_ok : FnOK Try.prog 300 slices_medianAdjacentOrdered_int_M.S := by
 refine fm tt slices_medianAdjacentOrdered_int_M [fo slices_medianOrdered_int_ok] Try.call300 Try.func300 rfl Try.results300 Try.ntmps300 ?_
 rintro ⟨data, a, swaps⟩ y cx G hm
 have hm : slices_medianAdjacentOrdered_int data a swaps = some y := hm
 unfold slices_medianAdjacentOrdered_int at hm
 refine rg G ?_
 obtain ⟨r, h, hm⟩ := obind hm
 refine rs G (hC 7 (slices_medianOrdered_int_c h) h0) ?_
 cases hm
 exact rt [] []
noncomputable def slices_choosePivotOrdered_int_M : MS ((List Int) × Int × Int) (Int × Int) := ⟨.x .r (.x .r .r), fun x => slices_choosePivotOrdered_int x.1 x.2.1 x.2.2, fun y => .tup [dV y.1, dV y.2], fun _ => [], fun _ _ => []⟩
theorem slices_choosePivotOrdered_int_c {data a b y} (hm : slices_choosePivotOrdered_int data a b = some y) : slices_choosePivotOrdered_int_M.C (data, a, b) y := slices_choosePivotOrdered_int_M.c (data, a, b) hm
theorem slices_choosePivotOrdered_int_ok : FnOK Try.prog 291 slices_choosePivotOrdered_int_M.S := by
 refine fm tt slices_choosePivotOrdered_int_M [fo slices_medianAdjacentOrdered_int_ok, fo slices_medianOrdered_int_ok] Try.call291 Try.func291 rfl Try.results291 Try.ntmps291 ?_
 rintro ⟨data, a, b⟩ y cx G hm
 have hm : slices_choosePivotOrdered_int data a b = some y := hm
 unfold slices_choosePivotOrdered_int at hm
 refine rg G (rg G (rg G ?_))
 obtain ⟨u, h, hm⟩ := obind hm
 refine rs G (hK h h0) ?_
 obtain ⟨u1, h1, hm⟩ := obind hm
 refine rs G (hK h1 h0) ?_
 obtain ⟨u2, h2, hm⟩ := obind hm
 refine rs G (hK h2 h0) ?_
 refine jn hm (fun (v, v1) => ⟨[(9, .ref 16 0), (11, dV v)], [bX 16 [dV v1]], 48⟩) (fun vv1 hm => ?_) ?_
 ·refine rg G (cd hm (fun hm => ?_) (fun hm => ?_))
  ·refine jn hm (fun (v2, v3, v4, v5) => ⟨[(0, dV data), (9, .ref 16 0), (10, dV v2), (11, dV v3), (12, dV v4)], [bX 16 [dV v5]], 48⟩) (fun vv hm => ?_) ?_
   ·refine rg G (cd hm (fun hm => ?_) (fun hm => ?_))
    ·obtain ⟨r, h3, hm⟩ := obind hm
     refine rs G (hC 2 (slices_medianAdjacentOrdered_int_c h3) h0) ?_
     obtain ⟨r1, h4, hm⟩ := obind hm
     refine rs G (hC 2 (slices_medianAdjacentOrdered_int_c h4) h0) ?_
     obtain ⟨r2, h5, hm⟩ := obind hm
     refine re G (hC 2 (slices_medianAdjacentOrdered_int_c h5) h0) ?_
     exact wJ G hm
    ·exact X_skip (wJ G hm)
   rintro ⟨v2, v3, v4, v5⟩ hm
   obtain ⟨r3, h6, hm⟩ := obind hm
   refine re G (hC 4 (slices_medianOrdered_int_c h6) h0) ?_
   exact wJ G hm
  ·exact X_skip (wJ G hm)
 rintro ⟨v, v1⟩ hm
 refine rg G (Ok_block (rg G (cd hm (fun hm => ?_) (fun hm => ?_))))
 ·refine rg G ?_
  cases hm
  exact rt [] []
 ·refine rg G (cd hm (fun hm => ?_) (fun hm => ?_))
  ·refine rg G ?_
   cases hm
   exact rt [] []
  ·refine rg G ?_
   cases hm
   exact rt [] []
noncomputable def slices_reverseRangeOrdered_int_w_M : MS ((List Int) × Int × Int) ((List Int)) := ⟨.x (.s 3) (.x .r .r), fun x => slices_reverseRangeOrdered_int_w x.1 x.2.1 x.2.2, fun _ => .tup [], fun _ => [], fun _ y => [arO 3 y]⟩
theorem slices_reverseRangeOrdered_int_w_c {data a b y} (hm : slices_reverseRangeOrdered_int_w data a b = some y) : slices_reverseRangeOrdered_int_w_M.C (data, a, b) y := slices_reverseRangeOrdered_int_w_M.c (data, a, b) hm
theorem slices_reverseRangeOrdered_int_w_ok : FnOK Try.prog 292 slices_reverseRangeOrdered_int_w_M.S := by
 refine fm tt slices_reverseRangeOrdered_int_w_M [] Try.call292 Try.func292 rfl Try.results292 Try.ntmps292 ?_
 rintro ⟨data, a, b⟩ y cx G hm
 have hm : slices_reverseRangeOrdered_int_w data a b = some y := hm
 unfold slices_reverseRangeOrdered_int_w at hm
 refine rg G (rg G (Ok_block (lp G hm (fun (v, v1, data1) => ⟨[(0, .own 0), (6, dV v), (7, dV v1)], [aX 0 3 data1], 48⟩) ?_)))
 rintro ⟨v, v1, data1⟩ r0 hb hm
 rw [slices_reverseRangeOrdered_int_w_L1] at hm
 refine Ok_seq (rg G (cd hm (fun hm => ?_) (fun hm => ?_)))
 ·refine X_skip (thN (Ok_block ?_))
  obtain ⟨e4, h4, hm⟩ := obind hm
  obtain ⟨e5, h5, hm⟩ := obind hm
  obtain ⟨e6, h6, hm⟩ := obind hm
  obtain ⟨e7, h7, hm⟩ := obind hm
  refine ds G [(13, [0]), (15, [0])] (hD 6 h4 (hE 7 h4 (hD 10 h5 (hE 11 h5 (hD 12 h6 (hS 13 h6 e4 (hD 14 h7 (hS 15 h7 e5 h0)))))))) ?_
  exact rg G (rh G (ibN (wL G hm)))
 ·have hm := eD hm hb
  refine Ok_exit (thE (thE (ibE ?_)))
  cases hm
  exact fN [] []
noncomputable def slices_partialInsertionSortOrdered_int_w_M : MS ((List Int) × Int × Int) (Bool × (List Int)) := ⟨.x (.s 3) (.x .r .r), fun x => slices_partialInsertionSortOrdered_int_w x.1 x.2.1 x.2.2, fun y => dV y.1, fun _ => [], fun _ y => [arO 3 y.2]⟩
theorem slices_partialInsertionSortOrdered_int_w_c {data a b y} (hm : slices_partialInsertionSortOrdered_int_w data a b = some y) : slices_partialInsertionSortOrdered_int_w_M.C (data, a, b) y := slices_partialInsertionSortOrdered_int_w_M.c (data, a, b) hm
theorem slices_partialInsertionSortOrdered_int_w_ok : FnOK Try.prog 293 slices_partialInsertionSortOrdered_int_w_M.S := by
 refine fm tt slices_partialInsertionSortOrdered_int_w_M [fo cmp_Less_int_ok] Try.call293 Try.func293 rfl Try.results293 Try.ntmps293 ?_
 rintro ⟨data, a, b⟩ y cx G hm
 have hm : slices_partialInsertionSortOrdered_int_w data a b = some y := hm
 unfold slices_partialInsertionSortOrdered_int_w at hm
 refine rg G (rg G (Ok_seq (rg G (tF hm (fun data8 => ⟨[(0, .own 0)], [aX 0 3 data8], 48⟩) (fun v5 hr hm => ?_) ?_))))
 ·refine Ok_block (lp G hm (fun (j, v, data1) => ⟨[(0, .own 0), (1, dV a), (2, dV b), (7, dV j), (8, dV v)], [aX 0 3 data1], 48⟩) ?_)
  rintro ⟨j, v, data1⟩ r0 hb hm
  rw [slices_partialInsertionSortOrdered_int_w_L4] at hm
  refine Ok_seq (rg G (cd hm (fun hm => ?_) (fun hm => ?_)))
  ·refine X_skip (thN (jF hm (fun (j1, data2) => ⟨[(0, .own 0), (1, dV a), (2, dV b), (7, dV j1), (8, dV v)], [aX 0 3 data2], 48⟩) (fun v4 hr1 hm => ?_) ?_))
   ·refine Ok_block (jn hm (fun j3 => ⟨[(0, .own 0), (1, dV a), (2, dV b), (7, dV j3), (8, dV v)], [aX 0 3 data1], 48⟩) (fun j3 hm => ?_) ?_)
    ·refine Ok_block (lp G hm (fun j2 => ⟨[(0, .own 0), (1, dV a), (2, dV b), (7, dV j2), (8, dV v)], [aX 0 3 data1], 48⟩) ?_)
     rintro j2 r0 hb1 hm
     rw [slices_partialInsertionSortOrdered_int_w_L1] at hm
     refine Ok_seq (jn hm (fun v1 => ⟨[(0, .own 0), (1, dV a), (2, dV b), (7, dV j2), (8, dV v), (32, dV v1)], [aX 0 3 data1], 48⟩) (fun v1 hm => ?_) ?_)
     ·rcases bf hm with ⟨hb2, hm⟩ | ⟨hb2, hm⟩
      ·obtain ⟨e2, h3, hm⟩ := obind hm
       obtain ⟨e3, h4, hm⟩ := obind hm
       obtain ⟨r1, h5, hm⟩ := obind hm
       refine de G [] (hO 3 (.b true) (hP hb2 (hD 6 h3 (hE 7 h3 (hD 11 h4 (hE 12 h4 (hC 13 (cmp_Less_int_c h5) h0))))))) ?_
       exact wJ G hm
      ·refine de G [] (hO 3 (.b false) (hP hb2 h0)) ?_
       exact wJ G hm
     rintro v1 hm
     refine cd hm (fun hm => ?_) (fun hm => ?_)
     ·exact X_skip (thN (Ok_block (rh G (ibN (wL G hm)))))
     ·exact Ok_exit (thE (thE (ibE (wD G hm hb1))))
    rintro j3 hm
    refine Ok_seq (rg G (cd hm (fun hm => ?_) (fun hm => ?_)))
    ·refine rg G ?_
     have hm := eR hm hr1
     have hm := eL hm hb hr
     cases hm
     exact rt [] []
    ·refine X_skip (thN (Ok_seq (rg G (cd hm (fun hm => ?_) (fun hm => ?_)))))
     ·refine rg G ?_
      have hm := eR hm hr1
      have hm := eL hm hb hr
      cases hm
      exact rt [] []
     ·refine X_skip (thN ?_)
      obtain ⟨e12, h10, hm⟩ := obind hm
      obtain ⟨e13, h11, hm⟩ := obind hm
      obtain ⟨e14, h12, hm⟩ := obind hm
      obtain ⟨e15, h13, hm⟩ := obind hm
      refine ds G [(15, [0]), (17, [0])] (hD 8 h10 (hE 9 h10 (hD 12 h11 (hE 13 h11 (hD 14 h12 (hS 15 h12 e12 (hD 16 h13 (hS 17 h13 e13 h0)))))))) ?_
      refine jn hm (fun data3 => ⟨[(0, .own 0), (1, dV a), (2, dV b), (7, dV j3), (8, dV v)], [aX 0 3 data3], 48⟩) (fun data3 hm => ?_) ?_
      ·refine rg G (cd hm (fun hm => ?_) (fun hm => ?_))
       ·refine rg G (tl hm (fun data5 => ⟨[(0, .own 0), (1, dV a), (2, dV b), (7, dV j3), (8, dV v)], [aX 0 3 data5], 48⟩) (fun data5 hm => ?_) ?_)
        ·refine Ok_block (lp G hm (fun (v2, data4) => ⟨[(0, .own 0), (1, dV a), (2, dV b), (7, dV j3), (8, dV v), (9, dV v2)], [aX 0 3 data4], 48⟩) ?_)
         rintro ⟨v2, data4⟩ r0 hb3 hm
         rw [slices_partialInsertionSortOrdered_int_w_L2] at hm
         refine Ok_seq (rg G (cd hm (fun hm => ?_) (fun hm => ?_)))
         ·refine X_skip (thN (Ok_seq (Ok_block (Ok_seq ?_))))
          obtain ⟨e18, h17, hm⟩ := obind hm
          obtain ⟨e19, h18, hm⟩ := obind hm
          obtain ⟨r7, h19, hm⟩ := obind hm
          refine ds G [] (hD 2 h17 (hE 3 h17 (hD 7 h18 (hE 8 h18 (hC 9 (cmp_Less_int_c h19) h0))))) ?_
          refine cd hm (fun hm => ?_) (fun hm => ?_)
          ·exact Ok_exit (thE (ibX rfl (thE (thE (ibE (wD G hm hb3))))))
          ·refine X_skip (thN ?_)
           obtain ⟨e24, h24, hm⟩ := obind hm
           obtain ⟨e25, h25, hm⟩ := obind hm
           obtain ⟨e26, h26, hm⟩ := obind hm
           obtain ⟨e27, h27, hm⟩ := obind hm
           refine de G [(15, [0]), (17, [0])] (hD 8 h24 (hE 9 h24 (hD 12 h25 (hE 13 h25 (hD 14 h26 (hS 15 h26 e24 (hD 16 h27 (hS 17 h27 e25 h0)))))))) ?_
           exact ibN (thN (rh G (wL G hm)))
         ·exact Ok_exit (thE (thE (ibE (wD G hm hb3))))
        rintro data5 hm s hw
        exact wJp hm (Wk.trans hw (Wk_J G.hL ⟨[(0, []), (1, []), (2, []), (7, []), (8, [])], [(0, 0, [])], [], 48⟩ (by kernel_rfl)))
       ·exact X_skip (wJ G hm)
      rintro data3 hm
      refine rg G (cd hm (fun hm => ?_) (fun hm => ?_))
      ·refine rg G (tl hm (fun data7 => ⟨[(0, .own 0), (1, dV a), (2, dV b), (7, dV j3), (8, dV v)], [aX 0 3 data7], 48⟩) (fun data7 hm => ?_) ?_)
       ·refine Ok_block (lp G hm (fun (v3, data6) => ⟨[(0, .own 0), (1, dV a), (2, dV b), (7, dV j3), (8, dV v), (10, dV v3)], [aX 0 3 data6], 48⟩) ?_)
        rintro ⟨v3, data6⟩ r0 hb4 hm
        rw [slices_partialInsertionSortOrdered_int_w_L3] at hm
        refine Ok_seq (rg G (cd hm (fun hm => ?_) (fun hm => ?_)))
        ·refine X_skip (thN (Ok_seq (Ok_block (Ok_seq ?_))))
         obtain ⟨e30, h31, hm⟩ := obind hm
         obtain ⟨e31, h32, hm⟩ := obind hm
         obtain ⟨r9, h33, hm⟩ := obind hm
         refine ds G [] (hD 2 h31 (hE 3 h31 (hD 7 h32 (hE 8 h32 (hC 9 (cmp_Less_int_c h33) h0))))) ?_
         refine cd hm (fun hm => ?_) (fun hm => ?_)
         ·exact Ok_exit (thE (ibX rfl (thE (thE (ibE (wD G hm hb4))))))
         ·refine X_skip (thN ?_)
          obtain ⟨e36, h38, hm⟩ := obind hm
          obtain ⟨e37, h39, hm⟩ := obind hm
          obtain ⟨e38, h40, hm⟩ := obind hm
          obtain ⟨e39, h41, hm⟩ := obind hm
          refine de G [(15, [0]), (17, [0])] (hD 8 h38 (hE 9 h38 (hD 12 h39 (hE 13 h39 (hD 14 h40 (hS 15 h40 e36 (hD 16 h41 (hS 17 h41 e37 h0)))))))) ?_
          exact ibN (thN (rh G (wL G hm)))
        ·exact Ok_exit (thE (thE (ibE (wD G hm hb4))))
       rintro data7 hm s1 hw1
       exact ibN (wFp hm (Wk.trans hw1 (Wk_J G.hL ⟨[(0, []), (1, []), (2, []), (7, []), (8, [])], [(0, 0, [])], [], 48⟩ (by kernel_rfl))))
      ·exact X_skip (ibN (wF G hm))
   rintro ⟨j1, data2⟩ hm
   exact rh G (wL G hm)
  ·exact Ok_exit (thE (thE (ibE (wE G hm hb))))
 rintro data8 hm s2 hw2
 refine thN (Ok_weak hw2 ?_)
 refine rg G ?_
 cases hm
 exact rt [] []
noncomputable def slices_partitionEqualOrdered_int_w_M : MS ((List Int) × Int × Int × Int) (Int × (List Int)) := ⟨.x (.s 3) (.x .r (.x .r .r)), fun x => slices_partitionEqualOrdered_int_w x.1 x.2.1 x.2.2.1 x.2.2.2, fun y => dV y.1, fun _ => [], fun _ y => [arO 3 y.2]⟩
theorem slices_partitionEqualOrdered_int_w_c {data a b pivot y} (hm : slices_partitionEqualOrdered_int_w data a b pivot = some y) : slices_partitionEqualOrdered_int_w_M.C (data, a, b, pivot) y := slices_partitionEqualOrdered_int_w_M.c (data, a, b, pivot) hm
theorem slices_partitionEqualOrdered_int_w_ok : FnOK Try.prog 295 slices_partitionEqualOrdered_int_w_M.S := by
 refine fm tt slices_partitionEqualOrdered_int_w_M [fo cmp_Less_int_ok] Try.call295 Try.func295 rfl Try.results295 Try.ntmps295 ?_
 rintro ⟨data, a, b, pivot⟩ y cx G hm
 have hm : slices_partitionEqualOrdered_int_w data a b pivot = some y := hm
 unfold slices_partitionEqualOrdered_int_w at hm
 refine rg G ?_
 obtain ⟨e4, h4, hm⟩ := obind hm
 obtain ⟨e5, h5, hm⟩ := obind hm
 obtain ⟨e6, h6, hm⟩ := obind hm
 obtain ⟨e7, h7, hm⟩ := obind hm
 refine ds G [(13, [0]), (15, [0])] (hD 6 h4 (hE 7 h4 (hD 10 h5 (hE 11 h5 (hD 12 h6 (hS 13 h6 e4 (hD 14 h7 (hS 15 h7 e5 h0)))))))) ?_
 refine rg G (jn hm (fun (v8, data2) => ⟨[(0, .own 0), (9, dV v8)], [aX 0 3 data2], 48⟩) (fun vv hm => ?_) ?_)
 ·refine Ok_block (lp G hm (fun (v, v1, data1) => ⟨[(0, .own 0), (1, dV a), (9, dV v), (10, dV v1)], [aX 0 3 data1], 48⟩) ?_)
  rintro ⟨v, v1, data1⟩ r0 hb hm
  rw [slices_partitionEqualOrdered_int_w_L3] at hm
  refine Ok_block (jn hm (fun v4 => ⟨[(0, .own 0), (1, dV a), (9, dV v4), (10, dV v1)], [aX 0 3 data1], 48⟩) (fun v4 hm => ?_) ?_)
  ·refine Ok_block (lp G hm (fun v2 => ⟨[(0, .own 0), (1, dV a), (9, dV v2), (10, dV v1)], [aX 0 3 data1], 48⟩) ?_)
   rintro v2 r0 hb1 hm
   rw [slices_partitionEqualOrdered_int_w_L1] at hm
   refine Ok_seq (jn hm (fun v3 => ⟨[(0, .own 0), (1, dV a), (9, dV v2), (10, dV v1), (43, dV v3)], [aX 0 3 data1], 48⟩) (fun v3 hm => ?_) ?_)
   ·rcases bf hm with ⟨hb2, hm⟩ | ⟨hb2, hm⟩
    ·obtain ⟨e10, h11, hm⟩ := obind hm
     obtain ⟨e11, h12, hm⟩ := obind hm
     obtain ⟨r1, h13, hm⟩ := obind hm
     refine de G [] (hO 3 (.b true) (hP hb2 (hD 6 h11 (hE 7 h11 (hD 10 h12 (hE 11 h12 (hC 12 (cmp_Less_int_c h13) h0))))))) ?_
     exact wJ G hm
    ·refine de G [] (hO 3 (.b false) (hP hb2 h0)) ?_
     exact wJ G hm
   rintro v3 hm
   refine cd hm (fun hm => ?_) (fun hm => ?_)
   ·exact X_skip (thN (Ok_block (rh G (ibN (wL G hm)))))
   ·exact Ok_exit (thE (thE (ibE (wD G hm hb1))))
  rintro v4 hm
  refine jn hm (fun v7 => ⟨[(0, .own 0), (1, dV a), (9, dV v4), (10, dV v7)], [aX 0 3 data1], 48⟩) (fun v7 hm => ?_) ?_
  ·refine Ok_block (lp G hm (fun v5 => ⟨[(0, .own 0), (1, dV a), (9, dV v4), (10, dV v5)], [aX 0 3 data1], 48⟩) ?_)
   rintro v5 r0 hb3 hm
   rw [slices_partitionEqualOrdered_int_w_L2] at hm
   refine Ok_seq (jn hm (fun v6 => ⟨[(0, .own 0), (1, dV a), (9, dV v4), (10, dV v5), (59, dV v6)], [aX 0 3 data1], 48⟩) (fun v6 hm => ?_) ?_)
   ·rcases bf hm with ⟨hb4, hm⟩ | ⟨hb4, hm⟩
    ·obtain ⟨e14, h17, hm⟩ := obind hm
     obtain ⟨e15, h18, hm⟩ := obind hm
     obtain ⟨r3, h19, hm⟩ := obind hm
     refine de G [] (hO 3 (.b true) (hP hb4 (hD 6 h17 (hE 7 h17 (hD 10 h18 (hE 11 h18 (hC 12 (cmp_Less_int_c h19) h0))))))) ?_
     exact wJ G hm
    ·refine de G [] (hO 3 (.b false) (hP hb4 h0)) ?_
     exact wJ G hm
   rintro v6 hm
   refine cd hm (fun hm => ?_) (fun hm => ?_)
   ·exact X_skip (thN (Ok_block (rh G (ibN (wL G hm)))))
   ·exact Ok_exit (thE (thE (ibE (wD G hm hb3))))
  rintro v7 hm
  refine Ok_seq (rg G (cd hm (fun hm => ?_) (fun hm => ?_)))
  ·exact Ok_exit (thE (ibX rfl (thE (ibE (wD G hm hb)))))
  ·refine X_skip (thN ?_)
   obtain ⟨e20, h24, hm⟩ := obind hm
   obtain ⟨e21, h25, hm⟩ := obind hm
   obtain ⟨e22, h26, hm⟩ := obind hm
   obtain ⟨e23, h27, hm⟩ := obind hm
   refine ds G [(13, [0]), (15, [0])] (hD 6 h24 (hE 7 h24 (hD 10 h25 (hE 11 h25 (hD 12 h26 (hS 13 h26 e20 (hD 14 h27 (hS 15 h27 e21 h0)))))))) ?_
   exact rg G (rh G (ibN (wL G hm)))
 rintro ⟨v8, data2⟩ hm
 refine rg G ?_
 cases hm
 exact rt [] []
noncomputable def slices_partitionOrdered_int_w_M : MS ((List Int) × Int × Int × Int) (Int × Bool × (List Int)) := ⟨.x (.s 3) (.x .r (.x .r .r)), fun x => slices_partitionOrdered_int_w x.1 x.2.1 x.2.2.1 x.2.2.2, fun y => .tup [dV y.1, dV y.2.1], fun _ => [], fun _ y => [arO 3 y.2.2]⟩
theorem slices_partitionOrdered_int_w_c {data a b pivot y} (hm : slices_partitionOrdered_int_w data a b pivot = some y) : slices_partitionOrdered_int_w_M.C (data, a, b, pivot) y := slices_partitionOrdered_int_w_M.c (data, a, b, pivot) hm
theorem slices_partitionOrdered_int_w_ok : FnOK Try.prog 296 slices_partitionOrdered_int_w_M.S := by
 refine fm tt slices_partitionOrdered_int_w_M [fo cmp_Less_int_ok] Try.call296 Try.func296 rfl Try.results296 Try.ntmps296 ?_
 rintro ⟨data, a, b, pivot⟩ y cx G hm
 have hm : slices_partitionOrdered_int_w data a b pivot = some y := hm
 unfold slices_partitionOrdered_int_w at hm
 refine rg G ?_
 obtain ⟨e4, h4, hm⟩ := obind hm
 obtain ⟨e5, h5, hm⟩ := obind hm
 obtain ⟨e6, h6, hm⟩ := obind hm
 obtain ⟨e7, h7, hm⟩ := obind hm
 refine ds G [(13, [0]), (15, [0])] (hD 6 h4 (hE 7 h4 (hD 10 h5 (hE 11 h5 (hD 12 h6 (hS 13 h6 e4 (hD 14 h7 (hS 15 h7 e5 h0)))))))) ?_
 refine rg G (jn hm (fun v2 => ⟨[(0, .own 0), (1, dV a), (10, dV v2), (11, dV (w64 (b - 1)))], [aX 0 3 ((data.set a.toNat e4).set pivot.toNat e5)], 48⟩) (fun v2 hm => ?_) ?_)
 ·refine Ok_block (lp G hm (fun v => ⟨[(0, .own 0), (1, dV a), (10, dV v), (11, dV (w64 (b - 1)))], [aX 0 3 ((data.set a.toNat e4).set pivot.toNat e5)], 48⟩) ?_)
  rintro v r0 hb hm
  rw [slices_partitionOrdered_int_w_L1] at hm
  refine Ok_seq (jn hm (fun v1 => ⟨[(0, .own 0), (1, dV a), (10, dV v), (11, dV (w64 (b - 1))), (43, dV v1)], [aX 0 3 ((data.set a.toNat e4).set pivot.toNat e5)], 48⟩) (fun v1 hm => ?_) ?_)
  ·rcases bf hm with ⟨hb1, hm⟩ | ⟨hb1, hm⟩
   ·obtain ⟨e10, h11, hm⟩ := obind hm
    obtain ⟨e11, h12, hm⟩ := obind hm
    obtain ⟨r1, h13, hm⟩ := obind hm
    refine de G [] (hO 3 (.b true) (hP hb1 (hD 6 h11 (hE 7 h11 (hD 10 h12 (hE 11 h12 (hC 12 (cmp_Less_int_c h13) h0))))))) ?_
    exact wJ G hm
   ·refine de G [] (hO 3 (.b false) (hP hb1 h0)) ?_
    exact wJ G hm
  rintro v1 hm
  refine cd hm (fun hm => ?_) (fun hm => ?_)
  ·exact X_skip (thN (Ok_block (rh G (ibN (wL G hm)))))
  ·exact Ok_exit (thE (thE (ibE (wD G hm hb))))
 rintro v2 hm
 refine jn hm (fun v5 => ⟨[(0, .own 0), (1, dV a), (10, dV v2), (11, dV v5)], [aX 0 3 ((data.set a.toNat e4).set pivot.toNat e5)], 48⟩) (fun v5 hm => ?_) ?_
 ·refine Ok_block (lp G hm (fun v3 => ⟨[(0, .own 0), (1, dV a), (10, dV v2), (11, dV v3)], [aX 0 3 ((data.set a.toNat e4).set pivot.toNat e5)], 48⟩) ?_)
  rintro v3 r0 hb2 hm
  rw [slices_partitionOrdered_int_w_L2] at hm
  refine Ok_seq (jn hm (fun v4 => ⟨[(0, .own 0), (1, dV a), (10, dV v2), (11, dV v3), (60, dV v4)], [aX 0 3 ((data.set a.toNat e4).set pivot.toNat e5)], 48⟩) (fun v4 hm => ?_) ?_)
  ·rcases bf hm with ⟨hb3, hm⟩ | ⟨hb3, hm⟩
   ·obtain ⟨e14, h17, hm⟩ := obind hm
    obtain ⟨e15, h18, hm⟩ := obind hm
    obtain ⟨r3, h19, hm⟩ := obind hm
    refine de G [] (hO 3 (.b true) (hP hb3 (hD 6 h17 (hE 7 h17 (hD 10 h18 (hE 11 h18 (hC 12 (cmp_Less_int_c h19) h0))))))) ?_
    exact wJ G hm
   ·refine de G [] (hO 3 (.b false) (hP hb3 h0)) ?_
    exact wJ G hm
  rintro v4 hm
  refine cd hm (fun hm => ?_) (fun hm => ?_)
  ·exact X_skip (thN (Ok_block (rh G (ibN (wL G hm)))))
  ·exact Ok_exit (thE (thE (ibE (wD G hm hb2))))
 rintro v5 hm
 refine Ok_seq (rg G (cd hm (fun hm => ?_) (fun hm => ?_)))
 ·obtain ⟨e20, h24, hm⟩ := obind hm
  obtain ⟨e21, h25, hm⟩ := obind hm
  obtain ⟨e22, h26, hm⟩ := obind hm
  obtain ⟨e23, h27, hm⟩ := obind hm
  refine ds G [(13, [0]), (15, [0])] (hD 6 h24 (hE 7 h24 (hD 10 h25 (hE 11 h25 (hD 12 h26 (hS 13 h26 e20 (hD 14 h27 (hS 15 h27 e21 h0)))))))) ?_
  refine rg G ?_
  cases hm
  exact rt [] []
 ·refine X_skip (thN ?_)
  obtain ⟨e28, h32, hm⟩ := obind hm
  obtain ⟨e29, h33, hm⟩ := obind hm
  obtain ⟨e30, h34, hm⟩ := obind hm
  obtain ⟨e31, h35, hm⟩ := obind hm
  refine ds G [(13, [0]), (15, [0])] (hD 6 h32 (hE 7 h32 (hD 10 h33 (hE 11 h33 (hD 12 h34 (hS 13 h34 e28 (hD 14 h35 (hS 15 h35 e29 h0)))))))) ?_
  refine rg G (rg G (jn hm (fun (v14, data2) => ⟨[(0, .own 0), (1, dV a), (11, dV v14)], [aX 0 3 data2], 48⟩) (fun vv hm => ?_) ?_))
  ·refine Ok_block (lp G hm (fun (v6, v7, data1) => ⟨[(0, .own 0), (1, dV a), (10, dV v6), (11, dV v7)], [aX 0 3 data1], 48⟩) ?_)
   rintro ⟨v6, v7, data1⟩ r0 hb4 hm
   rw [slices_partitionOrdered_int_w_L5] at hm
   refine Ok_block (jn hm (fun v10 => ⟨[(0, .own 0), (1, dV a), (10, dV v10), (11, dV v7)], [aX 0 3 data1], 48⟩) (fun v10 hm => ?_) ?_)
   ·refine Ok_block (lp G hm (fun v8 => ⟨[(0, .own 0), (1, dV a), (10, dV v8), (11, dV v7)], [aX 0 3 data1], 48⟩) ?_)
    rintro v8 r0 hb5 hm
    rw [slices_partitionOrdered_int_w_L3] at hm
    refine Ok_seq (jn hm (fun v9 => ⟨[(0, .own 0), (1, dV a), (10, dV v8), (11, dV v7), (112, dV v9)], [aX 0 3 data1], 48⟩) (fun v9 hm => ?_) ?_)
    ·rcases bf hm with ⟨hb6, hm⟩ | ⟨hb6, hm⟩
     ·obtain ⟨e34, h39, hm⟩ := obind hm
      obtain ⟨e35, h40, hm⟩ := obind hm
      obtain ⟨r5, h41, hm⟩ := obind hm
      refine de G [] (hO 3 (.b true) (hP hb6 (hD 6 h39 (hE 7 h39 (hD 10 h40 (hE 11 h40 (hC 12 (cmp_Less_int_c h41) h0))))))) ?_
      exact wJ G hm
     ·refine de G [] (hO 3 (.b false) (hP hb6 h0)) ?_
      exact wJ G hm
    rintro v9 hm
    refine cd hm (fun hm => ?_) (fun hm => ?_)
    ·exact X_skip (thN (Ok_block (rh G (ibN (wL G hm)))))
    ·exact Ok_exit (thE (thE (ibE (wD G hm hb5))))
   rintro v10 hm
   refine jn hm (fun v13 => ⟨[(0, .own 0), (1, dV a), (10, dV v10), (11, dV v13)], [aX 0 3 data1], 48⟩) (fun v13 hm => ?_) ?_
   ·refine Ok_block (lp G hm (fun v11 => ⟨[(0, .own 0), (1, dV a), (10, dV v10), (11, dV v11)], [aX 0 3 data1], 48⟩) ?_)
    rintro v11 r0 hb7 hm
    rw [slices_partitionOrdered_int_w_L4] at hm
    refine Ok_seq (jn hm (fun v12 => ⟨[(0, .own 0), (1, dV a), (10, dV v10), (11, dV v11), (129, dV v12)], [aX 0 3 data1], 48⟩) (fun v12 hm => ?_) ?_)
    ·rcases bf hm with ⟨hb8, hm⟩ | ⟨hb8, hm⟩
     ·obtain ⟨e38, h45, hm⟩ := obind hm
      obtain ⟨e39, h46, hm⟩ := obind hm
      obtain ⟨r7, h47, hm⟩ := obind hm
      refine de G [] (hO 3 (.b true) (hP hb8 (hD 6 h45 (hE 7 h45 (hD 10 h46 (hE 11 h46 (hC 12 (cmp_Less_int_c h47) h0))))))) ?_
      exact wJ G hm
     ·refine de G [] (hO 3 (.b false) (hP hb8 h0)) ?_
      exact wJ G hm
    rintro v12 hm
    refine cd hm (fun hm => ?_) (fun hm => ?_)
    ·exact X_skip (thN (Ok_block (rh G (ibN (wL G hm)))))
    ·exact Ok_exit (thE (thE (ibE (wD G hm hb7))))
   rintro v13 hm
   refine Ok_seq (rg G (cd hm (fun hm => ?_) (fun hm => ?_)))
   ·exact Ok_exit (thE (ibX rfl (thE (ibE (wD G hm hb4)))))
   ·refine X_skip (thN ?_)
    obtain ⟨e44, h52, hm⟩ := obind hm
    obtain ⟨e45, h53, hm⟩ := obind hm
    obtain ⟨e46, h54, hm⟩ := obind hm
    obtain ⟨e47, h55, hm⟩ := obind hm
    refine ds G [(13, [0]), (15, [0])] (hD 6 h52 (hE 7 h52 (hD 10 h53 (hE 11 h53 (hD 12 h54 (hS 13 h54 e44 (hD 14 h55 (hS 15 h55 e45 h0)))))))) ?_
    exact rg G (rh G (ibN (wL G hm)))
  rintro ⟨v14, data2⟩ hm
  obtain ⟨e52, h60, hm⟩ := obind hm
  obtain ⟨e53, h61, hm⟩ := obind hm
  obtain ⟨e54, h62, hm⟩ := obind hm
  obtain ⟨e55, h63, hm⟩ := obind hm
  refine ds G [(13, [0]), (15, [0])] (hD 6 h60 (hE 7 h60 (hD 10 h61 (hE 11 h61 (hD 12 h62 (hS 13 h62 e52 (hD 14 h63 (hS 15 h63 e53 h0)))))))) ?_
  refine rg G ?_
  cases hm
  exact rt [] []
noncomputable def slices_nextPowerOfTwo_M : MS Int ((IK .u64)) := ⟨.r, slices_nextPowerOfTwo, fun y => dV y, fun _ => [], fun _ _ => []⟩
theorem slices_nextPowerOfTwo_c {length y} (hm : slices_nextPowerOfTwo length = some y) : slices_nextPowerOfTwo_M.C length y := slices_nextPowerOfTwo_M.c length hm
theorem slices_nextPowerOfTwo_ok : FnOK Try.prog 284 slices_nextPowerOfTwo_M.S := by
 refine fm tt slices_nextPowerOfTwo_M [fo math_bits_Len_ok] Try.call284 Try.func284 rfl Try.results284 Try.ntmps284 ?_
 rintro length y cx G hm
 have hm : slices_nextPowerOfTwo length = some y := hm
 unfold slices_nextPowerOfTwo at hm
 refine rg G ?_
 obtain ⟨r, h, hm⟩ := obind hm
 obtain ⟨u, h1, hm⟩ := obind hm
 refine rs G (hC 2 (math_bits_Len_c h) (hK h1 h0)) ?_
 cases hm
 exact rt [] []
noncomputable def slices_xorshift_Next_M : MS ((IK .u64)) ((IK .u64) × (IK .u64)) := ⟨.b, slices_xorshift_Next, fun y => dV y.1, fun _ => [], fun _ y => [bxO y.2]⟩
theorem slices_xorshift_Next_c {r y} (hm : slices_xorshift_Next r = some y) : slices_xorshift_Next_M.C r y := slices_xorshift_Next_M.c r hm
theorem slices_xorshift_Next_ok : FnOK Try.prog 285 slices_xorshift_Next_M.S := by
 refine fm tt slices_xorshift_Next_M [] Try.call285 Try.func285 rfl Try.results285 Try.ntmps285 ?_
 rintro r y cx G hm
 have hm : slices_xorshift_Next r = some y := hm
 unfold slices_xorshift_Next at hm
 refine rg G ?_
 obtain ⟨u1, h1, hm⟩ := obind hm
 refine ds G [(9, [0])] (hK h1 h0) ?_
 obtain ⟨u3, h3, hm⟩ := obind hm
 refine ds G [(9, [0])] (hK h3 h0) ?_
 obtain ⟨u5, h5, hm⟩ := obind hm
 refine ds G [(9, [0])] (hK h5 h0) ?_
 refine rg G ?_
 cases hm
 exact rt [] []
noncomputable def slices_breakPatternsOrdered_int_w_M : MS ((List Int) × Int × Int) ((List Int)) := ⟨.x (.s 3) (.x .r .r), fun x => slices_breakPatternsOrdered_int_w x.1 x.2.1 x.2.2, fun _ => .tup [], fun _ => [], fun _ y => [arO 3 y]⟩
theorem slices_breakPatternsOrdered_int_w_c {data a b y} (hm : slices_breakPatternsOrdered_int_w data a b = some y) : slices_breakPatternsOrdered_int_w_M.C (data, a, b) y := slices_breakPatternsOrdered_int_w_M.c (data, a, b) hm
theorem slices_breakPatternsOrdered_int_w_ok : FnOK Try.prog 290 slices_breakPatternsOrdered_int_w_M.S := by
 refine fm tt slices_breakPatternsOrdered_int_w_M [fo slices_nextPowerOfTwo_ok, fo slices_xorshift_Next_ok] Try.call290 Try.func290 rfl Try.results290 Try.ntmps290 ?_
 rintro ⟨data, a, b⟩ y cx G hm
 have hm : slices_breakPatternsOrdered_int_w data a b = some y := hm
 unfold slices_breakPatternsOrdered_int_w at hm
 refine rg G (rg G (cd hm (fun hm => ?_) (fun hm => ?_)))
 ·refine rg G ?_
  obtain ⟨r, h, hm⟩ := obind hm
  refine rs G (hC 1 (slices_nextPowerOfTwo_c h) h0) ?_
  obtain ⟨u, h1, hm⟩ := obind hm
  refine rs G (hK h1 h0) ?_
  refine Ok_block (lp G hm (fun (v, data1, v1) => ⟨[(0, .own 0), (1, dV a), (6, dV (w64 (b - a))), (7, .ref 32 0), (8, kV .u64 r.v), (9, dV v)], [aX 0 3 data1, bX 32 [kV .u64 v1]], 64⟩) ?_)
  rintro ⟨v, data1, v1⟩ r0 hb hm
  rw [slices_breakPatternsOrdered_int_w_L1] at hm
  refine Ok_seq ?_
  obtain ⟨u1, h2, hm⟩ := obind hm
  refine rs G (hK h2 h0) ?_
  refine cd hm (fun hm => ?_) (fun hm => ?_)
  ·refine X_skip (thN (Ok_seq (Ok_block ?_)))
   obtain ⟨r1, h3, hm⟩ := obind hm
   refine rs G (hC 0 (slices_xorshift_Next_c h3) h0) ?_
   refine jn hm (fun v2 => ⟨[(0, .own 0), (1, dV a), (6, dV (w64 (b - a))), (7, .ref 32 0), (8, kV .u64 r.v), (9, dV v), (10, dV v2)], [aX 0 3 data1, bX 32 [kV .u64 r1.2.v]], 64⟩) (fun v2 hm => ?_) ?_
   ·refine rg G (cd hm (fun hm => ?_) (fun hm => ?_))
    ·exact rh G (wJ G hm)
    ·exact X_skip (wJ G hm)
   rintro v2 hm
   obtain ⟨e4, h8, hm⟩ := obind hm
   obtain ⟨e5, h9, hm⟩ := obind hm
   obtain ⟨e6, h10, hm⟩ := obind hm
   obtain ⟨e7, h11, hm⟩ := obind hm
   refine de G [(17, [0]), (19, [0])] (hD 10 h8 (hE 11 h8 (hD 14 h9 (hE 15 h9 (hD 16 h10 (hS 17 h10 e4 (hD 18 h11 (hS 19 h11 e5 h0)))))))) ?_
   exact ibN (thN (rh G (wL G hm)))
  ·have hm := eD hm hb
   refine Ok_exit (thE (thE (ibE ?_)))
   cases hm
   exact fN [] []
 ·refine X_skip ?_
  cases hm
  exact fN [] []
noncomputable def slices_pdqsortOrdered_int_w_MR (rec_ : (List Int) → Int → Int → Int → Option ((List Int))) : MS ((List Int) × Int × Int × Int) ((List Int)) := ⟨.x (.s 3) (.x .r (.x .r .r)), fun x => rec_ x.1 x.2.1 x.2.2.1 x.2.2.2, fun _ => .tup [], fun _ => [], fun _ y => [arO 3 y]⟩
noncomputable def slices_pdqsortOrdered_int_w_M : MS ((List Int) × Int × Int × Int) ((List Int)) := slices_pdqsortOrdered_int_w_MR slices_pdqsortOrdered_int_w
theorem slices_pdqsortOrdered_int_w_c {data a b limit y} (hm : slices_pdqsortOrdered_int_w data a b limit = some y) : slices_pdqsortOrdered_int_w_M.C (data, a, b, limit) y := slices_pdqsortOrdered_int_w_M.c (data, a, b, limit) hm
theorem slices_pdqsortOrdered_int_w_cR {rec_ : (List Int) → Int → Int → Int → Option ((List Int))} {data a b limit y} (hm : rec_ data a b limit = some y) : (slices_pdqsortOrdered_int_w_MR rec_).C (data, a, b, limit) y := (slices_pdqsortOrdered_int_w_MR rec_).c (data, a, b, limit) hm
theorem slices_pdqsortOrdered_int_w_okF {rec_ : (List Int) → Int → Int → Int → Option ((List Int))} (hrec : FnOK Try.prog 277 (slices_pdqsortOrdered_int_w_MR rec_).S) : FnOK Try.prog 277 (slices_pdqsortOrdered_int_w_MR (slices_pdqsortOrdered_int_w_F rec_)).S := by
 refine fm tt (slices_pdqsortOrdered_int_w_MR (slices_pdqsortOrdered_int_w_F rec_)) [fo hrec, fo slices_insertionSortOrdered_int_w_ok, fo slices_heapSortOrdered_int_w_ok, fo slices_choosePivotOrdered_int_ok, fo slices_reverseRangeOrdered_int_w_ok, fo slices_partialInsertionSortOrdered_int_w_ok, fo cmp_Less_int_ok, fo slices_partitionEqualOrdered_int_w_ok, fo slices_partitionOrdered_int_w_ok, fo slices_breakPatternsOrdered_int_w_ok] Try.call277 Try.func277 rfl Try.results277 Try.ntmps277 ?_
 rintro ⟨data, a, b, limit⟩ y cx G hm
 have hm : slices_pdqsortOrdered_int_w_F rec_ data a b limit = some y := hm
 unfold slices_pdqsortOrdered_int_w_F at hm
 refine rg G (rg G (Ok_block (lp G hm (fun (a1, b1, limit1, hint, mid, data1) => ⟨[(0, .own 0), (1, dV a1), (2, dV b1), (3, dV limit1), (8, dV hint), (9, dV mid)], [aX 0 3 data1], 48⟩) ?_)))
 rintro ⟨a1, b1, limit1, hint, mid, data1⟩ r0 hb hm
 rw [slices_pdqsortOrdered_int_w_L1] at hm
 refine Ok_block (rg G (Ok_seq (rg G (cd hm (fun hm => ?_) (fun hm => ?_)))))
 ·obtain ⟨r, h, hm⟩ := obind hm
  refine rs G (hC 3 (slices_insertionSortOrdered_int_w_c h) h0) ?_
  have hm := eD hm hb
  cases hm
  exact rt [] []
 ·refine X_skip (thN (Ok_seq (rg G (cd hm (fun hm => ?_) (fun hm => ?_)))))
  ·obtain ⟨r2, h1, hm⟩ := obind hm
   refine rs G (hC 3 (slices_heapSortOrdered_int_w_c h1) h0) ?_
   have hm := eD hm hb
   cases hm
   exact rt [] []
  ·refine X_skip (thN (jn hm (fun (limit2, data2) => ⟨[(0, .own 0), (1, dV a1), (2, dV b1), (3, dV limit2), (8, dV hint), (9, dV mid), (10, dV (w64 (b1 - a1)))], [aX 0 3 data2], 48⟩) (fun vv1 hm => ?_) ?_))
   ·refine rg G (cd hm (fun hm => ?_) (fun hm => ?_))
    ·obtain ⟨r4, h2, hm⟩ := obind hm
     refine rs G (hC 3 (slices_breakPatternsOrdered_int_w_c h2) h0) ?_
     exact rh G (wJ G hm)
    ·exact X_skip (wJ G hm)
   rintro ⟨limit2, data2⟩ hm
   obtain ⟨r5, h3, hm⟩ := obind hm
   refine rs G (hC 3 (slices_choosePivotOrdered_int_c h3) h0) ?_
   refine jn hm (fun (alreadyPartitioned, leftLen, data3) => ⟨[(0, .own 0), (1, dV a1), (2, dV b1), (3, dV limit2), (8, dV hint), (9, dV mid), (10, dV (w64 (b1 - a1))), (11, dV alreadyPartitioned), (12, dV leftLen)], [aX 0 3 data3], 48⟩) (fun vv hm => ?_) ?_
   ·refine rg G (cd hm (fun hm => ?_) (fun hm => ?_))
    ·obtain ⟨r6, h4, hm⟩ := obind hm
     refine rs G (hC 3 (slices_reverseRangeOrdered_int_w_c h4) h0) ?_
     exact rg G (rh G (wJ G hm))
    ·exact X_skip (wJ G hm)
   rintro ⟨alreadyPartitioned, leftLen, data3⟩ hm
   refine jF hm (fun data4 => ⟨[(0, .own 0), (1, dV a1), (2, dV b1), (3, dV limit2), (8, dV hint), (9, dV mid), (10, dV (w64 (b1 - a1))), (11, dV alreadyPartitioned)], [aX 0 3 data4], 48⟩) (fun v2 hr3 hm => ?_) ?_
   ·refine jn hm (fun v => ⟨[(0, .own 0), (1, dV a1), (2, dV b1), (3, dV limit2), (8, dV hint), (9, dV mid), (10, dV (w64 (b1 - a1))), (11, dV alreadyPartitioned), (68, dV v)], [aX 0 3 data3], 48⟩) (fun v hm => ?_) ?_
    ·rcases bf hm with ⟨hb1, hm⟩ | ⟨hb1, hm⟩
     ·rcases bf hm with ⟨hb2, hm⟩ | ⟨hb2, hm⟩
      ·refine re G (hO 1 (.b true) (hP hb1 (hO 4 (.b true) (hP hb2 h0)))) ?_
       exact wJ G hm
      ·refine re G (hO 1 (.b true) (hP hb1 (hO 4 (.b false) (hP hb2 h0)))) ?_
       exact wJ G hm
     ·refine re G (hO 1 (.b false) (hP hb1 h0)) ?_
      exact wJ G hm
    rintro v hm
    refine cd hm (fun hm => ?_) (fun hm => ?_)
    ·obtain ⟨r7, h5, hm⟩ := obind hm
     refine rs G (hC 3 (slices_partialInsertionSortOrdered_int_w_c h5) h0) ?_
     refine cd hm (fun hm => ?_) (fun hm => ?_)
     ·have hm := eR hm hr3
      have hm := eD hm hb
      cases hm
      exact rt [] []
     ·exact X_skip (wF G hm)
    ·exact X_skip (wF G hm)
   rintro data4 hm
   refine Ok_seq (jn hm (fun v1 => ⟨[(0, .own 0), (1, dV a1), (2, dV b1), (3, dV limit2), (8, dV hint), (9, dV mid), (10, dV (w64 (b1 - a1))), (11, dV alreadyPartitioned), (87, dV v1)], [aX 0 3 data4], 48⟩) (fun v1 hm => ?_) ?_)
   ·rcases bf hm with ⟨hb3, hm⟩ | ⟨hb3, hm⟩
    ·obtain ⟨e6, h9, hm⟩ := obind hm
     obtain ⟨e7, h10, hm⟩ := obind hm
     obtain ⟨r11, h11, hm⟩ := obind hm
     refine de G [] (hO 2 (.b true) (hP hb3 (hD 6 h9 (hE 7 h9 (hD 10 h10 (hE 11 h10 (hC 12 (cmp_Less_int_c h11) h0))))))) ?_
     exact wJ G hm
    ·refine de G [] (hO 2 (.b false) (hP hb3 h0)) ?_
     exact wJ G hm
   rintro v1 hm
   refine cd hm (fun hm => ?_) (fun hm => ?_)
   ·obtain ⟨r12, h12, hm⟩ := obind hm
    refine rs G (hC 4 (slices_partitionEqualOrdered_int_w_c h12) h0) ?_
    exact rg G (Ok_exit (thE (ibE (wL G hm))))
   ·refine X_skip (thN ?_)
    obtain ⟨r13, h13, hm⟩ := obind hm
    refine rs G (hC 4 (slices_partitionOrdered_int_w_c h13) h0) ?_
    refine rg G (rg G ?_)
    obtain ⟨u, h14, hm⟩ := obind hm
    refine rs G (hK h14 h0) ?_
    refine rg G (cd hm (fun hm => ?_) (fun hm => ?_))
    ·refine rg G ?_
     obtain ⟨r14, h15, hm⟩ := obind hm
     refine rs G (hC 4 (slices_pdqsortOrdered_int_w_cR h15) h0) ?_
     exact rh G (ibN (wL G hm))
    ·refine rg G ?_
     obtain ⟨r15, h16, hm⟩ := obind hm
     refine rs G (hC 5 (slices_pdqsortOrdered_int_w_cR h16) h0) ?_
     exact rh G (ibN (wL G hm))
theorem slices_pdqsortOrdered_int_w_okn : ∀ k, FnOK Try.prog 277 (slices_pdqsortOrdered_int_w_MR (slices_pdqsortOrdered_int_w_k k)).S
 | 0 => ⟨fun args w => Try.call277 args w, fun vs w F ds obs κ hp => by obtain ⟨x, y, _, _, h⟩ := hp; cases h⟩
 | k + 1 => slices_pdqsortOrdered_int_w_okF (slices_pdqsortOrdered_int_w_okn k)
theorem slices_pdqsortOrdered_int_w_ok : FnOK Try.prog 277 slices_pdqsortOrdered_int_w_M.S := slices_pdqsortOrdered_int_w_okn 4294967296
noncomputable def slices_Sort_int_w_M : MS ((List Int)) ((List Int)) := ⟨.s 3, slices_Sort_int_w, fun _ => .tup [], fun _ => [], fun _ y => [arO 3 y]⟩
theorem slices_Sort_int_w_c {x y} (hm : slices_Sort_int_w x = some y) : slices_Sort_int_w_M.C x y := slices_Sort_int_w_M.c x hm
theorem slices_Sort_int_w_ok : FnOK Try.prog 238 slices_Sort_int_w_M.S := by
 refine fm tt slices_Sort_int_w_M [fo math_bits_Len_ok, fo slices_pdqsortOrdered_int_w_ok] Try.call238 Try.func238 rfl Try.results238 Try.ntmps238 ?_
 rintro x y cx G hm
 have hm : slices_Sort_int_w x = some y := hm
 unfold slices_Sort_int_w at hm
 refine rs G (hN 1 x h0) ?_
 obtain ⟨r, h, hm⟩ := obind hm
 obtain ⟨r1, h1, hm⟩ := obind hm
 refine re G (hC 4 (math_bits_Len_c h) (hC 5 (slices_pdqsortOrdered_int_w_c h1) h0)) ?_
 cases hm
 exact fN [] []
noncomputable def i_passingRests_M : MS (Network × Int × (List Pattern) × Int) ((List Int)) := ⟨.x .r (.x .r (.x .r .r)), fun x => i_passingRests x.1 x.2.1 x.2.2.1 x.2.2.2, fun _ => .own 0, fun y => [arO 3 y], fun _ _ => []⟩
theorem i_passingRests_c {n period list stop y} (hm : i_passingRests n period list stop = some y) : i_passingRests_M.C (n, period, list, stop) y := i_passingRests_M.c (n, period, list, stop) hm
theorem i_passingRests_ok : FnOK Try.prog 168 i_passingRests_M.S := by
 refine fm tt i_passingRests_M [fo i_restAt_ok, fo slices_Sort_int_w_ok] Try.call168 Try.func168 rfl Try.results168 Try.ntmps168 ?_
 rintro ⟨n, period, list, stop⟩ y cx G hm
 have hm : i_passingRests n period list stop = some y := hm
 unfold i_passingRests at hm
 refine rg G (rg G (Ok_seq (rs G (hN 1 list h0) ?_)))
 refine tl hm (fun v3 => ⟨[(9, .own 16)], [aX 16 3 v3], 48⟩) (fun v3 hm => ?_) ?_
 ·refine Ok_block (lpP hm (fun (v, v1) => ⟨[(1, dV period), (3, dV stop), (4, .ref 16 0), (9, .own 32), (13, dV list), (14, dV (list.length : Int)), (15, dV v)], [bX 16 [dV n.Stops, dV n.Lines], aX 32 3 v1], 64⟩) (Wk_J G.hL ⟨[(1, []), (3, []), (4, []), (9, [.o 32]), (13, []), (14, []), (15, [])], [(16, 16, [])], [(32, 3, 1, [])], 64⟩ (by kernel_rfl)) ?_)
  rintro ⟨v, v1⟩ r0 hb hm
  rw [i_passingRests_L1] at hm
  refine rg G (Ok_seq (cd hm (fun hm => ?_) (fun hm => ?_)))
  ·refine X_skip (thN (jn hm (fun v2 => ⟨[(1, dV period), (3, dV stop), (4, .ref 16 0), (9, .own 32), (13, dV list), (14, dV (list.length : Int)), (15, dV v)], [bX 16 [dV n.Stops, dV n.Lines], aX 32 3 v2], 64⟩) (fun v2 hm => ?_) ?_))
   ·refine Ok_block ?_
    obtain ⟨e, h, hm⟩ := obind hm
    refine rs G (hD 0 h h0) ?_
    obtain ⟨r, h1, hm⟩ := obind hm
    refine rs G (hC 4 (i_restAt_c h1) h0) ?_
    refine rg G (cd hm (fun hm => ?_) (fun hm => ?_))
    ·obtain ⟨u, h2, hm⟩ := obind hm
     refine re G (hA 3 8 h2 h0) ?_
     exact ibN (wJ G hm)
    ·exact X_skip (ibN (wJ G hm))
   rintro v2 hm
   exact rh G (wL G hm)
  ·exact Ok_exit (thE (thE (ibE (wD G hm hb))))
 rintro v3 hm s hw
 refine thN (Ok_weak hw ?_)
 obtain ⟨r1, h3, hm⟩ := obind hm
 refine rs G (hC 1 (slices_Sort_int_w_c h3) h0) ?_
 refine rg G ?_
 cases hm
 exact rt [16] []
noncomputable def i_gapsOf_M : MS ((List Int) × Int) ((List Int)) := ⟨.x .r .r, fun x => i_gapsOf x.1 x.2, fun _ => .own 0, fun y => [arO 3 y], fun _ _ => []⟩
theorem i_gapsOf_c {rests period y} (hm : i_gapsOf rests period = some y) : i_gapsOf_M.C (rests, period) y := i_gapsOf_M.c (rests, period) hm
theorem i_gapsOf_ok : FnOK Try.prog 167 i_gapsOf_M.S := by
 refine fm tt i_gapsOf_M [] Try.call167 Try.func167 rfl Try.results167 Try.ntmps167 ?_
 rintro ⟨rests, period⟩ y cx G hm
 have hm : i_gapsOf rests period = some y := hm
 unfold i_gapsOf at hm
 refine rg G ?_
 obtain ⟨u, h, hm⟩ := obind hm
 refine rs G (hN 1 rests (hO 2 (.l (List.map Enc.e (List.replicate (rests.length : Int).toNat (0 : Int)))) (hP (mk_p (b := 8) (chk_t h) rfl) (hP (rep_m Enc.e (rests.length : Int).toNat (0 : Int)) h0)))) ?_
 refine Ok_seq (rs G (hN 1 rests h0) ?_)
 refine tl hm (fun r2 => ⟨[(5, .own 16)], [aX 16 3 r2], 48⟩) (fun r2 hm => ?_) ?_
 ·refine Ok_block (lp G hm (fun (v, r) => ⟨[(0, dV rests), (1, dV period), (5, .own 16), (11, dV rests), (12, dV (rests.length : Int)), (13, dV v)], [aX 16 3 r], 48⟩) ?_)
  rintro ⟨v, r⟩ r0 hb hm
  rw [i_gapsOf_L1] at hm
  refine rg G (Ok_seq (cd hm (fun hm => ?_) (fun hm => ?_)))
  ·refine X_skip (thN (jn hm (fun r1 => ⟨[(0, dV rests), (1, dV period), (5, .own 16), (11, dV rests), (12, dV (rests.length : Int)), (13, dV v)], [aX 16 3 r1], 48⟩) (fun r1 hm => ?_) ?_))
   ·refine Ok_block ?_
    obtain ⟨e, h1, hm⟩ := obind hm
    refine rs G (hD 1 h1 h0) ?_
    refine rs G (hN 3 rests h0) ?_
    refine cd hm (fun hm => ?_) (fun hm => ?_)
    ·obtain ⟨e1, h2, hm⟩ := obind hm
     obtain ⟨e2, h3, hm⟩ := obind hm
     refine re G (hD 5 h2 (hD 9 h3 (hS 10 h3 (w64 (e1 - e)) h0))) ?_
     exact ibN (wJ G hm)
    ·obtain ⟨e3, h4, hm⟩ := obind hm
     obtain ⟨e4, h5, hm⟩ := obind hm
     refine re G (hD 3 h4 (hD 9 h5 (hS 10 h5 (w64 ((w64 (e3 + period)) - e)) h0))) ?_
     exact ibN (wJ G hm)
   rintro r1 hm
   exact rh G (wL G hm)
  ·exact Ok_exit (thE (thE (ibE (wD G hm hb))))
 rintro r2 hm s hw
 refine thN (Ok_weak hw ?_)
 refine rg G ?_
 cases hm
 exact rt [16] []
noncomputable def i_GapsAt_M : MS (Network × Int × (List Pattern) × Int) ((List Int) × Bool) := ⟨.x .r (.x .r (.x .r .r)), fun x => i_GapsAt x.1 x.2.1 x.2.2.1 x.2.2.2, fun y => .tup [dV y.1, dV y.2], fun _ => [], fun _ _ => []⟩
theorem i_GapsAt_c {n period list stop y} (hm : i_GapsAt n period list stop = some y) : i_GapsAt_M.C (n, period, list, stop) y := i_GapsAt_M.c (n, period, list, stop) hm
theorem i_GapsAt_ok : FnOK Try.prog 63 i_GapsAt_M.S := by
 refine fm tt i_GapsAt_M [fo i_arePassed_ok, fo i_passingRests_ok, fo i_gapsOf_ok] Try.call63 Try.func63 rfl Try.results63 Try.ntmps63 ?_
 rintro ⟨n, period, list, stop⟩ y cx G hm
 have hm : i_GapsAt n period list stop = some y := hm
 unfold i_GapsAt at hm
 refine rg G (Ok_seq ?_)
 obtain ⟨r, h, hm⟩ := obind hm
 refine rs G (hC 4 (i_arePassed_c h) h0) ?_
 refine cd hm (fun hm => ?_) (fun hm => ?_)
 ·refine rg G ?_
  cases hm
  exact rt [] [[.z 1]]
 ·refine X_skip (thN ?_)
  obtain ⟨r1, h1, hm⟩ := obind hm
  obtain ⟨r2, h2, hm⟩ := obind hm
  refine rs G (hC 4 (i_passingRests_c h1) (hF 6 (i_gapsOf_c h2) ⟨(flat_cons flat_arr flat_nil), flat_nil⟩ h0)) ?_
  cases hm
  exact rt [] []
noncomputable def s_l10Good_M : MS (Network × Int × (List Pattern)) Bool := ⟨.x .r (.x .r .r), fun x => s_l10Good x.1 x.2.1 x.2.2, fun y => dV y, fun _ => [], fun _ _ => []⟩
theorem s_l10Good_c {n period list y} (hm : s_l10Good n period list = some y) : s_l10Good_M.C (n, period, list) y := s_l10Good_M.c (n, period, list) hm
theorem s_l10Good_ok : FnOK Try.prog 195 s_l10Good_M.S := by
 refine fm tt s_l10Good_M [fo s_l2Good_ok, fo s_l1In_ok] Try.call195 Try.func195 rfl Try.results195 Try.ntmps195 ?_
 rintro ⟨n, period, list⟩ y cx G hm
 have hm : s_l10Good n period list = some y := hm
 unfold s_l10Good at hm
 refine rg G (Ok_seq ?_)
 obtain ⟨r, h, hm⟩ := obind hm
 refine jn hm (fun v => ⟨[(1, dV period), (2, dV list), (3, .ref 16 0), (21, dV v)], [bX 16 [dV n.Stops, dV n.Lines]], 48⟩) (fun v hm => ?_) ?_
 ·rcases bf hm with ⟨hb, hm⟩ | ⟨hb, hm⟩
  ·refine re G (hC 1 (s_l2Good_c h) (hO 3 (.b true) (hP hb h0))) ?_
   exact wJ G hm
  ·obtain ⟨r1, h1, hm⟩ := obind hm
   rcases bf hm with ⟨hb1, hm⟩ | ⟨hb1, hm⟩
   ·refine re G (hC 1 (s_l2Good_c h) (hO 3 (.b false) (hP hb (hC 5 (s_l1In_c h1) (hO 8 (.b true) (hP hb1 h0)))))) ?_
    exact wJ G hm
   ·obtain ⟨r2, h2, hm⟩ := obind hm
    refine re G (hC 1 (s_l2Good_c h) (hO 3 (.b false) (hP hb (hC 5 (s_l1In_c h1) (hO 8 (.b false) (hP hb1 (hN 10 list (hC 11 (s_l1In_c h2) h0)))))))) ?_
    exact wJ G hm
 rintro v hm
 refine cd hm (fun hm => ?_) (fun hm => ?_)
 ·refine rg G ?_
  cases hm
  exact rt [] []
 ·refine X_skip (thN (Ok_seq (rg G (tF hm (fun _ => ⟨[], [], 32⟩) (fun v3 hr hm => ?_) ?_))))
  ·refine Ok_block (lp G hm (fun v1 => ⟨[(1, dV period), (2, dV list), (3, .ref 16 0), (7, dV v1)], [bX 16 [dV n.Stops, dV n.Lines]], 48⟩) ?_)
   rintro v1 r0 hb2 hm
   rw [s_l10Good_L1] at hm
   refine Ok_seq (rs G (hN 2 list h0) ?_)
   refine cd hm (fun hm => ?_) (fun hm => ?_)
   ·refine X_skip (thN (Ok_seq (Ok_block ?_)))
    obtain ⟨e2, h7, hm⟩ := obind hm
    obtain ⟨r5, h8, hm⟩ := obind hm
    refine jn hm (fun v2 => ⟨[(1, dV period), (2, dV list), (3, .ref 16 0), (7, dV v1), (49, dV v2)], [bX 16 [dV n.Stops, dV n.Lines]], 48⟩) (fun v2 hm => ?_) ?_
    ·rcases bf hm with ⟨hb3, hm⟩ | ⟨hb3, hm⟩
     ·refine de G [] (hD 2 h7 (hN 7 n.Lines (hC 9 (s_l1In_c h8) (hO 11 (.b true) (hP hb3 h0))))) ?_
      exact wJ G hm
     ·obtain ⟨e3, h9, hm⟩ := obind hm
      obtain ⟨r6, h10, hm⟩ := obind hm
      refine de G [] (hD 2 h7 (hN 7 n.Lines (hC 9 (s_l1In_c h8) (hO 11 (.b false) (hP hb3 (hD 14 h9 (hC 19 (s_l1In_c h10) h0))))))) ?_
      exact wJ G hm
    rintro v2 hm
    refine cd hm (fun hm => ?_) (fun hm => ?_)
    ·refine rg G ?_
     have hm := eL hm hb2 hr
     cases hm
     exact rt [] []
    ·exact X_skip (ibN (thN (rh G (wL G hm))))
   ·exact Ok_exit (thE (thE (ibE (wE G hm hb2))))
  rintro ⟨⟩ hm s hw
  refine thN (Ok_weak hw ?_)
  refine rg G ?_
  cases hm
  exact rt [] []
noncomputable def s_l10Asked_M : MS (Network × Int × (List Pattern) × Int) Bool := ⟨.x .r (.x .r (.x .r .r)), fun x => s_l10Asked x.1 x.2.1 x.2.2.1 x.2.2.2, fun y => dV y, fun _ => [], fun _ _ => []⟩
theorem s_l10Asked_c {n period list stop y} (hm : s_l10Asked n period list stop = some y) : s_l10Asked_M.C (n, period, list, stop) y := s_l10Asked_M.c (n, period, list, stop) hm
theorem s_l10Asked_ok : FnOK Try.prog 169 s_l10Asked_M.S := by
 refine fm tt s_l10Asked_M [fo s_l10Good_ok, fo s_l1In_ok] Try.call169 Try.func169 rfl Try.results169 Try.ntmps169 ?_
 rintro ⟨n, period, list, stop⟩ y cx G hm
 have hm : s_l10Asked n period list stop = some y := hm
 unfold s_l10Asked at hm
 refine rg G ?_
 obtain ⟨r, h, hm⟩ := obind hm
 refine jn hm (fun v => ⟨[(8, dV v)], [], 32⟩) (fun v hm => ?_) ?_
 ·rcases bf hm with ⟨hb, hm⟩ | ⟨hb, hm⟩
  ·obtain ⟨r1, h1, hm⟩ := obind hm
   refine re G (hC 3 (s_l10Good_c h) (hO 4 (.b true) (hP hb (hN 8 n.Stops (hC 10 (s_l1In_c h1) h0))))) ?_
   exact wJ G hm
  ·refine re G (hC 3 (s_l10Good_c h) (hO 4 (.b false) (hP hb h0))) ?_
   exact wJ G hm
 rintro v hm
 cases hm
 exact rt [] []
noncomputable def s_l2Run_M : MS (Line × Int × Int) Int := ⟨.x .r (.x .r .r), fun x => s_l2Run x.1 x.2.1 x.2.2, fun y => dV y, fun _ => [], fun _ _ => []⟩
theorem s_l2Run_c {x from_ to y} (hm : s_l2Run x from_ to = some y) : s_l2Run_M.C (x, from_, to) y := s_l2Run_M.c (x, from_, to) hm
theorem s_l2Run_ok : FnOK Try.prog 236 s_l2Run_M.S := by
 refine fm tt s_l2Run_M [] Try.call236 Try.func236 rfl Try.results236 Try.ntmps236 ?_
 rintro ⟨x, from_, to⟩ y cx G hm
 have hm : s_l2Run x from_ to = some y := hm
 unfold s_l2Run at hm
 refine rg G (rg G (Ok_seq (rg G (tl hm (fun v2 => ⟨[(7, dV v2)], [], 32⟩) (fun v2 hm => ?_) ?_))))
 ·refine Ok_block (lp G hm (fun (v, v1) => ⟨[(2, dV to), (3, .ref 16 0), (7, dV v), (8, dV v1)], [bX 16 [dV x.Name, dV x.Stops, dV x.Runs]], 48⟩) ?_)
  rintro ⟨v, v1⟩ r0 hb hm
  rw [s_l2Run_L1] at hm
  refine Ok_seq (rg G (cd hm (fun hm => ?_) (fun hm => ?_)))
  ·refine X_skip (thN (Ok_seq (Ok_block ?_)))
   obtain ⟨e, h, hm⟩ := obind hm
   refine re G (hD 4 h h0) ?_
   exact ibN (thN (rh G (wL G hm)))
  ·exact Ok_exit (thE (thE (ibE (wD G hm hb))))
 rintro v2 hm s hw
 refine thN (Ok_weak hw ?_)
 refine rg G ?_
 cases hm
 exact rt [] []
noncomputable def s_l10Rest_M : MS (Network × Int × Pattern × Int) Int := ⟨.x .r (.x .r (.x .r .r)), fun x => s_l10Rest x.1 x.2.1 x.2.2.1 x.2.2.2, fun y => dV y, fun _ => [], fun _ _ => []⟩
theorem s_l10Rest_c {n period p stop y} (hm : s_l10Rest n period p stop = some y) : s_l10Rest_M.C (n, period, p, stop) y := s_l10Rest_M.c (n, period, p, stop) hm
theorem s_l10Rest_ok : FnOK Try.prog 194 s_l10Rest_M.S := by
 refine fm tt s_l10Rest_M [fo s_l2Place_ok, fo s_l2Run_ok] Try.call194 Try.func194 rfl Try.results194 Try.ntmps194 ?_
 rintro ⟨n, period, p, stop⟩ y cx G hm
 have hm : s_l10Rest n period p stop = some y := hm
 unfold s_l10Rest at hm
 refine rg G ?_
 obtain ⟨e, h, hm⟩ := obind hm
 obtain ⟨r, h1, hm⟩ := obind hm
 refine rs G (hD 4 h (hC 7 (s_l2Place_c h1) h0)) ?_
 refine Ok_seq (rg G (cd hm (fun hm => ?_) (fun hm => ?_)))
 ·refine rg G ?_
  cases hm
  exact rt [] []
 ·refine X_skip (thN ?_)
  obtain ⟨e2, h5, hm⟩ := obind hm
  obtain ⟨r2, h6, hm⟩ := obind hm
  obtain ⟨u1, h7, hm⟩ := obind hm
  refine ds G [] (hD 6 h5 (hC 9 (s_l2Run_c h6) (hK h7 h0))) ?_
  cases hm
  exact rt [] []
noncomputable def s_l10Rests_M : MS (Network × Int × (List Pattern) × Int) ((List Int)) := ⟨.x .r (.x .r (.x .r .r)), fun x => s_l10Rests x.1 x.2.1 x.2.2.1 x.2.2.2, fun _ => .own 0, fun y => [arO 3 y], fun _ _ => []⟩
theorem s_l10Rests_c {n period list stop y} (hm : s_l10Rests n period list stop = some y) : s_l10Rests_M.C (n, period, list, stop) y := s_l10Rests_M.c (n, period, list, stop) hm
theorem s_l10Rests_ok : FnOK Try.prog 171 s_l10Rests_M.S := by
 refine fm tt s_l10Rests_M [fo s_l10Rest_ok] Try.call171 Try.func171 rfl Try.results171 Try.ntmps171 ?_
 rintro ⟨n, period, list, stop⟩ y cx G hm
 have hm : s_l10Rests n period list stop = some y := hm
 unfold s_l10Rests at hm
 refine rg G (rg G (Ok_seq (rg G (tl hm (fun v6 => ⟨[(9, .own 16)], [aX 16 3 v6], 48⟩) (fun v6 hm => ?_) ?_))))
 ·refine Ok_block (lp G hm (fun (v, v1) => ⟨[(1, dV period), (2, dV list), (3, dV stop), (4, .ref 16 0), (9, .own 32), (10, dV v)], [bX 16 [dV n.Stops, dV n.Lines], aX 32 3 v1], 64⟩) ?_)
  rintro ⟨v, v1⟩ r0 hb hm
  rw [s_l10Rests_L2] at hm
  refine Ok_seq (rs G (hN 2 list h0) ?_)
  refine cd hm (fun hm => ?_) (fun hm => ?_)
  ·refine X_skip (thN (jn hm (fun v2 => ⟨[(1, dV period), (2, dV list), (3, dV stop), (4, .ref 16 0), (9, .own 32), (10, dV v)], [bX 16 [dV n.Stops, dV n.Lines], aX 32 3 v2], 64⟩) (fun v2 hm => ?_) ?_))
   ·refine Ok_block ?_
    obtain ⟨e1, h2, hm⟩ := obind hm
    obtain ⟨r1, h3, hm⟩ := obind hm
    refine ds G [] (hD 4 h2 (hC 7 (s_l10Rest_c h3) h0)) ?_
    refine Ok_seq (rg G (cd hm (fun hm => ?_) (fun hm => ?_)))
    ·exact Ok_exit (thE (ibE (wJ G hm)))
    ·refine X_skip (thN (rs G (hN 1 v1 h0) ?_))
     refine jn hm (fun v5 => ⟨[(1, dV period), (2, dV list), (3, dV stop), (4, .ref 16 0), (9, .own 32), (10, dV v), (11, dV r1), (12, dV v5)], [bX 16 [dV n.Stops, dV n.Lines], aX 32 3 v1], 64⟩) (fun v5 hm => ?_) ?_
     ·refine Ok_block (lp G hm (fun v3 => ⟨[(1, dV period), (2, dV list), (3, dV stop), (4, .ref 16 0), (9, .own 32), (10, dV v), (11, dV r1), (12, dV v3)], [bX 16 [dV n.Stops, dV n.Lines], aX 32 3 v1], 64⟩) ?_)
      rintro v3 r0 hb1 hm
      rw [s_l10Rests_L1] at hm
      refine Ok_seq (jn hm (fun v4 => ⟨[(1, dV period), (2, dV list), (3, dV stop), (4, .ref 16 0), (9, .own 32), (10, dV v), (11, dV r1), (12, dV v3), (42, dV v4)], [bX 16 [dV n.Stops, dV n.Lines], aX 32 3 v1], 64⟩) (fun v4 hm => ?_) ?_)
      ·rcases bf hm with ⟨hb2, hm⟩ | ⟨hb2, hm⟩
       ·obtain ⟨e2, h4, hm⟩ := obind hm
        refine re G (hO 2 (.b true) (hP hb2 (hD 6 h4 (hE 7 h4 h0)))) ?_
        exact wJ G hm
       ·refine re G (hO 2 (.b false) (hP hb2 h0)) ?_
        exact wJ G hm
      rintro v4 hm
      refine cd hm (fun hm => ?_) (fun hm => ?_)
      ·exact X_skip (thN (Ok_block (rh G (ibN (wL G hm)))))
      ·exact Ok_exit (thE (thE (ibE (wD G hm hb1))))
     rintro v5 hm
     refine Ok_weak (Wk_J (x' := (⟨[(1, dV period), (2, dV list), (3, dV stop), (4, .ref 16 0), (9, dV v1), (10, dV v), (11, dV r1), (12, dV v5)], [bX 16 [dV n.Stops, dV n.Lines]], 48⟩ : X)) G.hL ⟨[(1, []), (2, []), (3, []), (4, []), (9, []), (10, []), (11, []), (12, [])], [(16, 16, [])], [], 48⟩ (by kernel_rfl)) ?_
     obtain ⟨u5, h10, hm⟩ := obind hm
     obtain ⟨u6, h11, hm⟩ := obind hm
     obtain ⟨u7, h12, hm⟩ := obind hm
     obtain ⟨u8, h13, hm⟩ := obind hm
     obtain ⟨u9, h14, hm⟩ := obind hm
     refine de G [(3, []), (4, [48]), (7, [112, 144]), (10, []), (11, [160])] (hU 3 h10 (hA 4 8 h11 (hA 7 8 h12 (hV 10 h13 (hA 11 8 h14 h0))))) ?_
     exact ibN (wJ G hm)
   rintro v2 hm
   exact rh G (wL G hm)
  ·exact Ok_exit (thE (thE (ibE (wD G hm hb))))
 rintro v6 hm s hw
 refine thN (Ok_weak hw ?_)
 refine rg G ?_
 cases hm
 exact rt [16] []
noncomputable def s_l10Gaps_M : MS ((List Int) × Int) ((List Int)) := ⟨.x .r .r, fun x => s_l10Gaps x.1 x.2, fun _ => .own 0, fun y => [arO 3 y], fun _ _ => []⟩
theorem s_l10Gaps_c {rests period y} (hm : s_l10Gaps rests period = some y) : s_l10Gaps_M.C (rests, period) y := s_l10Gaps_M.c (rests, period) hm
theorem s_l10Gaps_ok : FnOK Try.prog 170 s_l10Gaps_M.S := by
 refine fm tt s_l10Gaps_M [] Try.call170 Try.func170 rfl Try.results170 Try.ntmps170 ?_
 rintro ⟨rests, period⟩ y cx G hm
 have hm : s_l10Gaps rests period = some y := hm
 unfold s_l10Gaps at hm
 refine rg G (rg G (Ok_seq (rg G (tl hm (fun next1 => ⟨[(5, .own 16)], [aX 16 3 next1], 48⟩) (fun next1 hm => ?_) ?_))))
 ·refine Ok_block (lp G hm (fun (v, next) => ⟨[(0, dV rests), (1, dV period), (5, .own 16), (6, dV v)], [aX 16 3 next], 48⟩) ?_)
  rintro ⟨v, next⟩ r0 hb hm
  rw [s_l10Gaps_L1] at hm
  refine Ok_seq (rs G (hN 2 rests h0) ?_)
  refine cd hm (fun hm => ?_) (fun hm => ?_)
  ·refine X_skip (thN (Ok_seq (Ok_block ?_)))
   obtain ⟨e, h, hm⟩ := obind hm
   refine rs G (hD 1 h h0) ?_
   refine jn hm (fun v1 => ⟨[(0, dV rests), (1, dV period), (5, .own 16), (6, dV v), (7, dV v1)], [aX 16 3 next], 48⟩) (fun v1 hm => ?_) ?_
   ·refine rs G (hN 3 rests h0) ?_
    refine cd hm (fun hm => ?_) (fun hm => ?_)
    ·obtain ⟨e1, h1, hm⟩ := obind hm
     refine re G (hD 3 h1 h0) ?_
     exact wJ G hm
    ·exact X_skip (wJ G hm)
   rintro v1 hm
   obtain ⟨e2, h2, hm⟩ := obind hm
   obtain ⟨u, h3, hm⟩ := obind hm
   refine re G (hD 4 h2 (hA 8 8 h3 h0)) ?_
   exact ibN (thN (rh G (wL G hm)))
  ·exact Ok_exit (thE (thE (ibE (wD G hm hb))))
 rintro next1 hm s hw
 refine thN (Ok_weak hw ?_)
 refine rg G ?_
 cases hm
 exact rt [16] []
noncomputable def s_GapsAt_M : MS (Network × Int × (List Pattern) × Int) ((List Int) × Bool) := ⟨.x .r (.x .r (.x .r .r)), fun x => s_GapsAt x.1 x.2.1 x.2.2.1 x.2.2.2, fun y => .tup [.own 0, dV y.2], fun y => [arO 3 y.1], fun _ _ => []⟩
theorem s_GapsAt_c {n period list stop y} (hm : s_GapsAt n period list stop = some y) : s_GapsAt_M.C (n, period, list, stop) y := s_GapsAt_M.c (n, period, list, stop) hm
theorem s_GapsAt_ok : FnOK Try.prog 64 s_GapsAt_M.S := by
 refine fm tt s_GapsAt_M [fo s_l10Asked_ok, fo s_l10Rests_ok, fo s_l10Gaps_ok] Try.call64 Try.func64 rfl Try.results64 Try.ntmps64 ?_
 rintro ⟨n, period, list, stop⟩ y cx G hm
 have hm : s_GapsAt n period list stop = some y := hm
 unfold s_GapsAt at hm
 refine rg G (Ok_seq ?_)
 obtain ⟨r, h, hm⟩ := obind hm
 refine rs G (hC 4 (s_l10Asked_c h) h0) ?_
 refine cd hm (fun hm => ?_) (fun hm => ?_)
 ·refine rg G ?_
  cases hm
  exact rt [160] []
 ·refine X_skip (thN ?_)
  obtain ⟨r1, h1, hm⟩ := obind hm
  obtain ⟨r2, h2, hm⟩ := obind hm
  refine rs G (hC 4 (s_l10Rests_c h1) (hF 6 (s_l10Gaps_c h2) ⟨(flat_cons flat_arr flat_nil), flat_nil⟩ h0)) ?_
  cases hm
  exact rt [256] []
noncomputable def v_rInts_M : MS ((List Int) × (List Int)) Bool := ⟨.x .r .r, fun x => v_rInts x.1 x.2, fun y => dV y, fun _ => [], fun _ _ => []⟩
theorem v_rInts_c {a b y} (hm : v_rInts a b = some y) : v_rInts_M.C (a, b) y := v_rInts_M.c (a, b) hm
theorem v_rInts_ok : FnOK Try.prog 47 v_rInts_M.S := by
 refine fm tt v_rInts_M [] Try.call47 Try.func47 rfl Try.results47 Try.ntmps47 ?_
 rintro ⟨a, b⟩ y cx G hm
 have hm : v_rInts a b = some y := hm
 unfold v_rInts at hm
 refine rg G (Ok_seq (rs G (hN 1 a (hN 3 b h0)) ?_))
 refine cd hm (fun hm => ?_) (fun hm => ?_)
 ·refine rg G ?_
  cases hm
  exact rt [] []
 ·refine X_skip (thN (Ok_seq (rg G (tF hm (fun _ => ⟨[], [], 32⟩) (fun v1 hr hm => ?_) ?_))))
  ·refine Ok_block (lp G hm (fun v => ⟨[(0, dV a), (1, dV b), (5, dV v)], [], 32⟩) ?_)
   rintro v r0 hb hm
   rw [v_rInts_L1] at hm
   refine Ok_seq (rs G (hN 2 a h0) ?_)
   refine cd hm (fun hm => ?_) (fun hm => ?_)
   ·refine X_skip (thN (Ok_seq (Ok_block ?_)))
    obtain ⟨e2, h2, hm⟩ := obind hm
    obtain ⟨e3, h3, hm⟩ := obind hm
    refine ds G [] (hD 2 h2 (hD 6 h3 h0)) ?_
    refine cd hm (fun hm => ?_) (fun hm => ?_)
    ·refine rg G ?_
     have hm := eL hm hb hr
     cases hm
     exact rt [] []
    ·exact X_skip (ibN (thN (rh G (wL G hm))))
   ·exact Ok_exit (thE (thE (ibE (wE G hm hb))))
  rintro ⟨⟩ hm s hw
  refine thN (Ok_weak hw ?_)
  refine rg G ?_
  cases hm
  exact rt [] []
noncomputable def i_PassingRests_M : MS (Network × Int × (List Pattern) × Int) ((List Int) × Bool) := ⟨.x .r (.x .r (.x .r .r)), fun x => i_PassingRests x.1 x.2.1 x.2.2.1 x.2.2.2, fun y => .tup [dV y.1, dV y.2], fun _ => [], fun _ _ => []⟩
theorem i_PassingRests_c {n period list stop y} (hm : i_PassingRests n period list stop = some y) : i_PassingRests_M.C (n, period, list, stop) y := i_PassingRests_M.c (n, period, list, stop) hm
theorem i_PassingRests_ok : FnOK Try.prog 66 i_PassingRests_M.S := by
 refine fm tt i_PassingRests_M [fo i_arePassed_ok, fo i_passingRests_ok] Try.call66 Try.func66 rfl Try.results66 Try.ntmps66 ?_
 rintro ⟨n, period, list, stop⟩ y cx G hm
 have hm : i_PassingRests n period list stop = some y := hm
 unfold i_PassingRests at hm
 refine rg G (Ok_seq ?_)
 obtain ⟨r, h, hm⟩ := obind hm
 refine rs G (hC 4 (i_arePassed_c h) h0) ?_
 refine cd hm (fun hm => ?_) (fun hm => ?_)
 ·refine rg G ?_
  cases hm
  exact rt [] [[.z 1]]
 ·refine X_skip (thN ?_)
  obtain ⟨r1, h1, hm⟩ := obind hm
  refine rs G (hC 4 (i_passingRests_c h1) h0) ?_
  cases hm
  exact rt [] []
noncomputable def i_largestGap_M : MS ((List Int) × Int) (Int × Int) := ⟨.x .r .r, fun x => i_largestGap x.1 x.2, fun y => .tup [dV y.1, dV y.2], fun _ => [], fun _ _ => []⟩
theorem i_largestGap_c {rests period y} (hm : i_largestGap rests period = some y) : i_largestGap_M.C (rests, period) y := i_largestGap_M.c (rests, period) hm
theorem i_largestGap_ok : FnOK Try.prog 173 i_largestGap_M.S := by
 refine fm tt i_largestGap_M [fo i_gapsOf_ok] Try.call173 Try.func173 rfl Try.results173 Try.ntmps173 ?_
 rintro ⟨rests, period⟩ y cx G hm
 have hm : i_largestGap rests period = some y := hm
 unfold i_largestGap at hm
 refine rg G (rg G (Ok_seq ?_))
 obtain ⟨r, h, hm⟩ := obind hm
 refine rs G (hC 2 (i_gapsOf_c h) (hN 3 r h0)) ?_
 refine tl hm (fun (i2, g2) => ⟨[(6, dV i2), (7, dV g2)], [], 32⟩) (fun vv1 hm => ?_) ?_
 ·refine Ok_block (lp G hm (fun (i, g, v) => ⟨[(0, dV rests), (6, dV i), (7, dV g), (12, .own 16), (13, dV (r.length : Int)), (14, dV v)], [aX 16 3 r], 48⟩) ?_)
  rintro ⟨i, g, v⟩ r0 hb hm
  rw [i_largestGap_L1] at hm
  refine rg G (Ok_seq (cd hm (fun hm => ?_) (fun hm => ?_)))
  ·refine X_skip (thN (jn hm (fun (i1, g1) => ⟨[(0, dV rests), (6, dV i1), (7, dV g1), (12, .own 16), (13, dV (r.length : Int)), (14, dV v)], [aX 16 3 r], 48⟩) (fun vv hm => ?_) ?_))
   ·refine Ok_block ?_
    obtain ⟨e, h1, hm⟩ := obind hm
    refine rs G (hD 1 h1 (hE 2 h1 h0)) ?_
    refine rg G (cd hm (fun hm => ?_) (fun hm => ?_))
    ·obtain ⟨e2, h3, hm⟩ := obind hm
     refine de G [] (hD 3 h3 h0) ?_
     exact ibN (wJ G hm)
    ·exact X_skip (ibN (wJ G hm))
   rintro ⟨i1, g1⟩ hm
   exact rh G (wL G hm)
  ·exact Ok_exit (thE (thE (ibE (wD G hm hb))))
 rintro ⟨i2, g2⟩ hm s hw
 refine thN (Ok_weak hw ?_)
 refine rg G ?_
 cases hm
 exact rt [] []
noncomputable def i_LargestGap_M : MS (Network × Int × (List Pattern) × Int) (Int × Int × Bool) := ⟨.x .r (.x .r (.x .r .r)), fun x => i_LargestGap x.1 x.2.1 x.2.2.1 x.2.2.2, fun y => .tup [dV y.1, dV y.2.1, dV y.2.2], fun _ => [], fun _ _ => []⟩
theorem i_LargestGap_c {n period list stop y} (hm : i_LargestGap n period list stop = some y) : i_LargestGap_M.C (n, period, list, stop) y := i_LargestGap_M.c (n, period, list, stop) hm
theorem i_LargestGap_ok : FnOK Try.prog 67 i_LargestGap_M.S := by
 refine fm tt i_LargestGap_M [fo i_arePassed_ok, fo i_passingRests_ok, fo i_largestGap_ok] Try.call67 Try.func67 rfl Try.results67 Try.ntmps67 ?_
 rintro ⟨n, period, list, stop⟩ y cx G hm
 have hm : i_LargestGap n period list stop = some y := hm
 unfold i_LargestGap at hm
 refine rg G (Ok_seq ?_)
 obtain ⟨r, h, hm⟩ := obind hm
 refine rs G (hC 4 (i_arePassed_c h) h0) ?_
 refine cd hm (fun hm => ?_) (fun hm => ?_)
 ·refine rg G ?_
  cases hm
  exact rt [] []
 ·refine X_skip (thN ?_)
  obtain ⟨r1, h1, hm⟩ := obind hm
  refine rs G (hC 4 (i_passingRests_c h1) h0) ?_
  refine Ok_seq (rs G (hN 1 r1 h0) ?_)
  refine cd hm (fun hm => ?_) (fun hm => ?_)
  ·refine rg G ?_
   cases hm
   exact rt [] []
  ·refine X_skip (thN ?_)
   obtain ⟨r2, h2, hm⟩ := obind hm
   refine rs G (hC 2 (i_largestGap_c h2) h0) ?_
   refine rg G ?_
   cases hm
   exact rt [] []
noncomputable def i_squares_M : MS ((List Int)) Int := ⟨.r, i_squares, fun y => dV y, fun _ => [], fun _ _ => []⟩
theorem i_squares_c {list y} (hm : i_squares list = some y) : i_squares_M.C list y := i_squares_M.c list hm
theorem i_squares_ok : FnOK Try.prog 174 i_squares_M.S := by
 refine fm tt i_squares_M [] Try.call174 Try.func174 rfl Try.results174 Try.ntmps174 ?_
 rintro list y cx G hm
 have hm : i_squares list = some y := hm
 unfold i_squares at hm
 refine rg G (rg G (Ok_seq (rs G (hN 1 list h0) ?_)))
 refine tl hm (fun v2 => ⟨[(3, dV v2)], [], 32⟩) (fun v2 hm => ?_) ?_
 ·refine Ok_block (lp G hm (fun (v, v1) => ⟨[(3, dV v), (6, dV list), (7, dV (list.length : Int)), (8, dV v1)], [], 32⟩) ?_)
  rintro ⟨v, v1⟩ r0 hb hm
  rw [i_squares_L1] at hm
  refine rg G (Ok_seq (cd hm (fun hm => ?_) (fun hm => ?_)))
  ·refine X_skip (thN (Ok_seq (Ok_block ?_)))
   obtain ⟨e, h, hm⟩ := obind hm
   refine rs G (hD 0 h h0) ?_
   exact rh G (ibN (thN (rh G (wL G hm))))
  ·exact Ok_exit (thE (thE (ibE (wD G hm hb))))
 rintro v2 hm s hw
 refine thN (Ok_weak hw ?_)
 refine rg G ?_
 cases hm
 exact rt [] []
noncomputable def i_DoubleWait_M : MS (Network × Int × (List Pattern) × Int) (Int × Int × Bool) := ⟨.x .r (.x .r (.x .r .r)), fun x => i_DoubleWait x.1 x.2.1 x.2.2.1 x.2.2.2, fun y => .tup [dV y.1, dV y.2.1, dV y.2.2], fun _ => [], fun _ _ => []⟩
theorem i_DoubleWait_c {n period list stop y} (hm : i_DoubleWait n period list stop = some y) : i_DoubleWait_M.C (n, period, list, stop) y := i_DoubleWait_M.c (n, period, list, stop) hm
theorem i_DoubleWait_ok : FnOK Try.prog 68 i_DoubleWait_M.S := by
 refine fm tt i_DoubleWait_M [fo i_GapsAt_ok, fo i_squares_ok] Try.call68 Try.func68 rfl Try.results68 Try.ntmps68 ?_
 rintro ⟨n, period, list, stop⟩ y cx G hm
 have hm : i_DoubleWait n period list stop = some y := hm
 unfold i_DoubleWait at hm
 refine rg G ?_
 obtain ⟨r, h, hm⟩ := obind hm
 refine rs G (hC 4 (i_GapsAt_c h) h0) ?_
 refine Ok_seq (jn hm (fun v => ⟨[(1, dV period), (11, dV r.1), (27, dV v)], [], 32⟩) (fun v hm => ?_) ?_)
 ·rcases bf hm with ⟨hb, hm⟩ | ⟨hb, hm⟩
  ·refine re G (hO 2 (.b true) (hP hb h0)) ?_
   exact wJ G hm
  ·refine re G (hO 2 (.b false) (hP hb (hN 4 r.1 h0))) ?_
   exact wJ G hm
 rintro v hm
 refine cd hm (fun hm => ?_) (fun hm => ?_)
 ·refine rg G ?_
  cases hm
  exact rt [] []
 ·refine X_skip (thN ?_)
  obtain ⟨r1, h1, hm⟩ := obind hm
  refine rs G (hC 1 (i_squares_c h1) h0) ?_
  cases hm
  exact rt [] []
noncomputable def v_rSum_M : MS ((List Int)) Int := ⟨.r, v_rSum, fun y => dV y, fun _ => [], fun _ _ => []⟩
theorem v_rSum_c {list y} (hm : v_rSum list = some y) : v_rSum_M.C list y := v_rSum_M.c list hm
theorem v_rSum_ok : FnOK Try.prog 69 v_rSum_M.S := by
 refine fm tt v_rSum_M [] Try.call69 Try.func69 rfl Try.results69 Try.ntmps69 ?_
 rintro list y cx G hm
 have hm : v_rSum list = some y := hm
 unfold v_rSum at hm
 refine rg G (rg G (Ok_seq (rg G (tl hm (fun i1 => ⟨[(3, dV i1)], [], 32⟩) (fun i1 hm => ?_) ?_))))
 ·refine Ok_block (lp G hm (fun (i, v) => ⟨[(0, dV list), (3, dV i), (4, dV v)], [], 32⟩) ?_)
  rintro ⟨i, v⟩ r0 hb hm
  rw [v_rSum_L1] at hm
  refine Ok_seq (rs G (hN 2 list h0) ?_)
  refine cd hm (fun hm => ?_) (fun hm => ?_)
  ·refine X_skip (thN (Ok_seq (Ok_block ?_)))
   obtain ⟨e, h, hm⟩ := obind hm
   refine re G (hD 3 h h0) ?_
   exact ibN (thN (rh G (wL G hm)))
  ·exact Ok_exit (thE (thE (ibE (wD G hm hb))))
 rintro i1 hm s hw
 refine thN (Ok_weak hw ?_)
 refine rg G ?_
 cases hm
 exact rt [] []
noncomputable def v_rHas_M : MS ((List Int) × Int) Bool := ⟨.x .r .r, fun x => v_rHas x.1 x.2, fun y => dV y, fun _ => [], fun _ _ => []⟩
theorem v_rHas_c {list x y} (hm : v_rHas list x = some y) : v_rHas_M.C (list, x) y := v_rHas_M.c (list, x) hm
theorem v_rHas_ok : FnOK Try.prog 70 v_rHas_M.S := by
 refine fm tt v_rHas_M [] Try.call70 Try.func70 rfl Try.results70 Try.ntmps70 ?_
 rintro ⟨list, x⟩ y cx G hm
 have hm : v_rHas list x = some y := hm
 unfold v_rHas at hm
 refine rg G (Ok_seq (rg G (tF hm (fun _ => ⟨[], [], 32⟩) (fun v1 hr hm => ?_) ?_)))
 ·refine Ok_block (lp G hm (fun v => ⟨[(0, dV list), (1, dV x), (5, dV v)], [], 32⟩) ?_)
  rintro v r0 hb hm
  rw [v_rHas_L1] at hm
  refine Ok_seq (rs G (hN 2 list h0) ?_)
  refine cd hm (fun hm => ?_) (fun hm => ?_)
  ·refine X_skip (thN (Ok_seq (Ok_block ?_)))
   obtain ⟨e, h, hm⟩ := obind hm
   refine rs G (hD 2 h h0) ?_
   refine cd hm (fun hm => ?_) (fun hm => ?_)
   ·refine rg G ?_
    have hm := eL hm hb hr
    cases hm
    exact rt [] []
   ·exact X_skip (ibN (thN (rh G (wL G hm))))
  ·exact Ok_exit (thE (thE (ibE (wE G hm hb))))
 rintro ⟨⟩ hm s hw
 refine thN (Ok_weak hw ?_)
 refine rg G ?_
 cases hm
 exact rt [] []
noncomputable def i_EvenTimes_M : MS (Int × Int) ((List Int) × Bool) := ⟨.x .r .r, fun x => i_EvenTimes x.1 x.2, fun y => .tup [dV y.1, dV y.2], fun _ => [], fun _ _ => []⟩
theorem i_EvenTimes_c {count period y} (hm : i_EvenTimes count period = some y) : i_EvenTimes_M.C (count, period) y := i_EvenTimes_M.c (count, period) hm
theorem i_EvenTimes_ok : FnOK Try.prog 90 i_EvenTimes_M.S := by
 refine fm tt i_EvenTimes_M [fo i_within_ok] Try.call90 Try.func90 rfl Try.results90 Try.ntmps90 ?_
 rintro ⟨count, period⟩ y cx G hm
 have hm : i_EvenTimes count period = some y := hm
 unfold i_EvenTimes at hm
 refine rg G (Ok_seq ?_)
 obtain ⟨r, h, hm⟩ := obind hm
 refine jn hm (fun v => ⟨[(0, dV count), (1, dV period), (16, dV v)], [], 32⟩) (fun v hm => ?_) ?_
 ·rcases bf hm with ⟨hb, hm⟩ | ⟨hb, hm⟩
  ·refine re G (hC 1 (i_within_c h) (hO 3 (.b true) (hP hb h0))) ?_
   exact wJ G hm
  ·obtain ⟨r1, h1, hm⟩ := obind hm
   refine re G (hC 1 (i_within_c h) (hO 3 (.b false) (hP hb (hC 6 (i_within_c h1) h0)))) ?_
   exact wJ G hm
 rintro v hm
 refine cd hm (fun hm => ?_) (fun hm => ?_)
 ·refine rg G ?_
  cases hm
  exact rt [] [[.z 1]]
 ·refine X_skip (thN ?_)
  obtain ⟨u, h2, hm⟩ := obind hm
  refine rs G (hO 1 (.l (List.map Enc.e (List.replicate count.toNat (0 : Int)))) (hP (mk_p (b := 8) (chk_t h2) rfl) (hP (rep_m Enc.e count.toNat (0 : Int)) h0))) ?_
  refine Ok_seq (rs G (hN 1 (List.replicate count.toNat (0 : Int)) h0) ?_)
  refine tl hm (fun v3 => ⟨[(6, .own 16)], [aX 16 3 v3], 48⟩) (fun v3 hm => ?_) ?_
  ·refine Ok_block (lp G hm (fun (v1, v2) => ⟨[(0, dV count), (1, dV period), (6, .own 16), (20, dV ((List.replicate count.toNat (0 : Int)).length : Int)), (21, dV v1)], [aX 16 3 v2], 48⟩) ?_)
   rintro ⟨v1, v2⟩ r0 hb1 hm
   rw [i_EvenTimes_L1] at hm
   refine rg G (Ok_seq (cd hm (fun hm => ?_) (fun hm => ?_)))
   ·refine X_skip (thN (Ok_seq (Ok_block (rg G ?_))))
    obtain ⟨u1, h3, hm⟩ := obind hm
    obtain ⟨e, h4, hm⟩ := obind hm
    refine re G (hK h3 (hD 7 h4 (hS 8 h4 (w64 ((w64 (v1 * period)).tdiv count)) h0))) ?_
    exact ibN (thN (rh G (wL G hm)))
   ·exact Ok_exit (thE (thE (ibE (wD G hm hb1))))
  rintro v3 hm s hw
  refine thN (Ok_weak hw ?_)
  refine rg G ?_
  cases hm
  exact rt [] []
noncomputable def i_Unevenness_M : MS (Network × Int × (List Pattern) × Int) (Int × Bool) := ⟨.x .r (.x .r (.x .r .r)), fun x => i_Unevenness x.1 x.2.1 x.2.2.1 x.2.2.2, fun y => .tup [dV y.1, dV y.2], fun _ => [], fun _ _ => []⟩
theorem i_Unevenness_c {n period list stop y} (hm : i_Unevenness n period list stop = some y) : i_Unevenness_M.C (n, period, list, stop) y := i_Unevenness_M.c (n, period, list, stop) hm
theorem i_Unevenness_ok : FnOK Try.prog 71 i_Unevenness_M.S := by
 refine fm tt i_Unevenness_M [fo i_GapsAt_ok, fo i_EvenTimes_ok, fo i_squares_ok, fo i_gapsOf_ok] Try.call71 Try.func71 rfl Try.results71 Try.ntmps71 ?_
 rintro ⟨n, period, list, stop⟩ y cx G hm
 have hm : i_Unevenness n period list stop = some y := hm
 unfold i_Unevenness at hm
 refine rg G ?_
 obtain ⟨r, h, hm⟩ := obind hm
 refine rs G (hC 4 (i_GapsAt_c h) h0) ?_
 refine Ok_seq (rg G (cd hm (fun hm => ?_) (fun hm => ?_)))
 ·refine rg G ?_
  cases hm
  exact rt [] []
 ·refine X_skip (thN ?_)
  obtain ⟨r1, h1, hm⟩ := obind hm
  refine rs G (hN 1 r.1 (hC 3 (i_EvenTimes_c h1) h0)) ?_
  refine Ok_seq (rg G (cd hm (fun hm => ?_) (fun hm => ?_)))
  ·refine rg G ?_
   cases hm
   exact rt [] []
  ·refine X_skip (thN ?_)
   obtain ⟨r2, h2, hm⟩ := obind hm
   obtain ⟨r3, h3, hm⟩ := obind hm
   obtain ⟨r4, h4, hm⟩ := obind hm
   refine rs G (hC 1 (i_squares_c h2) (hC 4 (i_gapsOf_c h3) (hC 5 (i_squares_c h4) h0))) ?_
   cases hm
   exact rt [] []
noncomputable def s_l10Squares_M : MS ((List Int)) Int := ⟨.r, s_l10Squares, fun y => dV y, fun _ => [], fun _ _ => []⟩
theorem s_l10Squares_c {gaps y} (hm : s_l10Squares gaps = some y) : s_l10Squares_M.C gaps y := s_l10Squares_M.c gaps hm
theorem s_l10Squares_ok : FnOK Try.prog 175 s_l10Squares_M.S := by
 refine fm tt s_l10Squares_M [] Try.call175 Try.func175 rfl Try.results175 Try.ntmps175 ?_
 rintro gaps y cx G hm
 have hm : s_l10Squares gaps = some y := hm
 unfold s_l10Squares at hm
 refine rg G (rg G (Ok_seq (rg G (tl hm (fun i1 => ⟨[(3, dV i1)], [], 32⟩) (fun i1 hm => ?_) ?_))))
 ·refine Ok_block (lp G hm (fun (i, v) => ⟨[(0, dV gaps), (3, dV i), (4, dV v)], [], 32⟩) ?_)
  rintro ⟨i, v⟩ r0 hb hm
  rw [s_l10Squares_L1] at hm
  refine Ok_seq (rs G (hN 2 gaps h0) ?_)
  refine cd hm (fun hm => ?_) (fun hm => ?_)
  ·refine X_skip (thN (Ok_seq (Ok_block ?_)))
   obtain ⟨e2, h2, hm⟩ := obind hm
   obtain ⟨e3, h3, hm⟩ := obind hm
   refine de G [] (hD 3 h2 (hD 7 h3 h0)) ?_
   exact ibN (thN (rh G (wL G hm)))
  ·exact Ok_exit (thE (thE (ibE (wD G hm hb))))
 rintro i1 hm s hw
 refine thN (Ok_weak hw ?_)
 refine rg G ?_
 cases hm
 exact rt [] []
noncomputable def s_l10Even_M : MS (Int × Int) ((List Int)) := ⟨.x .r .r, fun x => s_l10Even x.1 x.2, fun _ => .own 0, fun y => [arO 3 y], fun _ _ => []⟩
theorem s_l10Even_c {count period y} (hm : s_l10Even count period = some y) : s_l10Even_M.C (count, period) y := s_l10Even_M.c (count, period) hm
theorem s_l10Even_ok : FnOK Try.prog 176 s_l10Even_M.S := by
 refine fm tt s_l10Even_M [] Try.call176 Try.func176 rfl Try.results176 Try.ntmps176 ?_
 rintro ⟨count, period⟩ y cx G hm
 have hm : s_l10Even count period = some y := hm
 unfold s_l10Even at hm
 refine rg G (rg G (Ok_seq (rg G (tl hm (fun v2 => ⟨[(5, .own 16)], [aX 16 3 v2], 48⟩) (fun v2 hm => ?_) ?_))))
 ·refine Ok_block (lp G hm (fun (v, v1) => ⟨[(0, dV count), (1, dV period), (5, .own 16), (6, dV v)], [aX 16 3 v1], 48⟩) ?_)
  rintro ⟨v, v1⟩ r0 hb hm
  rw [s_l10Even_L1] at hm
  refine Ok_seq (rg G (cd hm (fun hm => ?_) (fun hm => ?_)))
  ·refine X_skip (thN (Ok_seq (Ok_block ?_)))
   obtain ⟨u, h, hm⟩ := obind hm
   obtain ⟨u1, h1, hm⟩ := obind hm
   refine re G (hK h (hA 7 8 h1 h0)) ?_
   exact ibN (thN (rh G (wL G hm)))
  ·exact Ok_exit (thE (thE (ibE (wD G hm hb))))
 rintro v2 hm s hw
 refine thN (Ok_weak hw ?_)
 refine rg G ?_
 cases hm
 exact rt [16] []
noncomputable def s_Unevenness_M : MS (Network × Int × (List Pattern) × Int) (Int × Bool) := ⟨.x .r (.x .r (.x .r .r)), fun x => s_Unevenness x.1 x.2.1 x.2.2.1 x.2.2.2, fun y => .tup [dV y.1, dV y.2], fun _ => [], fun _ _ => []⟩
theorem s_Unevenness_c {n period list stop y} (hm : s_Unevenness n period list stop = some y) : s_Unevenness_M.C (n, period, list, stop) y := s_Unevenness_M.c (n, period, list, stop) hm
theorem s_Unevenness_ok : FnOK Try.prog 72 s_Unevenness_M.S := by
 refine fm tt s_Unevenness_M [fo s_GapsAt_ok, fo s_l1In_ok, fo s_l10Squares_ok, fo s_l10Even_ok, fo s_l10Gaps_ok] Try.call72 Try.func72 rfl Try.results72 Try.ntmps72 ?_
 rintro ⟨n, period, list, stop⟩ y cx G hm
 have hm : s_Unevenness n period list stop = some y := hm
 unfold s_Unevenness at hm
 refine rg G ?_
 obtain ⟨r, h, hm⟩ := obind hm
 refine rs G (hC 4 (s_GapsAt_c h) h0) ?_
 refine Ok_seq (jn hm (fun v => ⟨[(1, dV period), (10, .own 16), (28, dV v)], [aX 16 3 r.1], 48⟩) (fun v hm => ?_) ?_)
 ·rcases bf hm with ⟨hb, hm⟩ | ⟨hb, hm⟩
  ·refine re G (hO 2 (.b true) (hP hb h0)) ?_
   exact wJ G hm
  ·obtain ⟨r1, h1, hm⟩ := obind hm
   refine re G (hO 2 (.b false) (hP hb (hN 4 r.1 (hC 6 (s_l1In_c h1) h0)))) ?_
   exact wJ G hm
 rintro v hm
 refine cd hm (fun hm => ?_) (fun hm => ?_)
 ·refine rg G ?_
  cases hm
  exact rt [] []
 ·refine X_skip (thN ?_)
  obtain ⟨r2, h2, hm⟩ := obind hm
  obtain ⟨r3, h3, hm⟩ := obind hm
  obtain ⟨r4, h4, hm⟩ := obind hm
  obtain ⟨r5, h5, hm⟩ := obind hm
  refine rs G (hC 1 (s_l10Squares_c h2) (hN 3 r.1 (hC 5 (s_l10Even_c h3) (hF 7 (s_l10Gaps_c h4) ⟨(flat_cons flat_arr flat_nil), flat_nil⟩ (hC 8 (s_l10Squares_c h5) h0))))) ?_
  cases hm
  exact rt [] []
noncomputable def v_FnGaps_M : MS ((List UInt8)) Bool := ⟨.r, v_FnGaps, fun y => dV y, fun _ => [], fun _ _ => []⟩
theorem v_FnGaps_c {code y} (hm : v_FnGaps code = some y) : v_FnGaps_M.C code y := v_FnGaps_M.c code hm
theorem v_FnGaps_ok : FnOK Try.prog 9 v_FnGaps_M.S := by
 refine fm tt v_FnGaps_M [fo v_rBig_ok, fo s_DrawGapsAt_ok, fo i_GapsAt_ok, fo s_GapsAt_ok, fo v_rInts_ok, fo i_IsValidPatterns_ok, fo i_PassingRests_ok, fo i_LargestGap_ok, fo i_DoubleWait_ok, fo v_rSum_ok, fo v_rHas_ok, fo i_Unevenness_ok, fo s_Unevenness_ok] Try.call9 Try.func9 rfl Try.results9 Try.ntmps9 ?_
 rintro code y cx G hm
 have hm : v_FnGaps code = some y := hm
 unfold v_FnGaps at hm
 refine rg G (Ok_seq ?_)
 obtain ⟨r, h, hm⟩ := obind hm
 refine rs G (hC 1 (v_rBig_c h) h0) ?_
 refine cd hm (fun hm => ?_) (fun hm => ?_)
 ·refine rg G ?_
  cases hm
  exact rt [] []
 ·refine X_skip (thN ?_)
  obtain ⟨r1, h1, hm⟩ := obind hm
  refine rs G (hC 1 (s_DrawGapsAt_c h1) h0) ?_
  obtain ⟨r2, h2, hm⟩ := obind hm
  refine rs G (hO 4 (.fz [80] [] []) (hC 4 (i_GapsAt_c h2) h0)) ?_
  obtain ⟨r3, h3, hm⟩ := obind hm
  refine rs G (hC 4 (s_GapsAt_c h3) h0) ?_
  refine Ok_seq (jn hm (fun v => ⟨[(3, .ref 16 0), (4, dV r1.2.1), (5, dV r1.2.2.1), (6, dV r1.2.2.2), (7, dV r2.1), (8, dV r2.2), (68, dV v)], [bX 16 [dV r1.1.Stops, dV r1.1.Lines]], 48⟩) (fun v hm => ?_) ?_)
  ·rcases bf hm with ⟨hb, hm⟩ | ⟨hb, hm⟩
   ·refine re G (hO 3 (.b true) (hP hb h0)) ?_
    exact wJ G hm
   ·obtain ⟨r4, h4, hm⟩ := obind hm
    rcases bf hm with ⟨hb1, hm⟩ | ⟨hb1, hm⟩
    ·refine re G (hO 3 (.b false) (hP hb (hC 6 (v_rInts_c h4) (hO 9 (.b true) (hP hb1 h0))))) ?_
     exact wJ G hm
    ·rcases bf hm with ⟨hb2, hm⟩ | ⟨hb2, hm⟩
     ·obtain ⟨r5, h5, hm⟩ := obind hm
      refine re G (hO 3 (.b false) (hP hb (hC 6 (v_rInts_c h4) (hO 9 (.b false) (hP hb1 (hO 11 (.b true) (hP hb2 (hC 15 (i_IsValidPatterns_c h5) h0)))))))) ?_
      exact wJ G hm
     ·refine re G (hO 3 (.b false) (hP hb (hC 6 (v_rInts_c h4) (hO 9 (.b false) (hP hb1 (hO 11 (.b false) (hP hb2 h0))))))) ?_
      exact wJ G hm
  rintro v hm
  refine cd hm (fun hm => ?_) (fun hm => ?_)
  ·refine rg G ?_
   cases hm
   exact rt [] []
  ·refine X_skip (thN ?_)
   obtain ⟨r6, h6, hm⟩ := obind hm
   refine rs G (hC 4 (i_PassingRests_c h6) h0) ?_
   obtain ⟨r7, h7, hm⟩ := obind hm
   refine rs G (hC 4 (i_LargestGap_c h7) h0) ?_
   obtain ⟨r8, h8, hm⟩ := obind hm
   refine rs G (hC 4 (i_DoubleWait_c h8) h0) ?_
   refine Ok_seq (jn hm (fun v1 => ⟨[(3, .ref 16 0), (4, dV r1.2.1), (5, dV r1.2.2.1), (6, dV r1.2.2.2), (7, dV r2.1), (11, dV r6.1), (13, dV r7.1), (14, dV r7.2.1), (15, dV r7.2.2), (16, dV r8.1), (17, dV r8.2.1), (116, dV v1)], [bX 16 [dV r1.1.Stops, dV r1.1.Lines]], 48⟩) (fun v1 hm => ?_) ?_)
   ·rcases bf hm with ⟨hb3, hm⟩ | ⟨hb3, hm⟩
    ·refine re G (hO 3 (.b true) (hP hb3 h0)) ?_
     exact wJ G hm
    ·rcases bf hm with ⟨hb4, hm⟩ | ⟨hb4, hm⟩
     ·refine re G (hO 3 (.b false) (hP hb3 (hN 5 r6.1 (hN 7 r2.1 (hO 10 (.b true) (hP hb4 h0)))))) ?_
      exact wJ G hm
     ·rcases bf hm with ⟨hb5, hm⟩ | ⟨hb5, hm⟩
      ·refine re G (hO 3 (.b false) (hP hb3 (hN 5 r6.1 (hN 7 r2.1 (hO 10 (.b false) (hP hb4 (hN 13 r2.1 (hO 17 (.b true) (hP hb5 h0))))))))) ?_
       exact wJ G hm
      ·refine re G (hO 3 (.b false) (hP hb3 (hN 5 r6.1 (hN 7 r2.1 (hO 10 (.b false) (hP hb4 (hN 13 r2.1 (hO 17 (.b false) (hP hb5 h0))))))))) ?_
       exact wJ G hm
   rintro v1 hm
   refine cd hm (fun hm => ?_) (fun hm => ?_)
   ·refine rg G ?_
    cases hm
    exact rt [] []
   ·refine X_skip (thN (Ok_seq (rg G (cd hm (fun hm => ?_) (fun hm => ?_)))))
    ·refine rg G ?_
     cases hm
     exact rt [] []
    ·refine X_skip (thN (rg G (Ok_seq (rg G (tF hm (fun i1 => ⟨[(3, .ref 16 0), (4, dV r1.2.1), (5, dV r1.2.2.1), (6, dV r1.2.2.2), (7, dV r2.1), (11, dV r6.1), (13, dV r7.1), (14, dV r7.2.1), (16, dV r8.1), (17, dV r8.2.1), (19, dV i1)], [bX 16 [dV r1.1.Stops, dV r1.1.Lines]], 48⟩) (fun v3 hr hm => ?_) ?_)))))
     ·refine Ok_block (lp G hm (fun (i, uneven) => ⟨[(3, .ref 16 0), (4, dV r1.2.1), (5, dV r1.2.2.1), (6, dV r1.2.2.2), (7, dV r2.1), (11, dV r6.1), (13, dV r7.1), (14, dV r7.2.1), (16, dV r8.1), (17, dV r8.2.1), (19, dV i), (20, dV uneven)], [bX 16 [dV r1.1.Stops, dV r1.1.Lines]], 48⟩) ?_)
      rintro ⟨i, uneven⟩ r0 hb6 hm
      rw [v_FnGaps_L1] at hm
      refine Ok_seq (rs G (hN 2 r2.1 h0) ?_)
      refine cd hm (fun hm => ?_) (fun hm => ?_)
      ·refine X_skip (thN (Ok_seq (Ok_block ?_)))
       obtain ⟨e2, h11, hm⟩ := obind hm
       obtain ⟨e3, h12, hm⟩ := obind hm
       refine ds G [] (hD 3 h11 (hD 7 h12 h0)) ?_
       obtain ⟨e4, h13, hm⟩ := obind hm
       refine rs G (hD 2 h13 h0) ?_
       refine cd hm (fun hm => ?_) (fun hm => ?_)
       ·refine rg G ?_
        have hm := eL hm hb6 hr
        cases hm
        exact rt [] []
       ·exact X_skip (ibN (thN (rh G (wL G hm))))
      ·exact Ok_exit (thE (thE (ibE (wE G hm hb6))))
     rintro i1 hm s hw
     refine thN (Ok_weak hw ?_)
     refine Ok_seq ?_
     obtain ⟨r10, h14, hm⟩ := obind hm
     refine jn hm (fun v2 => ⟨[(3, .ref 16 0), (4, dV r1.2.1), (5, dV r1.2.2.1), (6, dV r1.2.2.2), (167, dV v2)], [bX 16 [dV r1.1.Stops, dV r1.1.Lines]], 48⟩) (fun v2 hm => ?_) ?_
     ·rcases bf hm with ⟨hb7, hm⟩ | ⟨hb7, hm⟩
      ·refine re G (hC 1 (v_rSum_c h14) (hO 4 (.b true) (hP hb7 h0))) ?_
       exact wJ G hm
      ·obtain ⟨r11, h15, hm⟩ := obind hm
       rcases bf hm with ⟨hb8, hm⟩ | ⟨hb8, hm⟩
       ·refine re G (hC 1 (v_rSum_c h14) (hO 4 (.b false) (hP hb7 (hC 7 (v_rHas_c h15) (hO 10 (.b true) (hP hb8 h0)))))) ?_
        exact wJ G hm
       ·obtain ⟨r12, h16, hm⟩ := obind hm
        rcases bf hm with ⟨hb9, hm⟩ | ⟨hb9, hm⟩
        ·refine re G (hC 1 (v_rSum_c h14) (hO 4 (.b false) (hP hb7 (hC 7 (v_rHas_c h15) (hO 10 (.b false) (hP hb8 (hC 13 (v_rHas_c h16) (hO 16 (.b true) (hP hb9 h0))))))))) ?_
         exact wJ G hm
        ·rcases bf hm with ⟨hb10, hm⟩ | ⟨hb10, hm⟩
         ·refine re G (hC 1 (v_rSum_c h14) (hO 4 (.b false) (hP hb7 (hC 7 (v_rHas_c h15) (hO 10 (.b false) (hP hb8 (hC 13 (v_rHas_c h16) (hO 16 (.b false) (hP hb9 (hO 21 (.b true) (hP hb10 h0))))))))))) ?_
          exact wJ G hm
         ·refine re G (hC 1 (v_rSum_c h14) (hO 4 (.b false) (hP hb7 (hC 7 (v_rHas_c h15) (hO 10 (.b false) (hP hb8 (hC 13 (v_rHas_c h16) (hO 16 (.b false) (hP hb9 (hO 21 (.b false) (hP hb10 h0))))))))))) ?_
          exact wJ G hm
     rintro v2 hm
     refine cd hm (fun hm => ?_) (fun hm => ?_)
     ·refine rg G ?_
      cases hm
      exact rt [] []
     ·refine X_skip (thN ?_)
      obtain ⟨r13, h17, hm⟩ := obind hm
      refine rs G (hC 4 (i_Unevenness_c h17) h0) ?_
      obtain ⟨r14, h18, hm⟩ := obind hm
      refine rs G (hC 4 (s_Unevenness_c h18) h0) ?_
      refine jn hm (fun n => ⟨[(2, dV n)], [], 32⟩) (fun n hm => ?_) ?_
      ·rcases bf hm with ⟨hb11, hm⟩ | ⟨hb11, hm⟩
       ·rcases bf hm with ⟨hb12, hm⟩ | ⟨hb12, hm⟩
        ·refine re G (hO 3 (.b true) (hP hb11 (hO 8 (.b true) (hP hb12 h0)))) ?_
         exact wJ G hm
        ·refine re G (hO 3 (.b true) (hP hb11 (hO 8 (.b false) (hP hb12 h0)))) ?_
         exact wJ G hm
       ·refine re G (hO 3 (.b false) (hP hb11 h0)) ?_
        exact wJ G hm
      rintro n hm
      cases hm
      exact rt [] []
end Go.Proofs.Ytgminbcbkcacnaa
