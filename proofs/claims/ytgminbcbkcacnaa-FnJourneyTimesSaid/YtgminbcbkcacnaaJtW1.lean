/- Each function computes what its model says. Made by program (dec.py). -/
import Derived.Test.YtgminbcbkcacnaaTy
import Derived.Test.YtgminbcbkcacnaaAbC
import Derived.Test.YtgminbcbkcacnaaJtM
namespace Go.Proofs.Ytgminbcbkcacnaa
open Go Go.Ab
set_option maxRecDepth 100000
set_option maxHeartbeats 4000000
set_option linter.unusedVariables false
set_option linter.unusedSimpArgs false
theorem tt : TT Try.prog ty := ⟨by kernel_rfl, ty_ok⟩
noncomputable def v_vBig_M : MS ((List UInt8)) Bool := ⟨.r, v_vBig, fun y => dV y, fun _ => [], fun _ _ => []⟩
theorem v_vBig_c {code y} (hm : v_vBig code = some y) : v_vBig_M.C code y := v_vBig_M.c code hm
theorem v_vBig_ok : FnOK Try.prog 13 v_vBig_M.S := by
 refine fm tt v_vBig_M [] Try.call13 Try.func13 rfl Try.results13 Try.ntmps13 ?_
 rintro code y cx G hm
 have hm : v_vBig code = some y := hm
 unfold v_vBig at hm
 refine rg G (rs G (hN 1 code h0) ?_)
 cases hm
 exact rt [] []
noncomputable def s_l1Cur_next_M : MS l1Cur (Int × l1Cur) := ⟨.b, s_l1Cur_next, fun y => dV y.1, fun _ => [], fun _ y => [bxO y.2]⟩
theorem s_l1Cur_next_c {c y} (hm : s_l1Cur_next c = some y) : s_l1Cur_next_M.C c y := s_l1Cur_next_M.c c hm
theorem s_l1Cur_next_ok : FnOK Try.prog 202 s_l1Cur_next_M.S := by
 refine fm tt s_l1Cur_next_M [] Try.call202 Try.func202 rfl Try.results202 Try.ntmps202 ?_
 rintro c y cx G hm
 have hm : s_l1Cur_next c = some y := hm
 unfold s_l1Cur_next at hm
 refine rg G (rg G (jn hm (fun v => ⟨[(0, .ref 0 0), (3, dV v)], [bX 0 [dV c.code_, dV c.at_, kV .u64 c.seed_.v]], 48⟩) (fun v hm => ?_) ?_))
 ·refine ds G [] (hN 8 c.code_ h0) ?_
  refine cd hm (fun hm => ?_) (fun hm => ?_)
  ·obtain ⟨e1, h1, hm⟩ := obind hm
   refine de G [] (hD 8 h1 h0) ?_
   exact wJ G hm
  ·exact X_skip (wJ G hm)
 rintro v hm
 refine rg G (rg G (Ok_seq (ds G [] (hN 8 c.code_ h0) ?_)))
 refine cd hm (fun hm => ?_) (fun hm => ?_)
 ·refine rg G ?_
  cases hm
  exact rt [] []
 ·refine X_skip (thN ?_)
  obtain ⟨u, h2, hm⟩ := obind hm
  refine rs G (hK h2 h0) ?_
  cases hm
  exact rt [] []
noncomputable def s_l1Cur_pick_M : MS (l1Cur × Int) (Int × l1Cur) := ⟨.x .b .r, fun x => s_l1Cur_pick x.1 x.2, fun y => dV y.1, fun _ => [], fun _ y => [bxO y.2]⟩
theorem s_l1Cur_pick_c {c n y} (hm : s_l1Cur_pick c n = some y) : s_l1Cur_pick_M.C (c, n) y := s_l1Cur_pick_M.c (c, n) hm
theorem s_l1Cur_pick_ok : FnOK Try.prog 101 s_l1Cur_pick_M.S := by
 refine fm tt s_l1Cur_pick_M [fo s_l1Cur_next_ok] Try.call101 Try.func101 rfl Try.results101 Try.ntmps101 ?_
 rintro ⟨c, n⟩ y cx G hm
 have hm : s_l1Cur_pick c n = some y := hm
 unfold s_l1Cur_pick at hm
 refine rg G (Ok_seq (rg G (cd hm (fun hm => ?_) (fun hm => ?_))))
 ·refine rg G ?_
  cases hm
  exact rt [] []
 ·refine X_skip (thN ?_)
  obtain ⟨r, h, hm⟩ := obind hm
  refine rs G (hC 1 (s_l1Cur_next_c h) h0) ?_
  refine jn hm (fun (v, v1, v2, v3) => ⟨[(0, .ref 0 0), (1, dV n), (5, dV v)], [bX 0 [dV v1, dV v2, kV .u64 v3]], 48⟩) (fun vv hm => ?_) ?_
  ·refine rg G (cd hm (fun hm => ?_) (fun hm => ?_))
   ·obtain ⟨r1, h1, hm⟩ := obind hm
    refine re G (hC 3 (s_l1Cur_next_c h1) h0) ?_
    exact wJ G hm
   ·exact X_skip (wJ G hm)
  rintro ⟨v, v1, v2, v3⟩ hm
  obtain ⟨u, h2, hm⟩ := obind hm
  refine rs G (hK h2 h0) ?_
  cases hm
  exact rt [] []
noncomputable def s_l1Cur_one_M : MS (l1Cur × Int) (Bool × l1Cur) := ⟨.x .b .r, fun x => s_l1Cur_one x.1 x.2, fun y => dV y.1, fun _ => [], fun _ y => [bxO y.2]⟩
theorem s_l1Cur_one_c {c n y} (hm : s_l1Cur_one c n = some y) : s_l1Cur_one_M.C (c, n) y := s_l1Cur_one_M.c (c, n) hm
theorem s_l1Cur_one_ok : FnOK Try.prog 100 s_l1Cur_one_M.S := by
 refine fm tt s_l1Cur_one_M [fo s_l1Cur_pick_ok] Try.call100 Try.func100 rfl Try.results100 Try.ntmps100 ?_
 rintro ⟨c, n⟩ y cx G hm
 have hm : s_l1Cur_one c n = some y := hm
 unfold s_l1Cur_one at hm
 refine rg G ?_
 obtain ⟨r, h, hm⟩ := obind hm
 refine rs G (hC 2 (s_l1Cur_pick_c h) h0) ?_
 cases hm
 exact rt [] []
noncomputable def s_l1Num_MR (rec_ : Int → Option (ByteArray)) : MS Int ByteArray := ⟨.r, rec_, fun y => dV y, fun _ => [], fun _ _ => []⟩
noncomputable def s_l1Num_M : MS Int ByteArray := s_l1Num_MR s_l1Num
theorem s_l1Num_c {n y} (hm : s_l1Num n = some y) : s_l1Num_M.C n y := s_l1Num_M.c n hm
theorem s_l1Num_cR {rec_ : Int → Option (ByteArray)} {n y} (hm : rec_ n = some y) : (s_l1Num_MR rec_).C n y := (s_l1Num_MR rec_).c n hm
theorem s_l1Num_okF {rec_ : Int → Option (ByteArray)} (hrec : FnOK Try.prog 250 (s_l1Num_MR rec_).S) : FnOK Try.prog 250 (s_l1Num_MR (s_l1Num_F rec_)).S := by
 refine fm tt (s_l1Num_MR (s_l1Num_F rec_)) [fo hrec] Try.call250 Try.func250 rfl Try.results250 Try.ntmps250 ?_
 rintro n y cx G hm
 have hm : s_l1Num_F rec_ n = some y := hm
 unfold s_l1Num_F at hm
 refine rg G (Ok_seq (rg G (cd hm (fun hm => ?_) (fun hm => ?_))))
 ·obtain ⟨r, h, hm⟩ := obind hm
  obtain ⟨u, h1, hm⟩ := obind hm
  refine rs G (hC 2 (s_l1Num_cR h) (hP (cat_p (chk_t h1)) h0)) ?_
  cases hm
  exact rt [] []
 ·refine X_skip (thN (Ok_seq (rg G (cd hm (fun hm => ?_) (fun hm => ?_)))))
  ·obtain ⟨u1, h2, hm⟩ := obind hm
   refine rs G (hK h2 h0) ?_
   cases hm
   exact rt [] []
  ·refine X_skip (thN ?_)
   obtain ⟨u7, h9, hm⟩ := obind hm
   obtain ⟨r2, h10, hm⟩ := obind hm
   obtain ⟨u8, h11, hm⟩ := obind hm
   obtain ⟨u9, h12, hm⟩ := obind hm
   obtain ⟨u10, h13, hm⟩ := obind hm
   obtain ⟨u11, h14, hm⟩ := obind hm
   refine ds G [] (hK h9 (hC 2 (s_l1Num_cR h10) (hK h11 (hK h12 (hK h13 (hP (cat_p (chk_t h14)) h0)))))) ?_
   cases hm
   exact rt [] []
theorem s_l1Num_okn : ∀ k, FnOK Try.prog 250 (s_l1Num_MR (s_l1Num_k k)).S
 | 0 => ⟨fun args w => Try.call250 args w, fun vs w F ds obs κ hp => by obtain ⟨x, y, _, _, h⟩ := hp; cases h⟩
 | k + 1 => s_l1Num_okF (s_l1Num_okn k)
theorem s_l1Num_ok : FnOK Try.prog 250 s_l1Num_M.S := s_l1Num_okn 4294967296
noncomputable def s_l2Place_M : MS (Line × Int) Int := ⟨.x .r .r, fun x => s_l2Place x.1 x.2, fun y => dV y, fun _ => [], fun _ _ => []⟩
theorem s_l2Place_c {x stop y} (hm : s_l2Place x stop = some y) : s_l2Place_M.C (x, stop) y := s_l2Place_M.c (x, stop) hm
theorem s_l2Place_ok : FnOK Try.prog 159 s_l2Place_M.S := by
 refine fm tt s_l2Place_M [] Try.call159 Try.func159 rfl Try.results159 Try.ntmps159 ?_
 rintro ⟨x, stop⟩ y cx G hm
 have hm : s_l2Place x stop = some y := hm
 unfold s_l2Place at hm
 refine rg G (Ok_seq (rg G (tF hm (fun _ => ⟨[], [], 32⟩) (fun v1 hr hm => ?_) ?_)))
 ·refine Ok_block (lp G hm (fun v => ⟨[(1, dV stop), (2, .ref 16 0), (5, dV v)], [bX 16 [dV x.Name, dV x.Stops, dV x.Runs]], 48⟩) ?_)
  rintro v r0 hb hm
  rw [s_l2Place_L1] at hm
  refine Ok_seq (rs G (hN 3 x.Stops h0) ?_)
  refine cd hm (fun hm => ?_) (fun hm => ?_)
  ·refine X_skip (thN (Ok_seq (Ok_block ?_)))
   obtain ⟨e, h, hm⟩ := obind hm
   refine rs G (hD 3 h h0) ?_
   refine cd hm (fun hm => ?_) (fun hm => ?_)
   ·refine rg G ?_
    have hm := eL hm hb hr
    cases hm
    exact rt [] []
   ·exact X_skip (ibN (thN (rh G (wL G hm))))
  ·exact Ok_exit (thE (thE (ibE (wE G hm hb))))
 rintro ⟨⟩ hm s hw
 refine thN (Ok_weak hw ?_)
 refine rg G ?_
 cases hm
 exact rt [] []
noncomputable def s_l1Cur_line_M : MS (l1Cur × ByteArray × Int) (Line × l1Cur) := ⟨.x .b (.x .r .r), fun x => s_l1Cur_line x.1 x.2.1 x.2.2, fun y => .aggv [dV y.1.Name, .own 0, .own 1], fun y => [arO 3 y.1.Stops, arO 3 y.1.Runs], fun _ y => [bxO y.2]⟩
theorem s_l1Cur_line_c {c name stops y} (hm : s_l1Cur_line c name stops = some y) : s_l1Cur_line_M.C (c, name, stops) y := s_l1Cur_line_M.c (c, name, stops) hm
theorem s_l1Cur_line_ok : FnOK Try.prog 249 s_l1Cur_line_M.S := by
 refine fm tt s_l1Cur_line_M [fo s_l1Cur_pick_ok, fo s_l2Place_ok] Try.call249 Try.func249 rfl Try.results249 Try.ntmps249 ?_
 rintro ⟨c, name, stops⟩ y cx G hm
 have hm : s_l1Cur_line c name stops = some y := hm
 unfold s_l1Cur_line at hm
 refine rg G (rg G ?_)
 obtain ⟨r, h, hm⟩ := obind hm
 refine rs G (hC 2 (s_l1Cur_pick_c h) h0) ?_
 refine Ok_seq ?_
 obtain ⟨r1, h1, hm⟩ := obind hm
 refine rs G (hC 1 (s_l1Cur_pick_c h1) h0) ?_
 refine tl hm (fun (v7, v8, v9, v10) => ⟨[(0, .ref 0 0), (2, dV stops), (6, .ref 32 0), (7, .ref 48 0)], [bX 0 [dV v7, dV v8, kV .u64 v9], bX 32 [dV ByteArray.empty, .dat (.sc (.slice none 0 0)), .dat (.sc (.slice none 0 0))], bX 48 [dV name, .own 64, .dat (.sc (.slice none 0 0))], aX 64 3 v10], 96⟩) (fun vv1 hm => ?_) ?_
 ·refine Ok_block (lpP hm (fun (v, v1, v2, v3, v4, v5) => ⟨[(0, .ref 0 0), (2, dV stops), (6, .ref 32 0), (7, .ref 48 0), (8, dV v), (9, dV v1)], [bX 0 [dV v2, dV v3, kV .u64 v4], bX 32 [dV ByteArray.empty, .dat (.sc (.slice none 0 0)), .dat (.sc (.slice none 0 0))], bX 48 [dV name, .own 64, .dat (.sc (.slice none 0 0))], aX 64 3 v5], 96⟩) (Wk_J G.hL ⟨[(0, []), (2, []), (6, []), (7, []), (8, []), (9, [])], [(0, 0, []), (32, 16, []), (48, 64, [.k, .o 64])], [(64, 3, 1, [])], 96⟩ (by kernel_rfl)) ?_)
  rintro ⟨v, v1, v2, v3, v4, v5⟩ r0 hb hm
  rw [s_l1Cur_line_L1] at hm
  refine Ok_seq (rg G (cd hm (fun hm => ?_) (fun hm => ?_)))
  ·refine X_skip (thN (Ok_seq (Ok_block (jn hm (fun v6 => ⟨[(0, .ref 0 0), (2, dV stops), (6, .ref 32 0), (7, .ref 48 0), (8, dV v), (9, dV v1)], [bX 0 [dV v2, dV v3, kV .u64 v4], bX 32 [dV ByteArray.empty, .dat (.sc (.slice none 0 0)), .dat (.sc (.slice none 0 0))], bX 48 [dV name, .own 64, .dat (.sc (.slice none 0 0))], aX 64 3 v6], 96⟩) (fun v6 hm => ?_) ?_))))
   ·obtain ⟨r2, h2, hm⟩ := obind hm
    refine rs G (hC 2 (s_l2Place_c h2) h0) ?_
    refine cd hm (fun hm => ?_) (fun hm => ?_)
    ·obtain ⟨u, h3, hm⟩ := obind hm
     refine re G (hA 4 8 h3 h0) ?_
     exact wJ G hm
    ·exact X_skip (wJ G hm)
   rintro v6 hm
   obtain ⟨r3, h4, hm⟩ := obind hm
   obtain ⟨u1, h5, hm⟩ := obind hm
   refine re G (hC 3 (s_l1Cur_pick_c h4) (hK h5 h0)) ?_
   exact ibN (thN (rh G (wL G hm)))
  ·exact Ok_exit (thE (thE (ibE (wD G hm hb))))
 rintro ⟨v7, v8, v9, v10⟩ hm s hw
 refine thN (Ok_weak hw ?_)
 refine jn hm (fun v11 => ⟨[(0, .ref 0 0), (6, .ref 32 0), (7, .ref 48 0)], [bX 0 [dV v7, dV v8, kV .u64 v9], bX 32 [dV ByteArray.empty, .dat (.sc (.slice none 0 0)), .dat (.sc (.slice none 0 0))], bX 48 [dV name, .own 64, .dat (.sc (.slice none 0 0))], aX 64 3 v11], 96⟩) (fun v11 hm => ?_) ?_
 ·refine rs G (hN 2 v10 h0) ?_
  refine cd hm (fun hm => ?_) (fun hm => ?_)
  ·obtain ⟨e1, h9, hm⟩ := obind hm
   obtain ⟨u4, h10, hm⟩ := obind hm
   obtain ⟨u5, h11, hm⟩ := obind hm
   refine de G [(10, [64, 304]), (12, [48, 320])] (hD 4 h9 (hE 5 h9 (hK h10 (hA 10 8 h11 h0)))) ?_
   exact wJ G hm
  ·exact X_skip (wJ G hm)
 rintro v11 hm
 refine Ok_seq (rg G (tl hm (fun (v17, v18, v19, v20) => ⟨[(0, .ref 0 0), (6, .ref 32 0), (7, .ref 48 0)], [bX 0 [dV v17, dV v18, kV .u64 v19], bX 32 [dV ByteArray.empty, .dat (.sc (.slice none 0 0)), .dat (.sc (.slice none 0 0))], bX 48 [dV name, .own 64, .own 80], aX 64 3 v11, aX 80 3 v20], 112⟩) (fun vv hm => ?_) ?_))
 ·refine Ok_block (lpP hm (fun (v12, v13, v14, v15, v16) => ⟨[(0, .ref 0 0), (6, .ref 32 0), (7, .ref 48 0), (10, dV v12)], [bX 0 [dV v13, dV v14, kV .u64 v15], bX 32 [dV ByteArray.empty, .dat (.sc (.slice none 0 0)), .dat (.sc (.slice none 0 0))], bX 48 [dV name, .own 64, .own 80], aX 64 3 v11, aX 80 3 v16], 112⟩) (Wk_J G.hL ⟨[(0, []), (6, []), (7, []), (10, [])], [(0, 0, []), (32, 32, []), (48, 48, [.k, .k, .o 80]), (64, 64, [])], [(80, 3, 1, [])], 112⟩ (by kernel_rfl)) ?_)
  rintro ⟨v12, v13, v14, v15, v16⟩ r0 hb1 hm
  rw [s_l1Cur_line_L2] at hm
  refine Ok_seq (rs G (hN 3 v11 h0) ?_)
  refine cd hm (fun hm => ?_) (fun hm => ?_)
  ·refine X_skip (thN (Ok_seq (Ok_block ?_)))
   obtain ⟨r5, h14, hm⟩ := obind hm
   obtain ⟨u7, h15, hm⟩ := obind hm
   refine de G [(3, [0]), (6, [80, 272]), (8, [48, 288])] (hC 3 (s_l1Cur_pick_c h14) (hA 6 8 h15 h0)) ?_
   exact ibN (thN (rh G (wL G hm)))
  ·exact Ok_exit (thE (thE (ibE (wD G hm hb1))))
 rintro ⟨v17, v18, v19, v20⟩ hm s1 hw1
 refine thN (Ok_weak hw1 ?_)
 refine rg G ?_
 cases hm
 exact rt [64, 80] []
noncomputable def s_l1Cur_line_f_M : MS (l1Cur × ByteArray × Int) (Line × l1Cur) := ⟨.x .b (.x .r .r), fun x => s_l1Cur_line_f x.1 x.2.1 x.2.2, fun y => dV y.1, fun _ => [], fun _ y => [bxO y.2]⟩
theorem s_l1Cur_line_f_c {c name stops y} (hm : s_l1Cur_line_f c name stops = some y) : s_l1Cur_line_f_M.C (c, name, stops) y := s_l1Cur_line_f_M.c (c, name, stops) hm
theorem s_l1Cur_line_f_ok : FnOK Try.prog 249 s_l1Cur_line_f_M.S := by
 refine fm tt s_l1Cur_line_f_M [fo s_l1Cur_pick_ok, fo s_l2Place_ok] Try.call249 Try.func249 rfl Try.results249 Try.ntmps249 ?_
 rintro ⟨c, name, stops⟩ y cx G hm
 have hm : s_l1Cur_line_f c name stops = some y := hm
 unfold s_l1Cur_line_f at hm
 refine rg G (rg G ?_)
 obtain ⟨r, h, hm⟩ := obind hm
 refine rs G (hC 2 (s_l1Cur_pick_c h) h0) ?_
 refine Ok_seq ?_
 obtain ⟨r1, h1, hm⟩ := obind hm
 refine rs G (hC 1 (s_l1Cur_pick_c h1) h0) ?_
 refine tl hm (fun (v7, v8, v9, v10) => ⟨[(0, .ref 0 0), (2, dV stops), (6, .ref 32 0), (7, .ref 48 0)], [bX 0 [dV v7, dV v8, kV .u64 v9], bX 32 [dV ByteArray.empty, .dat (.sc (.slice none 0 0)), .dat (.sc (.slice none 0 0))], bX 48 [dV name, .own 64, .dat (.sc (.slice none 0 0))], aX 64 3 v10], 96⟩) (fun vv1 hm => ?_) ?_
 ·refine Ok_block (lpP hm (fun (v, v1, v2, v3, v4, v5) => ⟨[(0, .ref 0 0), (2, dV stops), (6, .ref 32 0), (7, .ref 48 0), (8, dV v), (9, dV v1)], [bX 0 [dV v2, dV v3, kV .u64 v4], bX 32 [dV ByteArray.empty, .dat (.sc (.slice none 0 0)), .dat (.sc (.slice none 0 0))], bX 48 [dV name, .own 64, .dat (.sc (.slice none 0 0))], aX 64 3 v5], 96⟩) (Wk_J G.hL ⟨[(0, []), (2, []), (6, []), (7, []), (8, []), (9, [])], [(0, 0, []), (32, 16, []), (48, 64, [.k, .o 64])], [(64, 3, 1, [])], 96⟩ (by kernel_rfl)) ?_)
  rintro ⟨v, v1, v2, v3, v4, v5⟩ r0 hb hm
  rw [s_l1Cur_line_f_L1] at hm
  refine Ok_seq (rg G (cd hm (fun hm => ?_) (fun hm => ?_)))
  ·refine X_skip (thN (Ok_seq (Ok_block (jn hm (fun v6 => ⟨[(0, .ref 0 0), (2, dV stops), (6, .ref 32 0), (7, .ref 48 0), (8, dV v), (9, dV v1)], [bX 0 [dV v2, dV v3, kV .u64 v4], bX 32 [dV ByteArray.empty, .dat (.sc (.slice none 0 0)), .dat (.sc (.slice none 0 0))], bX 48 [dV name, .own 64, .dat (.sc (.slice none 0 0))], aX 64 3 v6], 96⟩) (fun v6 hm => ?_) ?_))))
   ·obtain ⟨r2, h2, hm⟩ := obind hm
    refine rs G (hC 2 (s_l2Place_c h2) h0) ?_
    refine cd hm (fun hm => ?_) (fun hm => ?_)
    ·obtain ⟨u, h3, hm⟩ := obind hm
     refine re G (hA 4 8 h3 h0) ?_
     exact wJ G hm
    ·exact X_skip (wJ G hm)
   rintro v6 hm
   obtain ⟨r3, h4, hm⟩ := obind hm
   obtain ⟨u1, h5, hm⟩ := obind hm
   refine re G (hC 3 (s_l1Cur_pick_c h4) (hK h5 h0)) ?_
   exact ibN (thN (rh G (wL G hm)))
  ·exact Ok_exit (thE (thE (ibE (wD G hm hb))))
 rintro ⟨v7, v8, v9, v10⟩ hm s hw
 refine thN (Ok_weak hw ?_)
 refine jn hm (fun v11 => ⟨[(0, .ref 0 0), (6, .ref 32 0), (7, .ref 48 0)], [bX 0 [dV v7, dV v8, kV .u64 v9], bX 32 [dV ByteArray.empty, .dat (.sc (.slice none 0 0)), .dat (.sc (.slice none 0 0))], bX 48 [dV name, .own 64, .dat (.sc (.slice none 0 0))], aX 64 3 v11], 96⟩) (fun v11 hm => ?_) ?_
 ·refine rs G (hN 2 v10 h0) ?_
  refine cd hm (fun hm => ?_) (fun hm => ?_)
  ·obtain ⟨e1, h9, hm⟩ := obind hm
   obtain ⟨u4, h10, hm⟩ := obind hm
   obtain ⟨u5, h11, hm⟩ := obind hm
   refine de G [(10, [64, 304]), (12, [48, 320])] (hD 4 h9 (hE 5 h9 (hK h10 (hA 10 8 h11 h0)))) ?_
   exact wJ G hm
  ·exact X_skip (wJ G hm)
 rintro v11 hm
 refine Ok_seq (rg G (tl hm (fun (v17, v18, v19, v20) => ⟨[(0, .ref 0 0), (6, .ref 32 0), (7, .ref 48 0)], [bX 0 [dV v17, dV v18, kV .u64 v19], bX 32 [dV ByteArray.empty, .dat (.sc (.slice none 0 0)), .dat (.sc (.slice none 0 0))], bX 48 [dV name, .own 64, .own 80], aX 64 3 v11, aX 80 3 v20], 112⟩) (fun vv hm => ?_) ?_))
 ·refine Ok_block (lpP hm (fun (v12, v13, v14, v15, v16) => ⟨[(0, .ref 0 0), (6, .ref 32 0), (7, .ref 48 0), (10, dV v12)], [bX 0 [dV v13, dV v14, kV .u64 v15], bX 32 [dV ByteArray.empty, .dat (.sc (.slice none 0 0)), .dat (.sc (.slice none 0 0))], bX 48 [dV name, .own 64, .own 80], aX 64 3 v11, aX 80 3 v16], 112⟩) (Wk_J G.hL ⟨[(0, []), (6, []), (7, []), (10, [])], [(0, 0, []), (32, 32, []), (48, 48, [.k, .k, .o 80]), (64, 64, [])], [(80, 3, 1, [])], 112⟩ (by kernel_rfl)) ?_)
  rintro ⟨v12, v13, v14, v15, v16⟩ r0 hb1 hm
  rw [s_l1Cur_line_f_L2] at hm
  refine Ok_seq (rs G (hN 3 v11 h0) ?_)
  refine cd hm (fun hm => ?_) (fun hm => ?_)
  ·refine X_skip (thN (Ok_seq (Ok_block ?_)))
   obtain ⟨r5, h14, hm⟩ := obind hm
   obtain ⟨u7, h15, hm⟩ := obind hm
   refine de G [(3, [0]), (6, [80, 272]), (8, [48, 288])] (hC 3 (s_l1Cur_pick_c h14) (hA 6 8 h15 h0)) ?_
   exact ibN (thN (rh G (wL G hm)))
  ·exact Ok_exit (thE (thE (ibE (wD G hm hb1))))
 rintro ⟨v17, v18, v19, v20⟩ hm s1 hw1
 refine thN (Ok_weak hw1 ?_)
 refine rg G ?_
 cases hm
 exact rt [] []
noncomputable def s_l2Back_f_M : MS ((List Int)) ((List Int)) := ⟨.r, s_l2Back_f, fun y => dV y, fun _ => [], fun _ _ => []⟩
theorem s_l2Back_f_c {list y} (hm : s_l2Back_f list = some y) : s_l2Back_f_M.C list y := s_l2Back_f_M.c list hm
theorem s_l2Back_f_ok : FnOK Try.prog 251 s_l2Back_f_M.S := by
 refine fm tt s_l2Back_f_M [] Try.call251 Try.func251 rfl Try.results251 Try.ntmps251 ?_
 rintro list y cx G hm
 have hm : s_l2Back_f list = some y := hm
 unfold s_l2Back_f at hm
 refine rg G (rg G (Ok_seq (rs G (hN 1 list h0) ?_)))
 refine tl hm (fun i1 => ⟨[(3, .own 16)], [aX 16 3 i1], 48⟩) (fun i1 hm => ?_) ?_
 ·refine Ok_block (lp G hm (fun (v, i) => ⟨[(0, dV list), (3, .own 16), (4, dV v)], [aX 16 3 i], 48⟩) ?_)
  rintro ⟨v, i⟩ r0 hb hm
  rw [s_l2Back_f_L1] at hm
  refine Ok_seq (rg G (cd hm (fun hm => ?_) (fun hm => ?_)))
  ·refine X_skip (thN (Ok_seq (Ok_block ?_)))
   obtain ⟨e, h, hm⟩ := obind hm
   obtain ⟨u, h1, hm⟩ := obind hm
   refine re G (hD 3 h (hA 6 8 h1 h0)) ?_
   exact ibN (thN (rh G (wL G hm)))
  ·exact Ok_exit (thE (thE (ibE (wD G hm hb))))
 rintro i1 hm s hw
 refine thN (Ok_weak hw ?_)
 refine rg G ?_
 cases hm
 exact rt [] []
noncomputable def s_l1Own_M : MS ((List Int)) ((List Int)) := ⟨.r, s_l1Own, fun _ => .own 0, fun y => [arO 3 y], fun _ _ => []⟩
theorem s_l1Own_c {l y} (hm : s_l1Own l = some y) : s_l1Own_M.C l y := s_l1Own_M.c l hm
theorem s_l1Own_ok : FnOK Try.prog 263 s_l1Own_M.S := by
 refine fm tt s_l1Own_M [] Try.call263 Try.func263 rfl Try.results263 Try.ntmps263 ?_
 rintro l y cx G hm
 have hm : s_l1Own l = some y := hm
 unfold s_l1Own at hm
 refine rg G ?_
 obtain ⟨u, h, hm⟩ := obind hm
 refine rs G (hA 2 8 h h0) ?_
 cases hm
 exact rt [64] []
noncomputable def s_l1Own_f_M : MS ((List Int)) ((List Int)) := ⟨.r, s_l1Own_f, fun y => dV y, fun _ => [], fun _ _ => []⟩
theorem s_l1Own_f_c {l y} (hm : s_l1Own_f l = some y) : s_l1Own_f_M.C l y := s_l1Own_f_M.c l hm
theorem s_l1Own_f_ok : FnOK Try.prog 263 s_l1Own_f_M.S := by
 refine fm tt s_l1Own_f_M [] Try.call263 Try.func263 rfl Try.results263 Try.ntmps263 ?_
 rintro l y cx G hm
 have hm : s_l1Own_f l = some y := hm
 unfold s_l1Own_f at hm
 refine rg G ?_
 obtain ⟨u, h, hm⟩ := obind hm
 refine rs G (hA 2 8 h h0) ?_
 cases hm
 exact rt [] []
noncomputable def s_l2Own_M : MS Network Network := ⟨.r, s_l2Own, fun _ => .aggv [.own 0, .own 1], fun y => [arO 9 y.Stops, arO 150 y.Lines], fun _ _ => []⟩
theorem s_l2Own_c {n y} (hm : s_l2Own n = some y) : s_l2Own_M.C n y := s_l2Own_M.c n hm
theorem s_l2Own_ok : FnOK Try.prog 224 s_l2Own_M.S := by
 refine fm tt s_l2Own_M [fo s_l1Own_f_ok] Try.call224 Try.func224 rfl Try.results224 Try.ntmps224 ?_
 rintro n y cx G hm
 have hm : s_l2Own n = some y := hm
 unfold s_l2Own at hm
 refine rg G ?_
 obtain ⟨u, h, hm⟩ := obind hm
 refine rs G (hA 3 16 h h0) ?_
 refine Ok_seq (rg G (tl hm (fun v2 => ⟨[(2, .ref 16 0), (3, .ref 32 0)], [bX 16 [.dat (.sc (.slice none 0 0)), .dat (.sc (.slice none 0 0))], bX 32 [.own 48, .own 64], aX 48 9 (([] : List ByteArray) ++ n.Stops), aX 64 150 v2], 96⟩) (fun v2 hm => ?_) ?_))
 ·refine Ok_block (lpP hm (fun (v, v1) => ⟨[(1, .ref 16 0), (2, .ref 32 0), (3, .ref 48 0), (4, dV v)], [bX 16 [dV n.Stops, dV n.Lines], bX 32 [.dat (.sc (.slice none 0 0)), .dat (.sc (.slice none 0 0))], bX 48 [.own 64, .own 80], aX 64 9 (([] : List ByteArray) ++ n.Stops), aX 80 150 v1], 112⟩) (Wk_J G.hL ⟨[(1, []), (2, []), (3, []), (4, [])], [(16, 16, []), (32, 32, []), (48, 128, [.k, .o 80]), (64, 96, [])], [(80, 150, 3, [])], 112⟩ (by kernel_rfl)) ?_)
  rintro ⟨v, v1⟩ r0 hb hm
  rw [s_l2Own_L1] at hm
  refine Ok_seq (rs G (hN 3 n.Lines h0) ?_)
  refine cd hm (fun hm => ?_) (fun hm => ?_)
  ·refine X_skip (thN (Ok_seq (Ok_block ?_)))
   obtain ⟨e3, h7, hm⟩ := obind hm
   obtain ⟨e4, h8, hm⟩ := obind hm
   obtain ⟨r2, h9, hm⟩ := obind hm
   obtain ⟨e5, h10, hm⟩ := obind hm
   obtain ⟨r3, h11, hm⟩ := obind hm
   obtain ⟨u2, h12, hm⟩ := obind hm
   refine de G [(23, []), (24, [80, 560]), (26, [48, 576])] (hD 5 h7 (hD 11 h8 (hC 14 (s_l1Own_f_c h9) (hD 18 h10 (hC 21 (s_l1Own_f_c h11) (hA 24 64 h12 h0)))))) ?_
   exact ibN (thN (rh G (wL G hm)))
  ·exact Ok_exit (thE (thE (ibE (wD G hm hb))))
 rintro v2 hm s hw
 refine thN (Ok_weak hw ?_)
 refine rg G ?_
 cases hm
 exact rt [48, 64] []
noncomputable def s_l1Cur_network_M : MS l1Cur (Network × l1Cur) := ⟨.b, s_l1Cur_network, fun _ => .aggv [.own 0, .own 1], fun y => [arO 9 y.1.Stops, arO 150 y.1.Lines], fun _ y => [bxO y.2]⟩
theorem s_l1Cur_network_c {c y} (hm : s_l1Cur_network c = some y) : s_l1Cur_network_M.C c y := s_l1Cur_network_M.c c hm
theorem s_l1Cur_network_ok : FnOK Try.prog 200 s_l1Cur_network_M.S := by
 refine fm tt s_l1Cur_network_M [fo s_l1Cur_pick_ok, fo s_l1Num_ok, fo s_l1Cur_line_f_ok, fo s_l1Cur_one_ok, fo s_l2Back_f_ok, fo s_l2Own_ok] Try.call200 Try.func200 rfl Try.results200 Try.ntmps200 ?_
 rintro c y cx G hm
 have hm : s_l1Cur_network c = some y := hm
 unfold s_l1Cur_network at hm
 refine rg G ?_
 obtain ⟨r, h, hm⟩ := obind hm
 refine rs G (hC 1 (s_l1Cur_pick_c h) h0) ?_
 obtain ⟨u, h1, hm⟩ := obind hm
 refine rs G (hO 2 (.fz [96] [] []) (hU 2 h1 h0)) ?_
 refine Ok_seq ?_
 obtain ⟨r1, h2, hm⟩ := obind hm
 refine rs G (hC 1 (s_l1Cur_pick_c h2) h0) ?_
 refine tl hm (fun (v4, v5, v6, v7) => ⟨[(0, .ref 0 0), (2, .ref 32 0), (4, .ref 48 0)], [bX 0 [dV v4, dV v5, kV .u64 v6], bX 32 [.dat (.sc (.slice none 0 0)), .dat (.sc (.slice none 0 0))], bX 48 [dV ((([(str [112, 111, 114, 116]), (str [109, 105, 108, 108]), (str [112, 97, 114, 107]), (str [104, 97, 108, 108]), (str [100, 111, 99, 107]), (str [102, 97, 105, 114])] : List ByteArray).take (w64 (2 + r.1)).toNat).drop (0 : Int).toNat), .own 64], aX 64 150 v7], 96⟩) (fun vv1 hm => ?_) ?_
 ·refine Ok_block (lpP hm (fun (x, v, v1, v2, v3) => ⟨[(0, .ref 0 0), (2, .ref 32 0), (3, dV (w64 (2 + r.1))), (4, .ref 48 0), (5, dV x)], [bX 0 [dV v, dV v1, kV .u64 v2], bX 32 [.dat (.sc (.slice none 0 0)), .dat (.sc (.slice none 0 0))], bX 48 [dV ((([(str [112, 111, 114, 116]), (str [109, 105, 108, 108]), (str [112, 97, 114, 107]), (str [104, 97, 108, 108]), (str [100, 111, 99, 107]), (str [102, 97, 105, 114])] : List ByteArray).take (w64 (2 + r.1)).toNat).drop (0 : Int).toNat), .own 64], aX 64 150 v3], 96⟩) (Wk_J G.hL ⟨[(0, []), (2, []), (3, []), (4, []), (5, [])], [(0, 0, []), (32, 16, []), (48, 160, [.k, .o 64])], [(64, 150, 3, [])], 96⟩ (by kernel_rfl)) ?_)
  rintro ⟨x, v, v1, v2, v3⟩ r0 hb hm
  rw [s_l1Cur_network_L1] at hm
  refine Ok_seq (rg G (cd hm (fun hm => ?_) (fun hm => ?_)))
  ·refine X_skip (thN (Ok_seq (Ok_block ?_)))
   obtain ⟨r4, h7, hm⟩ := obind hm
   obtain ⟨u3, h8, hm⟩ := obind hm
   obtain ⟨r5, h9, hm⟩ := obind hm
   obtain ⟨u4, h10, hm⟩ := obind hm
   refine de G [(7, [0]), (8, []), (9, [64, 256]), (11, [48, 272])] (hC 4 (s_l1Num_c h7) (hP (cat_p (chk_t h8)) (hC 7 (s_l1Cur_line_f_c h9) (hA 9 64 h10 h0)))) ?_
   exact ibN (thN (rh G (wL G hm)))
  ·exact Ok_exit (thE (thE (ibE (wD G hm hb))))
 rintro ⟨v4, v5, v6, v7⟩ hm s hw
 refine thN (Ok_weak hw ?_)
 refine jn hm (fun (v8, v9, v10, v11) => ⟨[(0, .ref 0 0), (2, .ref 32 0), (4, .ref 48 0)], [bX 0 [dV v8, dV v9, kV .u64 v10], bX 32 [.dat (.sc (.slice none 0 0)), .dat (.sc (.slice none 0 0))], bX 48 [dV ((([(str [112, 111, 114, 116]), (str [109, 105, 108, 108]), (str [112, 97, 114, 107]), (str [104, 97, 108, 108]), (str [100, 111, 99, 107]), (str [102, 97, 105, 114])] : List ByteArray).take (w64 (2 + r.1)).toNat).drop (0 : Int).toNat), .own 64], aX 64 150 v11], 96⟩) (fun vv hm => ?_) ?_
 ·obtain ⟨r6, h11, hm⟩ := obind hm
  refine rs G (hC 1 (s_l1Cur_one_c h11) h0) ?_
  refine cd hm (fun hm => ?_) (fun hm => ?_)
  ·obtain ⟨e, h12, hm⟩ := obind hm
   refine rs G (hD 2 h12 (hE 3 h12 h0)) ?_
   obtain ⟨r9, h16, hm⟩ := obind hm
   obtain ⟨r10, h17, hm⟩ := obind hm
   obtain ⟨u6, h18, hm⟩ := obind hm
   refine de G [(9, []), (10, [64, 368]), (12, [48, 384])] (hC 4 (s_l2Back_f_c h16) (hC 7 (s_l2Back_f_c h17) (hA 10 64 h18 h0))) ?_
   exact wJ G hm
  ·exact X_skip (wJ G hm)
 rintro ⟨v8, v9, v10, v11⟩ hm
 obtain ⟨r11, h19, hm⟩ := obind hm
 refine rs G (hO 1 (.fz [64] [] []) (hC 1 (s_l2Own_c h19) h0)) ?_
 cases hm
 exact rt [112, 113] []
noncomputable def s_l1Cur_timetable_M : MS l1Cur (Timetable × l1Cur) := ⟨.b, s_l1Cur_timetable, fun _ => .aggv [.own 0, .own 1, .own 2], fun y => [arO 9 y.1.Network.Stops, arO 150 y.1.Network.Lines, arO 55 y.1.Trips], fun _ y => [bxO y.2]⟩
theorem s_l1Cur_timetable_c {c y} (hm : s_l1Cur_timetable c = some y) : s_l1Cur_timetable_M.C c y := s_l1Cur_timetable_M.c c hm
theorem s_l1Cur_timetable_ok : FnOK Try.prog 213 s_l1Cur_timetable_M.S := by
 refine fm tt s_l1Cur_timetable_M [fo s_l1Cur_network_ok, fo s_l1Cur_pick_ok] Try.call213 Try.func213 rfl Try.results213 Try.ntmps213 ?_
 rintro c y cx G hm
 have hm : s_l1Cur_timetable c = some y := hm
 unfold s_l1Cur_timetable at hm
 refine rg G ?_
 obtain ⟨r, h, hm⟩ := obind hm
 refine rs G (hC 1 (s_l1Cur_network_c h) h0) ?_
 refine rg G (Ok_seq ?_)
 obtain ⟨r1, h1, hm⟩ := obind hm
 refine rs G (hC 1 (s_l1Cur_pick_c h1) h0) ?_
 refine tl hm (fun (v5, v6, v7, v8) => ⟨[(0, .ref 0 0), (2, .ref 32 0), (3, .ref 48 0)], [bX 0 [dV v5, dV v6, kV .u64 v7], bX 32 [.dat (.sc (.slice none 0 0)), .dat (.sc (.slice none 0 0)), .dat (.sc (.slice none 0 0))], bX 48 [.own 64, .own 80, .own 96], aX 64 9 r.1.Stops, aX 80 150 r.1.Lines, aX 96 55 v8], 128⟩) (fun vv hm => ?_) ?_
 ·refine Ok_block (lpP hm (fun (n, v, v1, v2, v3, v4) => ⟨[(0, .ref 0 0), (2, .ref 32 0), (3, .ref 48 0), (4, dV n), (5, dV v)], [bX 0 [dV v1, dV v2, kV .u64 v3], bX 32 [.dat (.sc (.slice none 0 0)), .dat (.sc (.slice none 0 0)), .dat (.sc (.slice none 0 0))], bX 48 [.own 64, .own 80, .own 96], aX 64 9 r.1.Stops, aX 80 150 r.1.Lines, aX 96 55 v4], 128⟩) (Wk_J G.hL ⟨[(0, []), (2, []), (3, []), (4, []), (5, [])], [(0, 0, []), (32, 16, []), (48, 80, [.k, .k, .o 96]), (64, 48, []), (80, 49, [])], [(96, 55, 3, [])], 128⟩ (by kernel_rfl)) ?_)
  rintro ⟨n, v, v1, v2, v3, v4⟩ r0 hb hm
  rw [s_l1Cur_timetable_L1] at hm
  refine Ok_seq (rg G (cd hm (fun hm => ?_) (fun hm => ?_)))
  ·refine X_skip (thN (Ok_seq (Ok_block ?_)))
   obtain ⟨r2, h2, hm⟩ := obind hm
   refine rs G (hC 3 (s_l1Cur_pick_c h2) h0) ?_
   obtain ⟨r5, h6, hm⟩ := obind hm
   obtain ⟨r6, h7, hm⟩ := obind hm
   obtain ⟨u1, h8, hm⟩ := obind hm
   refine de G [(8, [0]), (10, [0]), (15, [96, 480]), (17, [48, 496])] (hN 7 r.1.Lines (hC 8 (s_l1Cur_pick_c h6) (hC 10 (s_l1Cur_pick_c h7) (hA 15 24 h8 h0)))) ?_
   exact ibN (thN (rh G (wL G hm)))
  ·exact Ok_exit (thE (thE (ibE (wD G hm hb))))
 rintro ⟨v5, v6, v7, v8⟩ hm s hw
 refine thN (Ok_weak hw ?_)
 refine rg G ?_
 cases hm
 exact rt [64, 80, 96] []
noncomputable def s_l1Cur_among_M : MS (l1Cur × (List Int)) (Int × l1Cur) := ⟨.x .b .r, fun x => s_l1Cur_among x.1 x.2, fun y => dV y.1, fun _ => [], fun _ y => [bxO y.2]⟩
theorem s_l1Cur_among_c {c list y} (hm : s_l1Cur_among c list = some y) : s_l1Cur_among_M.C (c, list) y := s_l1Cur_among_M.c (c, list) hm
theorem s_l1Cur_among_ok : FnOK Try.prog 102 s_l1Cur_among_M.S := by
 refine fm tt s_l1Cur_among_M [fo s_l1Cur_pick_ok] Try.call102 Try.func102 rfl Try.results102 Try.ntmps102 ?_
 rintro ⟨c, list⟩ y cx G hm
 have hm : s_l1Cur_among c list = some y := hm
 unfold s_l1Cur_among at hm
 refine rg G ?_
 obtain ⟨r, h, hm⟩ := obind hm
 obtain ⟨e, h1, hm⟩ := obind hm
 refine rs G (hN 3 list (hC 4 (s_l1Cur_pick_c h) (hD 5 h1 h0))) ?_
 cases hm
 exact rt [] []
noncomputable def s_l1Cur_of_w_M : MS (l1Cur × (List ByteArray)) (ByteArray × l1Cur) := ⟨.x .b (.s 9), fun x => s_l1Cur_of_w x.1 x.2, fun y => dV y.1, fun _ => [], fun x y => [bxO y.2, arO 9 x.2]⟩
theorem s_l1Cur_of_w_c {c list y} (hm : s_l1Cur_of_w c list = some y) : s_l1Cur_of_w_M.C (c, list) y := s_l1Cur_of_w_M.c (c, list) hm
theorem s_l1Cur_of_w_ok : FnOK Try.prog 147 s_l1Cur_of_w_M.S := by
 refine fm tt s_l1Cur_of_w_M [fo s_l1Cur_pick_ok] Try.call147 Try.func147 rfl Try.results147 Try.ntmps147 ?_
 rintro ⟨c, list⟩ y cx G hm
 have hm : s_l1Cur_of_w c list = some y := hm
 unfold s_l1Cur_of_w at hm
 refine rg G ?_
 obtain ⟨r, h, hm⟩ := obind hm
 obtain ⟨e, h1, hm⟩ := obind hm
 refine rs G (hN 3 list (hC 4 (s_l1Cur_pick_c h) (hD 5 h1 (hE 6 h1 h0)))) ?_
 cases hm
 exact rt [] []
noncomputable def s_l2Own_t_M : MS Network Network := ⟨.r, s_l2Own_t, fun _ => .aggv [.own 0, .own 1], fun y => [arO 9 y.Stops, taO 150 [none, some 3, some 3] y.Lines], fun _ _ => []⟩
theorem s_l2Own_t_c {n y} (hm : s_l2Own_t n = some y) : s_l2Own_t_M.C n y := s_l2Own_t_M.c n hm
theorem s_l2Own_t_ok : FnOK Try.prog 224 s_l2Own_t_M.S := by
 refine fm tt s_l2Own_t_M [fo s_l1Own_ok] Try.call224 Try.func224 rfl Try.results224 Try.ntmps224 ?_
 rintro n y cx G hm
 have hm : s_l2Own_t n = some y := hm
 unfold s_l2Own_t at hm
 refine rg G ?_
 obtain ⟨u, h, hm⟩ := obind hm
 refine rs G (hA 3 16 h h0) ?_
 refine Ok_seq (rg G (tl hm (fun v2 => ⟨[(2, .ref 16 0), (3, .ref 32 0)], [bX 16 [.dat (.sc (.slice none 0 0)), .dat (.sc (.slice none 0 0))], bX 32 [.own 48, .own 64], aX 48 9 (([] : List ByteArray) ++ n.Stops), tX 64 150 [none, some 3, some 3] v2 64 none], 96⟩) (fun v2 hm => ?_) ?_))
 ·refine Ok_block (lpP hm (fun (v, v1) => ⟨[(1, .ref 16 0), (2, .ref 32 0), (3, .ref 48 0), (4, dV v)], [bX 16 [dV n.Stops, dV n.Lines], bX 32 [.dat (.sc (.slice none 0 0)), .dat (.sc (.slice none 0 0))], bX 48 [.own 64, .own 80], aX 64 9 (([] : List ByteArray) ++ n.Stops), tX 80 150 [none, some 3, some 3] v1 80 none], 112⟩) (Wk_J G.hL ⟨[(1, []), (2, []), (3, []), (4, [])], [(16, 16, []), (32, 32, []), (48, 128, [.k, .o 80]), (64, 96, [])], [(80, 150, 3, [none, some 3, some 3])], 112⟩ (by kernel_rfl)) ?_)
  rintro ⟨v, v1⟩ r0 hb hm
  rw [s_l2Own_t_L1] at hm
  refine Ok_seq (rs G (hN 3 n.Lines h0) ?_)
  refine cd hm (fun hm => ?_) (fun hm => ?_)
  ·refine X_skip (thN (Ok_seq (Ok_block ?_)))
   obtain ⟨e3, h7, hm⟩ := obind hm
   obtain ⟨e4, h8, hm⟩ := obind hm
   obtain ⟨r2, h9, hm⟩ := obind hm
   obtain ⟨e5, h10, hm⟩ := obind hm
   obtain ⟨r3, h11, hm⟩ := obind hm
   obtain ⟨u2, h12, hm⟩ := obind hm
   refine de G [(23, [416, 528]), (24, [80, 560]), (26, [48, 576])] (hD 5 h7 (hD 11 h8 (hC 14 (s_l1Own_c h9) (hD 18 h10 (hC 21 (s_l1Own_c h11) (hP (nodupB_ok (l := [416, 528]) rfl) (hA 24 64 h12 h0))))))) ?_
   exact ibN (thN (rh G (wL G hm)))
  ·exact Ok_exit (thE (thE (ibE (wD G hm hb))))
 rintro v2 hm s hw
 refine thN (Ok_weak hw ?_)
 refine rg G ?_
 cases hm
 exact rt [48, 64] []
noncomputable def s_l1Cur_network_t_M : MS l1Cur (Network × l1Cur) := ⟨.b, s_l1Cur_network_t, fun _ => .aggv [.own 0, .own 1], fun y => [arO 9 y.1.Stops, taO 150 [none, some 3, some 3] y.1.Lines], fun _ y => [bxO y.2]⟩
theorem s_l1Cur_network_t_c {c y} (hm : s_l1Cur_network_t c = some y) : s_l1Cur_network_t_M.C c y := s_l1Cur_network_t_M.c c hm
theorem s_l1Cur_network_t_ok : FnOK Try.prog 200 s_l1Cur_network_t_M.S := by
 refine fm tt s_l1Cur_network_t_M [fo s_l1Cur_pick_ok, fo s_l1Num_ok, fo s_l1Cur_line_f_ok, fo s_l1Cur_one_ok, fo s_l2Back_f_ok, fo s_l2Own_t_ok] Try.call200 Try.func200 rfl Try.results200 Try.ntmps200 ?_
 rintro c y cx G hm
 have hm : s_l1Cur_network_t c = some y := hm
 unfold s_l1Cur_network_t at hm
 refine rg G ?_
 obtain ⟨r, h, hm⟩ := obind hm
 refine rs G (hC 1 (s_l1Cur_pick_c h) h0) ?_
 obtain ⟨u, h1, hm⟩ := obind hm
 refine rs G (hO 2 (.fz [96] [] []) (hU 2 h1 h0)) ?_
 refine Ok_seq ?_
 obtain ⟨r1, h2, hm⟩ := obind hm
 refine rs G (hC 1 (s_l1Cur_pick_c h2) h0) ?_
 refine tl hm (fun (v4, v5, v6, v7) => ⟨[(0, .ref 0 0), (2, .ref 32 0), (4, .ref 48 0)], [bX 0 [dV v4, dV v5, kV .u64 v6], bX 32 [.dat (.sc (.slice none 0 0)), .dat (.sc (.slice none 0 0))], bX 48 [dV ((([(str [112, 111, 114, 116]), (str [109, 105, 108, 108]), (str [112, 97, 114, 107]), (str [104, 97, 108, 108]), (str [100, 111, 99, 107]), (str [102, 97, 105, 114])] : List ByteArray).take (w64 (2 + r.1)).toNat).drop (0 : Int).toNat), .own 64], aX 64 150 v7], 96⟩) (fun vv1 hm => ?_) ?_
 ·refine Ok_block (lpP hm (fun (x, v, v1, v2, v3) => ⟨[(0, .ref 0 0), (2, .ref 32 0), (3, dV (w64 (2 + r.1))), (4, .ref 48 0), (5, dV x)], [bX 0 [dV v, dV v1, kV .u64 v2], bX 32 [.dat (.sc (.slice none 0 0)), .dat (.sc (.slice none 0 0))], bX 48 [dV ((([(str [112, 111, 114, 116]), (str [109, 105, 108, 108]), (str [112, 97, 114, 107]), (str [104, 97, 108, 108]), (str [100, 111, 99, 107]), (str [102, 97, 105, 114])] : List ByteArray).take (w64 (2 + r.1)).toNat).drop (0 : Int).toNat), .own 64], aX 64 150 v3], 96⟩) (Wk_J G.hL ⟨[(0, []), (2, []), (3, []), (4, []), (5, [])], [(0, 0, []), (32, 16, []), (48, 160, [.k, .o 64])], [(64, 150, 3, [])], 96⟩ (by kernel_rfl)) ?_)
  rintro ⟨x, v, v1, v2, v3⟩ r0 hb hm
  rw [s_l1Cur_network_t_L1] at hm
  refine Ok_seq (rg G (cd hm (fun hm => ?_) (fun hm => ?_)))
  ·refine X_skip (thN (Ok_seq (Ok_block ?_)))
   obtain ⟨r4, h7, hm⟩ := obind hm
   obtain ⟨u3, h8, hm⟩ := obind hm
   obtain ⟨r5, h9, hm⟩ := obind hm
   obtain ⟨u4, h10, hm⟩ := obind hm
   refine de G [(7, [0]), (8, []), (9, [64, 256]), (11, [48, 272])] (hC 4 (s_l1Num_c h7) (hP (cat_p (chk_t h8)) (hC 7 (s_l1Cur_line_f_c h9) (hA 9 64 h10 h0)))) ?_
   exact ibN (thN (rh G (wL G hm)))
  ·exact Ok_exit (thE (thE (ibE (wD G hm hb))))
 rintro ⟨v4, v5, v6, v7⟩ hm s hw
 refine thN (Ok_weak hw ?_)
 refine jn hm (fun (v8, v9, v10, v11) => ⟨[(0, .ref 0 0), (2, .ref 32 0), (4, .ref 48 0)], [bX 0 [dV v8, dV v9, kV .u64 v10], bX 32 [.dat (.sc (.slice none 0 0)), .dat (.sc (.slice none 0 0))], bX 48 [dV ((([(str [112, 111, 114, 116]), (str [109, 105, 108, 108]), (str [112, 97, 114, 107]), (str [104, 97, 108, 108]), (str [100, 111, 99, 107]), (str [102, 97, 105, 114])] : List ByteArray).take (w64 (2 + r.1)).toNat).drop (0 : Int).toNat), .own 64], aX 64 150 v11], 96⟩) (fun vv hm => ?_) ?_
 ·obtain ⟨r6, h11, hm⟩ := obind hm
  refine rs G (hC 1 (s_l1Cur_one_c h11) h0) ?_
  refine cd hm (fun hm => ?_) (fun hm => ?_)
  ·obtain ⟨e, h12, hm⟩ := obind hm
   refine rs G (hD 2 h12 (hE 3 h12 h0)) ?_
   obtain ⟨r9, h16, hm⟩ := obind hm
   obtain ⟨r10, h17, hm⟩ := obind hm
   obtain ⟨u6, h18, hm⟩ := obind hm
   refine de G [(9, []), (10, [64, 368]), (12, [48, 384])] (hC 4 (s_l2Back_f_c h16) (hC 7 (s_l2Back_f_c h17) (hA 10 64 h18 h0))) ?_
   exact wJ G hm
  ·exact X_skip (wJ G hm)
 rintro ⟨v8, v9, v10, v11⟩ hm
 obtain ⟨r11, h19, hm⟩ := obind hm
 refine rs G (hO 1 (.fz [64] [] []) (hC 1 (s_l2Own_t_c h19) h0)) ?_
 cases hm
 exact rt [112, 113] []
noncomputable def s_l1Cur_among_w_M : MS (l1Cur × (List Int)) (Int × l1Cur) := ⟨.x .b (.s 3), fun x => s_l1Cur_among_w x.1 x.2, fun y => dV y.1, fun _ => [], fun x y => [bxO y.2, arO 3 x.2]⟩
theorem s_l1Cur_among_w_c {c list y} (hm : s_l1Cur_among_w c list = some y) : s_l1Cur_among_w_M.C (c, list) y := s_l1Cur_among_w_M.c (c, list) hm
theorem s_l1Cur_among_w_ok : FnOK Try.prog 102 s_l1Cur_among_w_M.S := by
 refine fm tt s_l1Cur_among_w_M [fo s_l1Cur_pick_ok] Try.call102 Try.func102 rfl Try.results102 Try.ntmps102 ?_
 rintro ⟨c, list⟩ y cx G hm
 have hm : s_l1Cur_among_w c list = some y := hm
 unfold s_l1Cur_among_w at hm
 refine rg G ?_
 obtain ⟨r, h, hm⟩ := obind hm
 obtain ⟨e, h1, hm⟩ := obind hm
 refine rs G (hN 3 list (hC 4 (s_l1Cur_pick_c h) (hD 5 h1 (hE 6 h1 h0)))) ?_
 cases hm
 exact rt [] []
noncomputable def s_l1Cur_anyNetwork_M : MS l1Cur (Network × l1Cur) := ⟨.b, s_l1Cur_anyNetwork, fun y => .aggv [.own 0, dV y.1.Lines], fun y => [arO 9 y.1.Stops], fun _ y => [bxO y.2]⟩
theorem s_l1Cur_anyNetwork_c {c y} (hm : s_l1Cur_anyNetwork c = some y) : s_l1Cur_anyNetwork_M.C c y := s_l1Cur_anyNetwork_M.c c hm
theorem s_l1Cur_anyNetwork_ok : FnOK Try.prog 214 s_l1Cur_anyNetwork_M.S := by
 refine fm tt s_l1Cur_anyNetwork_M [fo s_l1Cur_network_t_ok, fo s_l1Cur_pick_ok, fo s_l1Cur_of_w_ok, fo s_l1Cur_among_w_ok, fo s_l1Num_ok, fo s_l1Cur_line_ok] Try.call214 Try.func214 rfl Try.results214 Try.ntmps214 ?_
 rintro c y cx G hm
 have hm : s_l1Cur_anyNetwork c = some y := hm
 unfold s_l1Cur_anyNetwork at hm
 refine rg G ?_
 obtain ⟨r, h, hm⟩ := obind hm
 refine rs G (hC 1 (s_l1Cur_network_t_c h) h0) ?_
 obtain ⟨r1, h1, hm⟩ := obind hm
 refine rs G (hN 3 r.1.Lines (hC 4 (s_l1Cur_pick_c h1) h0)) ?_
 obtain ⟨e, h2, hm⟩ := obind hm
 refine rs G (hD 3 h2 (hE 4 h2 h0)) ?_
 refine jF hm (fun (v, v1, v2, v3, v4, v5, v6) => ⟨[(0, .ref 0 0), (2, .ref 32 0), (3, .ref 48 0), (4, dV r1.1), (5, .ref 64 0)], [bX 0 [dV v, dV v1, kV .u64 v2], bX 32 [.dat (.sc (.slice none 0 0)), .dat (.sc (.slice none 0 0))], bX 48 [.own 80, .own 96], bX 64 [dV v3, .row 96 96 r1.1.toNat 1, .own 112], aX 80 9 v4, tX 96 150 [none, some 3, some 3] v5 96 (some (r1.1.toNat, 2)), aX 112 3 v6], 144⟩) (fun v17 hr hm => ?_) ?_
 ·obtain ⟨r2, h3, hm⟩ := obind hm
  refine rs G (hC 1 (s_l1Cur_pick_c h3) h0) ?_
  refine Ok_block (rg G (cd hm (fun hm => ?_) (fun hm => ?_)))
  ·obtain ⟨r4, h6, hm⟩ := obind hm
   obtain ⟨e2, h7, hm⟩ := obind hm
   refine de G [(4, [0, 416]), (6, [48])] (hC 4 (s_l1Cur_of_w_c h6) (hD 5 h7 (hS 6 h7 r4.1 h0))) ?_
   exact ibN (wFp hm (Wk.trans (Wk_S (.c 272 2) (Enc.e e) (.cons (idx_m2 (f := Enc.e) (l := r.1.Lines) (i := r1.1) h2) .nil) (by kernel_rfl)) (Wk_J G.hL ⟨[(0, []), (2, []), (3, []), (4, []), (5, [])], [(0, 0, []), (32, 16, []), (48, 64, []), (64, 272, []), (80, 48, []), (96, 49, []), (112, 480, [])], [], 144⟩ (by kernel_rfl))))
  ·refine rg G (cd hm (fun hm => ?_) (fun hm => ?_))
   ·obtain ⟨r5, h8, hm⟩ := obind hm
    refine re G (hC 2 (s_l1Cur_of_w_c h8) h0) ?_
    exact ibN (wFp hm (Wk.trans (Wk_S (.c 272 2) (Enc.e e) (.cons (idx_m2 (f := Enc.e) (l := r.1.Lines) (i := r1.1) h2) .nil) (by kernel_rfl)) (Wk_J G.hL ⟨[(0, []), (2, []), (3, []), (4, []), (5, [])], [(0, 0, []), (32, 16, []), (48, 64, []), (64, 272, []), (80, 48, []), (96, 49, []), (112, 480, [])], [], 144⟩ (by kernel_rfl))))
   ·refine rg G (cd hm (fun hm => ?_) (fun hm => ?_))
    ·obtain ⟨r8, h12, hm⟩ := obind hm
     obtain ⟨r9, h13, hm⟩ := obind hm
     obtain ⟨e4, h14, hm⟩ := obind hm
     refine de G [(6, [0]), (8, [0]), (11, [49])] (hO 5 (.dn (Enc.e e) (e.Stops.length : Int)) (hP (idx_m2 (f := Enc.e) h2) (hP (len_m Enc.e e.Stops) (hC 6 (s_l1Cur_pick_c h12) (hC 8 (s_l1Cur_pick_c h13) (hE 10 h2 (hP (idx_b (f := Enc.e) h14) (hO 11 (.sd2 (Enc.e e) (Enc.e e4) (List.map Enc.e (e.Stops.set r8.1.toNat (w64 (r9.1 - 1)))) (List.map Enc.e (r.1.Lines.set r1.1.toNat (⟨e.Name, (e.Stops.set r8.1.toNat (w64 (r9.1 - 1))), e.Runs⟩ : Line)))) (hP (idx_m2 (f := Enc.e) h2) (hP (idx_m2 (f := Enc.e) h14) (hP (set_m Enc.e e.Stops r8.1.toNat (w64 (r9.1 - 1))) (hP (set_m Enc.e r.1.Lines r1.1.toNat (⟨e.Name, (e.Stops.set r8.1.toNat (w64 (r9.1 - 1))), e.Runs⟩ : Line)) h0)))))))))))) ?_
     exact ibN (wFp hm (Wk.trans (Wk_S (.c 272 2) (Enc.e (⟨e.Name, (e.Stops.set r8.1.toNat (w64 (r9.1 - 1))), e.Runs⟩ : Line)) (.cons (idx_m2 (f := Enc.e) (l := (r.1.Lines.set r1.1.toNat (⟨e.Name, (e.Stops.set r8.1.toNat (w64 (r9.1 - 1))), e.Runs⟩ : Line))) (i := r1.1) (idx_set (y := (⟨e.Name, (e.Stops.set r8.1.toNat (w64 (r9.1 - 1))), e.Runs⟩ : Line)) h2)) .nil) (by kernel_rfl)) (Wk_J G.hL ⟨[(0, []), (2, []), (3, []), (4, []), (5, [])], [(0, 0, []), (32, 16, []), (48, 64, []), (64, 272, []), (80, 48, []), (96, 49, []), (112, 624, [])], [], 144⟩ (by kernel_rfl))))
    ·refine rg G (cd hm (fun hm => ?_) (fun hm => ?_))
     ·obtain ⟨r12, h18, hm⟩ := obind hm
      obtain ⟨r13, h19, hm⟩ := obind hm
      obtain ⟨e6, h20, hm⟩ := obind hm
      refine de G [(6, [0]), (9, [0, 592]), (11, [49])] (hO 5 (.dn (Enc.e e) (e.Runs.length : Int)) (hP (idx_m2 (f := Enc.e) h2) (hP (len_m Enc.e e.Runs) (hC 6 (s_l1Cur_pick_c h18) (hC 9 (s_l1Cur_among_w_c h19) (hE 10 h2 (hP (idx_b (f := Enc.e) h20) (hO 11 (.sd2 (Enc.e e) (Enc.e e6) (List.map Enc.e (e.Runs.set r12.1.toNat r13.1)) (List.map Enc.e (r.1.Lines.set r1.1.toNat (⟨e.Name, e.Stops, (e.Runs.set r12.1.toNat r13.1)⟩ : Line)))) (hP (idx_m2 (f := Enc.e) h2) (hP (idx_m2 (f := Enc.e) h20) (hP (set_m Enc.e e.Runs r12.1.toNat r13.1) (hP (set_m Enc.e r.1.Lines r1.1.toNat (⟨e.Name, e.Stops, (e.Runs.set r12.1.toNat r13.1)⟩ : Line)) h0)))))))))))) ?_
      exact ibN (wFp hm (Wk.trans (Wk_S (.c 272 2) (Enc.e (⟨e.Name, e.Stops, (e.Runs.set r12.1.toNat r13.1)⟩ : Line)) (.cons (idx_m2 (f := Enc.e) (l := (r.1.Lines.set r1.1.toNat (⟨e.Name, e.Stops, (e.Runs.set r12.1.toNat r13.1)⟩ : Line))) (i := r1.1) (idx_set (y := (⟨e.Name, e.Stops, (e.Runs.set r12.1.toNat r13.1)⟩ : Line)) h2)) .nil) (by kernel_rfl)) (Wk_J G.hL ⟨[(0, []), (2, []), (3, []), (4, []), (5, [])], [(0, 0, []), (32, 16, []), (48, 64, []), (64, 272, []), (80, 48, []), (96, 49, []), (112, 656, [])], [], 144⟩ (by kernel_rfl))))
     ·refine rg G (cd hm (fun hm => ?_) (fun hm => ?_))
      ·obtain ⟨u, h21, hm⟩ := obind hm
       refine re G (hO 3 (.sd (Enc.e e) (List.map Enc.e (e.Runs ++ ([3] : List Int)))) (hP (idx_m2 (f := Enc.e) h2) (hP (app_p (f := Enc.e) (g := Enc.e) (l := e.Runs) (r := ([3] : List Int)) (b := 8) (chk_t h21) rfl) (hP (app_m Enc.e e.Runs ([3] : List Int)) h0)))) ?_
       exact ibN (wF G hm)
      ·refine rg G (cd hm (fun hm => ?_) (fun hm => ?_))
       ·refine rg G (rg G ?_)
        have hm := eR hm hr
        cases hm
        exact rt [48] []
       ·refine rg G (cd hm (fun hm => ?_) (fun hm => ?_))
        ·refine Ok_seq (rg G (tl hm (fun (v13, v14, v15, v16) => ⟨[(0, .ref 0 0), (2, .ref 32 0), (3, .ref 48 0)], [bX 0 [dV v13, dV v14, kV .u64 v15], bX 32 [.dat (.sc (.slice none 0 0)), .dat (.sc (.slice none 0 0))], bX 48 [.own 64, .own 80], aX 64 9 r.1.Stops, tX 80 150 [none, some 3, some 3] v16 80 none], 112⟩) (fun vv hm => ?_) ?_))
         ·refine Ok_block (lp G hm (fun (v7, v8, v9, v10, v11) => ⟨[(0, .ref 0 0), (2, .ref 32 0), (3, .ref 48 0), (6, dV v7)], [bX 0 [dV v8, dV v9, kV .u64 v10], bX 32 [.dat (.sc (.slice none 0 0)), .dat (.sc (.slice none 0 0))], bX 48 [.own 64, .own 80], aX 64 9 r.1.Stops, tX 80 150 [none, some 3, some 3] v11 80 none], 112⟩) ?_)
          rintro ⟨v7, v8, v9, v10, v11⟩ r0 hb hm
          rw [s_l1Cur_anyNetwork_L1] at hm
          refine Ok_seq ?_
          obtain ⟨r16, h23, hm⟩ := obind hm
          refine jn hm (fun v12 => ⟨[(0, .ref 0 0), (2, .ref 32 0), (3, .ref 48 0), (6, dV v7), (85, dV v12)], [bX 0 [dV r16.2.code_, dV r16.2.at_, kV .u64 r16.2.seed_.v], bX 32 [.dat (.sc (.slice none 0 0)), .dat (.sc (.slice none 0 0))], bX 48 [.own 64, .own 80], aX 64 9 r.1.Stops, tX 80 150 [none, some 3, some 3] v11 80 none], 112⟩) (fun v12 hm => ?_) ?_
          ·rcases bf hm with ⟨hb1, hm⟩ | ⟨hb1, hm⟩
           ·refine de G [(4, [0])] (hN 2 v11 (hC 4 (s_l1Cur_pick_c h23) (hO 7 (.b true) (hP hb1 h0)))) ?_
            exact wJ G hm
           ·refine de G [(4, [0])] (hN 2 v11 (hC 4 (s_l1Cur_pick_c h23) (hO 7 (.b false) (hP hb1 h0)))) ?_
            exact wJ G hm
          rintro v12 hm
          refine cd hm (fun hm => ?_) (fun hm => ?_)
          ·refine X_skip (thN (Ok_seq (Ok_block ?_)))
           obtain ⟨r19, h28, hm⟩ := obind hm
           obtain ⟨u3, h29, hm⟩ := obind hm
           obtain ⟨r20, h30, hm⟩ := obind hm
           obtain ⟨u4, h31, hm⟩ := obind hm
           refine de G [(9, [0]), (10, [256, 257]), (11, [80, 272]), (13, [48, 288])] (hC 4 (s_l1Num_c h28) (hP (cat_p (chk_t h29)) (hN 8 r.1.Stops (hC 9 (s_l1Cur_line_c h30) (hP (nodupB_ok (l := [256, 257]) rfl) (hA 11 64 h31 h0)))))) ?_
           exact ibN (thN (rh G (wL G hm)))
          ·exact Ok_exit (thE (thE (ibE (wD G hm hb))))
         rintro ⟨v13, v14, v15, v16⟩ hm s hw
         refine thN (Ok_weak hw ?_)
         refine rg G ?_
         have hm := eR hm hr
         cases hm
         exact rt [64] []
        ·exact X_skip (ibN (wFp hm (Wk.trans (Wk_S (.c 272 2) (Enc.e e) (.cons (idx_m2 (f := Enc.e) (l := r.1.Lines) (i := r1.1) h2) .nil) (by kernel_rfl)) (Wk_J G.hL ⟨[(0, []), (2, []), (3, []), (4, []), (5, [])], [(0, 0, []), (32, 16, []), (48, 64, []), (64, 272, []), (80, 48, []), (96, 49, []), (112, 560, [])], [], 144⟩ (by kernel_rfl)))))
 rintro ⟨v, v1, v2, v3, v4, v5, v6⟩ hm
 obtain ⟨e9, h32, hm⟩ := obind hm
 refine rs G (hD 4 h32 (hS 5 h32 (⟨v3, e9.Stops, v6⟩ : Line) (hP (Eq.refl r1.1.toNat) (hP (Eq.refl r1.1.toNat) h0)))) ?_
 refine rg G ?_
 cases hm
 exact rt [80] []
noncomputable def s_l1Cur_anyTimetable_M : MS l1Cur (Timetable × l1Cur) := ⟨.b, s_l1Cur_anyTimetable, fun y => .aggv [.own 0, dV y.1.Network.Lines, .own 1], fun y => [arO 9 y.1.Network.Stops, arO 55 y.1.Trips], fun _ y => [bxO y.2]⟩
theorem s_l1Cur_anyTimetable_c {c y} (hm : s_l1Cur_anyTimetable c = some y) : s_l1Cur_anyTimetable_M.C c y := s_l1Cur_anyTimetable_M.c c hm
theorem s_l1Cur_anyTimetable_ok : FnOK Try.prog 126 s_l1Cur_anyTimetable_M.S := by
 refine fm tt s_l1Cur_anyTimetable_M [fo s_l1Cur_timetable_ok, fo s_l1Cur_pick_ok, fo s_l1Cur_among_ok, fo s_l1Cur_anyNetwork_ok] Try.call126 Try.func126 rfl Try.results126 Try.ntmps126 ?_
 rintro c y cx G hm
 have hm : s_l1Cur_anyTimetable c = some y := hm
 unfold s_l1Cur_anyTimetable at hm
 refine rg G ?_
 obtain ⟨r, h, hm⟩ := obind hm
 refine rs G (hC 1 (s_l1Cur_timetable_c h) h0) ?_
 refine Ok_seq (rs G (hN 2 r.1.Trips h0) ?_)
 refine cd hm (fun hm => ?_) (fun hm => ?_)
 ·refine rg G ?_
  cases hm
  exact rt [48, 50] []
 ·refine X_skip (thN ?_)
  obtain ⟨r1, h1, hm⟩ := obind hm
  refine rs G (hN 3 r.1.Trips (hC 4 (s_l1Cur_pick_c h1) h0)) ?_
  obtain ⟨e, h2, hm⟩ := obind hm
  refine rs G (hD 3 h2 (hE 4 h2 h0)) ?_
  refine jF hm (fun (v, v1, v2, v3, v4, v5, v6, v7) => ⟨[(0, .ref 0 0), (2, .ref 32 0), (3, .ref 48 0), (4, dV r1.1), (5, .ref 64 0)], [bX 0 [dV v, dV v1, kV .u64 v2], bX 32 [.dat (.sc (.slice none 0 0)), .dat (.sc (.slice none 0 0)), .dat (.sc (.slice none 0 0))], bX 48 [.own 80, dV v3, .own 96], bX 64 [dV v4, dV v5, dV v6], aX 80 9 v7, aX 96 55 r.1.Trips], 128⟩) (fun v18 hr hm => ?_) ?_
  ·obtain ⟨r2, h3, hm⟩ := obind hm
   refine rs G (hC 1 (s_l1Cur_pick_c h3) h0) ?_
   refine Ok_block (rg G (cd hm (fun hm => ?_) (fun hm => ?_)))
   ·obtain ⟨r3, h4, hm⟩ := obind hm
    refine re G (hO 2 (.fz [448] [] []) (hC 2 (s_l1Cur_among_c h4) h0)) ?_
    exact ibN (wF G hm)
   ·refine rg G (cd hm (fun hm => ?_) (fun hm => ?_))
    ·obtain ⟨r4, h5, hm⟩ := obind hm
     refine re G (hC 1 (s_l1Cur_pick_c h5) h0) ?_
     exact ibN (wF G hm)
    ·refine rg G (cd hm (fun hm => ?_) (fun hm => ?_))
     ·obtain ⟨r5, h6, hm⟩ := obind hm
      refine re G (hO 2 (.fz [512] [] []) (hC 2 (s_l1Cur_among_c h6) h0)) ?_
      exact ibN (wF G hm)
     ·refine rg G (cd hm (fun hm => ?_) (fun hm => ?_))
      ·obtain ⟨r6, h7, hm⟩ := obind hm
       refine re G (hC 1 (s_l1Cur_anyNetwork_c h7) h0) ?_
       exact ibN (wF G hm)
      ·refine rg G (cd hm (fun hm => ?_) (fun hm => ?_))
       ·refine Ok_seq (rg G (tl hm (fun (v14, v15, v16, v17) => ⟨[(0, .ref 0 0), (2, .ref 32 0), (3, .ref 48 0)], [bX 0 [dV v14, dV v15, kV .u64 v16], bX 32 [.dat (.sc (.slice none 0 0)), .dat (.sc (.slice none 0 0)), .dat (.sc (.slice none 0 0))], bX 48 [.own 64, .own 80, .own 96], aX 64 9 r.1.Network.Stops, aX 80 150 r.1.Network.Lines, aX 96 55 v17], 128⟩) (fun vv hm => ?_) ?_))
        ·refine Ok_block (lp G hm (fun (v8, v9, v10, v11, v12) => ⟨[(0, .ref 0 0), (2, .ref 32 0), (3, .ref 48 0), (6, dV v8)], [bX 0 [dV v9, dV v10, kV .u64 v11], bX 32 [.dat (.sc (.slice none 0 0)), .dat (.sc (.slice none 0 0)), .dat (.sc (.slice none 0 0))], bX 48 [.own 64, .own 80, .own 96], aX 64 9 r.1.Network.Stops, aX 80 150 r.1.Network.Lines, aX 96 55 v12], 128⟩) ?_)
         rintro ⟨v8, v9, v10, v11, v12⟩ r0 hb hm
         rw [s_l1Cur_anyTimetable_L1] at hm
         refine Ok_seq ?_
         obtain ⟨r8, h9, hm⟩ := obind hm
         refine jn hm (fun v13 => ⟨[(0, .ref 0 0), (2, .ref 32 0), (3, .ref 48 0), (6, dV v8), (61, dV v13)], [bX 0 [dV r8.2.code_, dV r8.2.at_, kV .u64 r8.2.seed_.v], bX 32 [.dat (.sc (.slice none 0 0)), .dat (.sc (.slice none 0 0)), .dat (.sc (.slice none 0 0))], bX 48 [.own 64, .own 80, .own 96], aX 64 9 r.1.Network.Stops, aX 80 150 r.1.Network.Lines, aX 96 55 v12], 128⟩) (fun v13 hm => ?_) ?_
         ·rcases bf hm with ⟨hb1, hm⟩ | ⟨hb1, hm⟩
          ·refine de G [(4, [0])] (hN 2 v12 (hC 4 (s_l1Cur_pick_c h9) (hO 7 (.b true) (hP hb1 h0)))) ?_
           exact wJ G hm
          ·refine de G [(4, [0])] (hN 2 v12 (hC 4 (s_l1Cur_pick_c h9) (hO 7 (.b false) (hP hb1 h0)))) ?_
           exact wJ G hm
         rintro v13 hm
         refine cd hm (fun hm => ?_) (fun hm => ?_)
         ·refine X_skip (thN (Ok_seq (Ok_block ?_)))
          obtain ⟨u, h10, hm⟩ := obind hm
          refine re G (hA 8 24 h10 h0) ?_
          exact ibN (thN (rh G (wL G hm)))
         ·exact Ok_exit (thE (thE (ibE (wD G hm hb))))
        rintro ⟨v14, v15, v16, v17⟩ hm s hw
        refine thN (Ok_weak hw ?_)
        refine rg G ?_
        have hm := eR hm hr
        cases hm
        exact rt [64, 96] []
       ·exact X_skip (ibN (wF G hm))
  rintro ⟨v, v1, v2, v3, v4, v5, v6, v7⟩ hm
  obtain ⟨e2, h11, hm⟩ := obind hm
  refine rs G (hD 4 h11 (hS 5 h11 (⟨v4, v5, v6⟩ : Trip) h0)) ?_
  refine rg G ?_
  cases hm
  exact rt [80, 96] []
noncomputable def s_l1Most_M : MS (Int × Int) Int := ⟨.x .r .r, fun x => s_l1Most x.1 x.2, fun y => dV y, fun _ => [], fun _ _ => []⟩
theorem s_l1Most_c {a b y} (hm : s_l1Most a b = some y) : s_l1Most_M.C (a, b) y := s_l1Most_M.c (a, b) hm
theorem s_l1Most_ok : FnOK Try.prog 154 s_l1Most_M.S := by
 refine fm tt s_l1Most_M [] Try.call154 Try.func154 rfl Try.results154 Try.ntmps154 ?_
 rintro ⟨a, b⟩ y cx G hm
 have hm : s_l1Most a b = some y := hm
 unfold s_l1Most at hm
 refine rg G (Ok_seq (rg G (cd hm (fun hm => ?_) (fun hm => ?_))))
 ·refine rg G ?_
  cases hm
  exact rt [] []
 ·refine X_skip (thN (rg G ?_))
  cases hm
  exact rt [] []
noncomputable def s_l1Cur_trips_M : MS l1Cur (Timetable × l1Cur) := ⟨.b, s_l1Cur_trips, fun y => .aggv [.own 0, dV y.1.Network.Lines, .own 1], fun y => [arO 9 y.1.Network.Stops, arO 55 y.1.Trips], fun _ y => [bxO y.2]⟩
theorem s_l1Cur_trips_c {c y} (hm : s_l1Cur_trips c = some y) : s_l1Cur_trips_M.C c y := s_l1Cur_trips_M.c c hm
theorem s_l1Cur_trips_ok : FnOK Try.prog 96 s_l1Cur_trips_M.S := by
 refine fm tt s_l1Cur_trips_M [fo s_l1Cur_one_ok, fo s_l1Cur_anyTimetable_ok, fo s_l1Cur_network_ok, fo s_l1Cur_pick_ok, fo s_l1Most_ok] Try.call96 Try.func96 rfl Try.results96 Try.ntmps96 ?_
 rintro c y cx G hm
 have hm : s_l1Cur_trips c = some y := hm
 unfold s_l1Cur_trips at hm
 refine rg G (Ok_seq ?_)
 obtain ⟨r, h, hm⟩ := obind hm
 refine rs G (hC 1 (s_l1Cur_one_c h) h0) ?_
 refine cd hm (fun hm => ?_) (fun hm => ?_)
 ·obtain ⟨r1, h1, hm⟩ := obind hm
  refine rs G (hC 1 (s_l1Cur_anyTimetable_c h1) h0) ?_
  cases hm
  exact rt [80, 81] []
 ·refine X_skip (thN ?_)
  obtain ⟨r2, h2, hm⟩ := obind hm
  refine rs G (hC 1 (s_l1Cur_network_c h2) h0) ?_
  refine Ok_seq ?_
  obtain ⟨r3, h3, hm⟩ := obind hm
  refine rs G (hC 1 (s_l1Cur_pick_c h3) h0) ?_
  refine tl hm (fun (v4, v5, v6, v7) => ⟨[(0, .ref 0 0), (2, .ref 32 0), (3, .ref 48 0)], [bX 0 [dV v4, dV v5, kV .u64 v6], bX 32 [.dat (.sc (.slice none 0 0)), .dat (.sc (.slice none 0 0)), .dat (.sc (.slice none 0 0))], bX 48 [.own 64, .own 80, .own 96], aX 64 9 r2.1.Stops, aX 80 150 r2.1.Lines, aX 96 55 v7], 128⟩) (fun vv hm => ?_) ?_
  ·refine Ok_block (lpP hm (fun (i, v, v1, v2, v3) => ⟨[(0, .ref 0 0), (2, .ref 32 0), (3, .ref 48 0), (4, dV i)], [bX 0 [dV v, dV v1, kV .u64 v2], bX 32 [.dat (.sc (.slice none 0 0)), .dat (.sc (.slice none 0 0)), .dat (.sc (.slice none 0 0))], bX 48 [.own 64, .own 80, .own 96], aX 64 9 r2.1.Stops, aX 80 150 r2.1.Lines, aX 96 55 v3], 128⟩) (Wk_J G.hL ⟨[(0, []), (2, []), (3, []), (4, [])], [(0, 0, []), (32, 16, []), (48, 112, [.k, .k, .o 96]), (64, 80, []), (80, 81, [])], [(96, 55, 3, [])], 128⟩ (by kernel_rfl)) ?_)
   rintro ⟨i, v, v1, v2, v3⟩ r0 hb hm
   rw [s_l1Cur_trips_L1] at hm
   refine Ok_seq (rg G (cd hm (fun hm => ?_) (fun hm => ?_)))
   ·refine X_skip (thN (Ok_seq (Ok_block ?_)))
    obtain ⟨r7, h8, hm⟩ := obind hm
    obtain ⟨r8, h9, hm⟩ := obind hm
    obtain ⟨r9, h10, hm⟩ := obind hm
    obtain ⟨u1, h11, hm⟩ := obind hm
    refine de G [(11, [0]), (19, [0]), (21, [0]), (26, [96, 560]), (28, [48, 576])] (hN 4 v3 (hN 8 v3 (hC 11 (s_l1Cur_pick_c h8) (hN 18 r2.1.Lines (hC 19 (s_l1Cur_pick_c h9) (hC 21 (s_l1Cur_pick_c h10) (hA 26 24 h11 h0))))))) ?_
    exact ibN (thN (rh G (wL G hm)))
   ·exact Ok_exit (thE (thE (ibE (wD G hm hb))))
  rintro ⟨v4, v5, v6, v7⟩ hm s hw
  refine thN (Ok_weak hw ?_)
  refine Ok_seq (rg G (tl hm (fun v9 => ⟨[(0, .ref 0 0), (2, .ref 32 0), (3, .ref 48 0)], [bX 0 [dV v4, dV v5, kV .u64 v6], bX 32 [.dat (.sc (.slice none 0 0)), .dat (.sc (.slice none 0 0)), .dat (.sc (.slice none 0 0))], bX 48 [.own 64, .own 80, .own 96], aX 64 9 r2.1.Stops, aX 80 150 r2.1.Lines, aX 96 55 v9], 128⟩) (fun v9 hm => ?_) ?_))
  ·refine Ok_block (lp G hm (fun (x, v8) => ⟨[(0, .ref 0 0), (2, .ref 32 0), (3, .ref 48 0), (5, dV x)], [bX 0 [dV v4, dV v5, kV .u64 v6], bX 32 [.dat (.sc (.slice none 0 0)), .dat (.sc (.slice none 0 0)), .dat (.sc (.slice none 0 0))], bX 48 [.own 64, .own 80, .own 96], aX 64 9 r2.1.Stops, aX 80 150 r2.1.Lines, aX 96 55 v8], 128⟩) ?_)
   rintro ⟨x, v8⟩ r0 hb1 hm
   rw [s_l1Cur_trips_L2] at hm
   refine Ok_seq (rs G (hN 3 v8 h0) ?_)
   refine cd hm (fun hm => ?_) (fun hm => ?_)
   ·refine X_skip (thN (Ok_seq (Ok_block ?_)))
    obtain ⟨e, h12, hm⟩ := obind hm
    refine rs G (hD 3 h12 (hE 4 h12 h0)) ?_
    obtain ⟨e2, h15, hm⟩ := obind hm
    obtain ⟨r11, h16, hm⟩ := obind hm
    refine ds G [(12, [288])] (hD 6 h15 (hE 8 h15 (hC 10 (s_l1Most_c h16) h0))) ?_
    obtain ⟨e3, h17, hm⟩ := obind hm
    refine re G (hD 4 h17 (hS 5 h17 (⟨r11, e.Line, e.Start⟩ : Trip) h0)) ?_
    exact ibN (thN (rh G (wL G hm)))
   ·exact Ok_exit (thE (thE (ibE (wD G hm hb1))))
  rintro v9 hm s1 hw1
  refine thN (Ok_weak hw1 ?_)
  refine rg G ?_
  cases hm
  exact rt [64, 96] []
noncomputable def s_l1Cur_change_M : MS l1Cur (Int × l1Cur) := ⟨.b, s_l1Cur_change, fun y => dV y.1, fun _ => [], fun _ y => [bxO y.2]⟩
theorem s_l1Cur_change_c {c y} (hm : s_l1Cur_change c = some y) : s_l1Cur_change_M.C c y := s_l1Cur_change_M.c c hm
theorem s_l1Cur_change_ok : FnOK Try.prog 97 s_l1Cur_change_M.S := by
 refine fm tt s_l1Cur_change_M [fo s_l1Cur_among_ok] Try.call97 Try.func97 rfl Try.results97 Try.ntmps97 ?_
 rintro c y cx G hm
 have hm : s_l1Cur_change c = some y := hm
 unfold s_l1Cur_change at hm
 refine rg G ?_
 obtain ⟨r, h, hm⟩ := obind hm
 refine rs G (hO 2 (.fz [48] [] []) (hC 2 (s_l1Cur_among_c h) h0)) ?_
 cases hm
 exact rt [] []
noncomputable def s_l1In_M : MS (Int × Int × Int) Bool := ⟨.x .r (.x .r .r), fun x => s_l1In x.1 x.2.1 x.2.2, fun y => dV y, fun _ => [], fun _ _ => []⟩
theorem s_l1In_c {x a b y} (hm : s_l1In x a b = some y) : s_l1In_M.C (x, a, b) y := s_l1In_M.c (x, a, b) hm
theorem s_l1In_ok : FnOK Try.prog 109 s_l1In_M.S := by
 refine fm tt s_l1In_M [] Try.call109 Try.func109 rfl Try.results109 Try.ntmps109 ?_
 rintro ⟨x, a, b⟩ y cx G hm
 have hm : s_l1In x a b = some y := hm
 unfold s_l1In at hm
 refine rg G (jn hm (fun v => ⟨[(6, dV v)], [], 32⟩) (fun v hm => ?_) ?_)
 ·rcases bf hm with ⟨hb, hm⟩ | ⟨hb, hm⟩
  ·refine re G (hO 3 (.b true) (hP hb h0)) ?_
   exact wJ G hm
  ·refine re G (hO 3 (.b false) (hP hb h0)) ?_
   exact wJ G hm
 rintro v hm
 cases hm
 exact rt [] []
noncomputable def s_l2Name_M : MS ByteArray Bool := ⟨.r, s_l2Name, fun y => dV y, fun _ => [], fun _ _ => []⟩
theorem s_l2Name_c {s y} (hm : s_l2Name s = some y) : s_l2Name_M.C s y := s_l2Name_M.c s hm
theorem s_l2Name_ok : FnOK Try.prog 149 s_l2Name_M.S := by
 refine fm tt s_l2Name_M [fo s_l1In_ok] Try.call149 Try.func149 rfl Try.results149 Try.ntmps149 ?_
 rintro s y cx G hm
 have hm : s_l2Name s = some y := hm
 unfold s_l2Name at hm
 refine rg G (Ok_seq ?_)
 obtain ⟨r, h, hm⟩ := obind hm
 refine jn hm (fun v => ⟨[(0, dV s), (17, dV v)], [], 32⟩) (fun v hm => ?_) ?_
 ·rcases bf hm with ⟨hb, hm⟩ | ⟨hb, hm⟩
  ·refine re G (hC 2 (s_l1In_c h) (hO 4 (.b true) (hP hb h0))) ?_
   exact wJ G hm
  ·obtain ⟨u, h1, hm⟩ := obind hm
   rcases bf hm with ⟨hb1, hm⟩ | ⟨hb1, hm⟩
   ·refine re G (hC 2 (s_l1In_c h) (hO 4 (.b false) (hP hb (hK h1 (hO 9 (.b true) (hP hb1 h0)))))) ?_
    exact wJ G hm
   ·obtain ⟨u1, h2, hm⟩ := obind hm
    refine re G (hC 2 (s_l1In_c h) (hO 4 (.b false) (hP hb (hK h1 (hO 9 (.b false) (hP hb1 (hK h2 h0))))))) ?_
    exact wJ G hm
 rintro v hm
 refine cd hm (fun hm => ?_) (fun hm => ?_)
 ·refine rg G ?_
  cases hm
  exact rt [] []
 ·refine X_skip (thN (Ok_seq (rg G (tF hm (fun _ => ⟨[], [], 32⟩) (fun v3 hr hm => ?_) ?_))))
  ·refine Ok_block (lp G hm (fun v1 => ⟨[(0, dV s), (3, dV v1)], [], 32⟩) ?_)
   rintro v1 r0 hb2 hm
   rw [s_l2Name_L1] at hm
   refine Ok_seq (rg G (cd hm (fun hm => ?_) (fun hm => ?_)))
   ·refine X_skip (thN (Ok_seq (Ok_block ?_)))
    obtain ⟨u2, h3, hm⟩ := obind hm
    refine jn hm (fun v2 => ⟨[(0, dV s), (3, dV v1), (45, dV v2)], [], 32⟩) (fun v2 hm => ?_) ?_
    ·rcases bf hm with ⟨hb3, hm⟩ | ⟨hb3, hm⟩
     ·obtain ⟨u3, h4, hm⟩ := obind hm
      rcases bf hm with ⟨hb4, hm⟩ | ⟨hb4, hm⟩
      ·refine re G (hK h3 (hO 4 (.b true) (hP hb3 (hK h4 (hO 15 (.b true) (hP hb4 h0)))))) ?_
       exact wJ G hm
      ·obtain ⟨u4, h5, hm⟩ := obind hm
       refine re G (hK h3 (hO 4 (.b true) (hP hb3 (hK h4 (hO 15 (.b false) (hP hb4 (hK h5 h0))))))) ?_
       exact wJ G hm
     ·obtain ⟨u5, h6, hm⟩ := obind hm
      rcases bf hm with ⟨hb5, hm⟩ | ⟨hb5, hm⟩
      ·obtain ⟨u6, h7, hm⟩ := obind hm
       rcases bf hm with ⟨hb6, hm⟩ | ⟨hb6, hm⟩
       ·refine re G (hK h3 (hO 4 (.b false) (hP hb3 (hK h6 (hO 10 (.b true) (hP hb5 (hK h7 (hO 15 (.b true) (hP hb6 h0))))))))) ?_
        exact wJ G hm
       ·obtain ⟨u7, h8, hm⟩ := obind hm
        refine re G (hK h3 (hO 4 (.b false) (hP hb3 (hK h6 (hO 10 (.b true) (hP hb5 (hK h7 (hO 15 (.b false) (hP hb6 (hK h8 h0)))))))))) ?_
        exact wJ G hm
      ·refine re G (hK h3 (hO 4 (.b false) (hP hb3 (hK h6 (hO 10 (.b false) (hP hb5 h0)))))) ?_
       exact wJ G hm
    rintro v2 hm
    refine cd hm (fun hm => ?_) (fun hm => ?_)
    ·refine rg G ?_
     have hm := eL hm hb2 hr
     cases hm
     exact rt [] []
    ·exact X_skip (ibN (thN (rh G (wL G hm))))
   ·exact Ok_exit (thE (thE (ibE (wE G hm hb2))))
  rintro ⟨⟩ hm s1 hw
  refine thN (Ok_weak hw ?_)
  refine rg G ?_
  cases hm
  exact rt [] []
noncomputable def s_l2Find_M : MS ((List ByteArray) × ByteArray) Int := ⟨.x .r .r, fun x => s_l2Find x.1 x.2, fun y => dV y, fun _ => [], fun _ _ => []⟩
theorem s_l2Find_c {list name y} (hm : s_l2Find list name = some y) : s_l2Find_M.C (list, name) y := s_l2Find_M.c (list, name) hm
theorem s_l2Find_ok : FnOK Try.prog 257 s_l2Find_M.S := by
 refine fm tt s_l2Find_M [] Try.call257 Try.func257 rfl Try.results257 Try.ntmps257 ?_
 rintro ⟨list, name⟩ y cx G hm
 have hm : s_l2Find list name = some y := hm
 unfold s_l2Find at hm
 refine rg G (Ok_seq (rg G (tF hm (fun _ => ⟨[], [], 32⟩) (fun v1 hr hm => ?_) ?_)))
 ·refine Ok_block (lp G hm (fun v => ⟨[(0, dV list), (1, dV name), (5, dV v)], [], 32⟩) ?_)
  rintro v r0 hb hm
  rw [s_l2Find_L1] at hm
  refine Ok_seq (rs G (hN 2 list h0) ?_)
  refine cd hm (fun hm => ?_) (fun hm => ?_)
  ·refine X_skip (thN (Ok_seq (Ok_block ?_)))
   obtain ⟨e, h, hm⟩ := obind hm
   refine rs G (hD 2 h h0) ?_
   refine cd hm (fun hm => ?_) (fun hm => ?_)
   ·refine rg G ?_
    have hm := eL hm hb hr
    cases hm
    exact rt [] []
   ·exact X_skip (ibN (thN (rh G (wL G hm))))
  ·exact Ok_exit (thE (thE (ibE (wE G hm hb))))
 rintro ⟨⟩ hm s hw
 refine thN (Ok_weak hw ?_)
 refine rg G ?_
 cases hm
 exact rt [] []
noncomputable def s_l2Line_M : MS (Line × Int) Bool := ⟨.x .r .r, fun x => s_l2Line x.1 x.2, fun y => dV y, fun _ => [], fun _ _ => []⟩
theorem s_l2Line_c {x stops y} (hm : s_l2Line x stops = some y) : s_l2Line_M.C (x, stops) y := s_l2Line_M.c (x, stops) hm
theorem s_l2Line_ok : FnOK Try.prog 258 s_l2Line_M.S := by
 refine fm tt s_l2Line_M [fo s_l2Name_ok, fo s_l1In_ok, fo s_l2Place_ok] Try.call258 Try.func258 rfl Try.results258 Try.ntmps258 ?_
 rintro ⟨x, stops⟩ y cx G hm
 have hm : s_l2Line x stops = some y := hm
 unfold s_l2Line at hm
 refine rg G (Ok_seq ?_)
 obtain ⟨r, h, hm⟩ := obind hm
 refine jn hm (fun v => ⟨[(1, dV stops), (2, .ref 16 0), (27, dV v)], [bX 16 [dV x.Name, dV x.Stops, dV x.Runs]], 48⟩) (fun v hm => ?_) ?_
 ·rcases bf hm with ⟨hb, hm⟩ | ⟨hb, hm⟩
  ·refine re G (hC 2 (s_l2Name_c h) (hO 4 (.b true) (hP hb h0))) ?_
   exact wJ G hm
  ·obtain ⟨r1, h1, hm⟩ := obind hm
   rcases bf hm with ⟨hb1, hm⟩ | ⟨hb1, hm⟩
   ·refine re G (hC 2 (s_l2Name_c h) (hO 4 (.b false) (hP hb (hN 7 x.Stops (hC 8 (s_l1In_c h1) (hO 11 (.b true) (hP hb1 h0))))))) ?_
    exact wJ G hm
   ·refine re G (hC 2 (s_l2Name_c h) (hO 4 (.b false) (hP hb (hN 7 x.Stops (hC 8 (s_l1In_c h1) (hO 11 (.b false) (hP hb1 (hN 14 x.Runs (hN 17 x.Stops h0))))))))) ?_
    exact wJ G hm
 rintro v hm
 refine cd hm (fun hm => ?_) (fun hm => ?_)
 ·refine rg G ?_
  cases hm
  exact rt [] []
 ·refine X_skip (thN (Ok_seq (rg G (tF hm (fun _ => ⟨[(2, .ref 16 0)], [bX 16 [dV x.Name, dV x.Stops, dV x.Runs]], 48⟩) (fun v5 hr hm => ?_) ?_))))
  ·refine Ok_block (lp G hm (fun v1 => ⟨[(1, dV stops), (2, .ref 16 0), (5, dV v1)], [bX 16 [dV x.Name, dV x.Stops, dV x.Runs]], 48⟩) ?_)
   rintro v1 r0 hb2 hm
   rw [s_l2Line_L1] at hm
   refine Ok_seq (rs G (hN 3 x.Stops h0) ?_)
   refine cd hm (fun hm => ?_) (fun hm => ?_)
   ·refine X_skip (thN (Ok_seq (Ok_block ?_)))
    obtain ⟨e2, h6, hm⟩ := obind hm
    obtain ⟨r4, h7, hm⟩ := obind hm
    refine jn hm (fun v2 => ⟨[(1, dV stops), (2, .ref 16 0), (5, dV v1), (54, dV v2)], [bX 16 [dV x.Name, dV x.Stops, dV x.Runs]], 48⟩) (fun v2 hm => ?_) ?_
    ·rcases bf hm with ⟨hb3, hm⟩ | ⟨hb3, hm⟩
     ·refine de G [] (hD 3 h6 (hC 7 (s_l1In_c h7) (hO 9 (.b true) (hP hb3 h0)))) ?_
      exact wJ G hm
     ·obtain ⟨e3, h8, hm⟩ := obind hm
      obtain ⟨r5, h9, hm⟩ := obind hm
      refine de G [] (hD 3 h6 (hC 7 (s_l1In_c h7) (hO 9 (.b false) (hP hb3 (hD 14 h8 (hC 16 (s_l2Place_c h9) h0)))))) ?_
      exact wJ G hm
    rintro v2 hm
    refine cd hm (fun hm => ?_) (fun hm => ?_)
    ·refine rg G ?_
     have hm := eL hm hb2 hr
     cases hm
     exact rt [] []
    ·exact X_skip (ibN (thN (rh G (wL G hm))))
   ·exact Ok_exit (thE (thE (ibE (wE G hm hb2))))
  rintro ⟨⟩ hm s hw
  refine thN (Ok_weak hw ?_)
  refine Ok_seq (rg G (tF hm (fun _ => ⟨[], [], 32⟩) (fun v4 hr1 hm => ?_) ?_))
  ·refine Ok_block (lp G hm (fun v3 => ⟨[(2, .ref 16 0), (6, dV v3)], [bX 16 [dV x.Name, dV x.Stops, dV x.Runs]], 48⟩) ?_)
   rintro v3 r0 hb4 hm
   rw [s_l2Line_L2] at hm
   refine Ok_seq (rs G (hN 3 x.Runs h0) ?_)
   refine cd hm (fun hm => ?_) (fun hm => ?_)
   ·refine X_skip (thN (Ok_seq (Ok_block ?_)))
    obtain ⟨e5, h10, hm⟩ := obind hm
    obtain ⟨r7, h11, hm⟩ := obind hm
    refine rs G (hD 3 h10 (hC 5 (s_l1In_c h11) h0)) ?_
    refine cd hm (fun hm => ?_) (fun hm => ?_)
    ·refine rg G ?_
     have hm := eL hm hb4 hr1
     cases hm
     exact rt [] []
    ·exact X_skip (ibN (thN (rh G (wL G hm))))
   ·exact Ok_exit (thE (thE (ibE (wE G hm hb4))))
  rintro ⟨⟩ hm s1 hw1
  refine thN (Ok_weak hw1 ?_)
  refine rg G ?_
  cases hm
  exact rt [] []
noncomputable def s_l2LineNamed_M : MS (Network × ByteArray) Int := ⟨.x .r .r, fun x => s_l2LineNamed x.1 x.2, fun y => dV y, fun _ => [], fun _ _ => []⟩
theorem s_l2LineNamed_c {n name y} (hm : s_l2LineNamed n name = some y) : s_l2LineNamed_M.C (n, name) y := s_l2LineNamed_M.c (n, name) hm
theorem s_l2LineNamed_ok : FnOK Try.prog 259 s_l2LineNamed_M.S := by
 refine fm tt s_l2LineNamed_M [] Try.call259 Try.func259 rfl Try.results259 Try.ntmps259 ?_
 rintro ⟨n, name⟩ y cx G hm
 have hm : s_l2LineNamed n name = some y := hm
 unfold s_l2LineNamed at hm
 refine rg G (Ok_seq (rg G (tF hm (fun _ => ⟨[], [], 32⟩) (fun v1 hr hm => ?_) ?_)))
 ·refine Ok_block (lp G hm (fun v => ⟨[(1, dV name), (2, .ref 16 0), (5, dV v)], [bX 16 [dV n.Stops, dV n.Lines]], 48⟩) ?_)
  rintro v r0 hb hm
  rw [s_l2LineNamed_L1] at hm
  refine Ok_seq (rs G (hN 3 n.Lines h0) ?_)
  refine cd hm (fun hm => ?_) (fun hm => ?_)
  ·refine X_skip (thN (Ok_seq (Ok_block ?_)))
   obtain ⟨e, h, hm⟩ := obind hm
   refine rs G (hD 3 h h0) ?_
   refine cd hm (fun hm => ?_) (fun hm => ?_)
   ·refine rg G ?_
    have hm := eL hm hb hr
    cases hm
    exact rt [] []
   ·exact X_skip (ibN (thN (rh G (wL G hm))))
  ·exact Ok_exit (thE (thE (ibE (wE G hm hb))))
 rintro ⟨⟩ hm s hw
 refine thN (Ok_weak hw ?_)
 refine rg G ?_
 cases hm
 exact rt [] []
noncomputable def s_l2Good_M : MS Network Bool := ⟨.r, s_l2Good, fun y => dV y, fun _ => [], fun _ _ => []⟩
theorem s_l2Good_c {n y} (hm : s_l2Good n = some y) : s_l2Good_M.C n y := s_l2Good_M.c n hm
theorem s_l2Good_ok : FnOK Try.prog 216 s_l2Good_M.S := by
 refine fm tt s_l2Good_M [fo s_l1In_ok, fo s_l2Name_ok, fo s_l2Find_ok, fo s_l2Line_ok, fo s_l2LineNamed_ok] Try.call216 Try.func216 rfl Try.results216 Try.ntmps216 ?_
 rintro n y cx G hm
 have hm : s_l2Good n = some y := hm
 unfold s_l2Good at hm
 refine rg G (Ok_seq ?_)
 obtain ⟨r, h, hm⟩ := obind hm
 refine jn hm (fun v => ⟨[(1, .ref 16 0), (16, dV v)], [bX 16 [dV n.Stops, dV n.Lines]], 48⟩) (fun v hm => ?_) ?_
 ·rcases bf hm with ⟨hb, hm⟩ | ⟨hb, hm⟩
  ·refine re G (hN 2 n.Stops (hC 3 (s_l1In_c h) (hO 5 (.b true) (hP hb h0)))) ?_
   exact wJ G hm
  ·obtain ⟨r1, h1, hm⟩ := obind hm
   refine re G (hN 2 n.Stops (hC 3 (s_l1In_c h) (hO 5 (.b false) (hP hb (hN 8 n.Lines (hC 9 (s_l1In_c h1) h0)))))) ?_
   exact wJ G hm
 rintro v hm
 refine cd hm (fun hm => ?_) (fun hm => ?_)
 ·refine rg G ?_
  cases hm
  exact rt [] []
 ·refine X_skip (thN (Ok_seq (rg G (tF hm (fun _ => ⟨[(1, .ref 16 0)], [bX 16 [dV n.Stops, dV n.Lines]], 48⟩) (fun v5 hr hm => ?_) ?_))))
  ·refine Ok_block (lp G hm (fun i => ⟨[(1, .ref 16 0), (3, dV i)], [bX 16 [dV n.Stops, dV n.Lines]], 48⟩) ?_)
   rintro i r0 hb1 hm
   rw [s_l2Good_L1] at hm
   refine Ok_seq (rs G (hN 3 n.Stops h0) ?_)
   refine cd hm (fun hm => ?_) (fun hm => ?_)
   ·refine X_skip (thN (Ok_seq (Ok_block ?_)))
    obtain ⟨e2, h6, hm⟩ := obind hm
    obtain ⟨r4, h7, hm⟩ := obind hm
    refine jn hm (fun v1 => ⟨[(1, .ref 16 0), (3, dV i), (42, dV v1)], [bX 16 [dV n.Stops, dV n.Lines]], 48⟩) (fun v1 hm => ?_) ?_
    ·rcases bf hm with ⟨hb2, hm⟩ | ⟨hb2, hm⟩
     ·refine de G [] (hD 3 h6 (hC 5 (s_l2Name_c h7) (hO 7 (.b true) (hP hb2 h0)))) ?_
      exact wJ G hm
     ·obtain ⟨e3, h8, hm⟩ := obind hm
      obtain ⟨r5, h9, hm⟩ := obind hm
      refine de G [] (hD 3 h6 (hC 5 (s_l2Name_c h7) (hO 7 (.b false) (hP hb2 (hD 13 h8 (hC 15 (s_l2Find_c h9) h0)))))) ?_
      exact wJ G hm
    rintro v1 hm
    refine cd hm (fun hm => ?_) (fun hm => ?_)
    ·refine rg G ?_
     have hm := eL hm hb1 hr
     cases hm
     exact rt [] []
    ·exact X_skip (ibN (thN (rh G (wL G hm))))
   ·exact Ok_exit (thE (thE (ibE (wE G hm hb1))))
  rintro ⟨⟩ hm s hw
  refine thN (Ok_weak hw ?_)
  refine Ok_seq (rg G (tF hm (fun _ => ⟨[], [], 32⟩) (fun v4 hr1 hm => ?_) ?_))
  ·refine Ok_block (lp G hm (fun v2 => ⟨[(1, .ref 16 0), (4, dV v2)], [bX 16 [dV n.Stops, dV n.Lines]], 48⟩) ?_)
   rintro v2 r0 hb3 hm
   rw [s_l2Good_L2] at hm
   refine Ok_seq (rs G (hN 3 n.Lines h0) ?_)
   refine cd hm (fun hm => ?_) (fun hm => ?_)
   ·refine X_skip (thN (Ok_seq (Ok_block ?_)))
    obtain ⟨e7, h14, hm⟩ := obind hm
    obtain ⟨r9, h15, hm⟩ := obind hm
    refine jn hm (fun v3 => ⟨[(1, .ref 16 0), (4, dV v2), (71, dV v3)], [bX 16 [dV n.Stops, dV n.Lines]], 48⟩) (fun v3 hm => ?_) ?_
    ·rcases bf hm with ⟨hb4, hm⟩ | ⟨hb4, hm⟩
     ·refine de G [] (hD 3 h14 (hN 7 n.Stops (hC 8 (s_l2Line_c h15) (hO 10 (.b true) (hP hb4 h0))))) ?_
      exact wJ G hm
     ·obtain ⟨e8, h16, hm⟩ := obind hm
      obtain ⟨r10, h17, hm⟩ := obind hm
      refine de G [] (hD 3 h14 (hN 7 n.Stops (hC 8 (s_l2Line_c h15) (hO 10 (.b false) (hP hb4 (hD 15 h16 (hC 18 (s_l2LineNamed_c h17) h0))))))) ?_
      exact wJ G hm
    rintro v3 hm
    refine cd hm (fun hm => ?_) (fun hm => ?_)
    ·refine rg G ?_
     have hm := eL hm hb3 hr1
     cases hm
     exact rt [] []
    ·exact X_skip (ibN (thN (rh G (wL G hm))))
   ·exact Ok_exit (thE (thE (ibE (wE G hm hb3))))
  rintro ⟨⟩ hm s1 hw1
  refine thN (Ok_weak hw1 ?_)
  refine rg G ?_
  cases hm
  exact rt [] []
noncomputable def s_l4Time_M : MS Int Bool := ⟨.r, s_l4Time, fun y => dV y, fun _ => [], fun _ _ => []⟩
theorem s_l4Time_c {t y} (hm : s_l4Time t = some y) : s_l4Time_M.C t y := s_l4Time_M.c t hm
theorem s_l4Time_ok : FnOK Try.prog 146 s_l4Time_M.S := by
 refine fm tt s_l4Time_M [fo s_l1In_ok] Try.call146 Try.func146 rfl Try.results146 Try.ntmps146 ?_
 rintro t y cx G hm
 have hm : s_l4Time t = some y := hm
 unfold s_l4Time at hm
 refine rg G ?_
 obtain ⟨r, h, hm⟩ := obind hm
 refine rs G (hC 1 (s_l1In_c h) h0) ?_
 cases hm
 exact rt [] []
noncomputable def s_l5Line_M : MS (Timetable × Int) Line := ⟨.x .r .r, fun x => s_l5Line x.1 x.2, fun y => dV y, fun _ => [], fun _ _ => []⟩
theorem s_l5Line_c {t i y} (hm : s_l5Line t i = some y) : s_l5Line_M.C (t, i) y := s_l5Line_M.c (t, i) hm
theorem s_l5Line_ok : FnOK Try.prog 160 s_l5Line_M.S := by
 refine fm tt s_l5Line_M [] Try.call160 Try.func160 rfl Try.results160 Try.ntmps160 ?_
 rintro ⟨t, i⟩ y cx G hm
 have hm : s_l5Line t i = some y := hm
 unfold s_l5Line at hm
 refine rg G ?_
 obtain ⟨e2, h2, hm⟩ := obind hm
 obtain ⟨e3, h3, hm⟩ := obind hm
 refine ds G [(11, [32])] (hD 6 h2 (hD 9 h3 h0)) ?_
 cases hm
 exact rt [] []
noncomputable def s_l5Stops_M : MS (Timetable × Int) ((List Int)) := ⟨.x .r .r, fun x => s_l5Stops x.1 x.2, fun y => dV y, fun _ => [], fun _ _ => []⟩
theorem s_l5Stops_c {t i y} (hm : s_l5Stops t i = some y) : s_l5Stops_M.C (t, i) y := s_l5Stops_M.c (t, i) hm
theorem s_l5Stops_ok : FnOK Try.prog 161 s_l5Stops_M.S := by
 refine fm tt s_l5Stops_M [fo s_l5Line_ok] Try.call161 Try.func161 rfl Try.results161 Try.ntmps161 ?_
 rintro ⟨t, i⟩ y cx G hm
 have hm : s_l5Stops t i = some y := hm
 unfold s_l5Stops at hm
 refine rg G ?_
 obtain ⟨r, h, hm⟩ := obind hm
 refine rs G (hC 2 (s_l5Line_c h) h0) ?_
 cases hm
 exact rt [] []
noncomputable def s_l2Run_M : MS (Line × Int × Int) Int := ⟨.x .r (.x .r .r), fun x => s_l2Run x.1 x.2.1 x.2.2, fun y => dV y, fun _ => [], fun _ _ => []⟩
theorem s_l2Run_c {x from_ to y} (hm : s_l2Run x from_ to = some y) : s_l2Run_M.C (x, from_, to) y := s_l2Run_M.c (x, from_, to) hm
theorem s_l2Run_ok : FnOK Try.prog 236 s_l2Run_M.S := by
 refine fm tt s_l2Run_M [] Try.call236 Try.func236 rfl Try.results236 Try.ntmps236 ?_
 rintro ⟨x, from_, to⟩ y cx G hm
 have hm : s_l2Run x from_ to = some y := hm
 unfold s_l2Run at hm
 refine rg G (rg G (Ok_seq (rg G (tl hm (fun v2 => ⟨[(7, dV v2)], [], 32⟩) (fun v2 hm => ?_) ?_))))
 ·refine Ok_block (lp G hm (fun (v, v1) => ⟨[(2, dV to), (3, .ref 16 0), (7, dV v), (8, dV v1)], [bX 16 [dV x.Name, dV x.Stops, dV x.Runs]], 48⟩) ?_)
  rintro ⟨v, v1⟩ r0 hb hm
  rw [s_l2Run_L1] at hm
  refine Ok_seq (rg G (cd hm (fun hm => ?_) (fun hm => ?_)))
  ·refine X_skip (thN (Ok_seq (Ok_block ?_)))
   obtain ⟨e, h, hm⟩ := obind hm
   refine re G (hD 4 h h0) ?_
   exact ibN (thN (rh G (wL G hm)))
  ·exact Ok_exit (thE (thE (ibE (wD G hm hb))))
 rintro v2 hm s hw
 refine thN (Ok_weak hw ?_)
 refine rg G ?_
 cases hm
 exact rt [] []
noncomputable def s_l5At_M : MS (Timetable × Int × Int) Int := ⟨.x .r (.x .r .r), fun x => s_l5At x.1 x.2.1 x.2.2, fun y => dV y, fun _ => [], fun _ _ => []⟩
theorem s_l5At_c {t i k y} (hm : s_l5At t i k = some y) : s_l5At_M.C (t, i, k) y := s_l5At_M.c (t, i, k) hm
theorem s_l5At_ok : FnOK Try.prog 162 s_l5At_M.S := by
 refine fm tt s_l5At_M [fo s_l5Line_ok, fo s_l2Run_ok] Try.call162 Try.func162 rfl Try.results162 Try.ntmps162 ?_
 rintro ⟨t, i, k⟩ y cx G hm
 have hm : s_l5At t i k = some y := hm
 unfold s_l5At at hm
 refine rg G ?_
 obtain ⟨e1, h3, hm⟩ := obind hm
 obtain ⟨r2, h4, hm⟩ := obind hm
 obtain ⟨r3, h5, hm⟩ := obind hm
 refine ds G [] (hD 3 h3 (hC 8 (s_l5Line_c h4) (hC 10 (s_l2Run_c h5) h0))) ?_
 cases hm
 exact rt [] []
noncomputable def s_l5End_M : MS (Timetable × Int) Int := ⟨.x .r .r, fun x => s_l5End x.1 x.2, fun y => dV y, fun _ => [], fun _ _ => []⟩
theorem s_l5End_c {t i y} (hm : s_l5End t i = some y) : s_l5End_M.C (t, i) y := s_l5End_M.c (t, i) hm
theorem s_l5End_ok : FnOK Try.prog 164 s_l5End_M.S := by
 refine fm tt s_l5End_M [fo s_l5Stops_ok, fo s_l5At_ok] Try.call164 Try.func164 rfl Try.results164 Try.ntmps164 ?_
 rintro ⟨t, i⟩ y cx G hm
 have hm : s_l5End t i = some y := hm
 unfold s_l5End at hm
 refine rg G ?_
 obtain ⟨r2, h2, hm⟩ := obind hm
 obtain ⟨r3, h3, hm⟩ := obind hm
 refine ds G [] (hC 4 (s_l5Stops_c h2) (hN 5 r2 (hC 7 (s_l5At_c h3) h0))) ?_
 cases hm
 exact rt [] []
noncomputable def s_l5Good_M : MS Timetable Bool := ⟨.r, s_l5Good, fun y => dV y, fun _ => [], fun _ _ => []⟩
theorem s_l5Good_c {t y} (hm : s_l5Good t = some y) : s_l5Good_M.C t y := s_l5Good_M.c t hm
theorem s_l5Good_ok : FnOK Try.prog 130 s_l5Good_M.S := by
 refine fm tt s_l5Good_M [fo s_l2Good_ok, fo s_l1In_ok, fo s_l4Time_ok, fo s_l5End_ok] Try.call130 Try.func130 rfl Try.results130 Try.ntmps130 ?_
 rintro t y cx G hm
 have hm : s_l5Good t = some y := hm
 unfold s_l5Good at hm
 refine rg G (Ok_seq ?_)
 obtain ⟨r, h, hm⟩ := obind hm
 refine jn hm (fun v => ⟨[(1, .ref 16 0), (14, dV v)], [bX 16 [dV t.Network.Stops, dV t.Network.Lines, dV t.Trips]], 48⟩) (fun v hm => ?_) ?_
 ·rcases bf hm with ⟨hb, hm⟩ | ⟨hb, hm⟩
  ·refine re G (hC 2 (s_l2Good_c h) (hO 4 (.b true) (hP hb h0))) ?_
   exact wJ G hm
  ·refine re G (hC 2 (s_l2Good_c h) (hO 4 (.b false) (hP hb (hN 7 t.Trips h0)))) ?_
   exact wJ G hm
 rintro v hm
 refine cd hm (fun hm => ?_) (fun hm => ?_)
 ·refine rg G ?_
  cases hm
  exact rt [] []
 ·refine X_skip (thN (Ok_seq (rg G (tF hm (fun _ => ⟨[], [], 32⟩) (fun v2 hr hm => ?_) ?_))))
  ·refine Ok_block (lp G hm (fun x => ⟨[(1, .ref 16 0), (3, dV x)], [bX 16 [dV t.Network.Stops, dV t.Network.Lines, dV t.Trips]], 48⟩) ?_)
   rintro x r0 hb1 hm
   rw [s_l5Good_L1] at hm
   refine Ok_seq (rs G (hN 3 t.Trips h0) ?_)
   refine cd hm (fun hm => ?_) (fun hm => ?_)
   ·refine X_skip (thN (Ok_seq (Ok_block ?_)))
    obtain ⟨e, h1, hm⟩ := obind hm
    refine rs G (hD 3 h1 h0) ?_
    obtain ⟨r6, h8, hm⟩ := obind hm
    refine jn hm (fun v1 => ⟨[(1, .ref 16 0), (3, dV x), (70, dV v1)], [bX 16 [dV t.Network.Stops, dV t.Network.Lines, dV t.Trips]], 48⟩) (fun v1 hm => ?_) ?_
    ·rcases bf hm with ⟨hb2, hm⟩ | ⟨hb2, hm⟩
     ·refine de G [] (hC 2 (s_l1In_c h8) (hO 4 (.b true) (hP hb2 h0))) ?_
      exact wJ G hm
     ·obtain ⟨r7, h9, hm⟩ := obind hm
      rcases bf hm with ⟨hb3, hm⟩ | ⟨hb3, hm⟩
      ·refine de G [] (hC 2 (s_l1In_c h8) (hO 4 (.b false) (hP hb2 (hN 10 t.Network.Lines (hC 12 (s_l1In_c h9) (hO 15 (.b true) (hP hb3 h0))))))) ?_
       exact wJ G hm
      ·obtain ⟨r8, h10, hm⟩ := obind hm
       rcases bf hm with ⟨hb4, hm⟩ | ⟨hb4, hm⟩
       ·refine de G [] (hC 2 (s_l1In_c h8) (hO 4 (.b false) (hP hb2 (hN 10 t.Network.Lines (hC 12 (s_l1In_c h9) (hO 15 (.b false) (hP hb3 (hC 18 (s_l4Time_c h10) (hO 21 (.b true) (hP hb4 h0)))))))))) ?_
        exact wJ G hm
       ·obtain ⟨r9, h11, hm⟩ := obind hm
        obtain ⟨r10, h12, hm⟩ := obind hm
        rcases bf hm with ⟨hb5, hm⟩ | ⟨hb5, hm⟩
        ·refine de G [] (hC 2 (s_l1In_c h8) (hO 4 (.b false) (hP hb2 (hN 10 t.Network.Lines (hC 12 (s_l1In_c h9) (hO 15 (.b false) (hP hb3 (hC 18 (s_l4Time_c h10) (hO 21 (.b false) (hP hb4 (hC 24 (s_l5End_c h11) (hC 25 (s_l4Time_c h12) (hO 28 (.b true) (hP hb5 h0)))))))))))))) ?_
         exact wJ G hm
        ·rcases bf hm with ⟨hb6, hm⟩ | ⟨hb6, hm⟩
         ·obtain ⟨e2, h13, hm⟩ := obind hm
          refine de G [] (hC 2 (s_l1In_c h8) (hO 4 (.b false) (hP hb2 (hN 10 t.Network.Lines (hC 12 (s_l1In_c h9) (hO 15 (.b false) (hP hb3 (hC 18 (s_l4Time_c h10) (hO 21 (.b false) (hP hb4 (hC 24 (s_l5End_c h11) (hC 25 (s_l4Time_c h12) (hO 28 (.b false) (hP hb5 (hO 31 (.b true) (hP hb6 (hD 36 h13 h0))))))))))))))))) ?_
          exact wJ G hm
         ·refine de G [] (hC 2 (s_l1In_c h8) (hO 4 (.b false) (hP hb2 (hN 10 t.Network.Lines (hC 12 (s_l1In_c h9) (hO 15 (.b false) (hP hb3 (hC 18 (s_l4Time_c h10) (hO 21 (.b false) (hP hb4 (hC 24 (s_l5End_c h11) (hC 25 (s_l4Time_c h12) (hO 28 (.b false) (hP hb5 (hO 31 (.b false) (hP hb6 h0)))))))))))))))) ?_
          exact wJ G hm
    rintro v1 hm
    refine cd hm (fun hm => ?_) (fun hm => ?_)
    ·refine rg G ?_
     have hm := eL hm hb1 hr
     cases hm
     exact rt [] []
    ·exact X_skip (ibN (thN (rh G (wL G hm))))
   ·exact Ok_exit (thE (thE (ibE (wE G hm hb1))))
  rintro ⟨⟩ hm s hw
  refine thN (Ok_weak hw ?_)
  refine rg G ?_
  cases hm
  exact rt [] []
noncomputable def s_l8Asked_M : MS (Timetable × Int) Bool := ⟨.x .r .r, fun x => s_l8Asked x.1 x.2, fun y => dV y, fun _ => [], fun _ _ => []⟩
theorem s_l8Asked_c {t change y} (hm : s_l8Asked t change = some y) : s_l8Asked_M.C (t, change) y := s_l8Asked_M.c (t, change) hm
theorem s_l8Asked_ok : FnOK Try.prog 106 s_l8Asked_M.S := by
 refine fm tt s_l8Asked_M [fo s_l5Good_ok, fo s_l1In_ok] Try.call106 Try.func106 rfl Try.results106 Try.ntmps106 ?_
 rintro ⟨t, change⟩ y cx G hm
 have hm : s_l8Asked t change = some y := hm
 unfold s_l8Asked at hm
 refine rg G ?_
 obtain ⟨r, h, hm⟩ := obind hm
 refine jn hm (fun v => ⟨[(4, dV v)], [], 32⟩) (fun v hm => ?_) ?_
 ·rcases bf hm with ⟨hb, hm⟩ | ⟨hb, hm⟩
  ·obtain ⟨r1, h1, hm⟩ := obind hm
   refine re G (hC 1 (s_l5Good_c h) (hO 2 (.b true) (hP hb (hC 4 (s_l1In_c h1) h0)))) ?_
   exact wJ G hm
  ·refine re G (hC 1 (s_l5Good_c h) (hO 2 (.b false) (hP hb h0))) ?_
   exact wJ G hm
 rintro v hm
 cases hm
 exact rt [] []
noncomputable def s_l8Arrivals_M : MS (Timetable × Int × Int × Int × Int) ((List Int)) := ⟨.x .r (.x .r (.x .r (.x .r .r))), fun x => s_l8Arrivals x.1 x.2.1 x.2.2.1 x.2.2.2.1 x.2.2.2.2, fun _ => .own 0, fun y => [arO 3 y], fun _ _ => []⟩
theorem s_l8Arrivals_c {t change from_ at_ legs y} (hm : s_l8Arrivals t change from_ at_ legs = some y) : s_l8Arrivals_M.C (t, change, from_, at_, legs) y := s_l8Arrivals_M.c (t, change, from_, at_, legs) hm
theorem s_l8Arrivals_ok : FnOK Try.prog 122 s_l8Arrivals_M.S := by
 refine fm tt s_l8Arrivals_M [fo s_l5Stops_ok, fo s_l5At_ok] Try.call122 Try.func122 rfl Try.results122 Try.ntmps122 ?_
 rintro ⟨t, change, from_, at_, legs⟩ y cx G hm
 have hm : s_l8Arrivals t change from_ at_ legs = some y := hm
 unfold s_l8Arrivals at hm
 refine rg G ?_
 obtain ⟨u, h, hm⟩ := obind hm
 refine rs G (hN 3 t.Network.Stops (hO 4 (.l (List.map Enc.e (List.replicate (t.Network.Stops.length : Int).toNat (0 : Int)))) (hP (mk_p (b := 8) (chk_t h) rfl) (hP (rep_m Enc.e (t.Network.Stops.length : Int).toNat (0 : Int)) h0)))) ?_
 refine Ok_seq (rg G (tl hm (fun i1 => ⟨[(1, dV change), (2, dV from_), (3, dV at_), (4, dV legs), (5, .ref 16 0), (11, .own 32)], [bX 16 [dV t.Network.Stops, dV t.Network.Lines, dV t.Trips], aX 32 3 i1], 64⟩) (fun i1 hm => ?_) ?_))
 ·refine Ok_block (lp G hm (fun (on, i) => ⟨[(1, dV change), (2, dV from_), (3, dV at_), (4, dV legs), (5, .ref 16 0), (11, .own 32), (12, dV on)], [bX 16 [dV t.Network.Stops, dV t.Network.Lines, dV t.Trips], aX 32 3 i], 64⟩) ?_)
  rintro ⟨on, i⟩ r0 hb hm
  rw [s_l8Arrivals_L1] at hm
  refine Ok_seq (rs G (hN 2 i h0) ?_)
  refine cd hm (fun hm => ?_) (fun hm => ?_)
  ·refine X_skip (thN (Ok_seq (Ok_block ?_)))
   obtain ⟨e, h1, hm⟩ := obind hm
   refine re G (hD 2 h1 (hS 3 h1 (-1) h0)) ?_
   exact ibN (thN (rh G (wL G hm)))
  ·exact Ok_exit (thE (thE (ibE (wD G hm hb))))
 rintro i1 hm s hw
 refine thN (Ok_weak hw ?_)
 obtain ⟨e1, h2, hm⟩ := obind hm
 refine rs G (hD 3 h2 (hS 4 h2 at_ h0)) ?_
 refine Ok_seq (rg G (tl hm (fun i3 => ⟨[(11, .own 16)], [aX 16 3 i3], 48⟩) (fun i3 hm => ?_) ?_))
 ·refine Ok_block (lp G hm (fun (stops, i2) => ⟨[(1, dV change), (2, dV from_), (3, dV at_), (4, dV legs), (5, .ref 16 0), (11, .own 32), (13, dV stops)], [bX 16 [dV t.Network.Stops, dV t.Network.Lines, dV t.Trips], aX 32 3 i2], 64⟩) ?_)
  rintro ⟨stops, i2⟩ r0 hb1 hm
  rw [s_l8Arrivals_L4] at hm
  refine Ok_seq (rg G (cd hm (fun hm => ?_) (fun hm => ?_)))
  ·refine X_skip (thN (Ok_seq (Ok_block ?_)))
   obtain ⟨u1, h3, hm⟩ := obind hm
   refine rs G (hA 2 8 h3 h0) ?_
   refine rg G (jn hm (fun s1 => ⟨[(1, dV change), (2, dV from_), (3, dV at_), (4, dV legs), (5, .ref 16 0), (11, .own 32), (13, dV stops), (14, .own 48), (15, dV s1)], [bX 16 [dV t.Network.Stops, dV t.Network.Lines, dV t.Trips], aX 32 3 i2, aX 48 3 (([] : List Int) ++ i2)], 80⟩) (fun s1 hm => ?_) ?_)
   ·refine rg G (cd hm (fun hm => ?_) (fun hm => ?_))
    ·exact rh G (wJ G hm)
    ·exact X_skip (wJ G hm)
   rintro s1 hm
   refine Ok_seq (rg G (tl hm (fun k4 => ⟨[(1, dV change), (2, dV from_), (3, dV at_), (4, dV legs), (5, .ref 16 0), (13, dV stops), (14, .own 32)], [bX 16 [dV t.Network.Stops, dV t.Network.Lines, dV t.Trips], aX 32 3 k4], 64⟩) (fun k4 hm => ?_) ?_))
   ·refine Ok_block (lp G hm (fun (time, k) => ⟨[(1, dV change), (2, dV from_), (3, dV at_), (4, dV legs), (5, .ref 16 0), (11, .own 32), (13, dV stops), (14, .own 48), (15, dV s1), (16, dV time)], [bX 16 [dV t.Network.Stops, dV t.Network.Lines, dV t.Trips], aX 32 3 i2, aX 48 3 k], 80⟩) ?_)
    rintro ⟨time, k⟩ r0 hb2 hm
    rw [s_l8Arrivals_L3] at hm
    refine Ok_seq (rs G (hN 3 t.Trips h0) ?_)
    refine cd hm (fun hm => ?_) (fun hm => ?_)
    ·refine X_skip (thN (Ok_seq (Ok_block (rg G ?_))))
     obtain ⟨r, h4, hm⟩ := obind hm
     refine rs G (hC 2 (s_l5Stops_c h4) h0) ?_
     refine rg G (tl hm (fun k3 => ⟨[(1, dV change), (2, dV from_), (3, dV at_), (4, dV legs), (5, .ref 16 0), (11, .own 32), (13, dV stops), (14, .own 48), (15, dV s1), (16, dV time)], [bX 16 [dV t.Network.Stops, dV t.Network.Lines, dV t.Trips], aX 32 3 i2, aX 48 3 k3], 80⟩) (fun k3 hm => ?_) ?_)
     ·refine Ok_block (lp G hm (fun (ready, v, k1) => ⟨[(1, dV change), (2, dV from_), (3, dV at_), (4, dV legs), (5, .ref 16 0), (11, .own 32), (13, dV stops), (14, .own 48), (15, dV s1), (16, dV time), (17, dV ready), (18, dV r), (19, dV v)], [bX 16 [dV t.Network.Stops, dV t.Network.Lines, dV t.Trips], aX 32 3 i2, aX 48 3 k1], 80⟩) ?_)
      rintro ⟨ready, v, k1⟩ r0 hb3 hm
      rw [s_l8Arrivals_L2] at hm
      refine Ok_seq (rs G (hN 2 r h0) ?_)
      refine cd hm (fun hm => ?_) (fun hm => ?_)
      ·refine X_skip (thN (Ok_seq (Ok_block ?_)))
       obtain ⟨e3, h7, hm⟩ := obind hm
       obtain ⟨r2, h8, hm⟩ := obind hm
       refine ds G [] (hD 2 h7 (hC 7 (s_l5At_c h8) h0)) ?_
       refine jn hm (fun k2 => ⟨[(1, dV change), (2, dV from_), (3, dV at_), (4, dV legs), (5, .ref 16 0), (11, .own 32), (13, dV stops), (14, .own 48), (15, dV s1), (16, dV time), (17, dV ready), (18, dV r), (19, dV v), (20, dV e3), (21, dV r2)], [bX 16 [dV t.Network.Stops, dV t.Network.Lines, dV t.Trips], aX 32 3 i2, aX 48 3 k2], 80⟩) (fun k2 hm => ?_) ?_
       ·refine jn hm (fun v1 => ⟨[(1, dV change), (2, dV from_), (3, dV at_), (4, dV legs), (5, .ref 16 0), (11, .own 32), (13, dV stops), (14, .own 48), (15, dV s1), (16, dV time), (17, dV ready), (18, dV r), (19, dV v), (20, dV e3), (21, dV r2), (91, dV v1)], [bX 16 [dV t.Network.Stops, dV t.Network.Lines, dV t.Trips], aX 32 3 i2, aX 48 3 k1], 80⟩) (fun v1 hm => ?_) ?_
        ·rcases bf hm with ⟨hb4, hm⟩ | ⟨hb4, hm⟩
         ·obtain ⟨e4, h9, hm⟩ := obind hm
          rcases bf hm with ⟨hb5, hm⟩ | ⟨hb5, hm⟩
          ·refine re G (hO 1 (.b true) (hP hb4 (hD 4 h9 (hE 5 h9 (hO 7 (.b true) (hP hb5 h0)))))) ?_
           exact wJ G hm
          ·obtain ⟨e5, h10, hm⟩ := obind hm
           refine re G (hO 1 (.b true) (hP hb4 (hD 4 h9 (hE 5 h9 (hO 7 (.b false) (hP hb5 (hD 11 h10 (hE 12 h10 h0)))))))) ?_
           exact wJ G hm
         ·refine re G (hO 1 (.b false) (hP hb4 h0)) ?_
          exact wJ G hm
        rintro v1 hm
        refine cd hm (fun hm => ?_) (fun hm => ?_)
        ·obtain ⟨e6, h11, hm⟩ := obind hm
         refine re G (hD 3 h11 (hS 4 h11 r2 h0)) ?_
         exact wJ G hm
        ·exact X_skip (wJ G hm)
       rintro k2 hm
       obtain ⟨e7, h12, hm⟩ := obind hm
       refine rs G (hD 2 h12 (hE 3 h12 h0)) ?_
       refine jn hm (fun v2 => ⟨[(1, dV change), (2, dV from_), (3, dV at_), (4, dV legs), (5, .ref 16 0), (11, .own 32), (13, dV stops), (14, .own 48), (15, dV s1), (16, dV time), (17, dV ready), (18, dV r), (19, dV v), (20, dV e3), (21, dV r2), (22, dV v2)], [bX 16 [dV t.Network.Stops, dV t.Network.Lines, dV t.Trips], aX 32 3 i2, aX 48 3 k2], 80⟩) (fun v2 hm => ?_) ?_
       ·refine rg G (cd hm (fun hm => ?_) (fun hm => ?_))
        ·exact rh G (wJ G hm)
        ·exact X_skip (wJ G hm)
       rintro v2 hm
       rcases bf hm with ⟨hb6, hm⟩ | ⟨hb6, hm⟩
       ·refine re G (hO 1 (.b true) (hP hb6 h0)) ?_
        exact ibN (thN (rh G (wL G hm)))
       ·obtain ⟨e8, h13, hm⟩ := obind hm
        rcases bf hm with ⟨hb7, hm⟩ | ⟨hb7, hm⟩
        ·refine re G (hO 1 (.b false) (hP hb6 (hD 4 h13 (hE 5 h13 (hO 7 (.b true) (hP hb7 h0)))))) ?_
         exact ibN (thN (rh G (wL G hm)))
        ·refine re G (hO 1 (.b false) (hP hb6 (hD 4 h13 (hE 5 h13 (hO 7 (.b false) (hP hb7 h0)))))) ?_
         exact ibN (thN (rh G (wL G hm)))
      ·exact Ok_exit (thE (thE (ibE (wD G hm hb3))))
     rintro k3 hm s2 hw1
     refine ibN (thN (Ok_weak hw1 ?_))
     exact rh G (wL G hm)
    ·exact Ok_exit (thE (thE (ibE (wD G hm hb2))))
   rintro k4 hm s3 hw2
   refine thN (Ok_weak hw2 ?_)
   exact rh G (ibN (thN (rh G (wL G hm))))
  ·exact Ok_exit (thE (thE (ibE (wD G hm hb1))))
 rintro i3 hm s4 hw3
 refine thN (Ok_weak hw3 ?_)
 refine rg G ?_
 cases hm
 exact rt [16] []
noncomputable def s_l8Leg_M : MS (Timetable × Int × Int × Int) Leg := ⟨.x .r (.x .r (.x .r .r)), fun x => s_l8Leg x.1 x.2.1 x.2.2.1 x.2.2.2, fun y => dV y, fun _ => [], fun _ _ => []⟩
theorem s_l8Leg_c {t i a b y} (hm : s_l8Leg t i a b = some y) : s_l8Leg_M.C (t, i, a, b) y := s_l8Leg_M.c (t, i, a, b) hm
theorem s_l8Leg_ok : FnOK Try.prog 252 s_l8Leg_M.S := by
 refine fm tt s_l8Leg_M [fo s_l5Stops_ok, fo s_l5At_ok] Try.call252 Try.func252 rfl Try.results252 Try.ntmps252 ?_
 rintro ⟨t, i, a, b⟩ y cx G hm
 have hm : s_l8Leg t i a b = some y := hm
 unfold s_l8Leg at hm
 refine rg G ?_
 obtain ⟨r, h, hm⟩ := obind hm
 refine rs G (hC 2 (s_l5Stops_c h) h0) ?_
 obtain ⟨e3, h6, hm⟩ := obind hm
 obtain ⟨e4, h7, hm⟩ := obind hm
 obtain ⟨e5, h8, hm⟩ := obind hm
 obtain ⟨r3, h9, hm⟩ := obind hm
 obtain ⟨r4, h10, hm⟩ := obind hm
 refine ds G [(23, [32])] (hD 3 h6 (hD 8 h7 (hD 12 h8 (hC 17 (s_l5At_c h9) (hC 21 (s_l5At_c h10) h0))))) ?_
 cases hm
 exact rt [] []
noncomputable def s_l8Search_extend_w_MR (rec_ : l8Search → (List Leg) → Int → Int → Int → Option ((List Leg))) : MS (l8Search × (List Leg) × Int × Int × Int) ((List Leg)) := ⟨.x .b (.x (.s 40) (.x .r (.x .r .r))), fun x => rec_ x.1 x.2.1 x.2.2.1 x.2.2.2.1 x.2.2.2.2, fun _ => .own 0, fun y => [arO 40 y], fun x _ => [bxO x.1, arO 40 x.2.1]⟩
noncomputable def s_l8Search_extend_w_M : MS (l8Search × (List Leg) × Int × Int × Int) ((List Leg)) := s_l8Search_extend_w_MR s_l8Search_extend_w
theorem s_l8Search_extend_w_c {x legs stop at_ more y} (hm : s_l8Search_extend_w x legs stop at_ more = some y) : s_l8Search_extend_w_M.C (x, legs, stop, at_, more) y := s_l8Search_extend_w_M.c (x, legs, stop, at_, more) hm
theorem s_l8Search_extend_w_cR {rec_ : l8Search → (List Leg) → Int → Int → Int → Option ((List Leg))} {x legs stop at_ more y} (hm : rec_ x legs stop at_ more = some y) : (s_l8Search_extend_w_MR rec_).C (x, legs, stop, at_, more) y := (s_l8Search_extend_w_MR rec_).c (x, legs, stop, at_, more) hm
theorem s_l8Search_extend_w_okF {rec_ : l8Search → (List Leg) → Int → Int → Int → Option ((List Leg))} (hrec : FnOK Try.prog 212 (s_l8Search_extend_w_MR rec_).S) : FnOK Try.prog 212 (s_l8Search_extend_w_MR (s_l8Search_extend_w_F rec_)).S := by
 refine fm tt (s_l8Search_extend_w_MR (s_l8Search_extend_w_F rec_)) [fo hrec, fo s_l5Line_ok, fo s_l2Place_ok, fo s_l5At_ok, fo s_l5Stops_ok, fo s_l8Leg_ok] Try.call212 Try.func212 rfl Try.results212 Try.ntmps212 ?_
 rintro ⟨x, legs, stop, at_, more⟩ y cx G hm
 have hm : s_l8Search_extend_w_F rec_ x legs stop at_ more = some y := hm
 unfold s_l8Search_extend_w_F at hm
 refine rg G (Ok_seq (rg G (tF hm (fun _ => ⟨[(0, .ref 0 0), (1, .own 1)], [bX 0 [dV x.t_.Network.Stops, dV x.t_.Network.Lines, dV x.t_.Trips, dV x.change_, dV x.to_, dV x.arrive_], aX 1 40 legs], 48⟩) (fun v7 hr hm => ?_) ?_)))
 ·refine Ok_block (lp G hm (fun s => ⟨[(0, .ref 0 0), (1, .own 1), (2, dV stop), (3, dV at_), (4, dV more), (11, dV s)], [bX 0 [dV x.t_.Network.Stops, dV x.t_.Network.Lines, dV x.t_.Trips, dV x.change_, dV x.to_, dV x.arrive_], aX 1 40 legs], 48⟩) ?_)
  rintro s r0 hb hm
  rw [s_l8Search_extend_w_L3] at hm
  refine Ok_seq (rs G (hN 6 x.t_.Trips h0) ?_)
  refine cd hm (fun hm => ?_) (fun hm => ?_)
  ·refine X_skip (thN (jF hm (fun _ => ⟨[(0, .ref 0 0), (1, .own 1), (2, dV stop), (3, dV at_), (4, dV more), (11, dV s)], [bX 0 [dV x.t_.Network.Stops, dV x.t_.Network.Lines, dV x.t_.Trips, dV x.change_, dV x.to_, dV x.arrive_], aX 1 40 legs], 48⟩) (fun v6 hr1 hm => ?_) ?_))
   ·refine Ok_block (rg G (Ok_seq (rg G (tl hm (fun b1 => ⟨[(0, .ref 0 0), (1, .own 1), (2, dV stop), (3, dV at_), (4, dV more), (11, dV s), (12, dV b1)], [bX 0 [dV x.t_.Network.Stops, dV x.t_.Network.Lines, dV x.t_.Trips, dV x.change_, dV x.to_, dV x.arrive_], aX 1 40 legs], 48⟩) (fun b1 hm => ?_) ?_))))
    ·refine Ok_block (lp G hm (fun (b, leg) => ⟨[(0, .ref 0 0), (1, .own 1), (2, dV stop), (3, dV at_), (4, dV more), (11, dV s), (12, dV b), (13, dV leg)], [bX 0 [dV x.t_.Network.Stops, dV x.t_.Network.Lines, dV x.t_.Trips, dV x.change_, dV x.to_, dV x.arrive_], aX 1 40 legs], 48⟩) ?_)
     rintro ⟨b, leg⟩ r0 hb1 hm
     rw [s_l8Search_extend_w_L1] at hm
     refine Ok_seq (rs G (hN 2 legs h0) ?_)
     refine cd hm (fun hm => ?_) (fun hm => ?_)
     ·refine X_skip (thN (Ok_seq (Ok_block ?_)))
      rcases bf hm with ⟨hb2, hm⟩ | ⟨hb2, hm⟩
      ·refine de G [] (hO 1 (.b true) (hP hb2 h0)) ?_
       exact ibN (thN (rh G (wL G hm)))
      ·obtain ⟨e2, h2, hm⟩ := obind hm
       obtain ⟨e3, h3, hm⟩ := obind hm
       refine de G [] (hO 1 (.b false) (hP hb2 (hD 4 h2 (hE 6 h2 (hD 13 h3 h0))))) ?_
       exact ibN (thN (rh G (wL G hm)))
     ·exact Ok_exit (thE (thE (ibE (wD G hm hb1))))
    rintro b1 hm s1 hw
    refine thN (Ok_weak hw ?_)
    obtain ⟨r, h4, hm⟩ := obind hm
    obtain ⟨r1, h5, hm⟩ := obind hm
    refine rs G (hC 5 (s_l5Line_c h4) (hC 7 (s_l2Place_c h5) h0)) ?_
    refine Ok_seq (jn hm (fun v => ⟨[(0, .ref 0 0), (1, .own 1), (2, dV stop), (3, dV at_), (4, dV more), (11, dV s), (14, dV r1), (78, dV v)], [bX 0 [dV x.t_.Network.Stops, dV x.t_.Network.Lines, dV x.t_.Trips, dV x.change_, dV x.to_, dV x.arrive_], aX 1 40 legs], 48⟩) (fun v hm => ?_) ?_)
    ·rcases bf hm with ⟨hb3, hm⟩ | ⟨hb3, hm⟩
     ·refine re G (hO 1 (.b true) (hP hb3 h0)) ?_
      exact wJ G hm
     ·rcases bf hm with ⟨hb4, hm⟩ | ⟨hb4, hm⟩
      ·refine re G (hO 1 (.b false) (hP hb3 (hO 5 (.b true) (hP hb4 h0)))) ?_
       exact wJ G hm
      ·obtain ⟨r2, h6, hm⟩ := obind hm
       refine re G (hO 1 (.b false) (hP hb3 (hO 5 (.b false) (hP hb4 (hC 12 (s_l5At_c h6) h0))))) ?_
       exact wJ G hm
    rintro v hm
    refine cd hm (fun hm => ?_) (fun hm => ?_)
    ·exact Ok_exit (thE (ibE (wF G hm)))
    ·refine X_skip (thN ?_)
     obtain ⟨r3, h7, hm⟩ := obind hm
     refine rs G (hC 5 (s_l5Stops_c h7) h0) ?_
     refine rg G (tF hm (fun _ => ⟨[(0, .ref 0 0), (1, .own 1), (2, dV stop), (3, dV at_), (4, dV more), (11, dV s)], [bX 0 [dV x.t_.Network.Stops, dV x.t_.Network.Lines, dV x.t_.Trips, dV x.change_, dV x.to_, dV x.arrive_], aX 1 40 legs], 48⟩) (fun v5 hr3 hm => ?_) ?_)
     ·refine Ok_block (lp G hm (fun v1 => ⟨[(0, .ref 0 0), (1, .own 1), (2, dV stop), (3, dV at_), (4, dV more), (11, dV s), (14, dV r1), (15, dV r3), (16, dV v1)], [bX 0 [dV x.t_.Network.Stops, dV x.t_.Network.Lines, dV x.t_.Trips, dV x.change_, dV x.to_, dV x.arrive_], aX 1 40 legs], 48⟩) ?_)
      rintro v1 r0 hb5 hm
      rw [s_l8Search_extend_w_L2] at hm
      refine Ok_seq (rs G (hN 7 x.t_.Network.Stops h0) ?_)
      refine cd hm (fun hm => ?_) (fun hm => ?_)
      ·refine X_skip (thN (jF hm (fun _ => ⟨[(0, .ref 0 0), (1, .own 1), (2, dV stop), (3, dV at_), (4, dV more), (11, dV s), (14, dV r1), (15, dV r3), (16, dV v1)], [bX 0 [dV x.t_.Network.Stops, dV x.t_.Network.Lines, dV x.t_.Trips, dV x.change_, dV x.to_, dV x.arrive_], aX 1 40 legs], 48⟩) (fun v4 hr4 hm => ?_) ?_))
       ·refine Ok_block ?_
        obtain ⟨r4, h8, hm⟩ := obind hm
        obtain ⟨r5, h9, hm⟩ := obind hm
        refine rs G (hC 5 (s_l5Line_c h8) (hC 7 (s_l2Place_c h9) h0)) ?_
        refine Ok_seq (jn hm (fun v2 => ⟨[(0, .ref 0 0), (1, .own 1), (2, dV stop), (3, dV at_), (4, dV more), (11, dV s), (14, dV r1), (15, dV r3), (16, dV v1), (17, dV r5), (126, dV v2)], [bX 0 [dV x.t_.Network.Stops, dV x.t_.Network.Lines, dV x.t_.Trips, dV x.change_, dV x.to_, dV x.arrive_], aX 1 40 legs], 48⟩) (fun v2 hm => ?_) ?_)
        ·rcases bf hm with ⟨hb6, hm⟩ | ⟨hb6, hm⟩
         ·refine de G [] (hO 3 (.b true) (hP hb6 h0)) ?_
          exact wJ G hm
         ·rcases bf hm with ⟨hb7, hm⟩ | ⟨hb7, hm⟩
          ·refine de G [] (hO 3 (.b false) (hP hb6 (hN 6 r3 (hO 9 (.b true) (hP hb7 h0))))) ?_
           exact wJ G hm
          ·obtain ⟨r7, h11, hm⟩ := obind hm
           refine de G [] (hO 3 (.b false) (hP hb6 (hN 6 r3 (hO 9 (.b false) (hP hb7 (hC 16 (s_l5At_c h11) h0)))))) ?_
           exact wJ G hm
        rintro v2 hm
        refine cd hm (fun hm => ?_) (fun hm => ?_)
        ·exact Ok_exit (thE (ibE (wF G hm)))
        ·refine X_skip (thN ?_)
         obtain ⟨r8, h12, hm⟩ := obind hm
         refine rs G (hC 7 (s_l8Leg_c h12) h0) ?_
         obtain ⟨u2, h15, hm⟩ := obind hm
         obtain ⟨u3, h16, hm⟩ := obind hm
         refine ds G [(2, [1, 208]), (5, [240, 272])] (hA 2 40 h15 (hA 5 40 h16 h0)) ?_
         refine Ok_seq (rg G (cd hm (fun hm => ?_) (fun hm => ?_)))
         ·refine Ok_seq (jn hm (fun v3 => ⟨[(0, .ref 0 0), (1, .own 1), (2, dV stop), (3, dV at_), (4, dV more), (11, dV s), (14, dV r1), (15, dV r3), (16, dV v1), (19, .own 32), (157, dV v3)], [bX 0 [dV x.t_.Network.Stops, dV x.t_.Network.Lines, dV x.t_.Trips, dV x.change_, dV x.to_, dV x.arrive_], aX 1 40 legs, aX 32 40 ((([] : List Leg) ++ legs) ++ ([r8] : List Leg))], 64⟩) (fun v3 hm => ?_) ?_)
          ·rcases bf hm with ⟨hb8, hm⟩ | ⟨hb8, hm⟩
           ·refine de G [] (hO 6 (.b true) (hP hb8 h0)) ?_
            exact wJ G hm
           ·refine de G [] (hO 6 (.b false) (hP hb8 h0)) ?_
            exact wJ G hm
          rintro v3 hm
          refine cd hm (fun hm => ?_) (fun hm => ?_)
          ·refine rg G ?_
           have hm := eR hm hr4
           have hm := eL hm hb5 hr3
           have hm := eR hm hr1
           have hm := eL hm hb hr
           cases hm
           exact rt [32] []
          ·exact X_skip (thN (Ok_exit (thE (ibE (wF G hm)))))
         ·refine X_skip (thN ?_)
          obtain ⟨r14, h18, hm⟩ := obind hm
          refine ds G [(12, [0, 288])] (hC 12 (s_l8Search_extend_w_cR h18) h0) ?_
          refine rs G (hN 1 r14 h0) ?_
          refine cd hm (fun hm => ?_) (fun hm => ?_)
          ·refine rg G ?_
           have hm := eR hm hr4
           have hm := eL hm hb5 hr3
           have hm := eR hm hr1
           have hm := eL hm hb hr
           cases hm
           exact rt [544] []
          ·exact X_skip (ibN (wF G hm))
       rintro ⟨⟩ hm
       exact rh G (wL G hm)
      ·exact Ok_exit (thE (thE (ibE (wE G hm hb5))))
     rintro ⟨⟩ hm s2 hw1
     exact ibN (wFp hm (Wk.trans hw1 (Wk_J G.hL ⟨[(0, []), (1, []), (2, []), (3, []), (4, []), (11, [])], [(0, 0, []), (1, 1, [])], [], 48⟩ (by kernel_rfl))))
   rintro ⟨⟩ hm
   exact rh G (wL G hm)
  ·exact Ok_exit (thE (thE (ibE (wE G hm hb))))
 rintro ⟨⟩ hm s3 hw2
 refine thN (Ok_weak hw2 ?_)
 refine rg G ?_
 cases hm
 exact rt [48] []
theorem s_l8Search_extend_w_okn : ∀ k, FnOK Try.prog 212 (s_l8Search_extend_w_MR (s_l8Search_extend_w_k k)).S
 | 0 => ⟨fun args w => Try.call212 args w, fun vs w F ds obs κ hp => by obtain ⟨x, y, _, _, h⟩ := hp; cases h⟩
 | k + 1 => s_l8Search_extend_w_okF (s_l8Search_extend_w_okn k)
theorem s_l8Search_extend_w_ok : FnOK Try.prog 212 s_l8Search_extend_w_M.S := s_l8Search_extend_w_okn 4294967296
noncomputable def s_l8Search_extend_M : MS (l8Search × (List Leg) × Int × Int × Int) ((List Leg)) := ⟨.x .b (.x .r (.x .r (.x .r .r))), fun x => s_l8Search_extend x.1 x.2.1 x.2.2.1 x.2.2.2.1 x.2.2.2.2, fun _ => .own 0, fun y => [arO 40 y], fun x _ => [bxO x.1]⟩
theorem s_l8Search_extend_c {x legs stop at_ more y} (hm : s_l8Search_extend x legs stop at_ more = some y) : s_l8Search_extend_M.C (x, legs, stop, at_, more) y := s_l8Search_extend_M.c (x, legs, stop, at_, more) hm
theorem s_l8Search_extend_ok : FnOK Try.prog 212 s_l8Search_extend_M.S := by
 refine fm tt s_l8Search_extend_M [fo s_l5Line_ok, fo s_l2Place_ok, fo s_l5At_ok, fo s_l5Stops_ok, fo s_l8Leg_ok, fo s_l8Search_extend_w_ok] Try.call212 Try.func212 rfl Try.results212 Try.ntmps212 ?_
 rintro ⟨x, legs, stop, at_, more⟩ y cx G hm
 have hm : s_l8Search_extend x legs stop at_ more = some y := hm
 unfold s_l8Search_extend at hm
 refine rg G (Ok_seq (rg G (tF hm (fun _ => ⟨[(0, .ref 0 0)], [bX 0 [dV x.t_.Network.Stops, dV x.t_.Network.Lines, dV x.t_.Trips, dV x.change_, dV x.to_, dV x.arrive_]], 48⟩) (fun v7 hr hm => ?_) ?_)))
 ·refine Ok_block (lp G hm (fun s => ⟨[(0, .ref 0 0), (1, dV legs), (2, dV stop), (3, dV at_), (4, dV more), (11, dV s)], [bX 0 [dV x.t_.Network.Stops, dV x.t_.Network.Lines, dV x.t_.Trips, dV x.change_, dV x.to_, dV x.arrive_]], 48⟩) ?_)
  rintro s r0 hb hm
  rw [s_l8Search_extend_L3] at hm
  refine Ok_seq (rs G (hN 6 x.t_.Trips h0) ?_)
  refine cd hm (fun hm => ?_) (fun hm => ?_)
  ·refine X_skip (thN (jF hm (fun _ => ⟨[(0, .ref 0 0), (1, dV legs), (2, dV stop), (3, dV at_), (4, dV more), (11, dV s)], [bX 0 [dV x.t_.Network.Stops, dV x.t_.Network.Lines, dV x.t_.Trips, dV x.change_, dV x.to_, dV x.arrive_]], 48⟩) (fun v6 hr1 hm => ?_) ?_))
   ·refine Ok_block (rg G (Ok_seq (rg G (tl hm (fun b1 => ⟨[(0, .ref 0 0), (1, dV legs), (2, dV stop), (3, dV at_), (4, dV more), (11, dV s), (12, dV b1)], [bX 0 [dV x.t_.Network.Stops, dV x.t_.Network.Lines, dV x.t_.Trips, dV x.change_, dV x.to_, dV x.arrive_]], 48⟩) (fun b1 hm => ?_) ?_))))
    ·refine Ok_block (lp G hm (fun (b, leg) => ⟨[(0, .ref 0 0), (1, dV legs), (2, dV stop), (3, dV at_), (4, dV more), (11, dV s), (12, dV b), (13, dV leg)], [bX 0 [dV x.t_.Network.Stops, dV x.t_.Network.Lines, dV x.t_.Trips, dV x.change_, dV x.to_, dV x.arrive_]], 48⟩) ?_)
     rintro ⟨b, leg⟩ r0 hb1 hm
     rw [s_l8Search_extend_L1] at hm
     refine Ok_seq (rs G (hN 2 legs h0) ?_)
     refine cd hm (fun hm => ?_) (fun hm => ?_)
     ·refine X_skip (thN (Ok_seq (Ok_block ?_)))
      rcases bf hm with ⟨hb2, hm⟩ | ⟨hb2, hm⟩
      ·refine de G [] (hO 1 (.b true) (hP hb2 h0)) ?_
       exact ibN (thN (rh G (wL G hm)))
      ·obtain ⟨e2, h2, hm⟩ := obind hm
       obtain ⟨e3, h3, hm⟩ := obind hm
       refine de G [] (hO 1 (.b false) (hP hb2 (hD 4 h2 (hD 13 h3 h0)))) ?_
       exact ibN (thN (rh G (wL G hm)))
     ·exact Ok_exit (thE (thE (ibE (wD G hm hb1))))
    rintro b1 hm s1 hw
    refine thN (Ok_weak hw ?_)
    obtain ⟨r, h4, hm⟩ := obind hm
    obtain ⟨r1, h5, hm⟩ := obind hm
    refine rs G (hC 5 (s_l5Line_c h4) (hC 7 (s_l2Place_c h5) h0)) ?_
    refine Ok_seq (jn hm (fun v => ⟨[(0, .ref 0 0), (1, dV legs), (2, dV stop), (3, dV at_), (4, dV more), (11, dV s), (14, dV r1), (78, dV v)], [bX 0 [dV x.t_.Network.Stops, dV x.t_.Network.Lines, dV x.t_.Trips, dV x.change_, dV x.to_, dV x.arrive_]], 48⟩) (fun v hm => ?_) ?_)
    ·rcases bf hm with ⟨hb3, hm⟩ | ⟨hb3, hm⟩
     ·refine re G (hO 1 (.b true) (hP hb3 h0)) ?_
      exact wJ G hm
     ·rcases bf hm with ⟨hb4, hm⟩ | ⟨hb4, hm⟩
      ·refine re G (hO 1 (.b false) (hP hb3 (hO 5 (.b true) (hP hb4 h0)))) ?_
       exact wJ G hm
      ·obtain ⟨r2, h6, hm⟩ := obind hm
       refine re G (hO 1 (.b false) (hP hb3 (hO 5 (.b false) (hP hb4 (hC 12 (s_l5At_c h6) h0))))) ?_
       exact wJ G hm
    rintro v hm
    refine cd hm (fun hm => ?_) (fun hm => ?_)
    ·exact Ok_exit (thE (ibE (wF G hm)))
    ·refine X_skip (thN ?_)
     obtain ⟨r3, h7, hm⟩ := obind hm
     refine rs G (hC 5 (s_l5Stops_c h7) h0) ?_
     refine rg G (tF hm (fun _ => ⟨[(0, .ref 0 0), (1, dV legs), (2, dV stop), (3, dV at_), (4, dV more), (11, dV s)], [bX 0 [dV x.t_.Network.Stops, dV x.t_.Network.Lines, dV x.t_.Trips, dV x.change_, dV x.to_, dV x.arrive_]], 48⟩) (fun v5 hr3 hm => ?_) ?_)
     ·refine Ok_block (lp G hm (fun v1 => ⟨[(0, .ref 0 0), (1, dV legs), (2, dV stop), (3, dV at_), (4, dV more), (11, dV s), (14, dV r1), (15, dV r3), (16, dV v1)], [bX 0 [dV x.t_.Network.Stops, dV x.t_.Network.Lines, dV x.t_.Trips, dV x.change_, dV x.to_, dV x.arrive_]], 48⟩) ?_)
      rintro v1 r0 hb5 hm
      rw [s_l8Search_extend_L2] at hm
      refine Ok_seq (rs G (hN 7 x.t_.Network.Stops h0) ?_)
      refine cd hm (fun hm => ?_) (fun hm => ?_)
      ·refine X_skip (thN (jF hm (fun _ => ⟨[(0, .ref 0 0), (1, dV legs), (2, dV stop), (3, dV at_), (4, dV more), (11, dV s), (14, dV r1), (15, dV r3), (16, dV v1)], [bX 0 [dV x.t_.Network.Stops, dV x.t_.Network.Lines, dV x.t_.Trips, dV x.change_, dV x.to_, dV x.arrive_]], 48⟩) (fun v4 hr4 hm => ?_) ?_))
       ·refine Ok_block ?_
        obtain ⟨r4, h8, hm⟩ := obind hm
        obtain ⟨r5, h9, hm⟩ := obind hm
        refine rs G (hC 5 (s_l5Line_c h8) (hC 7 (s_l2Place_c h9) h0)) ?_
        refine Ok_seq (jn hm (fun v2 => ⟨[(0, .ref 0 0), (1, dV legs), (2, dV stop), (3, dV at_), (4, dV more), (11, dV s), (14, dV r1), (15, dV r3), (16, dV v1), (17, dV r5), (126, dV v2)], [bX 0 [dV x.t_.Network.Stops, dV x.t_.Network.Lines, dV x.t_.Trips, dV x.change_, dV x.to_, dV x.arrive_]], 48⟩) (fun v2 hm => ?_) ?_)
        ·rcases bf hm with ⟨hb6, hm⟩ | ⟨hb6, hm⟩
         ·refine de G [] (hO 3 (.b true) (hP hb6 h0)) ?_
          exact wJ G hm
         ·rcases bf hm with ⟨hb7, hm⟩ | ⟨hb7, hm⟩
          ·refine de G [] (hO 3 (.b false) (hP hb6 (hN 6 r3 (hO 9 (.b true) (hP hb7 h0))))) ?_
           exact wJ G hm
          ·obtain ⟨r7, h11, hm⟩ := obind hm
           refine de G [] (hO 3 (.b false) (hP hb6 (hN 6 r3 (hO 9 (.b false) (hP hb7 (hC 16 (s_l5At_c h11) h0)))))) ?_
           exact wJ G hm
        rintro v2 hm
        refine cd hm (fun hm => ?_) (fun hm => ?_)
        ·exact Ok_exit (thE (ibE (wF G hm)))
        ·refine X_skip (thN ?_)
         obtain ⟨r8, h12, hm⟩ := obind hm
         refine rs G (hC 7 (s_l8Leg_c h12) h0) ?_
         obtain ⟨u2, h15, hm⟩ := obind hm
         obtain ⟨u3, h16, hm⟩ := obind hm
         refine ds G [(2, [208]), (5, [240, 272])] (hA 2 40 h15 (hA 5 40 h16 h0)) ?_
         refine Ok_seq (rg G (cd hm (fun hm => ?_) (fun hm => ?_)))
         ·refine Ok_seq (jn hm (fun v3 => ⟨[(0, .ref 0 0), (1, dV legs), (2, dV stop), (3, dV at_), (4, dV more), (11, dV s), (14, dV r1), (15, dV r3), (16, dV v1), (19, .own 32), (157, dV v3)], [bX 0 [dV x.t_.Network.Stops, dV x.t_.Network.Lines, dV x.t_.Trips, dV x.change_, dV x.to_, dV x.arrive_], aX 32 40 ((([] : List Leg) ++ legs) ++ ([r8] : List Leg))], 64⟩) (fun v3 hm => ?_) ?_)
          ·rcases bf hm with ⟨hb8, hm⟩ | ⟨hb8, hm⟩
           ·refine de G [] (hO 6 (.b true) (hP hb8 h0)) ?_
            exact wJ G hm
           ·refine de G [] (hO 6 (.b false) (hP hb8 h0)) ?_
            exact wJ G hm
          rintro v3 hm
          refine cd hm (fun hm => ?_) (fun hm => ?_)
          ·refine rg G ?_
           have hm := eR hm hr4
           have hm := eL hm hb5 hr3
           have hm := eR hm hr1
           have hm := eL hm hb hr
           cases hm
           exact rt [32] []
          ·exact X_skip (thN (Ok_exit (thE (ibE (wF G hm)))))
         ·refine X_skip (thN ?_)
          obtain ⟨r14, h18, hm⟩ := obind hm
          refine ds G [(12, [0, 288])] (hC 12 (s_l8Search_extend_w_c h18) h0) ?_
          refine rs G (hN 1 r14 h0) ?_
          refine cd hm (fun hm => ?_) (fun hm => ?_)
          ·refine rg G ?_
           have hm := eR hm hr4
           have hm := eL hm hb5 hr3
           have hm := eR hm hr1
           have hm := eL hm hb hr
           cases hm
           exact rt [544] []
          ·exact X_skip (ibN (wF G hm))
       rintro ⟨⟩ hm
       exact rh G (wL G hm)
      ·exact Ok_exit (thE (thE (ibE (wE G hm hb5))))
     rintro ⟨⟩ hm s2 hw1
     exact ibN (wFp hm (Wk.trans hw1 (Wk_J G.hL ⟨[(0, []), (1, []), (2, []), (3, []), (4, []), (11, [])], [(0, 0, [])], [], 48⟩ (by kernel_rfl))))
   rintro ⟨⟩ hm
   exact rh G (wL G hm)
  ·exact Ok_exit (thE (thE (ibE (wE G hm hb))))
 rintro ⟨⟩ hm s3 hw2
 refine thN (Ok_weak hw2 ?_)
 refine rg G ?_
 cases hm
 exact rt [48] []
noncomputable def s_l8First_M : MS (Timetable × Int × Int × Int × Int × Int × Int) ((List Leg)) := ⟨.x .r (.x .r (.x .r (.x .r (.x .r (.x .r .r))))), fun x => s_l8First x.1 x.2.1 x.2.2.1 x.2.2.2.1 x.2.2.2.2.1 x.2.2.2.2.2.1 x.2.2.2.2.2.2, fun _ => .own 0, fun y => [arO 40 y], fun _ _ => []⟩
theorem s_l8First_c {t change from_ to at_ arrive legs y} (hm : s_l8First t change from_ to at_ arrive legs = some y) : s_l8First_M.C (t, change, from_, to, at_, arrive, legs) y := s_l8First_M.c (t, change, from_, to, at_, arrive, legs) hm
theorem s_l8First_ok : FnOK Try.prog 123 s_l8First_M.S := by
 refine fm tt s_l8First_M [fo s_l8Search_extend_ok] Try.call123 Try.func123 rfl Try.results123 Try.ntmps123 ?_
 rintro ⟨t, change, from_, to, at_, arrive, legs⟩ y cx G hm
 have hm : s_l8First t change from_ to at_ arrive legs = some y := hm
 unfold s_l8First at hm
 refine rg G (rg G ?_)
 obtain ⟨r, h, hm⟩ := obind hm
 refine rs G (hO 5 (.fz [176] [] []) (hC 5 (s_l8Search_extend_c h) h0)) ?_
 cases hm
 exact rt [240] []
noncomputable def s_l8Best_M : MS (Timetable × Int × Int × Int × Int) ((List Leg)) := ⟨.x .r (.x .r (.x .r (.x .r .r))), fun x => s_l8Best x.1 x.2.1 x.2.2.1 x.2.2.2.1 x.2.2.2.2, fun _ => .own 0, fun y => [arO 40 y], fun _ _ => []⟩
theorem s_l8Best_c {t change from_ to at_ y} (hm : s_l8Best t change from_ to at_ = some y) : s_l8Best_M.C (t, change, from_, to, at_) y := s_l8Best_M.c (t, change, from_, to, at_) hm
theorem s_l8Best_ok : FnOK Try.prog 201 s_l8Best_M.S := by
 refine fm tt s_l8Best_M [fo s_l8Arrivals_ok, fo s_l8First_ok] Try.call201 Try.func201 rfl Try.results201 Try.ntmps201 ?_
 rintro ⟨t, change, from_, to, at_⟩ y cx G hm
 have hm : s_l8Best t change from_ to at_ = some y := hm
 unfold s_l8Best at hm
 refine rg G ?_
 obtain ⟨r, h, hm⟩ := obind hm
 obtain ⟨e, h1, hm⟩ := obind hm
 refine rs G (hC 4 (s_l8Arrivals_c h) (hD 6 h1 (hE 7 h1 h0))) ?_
 refine Ok_seq (rg G (cd hm (fun hm => ?_) (fun hm => ?_)))
 ·refine rg G ?_
  cases hm
  exact rt [224] []
 ·refine X_skip (thN (Ok_seq (rg G (tF hm (fun _ => ⟨[], [], 32⟩) (fun v1 hr hm => ?_) ?_))))
  ·refine Ok_block (lp G hm (fun v => ⟨[(1, dV change), (2, dV from_), (3, dV to), (4, dV at_), (5, .ref 16 0), (11, dV e), (12, dV v)], [bX 16 [dV t.Network.Stops, dV t.Network.Lines, dV t.Trips]], 48⟩) ?_)
   rintro v r0 hb hm
   rw [s_l8Best_L1] at hm
   refine Ok_seq (rg G (cd hm (fun hm => ?_) (fun hm => ?_)))
   ·refine X_skip (thN (Ok_seq (Ok_block ?_)))
    obtain ⟨r1, h2, hm⟩ := obind hm
    obtain ⟨e1, h3, hm⟩ := obind hm
    refine rs G (hC 5 (s_l8Arrivals_c h2) (hD 7 h3 (hE 8 h3 h0))) ?_
    refine cd hm (fun hm => ?_) (fun hm => ?_)
    ·obtain ⟨r2, h4, hm⟩ := obind hm
     refine rs G (hC 7 (s_l8First_c h4) h0) ?_
     have hm := eL hm hb hr
     cases hm
     exact rt [368] []
    ·exact X_skip (ibN (thN (rh G (wL G hm))))
   ·exact Ok_exit (thE (thE (ibE (wE G hm hb))))
  rintro ⟨⟩ hm s hw
  refine thN (Ok_weak hw ?_)
  refine rg G ?_
  cases hm
  exact rt [32] []
noncomputable def s_l1Cur_idOf_M : MS (l1Cur × Timetable) (Int × l1Cur) := ⟨.x .b .r, fun x => s_l1Cur_idOf x.1 x.2, fun y => dV y.1, fun _ => [], fun _ y => [bxO y.2]⟩
theorem s_l1Cur_idOf_c {c t y} (hm : s_l1Cur_idOf c t = some y) : s_l1Cur_idOf_M.C (c, t) y := s_l1Cur_idOf_M.c (c, t) hm
theorem s_l1Cur_idOf_ok : FnOK Try.prog 99 s_l1Cur_idOf_M.S := by
 refine fm tt s_l1Cur_idOf_M [fo s_l1Cur_one_ok, fo s_l1Cur_pick_ok] Try.call99 Try.func99 rfl Try.results99 Try.ntmps99 ?_
 rintro ⟨c, t⟩ y cx G hm
 have hm : s_l1Cur_idOf c t = some y := hm
 unfold s_l1Cur_idOf at hm
 refine rg G (Ok_seq (jn hm (fun (v, v1, v2, v3) => ⟨[(0, .ref 0 0), (3, .ref 32 0), (12, dV v)], [bX 0 [dV v1, dV v2, kV .u64 v3], bX 32 [dV t.Network.Stops, dV t.Network.Lines, dV t.Trips]], 64⟩) (fun vv hm => ?_) ?_))
 ·rcases bf hm with ⟨hb, hm⟩ | ⟨hb, hm⟩
  ·refine re G (hN 2 t.Trips (hO 4 (.b true) (hP hb h0))) ?_
   exact wJ G hm
  ·obtain ⟨r, h, hm⟩ := obind hm
   refine re G (hN 2 t.Trips (hO 4 (.b false) (hP hb (hC 6 (s_l1Cur_one_c h) h0)))) ?_
   exact wJ G hm
 rintro ⟨v, v1, v2, v3⟩ hm
 refine cd hm (fun hm => ?_) (fun hm => ?_)
 ·obtain ⟨r1, h1, hm⟩ := obind hm
  refine rs G (hC 1 (s_l1Cur_pick_c h1) h0) ?_
  cases hm
  exact rt [] []
 ·refine X_skip (thN ?_)
  obtain ⟨r3, h4, hm⟩ := obind hm
  obtain ⟨e1, h5, hm⟩ := obind hm
  refine ds G [(6, [0])] (hN 5 t.Trips (hC 6 (s_l1Cur_pick_c h4) (hD 7 h5 h0))) ?_
  cases hm
  exact rt [] []
noncomputable def s_l1Cur_legs_M : MS (l1Cur × Timetable × Int) ((List Leg) × l1Cur) := ⟨.x .b (.x .r .r), fun x => s_l1Cur_legs x.1 x.2.1 x.2.2, fun _ => .own 0, fun y => [arO 40 y.1], fun _ y => [bxO y.2]⟩
theorem s_l1Cur_legs_c {c t change y} (hm : s_l1Cur_legs c t change = some y) : s_l1Cur_legs_M.C (c, t, change) y := s_l1Cur_legs_M.c (c, t, change) hm
theorem s_l1Cur_legs_ok : FnOK Try.prog 98 s_l1Cur_legs_M.S := by
 refine fm tt s_l1Cur_legs_M [fo s_l8Asked_ok, fo s_l1Cur_pick_ok, fo s_l1Most_ok, fo s_l8Best_ok, fo s_l1Cur_one_ok, fo s_l1Cur_idOf_ok] Try.call98 Try.func98 rfl Try.results98 Try.ntmps98 ?_
 rintro ⟨c, t, change⟩ y cx G hm
 have hm : s_l1Cur_legs c t change = some y := hm
 unfold s_l1Cur_legs at hm
 refine rg G (rs G (hN 3 t.Network.Stops h0) ?_)
 refine Ok_seq ?_
 obtain ⟨r, h, hm⟩ := obind hm
 refine jn hm (fun v => ⟨[(0, .ref 0 0), (2, dV change), (4, .ref 32 0), (7, dV (t.Network.Stops.length : Int)), (23, dV v)], [bX 0 [dV c.code_, dV c.at_, kV .u64 c.seed_.v], bX 32 [dV t.Network.Stops, dV t.Network.Lines, dV t.Trips]], 64⟩) (fun v hm => ?_) ?_
 ·rcases bf hm with ⟨hb, hm⟩ | ⟨hb, hm⟩
  ·refine re G (hC 2 (s_l8Asked_c h) (hO 4 (.b true) (hP hb h0))) ?_
   exact wJ G hm
  ·refine re G (hC 2 (s_l8Asked_c h) (hO 4 (.b false) (hP hb h0))) ?_
   exact wJ G hm
 rintro v hm
 refine cd hm (fun hm => ?_) (fun hm => ?_)
 ·refine rg G ?_
  cases hm
  exact rt [64] []
 ·refine X_skip (thN ?_)
  obtain ⟨r1, h1, hm⟩ := obind hm
  refine rs G (hC 2 (s_l1Cur_pick_c h1) h0) ?_
  obtain ⟨r6, h7, hm⟩ := obind hm
  obtain ⟨r7, h8, hm⟩ := obind hm
  obtain ⟨u1, h9, hm⟩ := obind hm
  obtain ⟨r8, h10, hm⟩ := obind hm
  obtain ⟨r9, h11, hm⟩ := obind hm
  refine ds G [(9, [0]), (14, [0])] (hC 8 (s_l1Most_c h7) (hC 9 (s_l1Cur_pick_c h8) (hK h9 (hC 14 (s_l1Cur_pick_c h10) (hC 17 (s_l8Best_c h11) h0))))) ?_
  refine jn hm (fun (v1, v2, v3, v4) => ⟨[(0, .ref 0 0), (9, .own 32)], [bX 0 [dV v1, dV v2, kV .u64 v3], aX 32 40 v4], 64⟩) (fun vv2 hm => ?_) ?_
  ·refine jn hm (fun (v5, v6, v7, v8) => ⟨[(0, .ref 0 0), (4, .ref 32 0), (7, dV (t.Network.Stops.length : Int)), (9, .own 48), (52, dV v5)], [bX 0 [dV v6, dV v7, kV .u64 v8], bX 32 [dV t.Network.Stops, dV t.Network.Lines, dV t.Trips], aX 48 40 r9], 80⟩) (fun vv1 hm => ?_) ?_
   ·rcases bf hm with ⟨hb1, hm⟩ | ⟨hb1, hm⟩
    ·obtain ⟨r10, h12, hm⟩ := obind hm
     refine re G (hN 1 r9 (hO 3 (.b true) (hP hb1 (hC 5 (s_l1Cur_one_c h12) h0)))) ?_
     exact wJ G hm
    ·refine re G (hN 1 r9 (hO 3 (.b false) (hP hb1 h0))) ?_
     exact wJ G hm
   rintro ⟨v5, v6, v7, v8⟩ hm
   refine cd hm (fun hm => ?_) (fun hm => ?_)
   ·obtain ⟨r11, h13, hm⟩ := obind hm
    refine rs G (hN 2 r9 (hC 3 (s_l1Cur_pick_c h13) h0)) ?_
    obtain ⟨e, h14, hm⟩ := obind hm
    refine rs G (hD 2 h14 (hE 3 h14 h0)) ?_
    refine jn hm (fun (v9, v10, v11, v12, v13, v14, v15) => ⟨[(0, .ref 0 0), (9, .own 32), (10, dV r11.1), (11, .ref 48 0)], [bX 0 [dV v9, dV v10, kV .u64 v11], aX 32 40 v12, bX 48 [dV v13, dV e.From, dV v14, dV v15, dV e.Arrive]], 80⟩) (fun vv hm => ?_) ?_
    ·obtain ⟨r12, h15, hm⟩ := obind hm
     refine rs G (hC 1 (s_l1Cur_pick_c h15) h0) ?_
     refine Ok_block (rg G (cd hm (fun hm => ?_) (fun hm => ?_)))
     ·exact rh G (ibN (wJ G hm))
     ·refine rg G (cd hm (fun hm => ?_) (fun hm => ?_))
      ·obtain ⟨r13, h16, hm⟩ := obind hm
       refine re G (hC 2 (s_l1Cur_pick_c h16) h0) ?_
       exact ibN (wJ G hm)
      ·refine rg G (cd hm (fun hm => ?_) (fun hm => ?_))
       ·obtain ⟨u2, h17, hm⟩ := obind hm
        refine re G (hA 3 40 h17 h0) ?_
        exact ibN (wJ G hm)
       ·obtain ⟨r14, h18, hm⟩ := obind hm
        refine re G (hC 2 (s_l1Cur_idOf_c h18) h0) ?_
        exact ibN (wJ G hm)
    rintro ⟨v9, v10, v11, v12, v13, v14, v15⟩ hm
    obtain ⟨e1, h19, hm⟩ := obind hm
    refine re G (hD 3 h19 (hS 4 h19 (⟨v13, e.From, v14, v15, e.Arrive⟩ : Leg) h0)) ?_
    exact wJ G hm
   ·exact X_skip (wJ G hm)
  rintro ⟨v1, v2, v3, v4⟩ hm
  refine rg G ?_
  cases hm
  exact rt [32] []
noncomputable def s_DrawIsValidJourney_M : MS ((List UInt8)) (Timetable × Int × (List Leg)) := ⟨.r, s_DrawIsValidJourney, fun y => .tup [dV y.1, dV y.2.1, .own 0], fun y => [arO 40 y.2.2], fun _ _ => []⟩
theorem s_DrawIsValidJourney_c {code y} (hm : s_DrawIsValidJourney code = some y) : s_DrawIsValidJourney_M.C code y := s_DrawIsValidJourney_M.c code hm
theorem s_DrawIsValidJourney_ok : FnOK Try.prog 110 s_DrawIsValidJourney_M.S := by
 refine fm tt s_DrawIsValidJourney_M [fo s_l1Cur_trips_ok, fo s_l1Cur_change_ok, fo s_l1Cur_legs_ok] Try.call110 Try.func110 rfl Try.results110 Try.ntmps110 ?_
 rintro code y cx G hm
 have hm : s_DrawIsValidJourney code = some y := hm
 unfold s_DrawIsValidJourney at hm
 refine rg G (rg G ?_)
 obtain ⟨r, h, hm⟩ := obind hm
 obtain ⟨r1, h1, hm⟩ := obind hm
 refine rs G (hC 1 (s_l1Cur_trips_c h) (hC 3 (s_l1Cur_change_c h1) h0)) ?_
 refine Ok_weak (Wk_J (x' := (⟨[(2, .ref 16 0), (5, .ref 32 0), (6, .ref 48 0), (7, dV r1.1)], [bX 16 [.dat (.sc (.slice none 0 0)), .dat (.sc (.slice none 0 0)), .dat (.sc (.slice none 0 0))], bX 32 [dV r1.2.code_, dV r1.2.at_, kV .u64 r1.2.seed_.v], bX 48 [dV r.1.Network.Stops, dV r.1.Network.Lines, dV r.1.Trips]], 80⟩ : X)) G.hL ⟨[(2, []), (5, []), (6, []), (7, [])], [(16, 16, []), (32, 96, []), (48, 192, [])], [], 80⟩ (by kernel_rfl)) ?_
 obtain ⟨r3, h3, hm⟩ := obind hm
 refine ds G [(5, [32]), (6, [16])] (hC 5 (s_l1Cur_legs_c h3) h0) ?_
 cases hm
 exact rt [160] []
noncomputable def s_DrawJourneyTimes_M : MS ((List UInt8)) (Timetable × Int × (List Leg)) := ⟨.r, s_DrawJourneyTimes, fun y => .tup [dV y.1, dV y.2.1, .own 0], fun y => [arO 40 y.2.2], fun _ _ => []⟩
theorem s_DrawJourneyTimes_c {code y} (hm : s_DrawJourneyTimes code = some y) : s_DrawJourneyTimes_M.C code y := s_DrawJourneyTimes_M.c code hm
theorem s_DrawJourneyTimes_ok : FnOK Try.prog 18 s_DrawJourneyTimes_M.S := by
 refine fm tt s_DrawJourneyTimes_M [fo s_DrawIsValidJourney_ok] Try.call18 Try.func18 rfl Try.results18 Try.ntmps18 ?_
 rintro code y cx G hm
 have hm : s_DrawJourneyTimes code = some y := hm
 unfold s_DrawJourneyTimes at hm
 refine rg G ?_
 obtain ⟨r, h, hm⟩ := obind hm
 refine rs G (hC 1 (s_DrawIsValidJourney_c h) h0) ?_
 cases hm
 exact rt [80] []
noncomputable def i_within_M : MS (Int × Int × Int) Bool := ⟨.x .r (.x .r .r), fun x => i_within x.1 x.2.1 x.2.2, fun y => dV y, fun _ => [], fun _ _ => []⟩
theorem i_within_c {n lo hi y} (hm : i_within n lo hi = some y) : i_within_M.C (n, lo, hi) y := i_within_M.c (n, lo, hi) hm
theorem i_within_ok : FnOK Try.prog 104 i_within_M.S := by
 refine fm tt i_within_M [] Try.call104 Try.func104 rfl Try.results104 Try.ntmps104 ?_
 rintro ⟨n, lo, hi⟩ y cx G hm
 have hm : i_within n lo hi = some y := hm
 unfold i_within at hm
 refine rg G (jn hm (fun v => ⟨[(6, dV v)], [], 32⟩) (fun v hm => ?_) ?_)
 ·rcases bf hm with ⟨hb, hm⟩ | ⟨hb, hm⟩
  ·refine re G (hO 3 (.b true) (hP hb h0)) ?_
   exact wJ G hm
  ·refine re G (hO 3 (.b false) (hP hb h0)) ?_
   exact wJ G hm
 rintro v hm
 cases hm
 exact rt [] []
noncomputable def i_isName_M : MS ByteArray Bool := ⟨.r, i_isName, fun y => dV y, fun _ => [], fun _ _ => []⟩
theorem i_isName_c {s y} (hm : i_isName s = some y) : i_isName_M.C s y := i_isName_M.c s hm
theorem i_isName_ok : FnOK Try.prog 148 i_isName_M.S := by
 refine fm tt i_isName_M [] Try.call148 Try.func148 rfl Try.results148 Try.ntmps148 ?_
 rintro s y cx G hm
 have hm : i_isName s = some y := hm
 unfold i_isName at hm
 refine rg G (Ok_seq (jn hm (fun v => ⟨[(0, dV s), (12, dV v)], [], 32⟩) (fun v hm => ?_) ?_))
 ·rcases bf hm with ⟨hb, hm⟩ | ⟨hb, hm⟩
  ·refine re G (hO 3 (.b true) (hP hb h0)) ?_
   exact wJ G hm
  ·refine re G (hO 3 (.b false) (hP hb h0)) ?_
   exact wJ G hm
 rintro v hm
 refine cd hm (fun hm => ?_) (fun hm => ?_)
 ·refine rg G ?_
  cases hm
  exact rt [] []
 ·refine X_skip (thN (Ok_seq (rg G (tF hm (fun _ => ⟨[], [], 32⟩) (fun v4 hr hm => ?_) ?_))))
  ·refine Ok_block (lp G hm (fun v1 => ⟨[(0, dV s), (14, dV (s.size : Int)), (15, dV v1)], [], 32⟩) ?_)
   rintro v1 r0 hb1 hm
   rw [i_isName_L1] at hm
   refine rg G (Ok_seq (cd hm (fun hm => ?_) (fun hm => ?_)))
   ·refine X_skip (thN (Ok_seq (Ok_block (rg G ?_))))
    obtain ⟨u, h, hm⟩ := obind hm
    refine jn hm (fun v2 => ⟨[(0, dV s), (3, dV v1), (4, dV v2), (14, dV (s.size : Int)), (15, dV v1)], [], 32⟩) (fun v2 hm => ?_) ?_
    ·rcases bf hm with ⟨hb2, hm⟩ | ⟨hb2, hm⟩
     ·obtain ⟨u1, h1, hm⟩ := obind hm
      refine re G (hK h (hO 4 (.b true) (hP hb2 (hK h1 h0)))) ?_
      exact wJ G hm
     ·refine re G (hK h (hO 4 (.b false) (hP hb2 h0))) ?_
      exact wJ G hm
    rintro v2 hm
    refine jn hm (fun v3 => ⟨[(0, dV s), (14, dV (s.size : Int)), (15, dV v1), (45, dV v3)], [], 32⟩) (fun v3 hm => ?_) ?_
    ·rcases bf hm with ⟨hb3, hm⟩ | ⟨hb3, hm⟩
     ·rcases bf hm with ⟨hb4, hm⟩ | ⟨hb4, hm⟩
      ·refine re G (hO 2 (.b true) (hP hb3 (hO 5 (.b true) (hP hb4 h0)))) ?_
       exact wJ G hm
      ·obtain ⟨u2, h2, hm⟩ := obind hm
       rcases bf hm with ⟨hb5, hm⟩ | ⟨hb5, hm⟩
       ·refine re G (hO 2 (.b true) (hP hb3 (hO 5 (.b false) (hP hb4 (hK h2 (hO 11 (.b true) (hP hb5 h0))))))) ?_
        exact wJ G hm
       ·obtain ⟨u3, h3, hm⟩ := obind hm
        refine re G (hO 2 (.b true) (hP hb3 (hO 5 (.b false) (hP hb4 (hK h2 (hO 11 (.b false) (hP hb5 (hK h3 h0)))))))) ?_
        exact wJ G hm
     ·refine re G (hO 2 (.b false) (hP hb3 h0)) ?_
      exact wJ G hm
    rintro v3 hm
    refine cd hm (fun hm => ?_) (fun hm => ?_)
    ·refine rg G ?_
     have hm := eL hm hb1 hr
     cases hm
     exact rt [] []
    ·exact X_skip (ibN (thN (rh G (wL G hm))))
   ·exact Ok_exit (thE (thE (ibE (wE G hm hb1))))
  rintro ⟨⟩ hm s1 hw
  refine thN (Ok_weak hw ?_)
  refine rg G ?_
  cases hm
  exact rt [] []
noncomputable def slices_Index_string_M : MS ((List ByteArray) × ByteArray) Int := ⟨.x .r .r, fun x => slices_Index_string x.1 x.2, fun y => dV y, fun _ => [], fun _ _ => []⟩
theorem slices_Index_string_c {s v y} (hm : slices_Index_string s v = some y) : slices_Index_string_M.C (s, v) y := slices_Index_string_M.c (s, v) hm
theorem slices_Index_string_ok : FnOK Try.prog 260 slices_Index_string_M.S := by
 refine fm tt slices_Index_string_M [] Try.call260 Try.func260 rfl Try.results260 Try.ntmps260 ?_
 rintro ⟨s, v⟩ y cx G hm
 have hm : slices_Index_string s v = some y := hm
 unfold slices_Index_string at hm
 refine rg G (Ok_seq (rs G (hN 1 s h0) ?_))
 refine tF hm (fun _ => ⟨[], [], 32⟩) (fun v2 hr hm => ?_) ?_
 ·refine Ok_block (lp G hm (fun v1 => ⟨[(0, dV s), (1, dV v), (7, dV (s.length : Int)), (8, dV v1)], [], 32⟩) ?_)
  rintro v1 r0 hb hm
  rw [slices_Index_string_L1] at hm
  refine rg G (Ok_seq (cd hm (fun hm => ?_) (fun hm => ?_)))
  ·refine X_skip (thN (Ok_seq (Ok_block (rg G ?_))))
   obtain ⟨e, h, hm⟩ := obind hm
   refine rs G (hD 3 h h0) ?_
   refine cd hm (fun hm => ?_) (fun hm => ?_)
   ·refine rg G ?_
    have hm := eL hm hb hr
    cases hm
    exact rt [] []
   ·exact X_skip (ibN (thN (rh G (wL G hm))))
  ·exact Ok_exit (thE (thE (ibE (wE G hm hb))))
 rintro ⟨⟩ hm s1 hw
 refine thN (Ok_weak hw ?_)
 refine rg G ?_
 cases hm
 exact rt [] []
noncomputable def i_areNames_M : MS ((List ByteArray)) Bool := ⟨.r, i_areNames, fun y => dV y, fun _ => [], fun _ _ => []⟩
theorem i_areNames_c {names y} (hm : i_areNames names = some y) : i_areNames_M.C names y := i_areNames_M.c names hm
theorem i_areNames_ok : FnOK Try.prog 218 i_areNames_M.S := by
 refine fm tt i_areNames_M [fo i_isName_ok, fo slices_Index_string_ok] Try.call218 Try.func218 rfl Try.results218 Try.ntmps218 ?_
 rintro names y cx G hm
 have hm : i_areNames names = some y := hm
 unfold i_areNames at hm
 refine rg G (Ok_seq (rs G (hN 1 names h0) ?_))
 refine tF hm (fun _ => ⟨[], [], 32⟩) (fun v2 hr hm => ?_) ?_
 ·refine Ok_block (lp G hm (fun v => ⟨[(0, dV names), (5, dV names), (6, dV (names.length : Int)), (7, dV v)], [], 32⟩) ?_)
  rintro v r0 hb hm
  rw [i_areNames_L1] at hm
  refine rg G (Ok_seq (cd hm (fun hm => ?_) (fun hm => ?_)))
  ·refine X_skip (thN (Ok_seq (Ok_block ?_)))
   obtain ⟨e, h, hm⟩ := obind hm
   refine rs G (hD 1 h h0) ?_
   obtain ⟨r, h1, hm⟩ := obind hm
   refine jn hm (fun v1 => ⟨[(0, dV names), (5, dV names), (6, dV (names.length : Int)), (7, dV v), (21, dV v1)], [], 32⟩) (fun v1 hm => ?_) ?_
   ·rcases bf hm with ⟨hb1, hm⟩ | ⟨hb1, hm⟩
    ·refine re G (hC 1 (i_isName_c h1) (hO 3 (.b true) (hP hb1 h0))) ?_
     exact wJ G hm
    ·obtain ⟨r1, h2, hm⟩ := obind hm
     refine re G (hC 1 (i_isName_c h1) (hO 3 (.b false) (hP hb1 (hC 6 (slices_Index_string_c h2) h0)))) ?_
     exact wJ G hm
   rintro v1 hm
   refine cd hm (fun hm => ?_) (fun hm => ?_)
   ·refine rg G ?_
    have hm := eL hm hb hr
    cases hm
    exact rt [] []
   ·exact X_skip (ibN (thN (rh G (wL G hm))))
  ·exact Ok_exit (thE (thE (ibE (wE G hm hb))))
 rintro ⟨⟩ hm s hw
 refine thN (Ok_weak hw ?_)
 refine rg G ?_
 cases hm
 exact rt [] []
noncomputable def i_lineNames_M : MS Network ((List ByteArray)) := ⟨.r, i_lineNames, fun _ => .own 0, fun y => [arO 9 y], fun _ _ => []⟩
theorem i_lineNames_c {n y} (hm : i_lineNames n = some y) : i_lineNames_M.C n y := i_lineNames_M.c n hm
theorem i_lineNames_ok : FnOK Try.prog 219 i_lineNames_M.S := by
 refine fm tt i_lineNames_M [] Try.call219 Try.func219 rfl Try.results219 Try.ntmps219 ?_
 rintro n y cx G hm
 have hm : i_lineNames n = some y := hm
 unfold i_lineNames at hm
 refine rg G ?_
 obtain ⟨u, h, hm⟩ := obind hm
 refine rs G (hN 2 n.Lines (hO 3 (.l (List.map Enc.e (List.replicate (n.Lines.length : Int).toNat (ByteArray.empty : ByteArray)))) (hP (mk_p (b := 16) (chk_t h) rfl) (hP (rep_m Enc.e (n.Lines.length : Int).toNat (ByteArray.empty : ByteArray)) h0)))) ?_
 refine Ok_seq (rs G (hN 2 n.Lines h0) ?_)
 refine tl hm (fun i1 => ⟨[(3, .own 16)], [aX 16 9 i1], 48⟩) (fun i1 hm => ?_) ?_
 ·refine Ok_block (lp G hm (fun (v, i) => ⟨[(3, .own 16), (11, dV n.Lines), (12, dV (n.Lines.length : Int)), (13, dV v)], [aX 16 9 i], 48⟩) ?_)
  rintro ⟨v, i⟩ r0 hb hm
  rw [i_lineNames_L1] at hm
  refine rg G (Ok_seq (cd hm (fun hm => ?_) (fun hm => ?_)))
  ·refine X_skip (thN (Ok_seq (Ok_block ?_)))
   obtain ⟨e, h1, hm⟩ := obind hm
   refine rs G (hD 1 h1 h0) ?_
   obtain ⟨e1, h2, hm⟩ := obind hm
   refine re G (hD 4 h2 (hS 5 h2 e.Name h0)) ?_
   exact ibN (thN (rh G (wL G hm)))
  ·exact Ok_exit (thE (thE (ibE (wD G hm hb))))
 rintro i1 hm s hw
 refine thN (Ok_weak hw ?_)
 refine rg G ?_
 cases hm
 exact rt [16] []
noncomputable def i_isStop_M : MS (Network × Int) Bool := ⟨.x .r .r, fun x => i_isStop x.1 x.2, fun y => dV y, fun _ => [], fun _ _ => []⟩
theorem i_isStop_c {n stop y} (hm : i_isStop n stop = some y) : i_isStop_M.C (n, stop) y := i_isStop_M.c (n, stop) hm
theorem i_isStop_ok : FnOK Try.prog 113 i_isStop_M.S := by
 refine fm tt i_isStop_M [] Try.call113 Try.func113 rfl Try.results113 Try.ntmps113 ?_
 rintro ⟨n, stop⟩ y cx G hm
 have hm : i_isStop n stop = some y := hm
 unfold i_isStop at hm
 refine rg G (jn hm (fun v => ⟨[(4, dV v)], [], 32⟩) (fun v hm => ?_) ?_)
 ·rcases bf hm with ⟨hb, hm⟩ | ⟨hb, hm⟩
  ·refine re G (hO 2 (.b true) (hP hb (hN 6 n.Stops h0))) ?_
   exact wJ G hm
  ·refine re G (hO 2 (.b false) (hP hb h0)) ?_
   exact wJ G hm
 rintro v hm
 cases hm
 exact rt [] []
noncomputable def slices_Index_int_M : MS ((List Int) × Int) Int := ⟨.x .r .r, fun x => slices_Index_int x.1 x.2, fun y => dV y, fun _ => [], fun _ _ => []⟩
theorem slices_Index_int_c {s v y} (hm : slices_Index_int s v = some y) : slices_Index_int_M.C (s, v) y := slices_Index_int_M.c (s, v) hm
theorem slices_Index_int_ok : FnOK Try.prog 116 slices_Index_int_M.S := by
 refine fm tt slices_Index_int_M [] Try.call116 Try.func116 rfl Try.results116 Try.ntmps116 ?_
 rintro ⟨s, v⟩ y cx G hm
 have hm : slices_Index_int s v = some y := hm
 unfold slices_Index_int at hm
 refine rg G (Ok_seq (rs G (hN 1 s h0) ?_))
 refine tF hm (fun _ => ⟨[], [], 32⟩) (fun v2 hr hm => ?_) ?_
 ·refine Ok_block (lp G hm (fun v1 => ⟨[(0, dV s), (1, dV v), (7, dV (s.length : Int)), (8, dV v1)], [], 32⟩) ?_)
  rintro v1 r0 hb hm
  rw [slices_Index_int_L1] at hm
  refine rg G (Ok_seq (cd hm (fun hm => ?_) (fun hm => ?_)))
  ·refine X_skip (thN (Ok_seq (Ok_block (rg G ?_))))
   obtain ⟨e, h, hm⟩ := obind hm
   refine rs G (hD 3 h h0) ?_
   refine cd hm (fun hm => ?_) (fun hm => ?_)
   ·refine rg G ?_
    have hm := eL hm hb hr
    cases hm
    exact rt [] []
   ·exact X_skip (ibN (thN (rh G (wL G hm))))
  ·exact Ok_exit (thE (thE (ibE (wE G hm hb))))
 rintro ⟨⟩ hm s1 hw
 refine thN (Ok_weak hw ?_)
 refine rg G ?_
 cases hm
 exact rt [] []
noncomputable def i_isValidLine_M : MS (Network × Line) Bool := ⟨.x .r .r, fun x => i_isValidLine x.1 x.2, fun y => dV y, fun _ => [], fun _ _ => []⟩
theorem i_isValidLine_c {n l y} (hm : i_isValidLine n l = some y) : i_isValidLine_M.C (n, l) y := i_isValidLine_M.c (n, l) hm
theorem i_isValidLine_ok : FnOK Try.prog 220 i_isValidLine_M.S := by
 refine fm tt i_isValidLine_M [fo i_within_ok, fo i_isStop_ok, fo slices_Index_int_ok] Try.call220 Try.func220 rfl Try.results220 Try.ntmps220 ?_
 rintro ⟨n, l⟩ y cx G hm
 have hm : i_isValidLine n l = some y := hm
 unfold i_isValidLine at hm
 refine rg G (Ok_seq ?_)
 obtain ⟨r, h, hm⟩ := obind hm
 refine jn hm (fun v => ⟨[(2, .ref 16 0), (3, .ref 32 0), (23, dV v)], [bX 16 [dV n.Stops, dV n.Lines], bX 32 [dV l.Name, dV l.Stops, dV l.Runs]], 64⟩) (fun v hm => ?_) ?_
 ·rcases bf hm with ⟨hb, hm⟩ | ⟨hb, hm⟩
  ·refine re G (hN 2 l.Stops (hC 3 (i_within_c h) (hO 5 (.b true) (hP hb h0)))) ?_
   exact wJ G hm
  ·refine re G (hN 2 l.Stops (hC 3 (i_within_c h) (hO 5 (.b false) (hP hb (hN 8 l.Runs (hN 11 l.Stops h0)))))) ?_
   exact wJ G hm
 rintro v hm
 refine cd hm (fun hm => ?_) (fun hm => ?_)
 ·refine rg G ?_
  cases hm
  exact rt [] []
 ·refine X_skip (thN (Ok_seq (rs G (hN 2 l.Stops h0) ?_)))
  refine tF hm (fun _ => ⟨[(3, .ref 16 0)], [bX 16 [dV l.Name, dV l.Stops, dV l.Runs]], 48⟩) (fun v5 hr hm => ?_) ?_
  ·refine Ok_block (lp G hm (fun v1 => ⟨[(2, .ref 16 0), (3, .ref 32 0), (25, dV l.Stops), (26, dV (l.Stops.length : Int)), (27, dV v1)], [bX 16 [dV n.Stops, dV n.Lines], bX 32 [dV l.Name, dV l.Stops, dV l.Runs]], 64⟩) ?_)
   rintro v1 r0 hb1 hm
   rw [i_isValidLine_L1] at hm
   refine rg G (Ok_seq (cd hm (fun hm => ?_) (fun hm => ?_)))
   ·refine X_skip (thN (Ok_seq (Ok_block ?_)))
    obtain ⟨e, h1, hm⟩ := obind hm
    refine rs G (hD 1 h1 h0) ?_
    obtain ⟨r1, h2, hm⟩ := obind hm
    refine jn hm (fun v2 => ⟨[(2, .ref 16 0), (3, .ref 32 0), (25, dV l.Stops), (26, dV (l.Stops.length : Int)), (27, dV v1), (43, dV v2)], [bX 16 [dV n.Stops, dV n.Lines], bX 32 [dV l.Name, dV l.Stops, dV l.Runs]], 64⟩) (fun v2 hm => ?_) ?_
    ·rcases bf hm with ⟨hb2, hm⟩ | ⟨hb2, hm⟩
     ·refine re G (hC 2 (i_isStop_c h2) (hO 4 (.b true) (hP hb2 h0))) ?_
      exact wJ G hm
     ·obtain ⟨r2, h3, hm⟩ := obind hm
      refine re G (hC 2 (i_isStop_c h2) (hO 4 (.b false) (hP hb2 (hC 8 (slices_Index_int_c h3) h0)))) ?_
      exact wJ G hm
    rintro v2 hm
    refine cd hm (fun hm => ?_) (fun hm => ?_)
    ·refine rg G ?_
     have hm := eL hm hb1 hr
     cases hm
     exact rt [] []
    ·exact X_skip (ibN (thN (rh G (wL G hm))))
   ·exact Ok_exit (thE (thE (ibE (wE G hm hb1))))
  rintro ⟨⟩ hm s hw
  refine thN (Ok_weak hw ?_)
  refine Ok_seq (rs G (hN 2 l.Runs h0) ?_)
  refine tF hm (fun _ => ⟨[], [], 32⟩) (fun v4 hr1 hm => ?_) ?_
  ·refine Ok_block (lp G hm (fun v3 => ⟨[(46, dV l.Runs), (47, dV (l.Runs.length : Int)), (48, dV v3)], [], 32⟩) ?_)
   rintro v3 r0 hb3 hm
   rw [i_isValidLine_L2] at hm
   refine rg G (Ok_seq (cd hm (fun hm => ?_) (fun hm => ?_)))
   ·refine X_skip (thN (Ok_seq (Ok_block ?_)))
    obtain ⟨e2, h4, hm⟩ := obind hm
    refine rs G (hD 0 h4 h0) ?_
    obtain ⟨r4, h5, hm⟩ := obind hm
    refine rs G (hC 1 (i_within_c h5) h0) ?_
    refine cd hm (fun hm => ?_) (fun hm => ?_)
    ·refine rg G ?_
     have hm := eL hm hb3 hr1
     cases hm
     exact rt [] []
    ·exact X_skip (ibN (thN (rh G (wL G hm))))
   ·exact Ok_exit (thE (thE (ibE (wE G hm hb3))))
  rintro ⟨⟩ hm s1 hw1
  refine thN (Ok_weak hw1 ?_)
  refine rg G ?_
  cases hm
  exact rt [] []
noncomputable def i_IsValidNetwork_M : MS Network Bool := ⟨.r, i_IsValidNetwork, fun y => dV y, fun _ => [], fun _ _ => []⟩
theorem i_IsValidNetwork_c {n y} (hm : i_IsValidNetwork n = some y) : i_IsValidNetwork_M.C n y := i_IsValidNetwork_M.c n hm
theorem i_IsValidNetwork_ok : FnOK Try.prog 133 i_IsValidNetwork_M.S := by
 refine fm tt i_IsValidNetwork_M [fo i_within_ok, fo i_areNames_ok, fo i_lineNames_ok, fo i_isValidLine_ok] Try.call133 Try.func133 rfl Try.results133 Try.ntmps133 ?_
 rintro n y cx G hm
 have hm : i_IsValidNetwork n = some y := hm
 unfold i_IsValidNetwork at hm
 refine rg G (Ok_seq ?_)
 obtain ⟨r, h, hm⟩ := obind hm
 refine jn hm (fun v => ⟨[(1, .ref 16 0), (28, dV v)], [bX 16 [dV n.Stops, dV n.Lines]], 48⟩) (fun v hm => ?_) ?_
 ·rcases bf hm with ⟨hb, hm⟩ | ⟨hb, hm⟩
  ·refine re G (hN 2 n.Stops (hC 3 (i_within_c h) (hO 5 (.b true) (hP hb h0)))) ?_
   exact wJ G hm
  ·obtain ⟨r1, h1, hm⟩ := obind hm
   rcases bf hm with ⟨hb1, hm⟩ | ⟨hb1, hm⟩
   ·refine re G (hN 2 n.Stops (hC 3 (i_within_c h) (hO 5 (.b false) (hP hb (hN 8 n.Lines (hC 9 (i_within_c h1) (hO 12 (.b true) (hP hb1 h0)))))))) ?_
    exact wJ G hm
   ·obtain ⟨r2, h2, hm⟩ := obind hm
    rcases bf hm with ⟨hb2, hm⟩ | ⟨hb2, hm⟩
    ·refine re G (hN 2 n.Stops (hC 3 (i_within_c h) (hO 5 (.b false) (hP hb (hN 8 n.Lines (hC 9 (i_within_c h1) (hO 12 (.b false) (hP hb1 (hC 15 (i_areNames_c h2) (hO 18 (.b true) (hP hb2 h0))))))))))) ?_
     exact wJ G hm
    ·obtain ⟨r3, h3, hm⟩ := obind hm
     obtain ⟨r4, h4, hm⟩ := obind hm
     refine re G (hN 2 n.Stops (hC 3 (i_within_c h) (hO 5 (.b false) (hP hb (hN 8 n.Lines (hC 9 (i_within_c h1) (hO 12 (.b false) (hP hb1 (hC 15 (i_areNames_c h2) (hO 18 (.b false) (hP hb2 (hC 20 (i_lineNames_c h3) (hC 21 (i_areNames_c h4) h0))))))))))))) ?_
     exact wJ G hm
 rintro v hm
 refine cd hm (fun hm => ?_) (fun hm => ?_)
 ·refine rg G ?_
  cases hm
  exact rt [] []
 ·refine X_skip (thN (Ok_seq (rs G (hN 2 n.Lines h0) ?_)))
  refine tF hm (fun _ => ⟨[], [], 32⟩) (fun v2 hr hm => ?_) ?_
  ·refine Ok_block (lp G hm (fun v1 => ⟨[(1, .ref 16 0), (30, dV n.Lines), (31, dV (n.Lines.length : Int)), (32, dV v1)], [bX 16 [dV n.Stops, dV n.Lines]], 48⟩) ?_)
   rintro v1 r0 hb3 hm
   rw [i_IsValidNetwork_L1] at hm
   refine rg G (Ok_seq (cd hm (fun hm => ?_) (fun hm => ?_)))
   ·refine X_skip (thN (Ok_seq (Ok_block ?_)))
    obtain ⟨e, h5, hm⟩ := obind hm
    refine rs G (hD 0 h5 h0) ?_
    obtain ⟨r5, h6, hm⟩ := obind hm
    refine rs G (hC 2 (i_isValidLine_c h6) h0) ?_
    refine cd hm (fun hm => ?_) (fun hm => ?_)
    ·refine rg G ?_
     have hm := eL hm hb3 hr
     cases hm
     exact rt [] []
    ·exact X_skip (ibN (thN (rh G (wL G hm))))
   ·exact Ok_exit (thE (thE (ibE (wE G hm hb3))))
  rintro ⟨⟩ hm s hw
  refine thN (Ok_weak hw ?_)
  refine rg G ?_
  cases hm
  exact rt [] []
noncomputable def i_isLine_M : MS (Network × Int) Bool := ⟨.x .r .r, fun x => i_isLine x.1 x.2, fun y => dV y, fun _ => [], fun _ _ => []⟩
theorem i_isLine_c {n line y} (hm : i_isLine n line = some y) : i_isLine_M.C (n, line) y := i_isLine_M.c (n, line) hm
theorem i_isLine_ok : FnOK Try.prog 172 i_isLine_M.S := by
 refine fm tt i_isLine_M [] Try.call172 Try.func172 rfl Try.results172 Try.ntmps172 ?_
 rintro ⟨n, line⟩ y cx G hm
 have hm : i_isLine n line = some y := hm
 unfold i_isLine at hm
 refine rg G (jn hm (fun v => ⟨[(4, dV v)], [], 32⟩) (fun v hm => ?_) ?_)
 ·rcases bf hm with ⟨hb, hm⟩ | ⟨hb, hm⟩
  ·refine re G (hO 2 (.b true) (hP hb (hN 6 n.Lines h0))) ?_
   exact wJ G hm
  ·refine re G (hO 2 (.b false) (hP hb h0)) ?_
   exact wJ G hm
 rintro v hm
 cases hm
 exact rt [] []
noncomputable def i_IsValidTime_M : MS Int Bool := ⟨.r, i_IsValidTime, fun y => dV y, fun _ => [], fun _ _ => []⟩
theorem i_IsValidTime_c {t y} (hm : i_IsValidTime t = some y) : i_IsValidTime_M.C t y := i_IsValidTime_M.c t hm
theorem i_IsValidTime_ok : FnOK Try.prog 119 i_IsValidTime_M.S := by
 refine fm tt i_IsValidTime_M [fo i_within_ok] Try.call119 Try.func119 rfl Try.results119 Try.ntmps119 ?_
 rintro t y cx G hm
 have hm : i_IsValidTime t = some y := hm
 unfold i_IsValidTime at hm
 refine rg G ?_
 obtain ⟨r, h, hm⟩ := obind hm
 refine rs G (hC 1 (i_within_c h) h0) ?_
 cases hm
 exact rt [] []
noncomputable def i_total_M : MS ((List Int)) Int := ⟨.r, i_total, fun y => dV y, fun _ => [], fun _ _ => []⟩
theorem i_total_c {list y} (hm : i_total list = some y) : i_total_M.C list y := i_total_M.c list hm
theorem i_total_ok : FnOK Try.prog 237 i_total_M.S := by
 refine fm tt i_total_M [] Try.call237 Try.func237 rfl Try.results237 Try.ntmps237 ?_
 rintro list y cx G hm
 have hm : i_total list = some y := hm
 unfold i_total at hm
 refine rg G (rg G (Ok_seq (rs G (hN 1 list h0) ?_)))
 refine tl hm (fun v2 => ⟨[(3, dV v2)], [], 32⟩) (fun v2 hm => ?_) ?_
 ·refine Ok_block (lp G hm (fun (v, v1) => ⟨[(3, dV v), (6, dV list), (7, dV (list.length : Int)), (8, dV v1)], [], 32⟩) ?_)
  rintro ⟨v, v1⟩ r0 hb hm
  rw [i_total_L1] at hm
  refine rg G (Ok_seq (cd hm (fun hm => ?_) (fun hm => ?_)))
  ·refine X_skip (thN (Ok_seq (Ok_block ?_)))
   obtain ⟨e, h, hm⟩ := obind hm
   refine rs G (hD 0 h h0) ?_
   exact rh G (ibN (thN (rh G (wL G hm))))
  ·exact Ok_exit (thE (thE (ibE (wD G hm hb))))
 rintro v2 hm s hw
 refine thN (Ok_weak hw ?_)
 refine rg G ?_
 cases hm
 exact rt [] []
noncomputable def i_endOf_M : MS (Timetable × Trip) Int := ⟨.x .r .r, fun x => i_endOf x.1 x.2, fun y => dV y, fun _ => [], fun _ _ => []⟩
theorem i_endOf_c {t x y} (hm : i_endOf t x = some y) : i_endOf_M.C (t, x) y := i_endOf_M.c (t, x) hm
theorem i_endOf_ok : FnOK Try.prog 163 i_endOf_M.S := by
 refine fm tt i_endOf_M [fo i_total_ok] Try.call163 Try.func163 rfl Try.results163 Try.ntmps163 ?_
 rintro ⟨t, x⟩ y cx G hm
 have hm : i_endOf t x = some y := hm
 unfold i_endOf at hm
 refine rg G ?_
 obtain ⟨e1, h2, hm⟩ := obind hm
 obtain ⟨r1, h3, hm⟩ := obind hm
 refine ds G [] (hD 7 h2 (hC 10 (i_total_c h3) h0)) ?_
 cases hm
 exact rt [] []
noncomputable def i_areTrips_M : MS Timetable Bool := ⟨.r, i_areTrips, fun y => dV y, fun _ => [], fun _ _ => []⟩
theorem i_areTrips_c {t y} (hm : i_areTrips t = some y) : i_areTrips_M.C t y := i_areTrips_M.c t hm
theorem i_areTrips_ok : FnOK Try.prog 134 i_areTrips_M.S := by
 refine fm tt i_areTrips_M [fo i_isLine_ok, fo i_IsValidTime_ok, fo i_endOf_ok] Try.call134 Try.func134 rfl Try.results134 Try.ntmps134 ?_
 rintro t y cx G hm
 have hm : i_areTrips t = some y := hm
 unfold i_areTrips at hm
 refine rg G (Ok_seq (rs G (hN 2 t.Trips h0) ?_))
 refine cd hm (fun hm => ?_) (fun hm => ?_)
 ·refine rg G ?_
  cases hm
  exact rt [] []
 ·refine X_skip (thN (rg G (Ok_seq (rs G (hN 2 t.Trips h0) ?_))))
  refine tF hm (fun _ => ⟨[], [], 32⟩) (fun v3 hr hm => ?_) ?_
  ·refine Ok_block (lp G hm (fun (v, v1) => ⟨[(1, .ref 16 0), (3, dV v), (11, dV t.Trips), (12, dV (t.Trips.length : Int)), (13, dV v1)], [bX 16 [dV t.Network.Stops, dV t.Network.Lines, dV t.Trips]], 48⟩) ?_)
   rintro ⟨v, v1⟩ r0 hb hm
   rw [i_areTrips_L1] at hm
   refine rg G (Ok_seq (cd hm (fun hm => ?_) (fun hm => ?_)))
   ·refine X_skip (thN (Ok_seq (Ok_block ?_)))
    obtain ⟨e, h, hm⟩ := obind hm
    refine rs G (hD 0 h h0) ?_
    refine Ok_seq (jn hm (fun v2 => ⟨[(1, .ref 16 0), (5, .ref 32 0), (11, dV t.Trips), (12, dV (t.Trips.length : Int)), (13, dV v1), (46, dV v2)], [bX 16 [dV t.Network.Stops, dV t.Network.Lines, dV t.Trips], bX 32 [dV e.Id, dV e.Line, dV e.Start]], 64⟩) (fun v2 hm => ?_) ?_)
    ·rcases bf hm with ⟨hb1, hm⟩ | ⟨hb1, hm⟩
     ·refine re G (hO 4 (.b true) (hP hb1 h0)) ?_
      exact wJ G hm
     ·rcases bf hm with ⟨hb2, hm⟩ | ⟨hb2, hm⟩
      ·refine re G (hO 4 (.b false) (hP hb1 (hO 9 (.b true) (hP hb2 h0)))) ?_
       exact wJ G hm
      ·obtain ⟨r, h1, hm⟩ := obind hm
       rcases bf hm with ⟨hb3, hm⟩ | ⟨hb3, hm⟩
       ·refine re G (hO 4 (.b false) (hP hb1 (hO 9 (.b false) (hP hb2 (hC 14 (i_isLine_c h1) (hO 17 (.b true) (hP hb3 h0))))))) ?_
        exact wJ G hm
       ·obtain ⟨r1, h2, hm⟩ := obind hm
        rcases bf hm with ⟨hb4, hm⟩ | ⟨hb4, hm⟩
        ·refine re G (hO 4 (.b false) (hP hb1 (hO 9 (.b false) (hP hb2 (hC 14 (i_isLine_c h1) (hO 17 (.b false) (hP hb3 (hC 20 (i_IsValidTime_c h2) (hO 23 (.b true) (hP hb4 h0)))))))))) ?_
         exact wJ G hm
        ·obtain ⟨r2, h3, hm⟩ := obind hm
         obtain ⟨r3, h4, hm⟩ := obind hm
         refine re G (hO 4 (.b false) (hP hb1 (hO 9 (.b false) (hP hb2 (hC 14 (i_isLine_c h1) (hO 17 (.b false) (hP hb3 (hC 20 (i_IsValidTime_c h2) (hO 23 (.b false) (hP hb4 (hC 26 (i_endOf_c h3) (hC 27 (i_IsValidTime_c h4) h0)))))))))))) ?_
         exact wJ G hm
    rintro v2 hm
    refine cd hm (fun hm => ?_) (fun hm => ?_)
    ·refine rg G ?_
     have hm := eL hm hb hr
     cases hm
     exact rt [] []
    ·exact X_skip (thN (rh G (ibN (thN (rh G (wL G hm))))))
   ·exact Ok_exit (thE (thE (ibE (wE G hm hb))))
  rintro ⟨⟩ hm s hw
  refine thN (Ok_weak hw ?_)
  refine rg G ?_
  cases hm
  exact rt [] []
noncomputable def i_IsValidTimetable_M : MS Timetable Bool := ⟨.r, i_IsValidTimetable, fun y => dV y, fun _ => [], fun _ _ => []⟩
theorem i_IsValidTimetable_c {t y} (hm : i_IsValidTimetable t = some y) : i_IsValidTimetable_M.C t y := i_IsValidTimetable_M.c t hm
theorem i_IsValidTimetable_ok : FnOK Try.prog 32 i_IsValidTimetable_M.S := by
 refine fm tt i_IsValidTimetable_M [fo i_IsValidNetwork_ok, fo i_areTrips_ok] Try.call32 Try.func32 rfl Try.results32 Try.ntmps32 ?_
 rintro t y cx G hm
 have hm : i_IsValidTimetable t = some y := hm
 unfold i_IsValidTimetable at hm
 refine rg G ?_
 obtain ⟨r, h, hm⟩ := obind hm
 refine jn hm (fun v => ⟨[(2, dV v)], [], 32⟩) (fun v hm => ?_) ?_
 ·rcases bf hm with ⟨hb, hm⟩ | ⟨hb, hm⟩
  ·obtain ⟨r1, h1, hm⟩ := obind hm
   refine re G (hC 2 (i_IsValidNetwork_c h) (hO 3 (.b true) (hP hb (hC 5 (i_areTrips_c h1) h0)))) ?_
   exact wJ G hm
  ·refine re G (hC 2 (i_IsValidNetwork_c h) (hO 3 (.b false) (hP hb h0))) ?_
   exact wJ G hm
 rintro v hm
 cases hm
 exact rt [] []
noncomputable def i_isChange_M : MS Int Bool := ⟨.r, i_isChange, fun y => dV y, fun _ => [], fun _ _ => []⟩
theorem i_isChange_c {change y} (hm : i_isChange change = some y) : i_isChange_M.C change y := i_isChange_M.c change hm
theorem i_isChange_ok : FnOK Try.prog 111 i_isChange_M.S := by
 refine fm tt i_isChange_M [fo i_within_ok] Try.call111 Try.func111 rfl Try.results111 Try.ntmps111 ?_
 rintro change y cx G hm
 have hm : i_isChange change = some y := hm
 unfold i_isChange at hm
 refine rg G ?_
 obtain ⟨r, h, hm⟩ := obind hm
 refine rs G (hC 1 (i_within_c h) h0) ?_
 cases hm
 exact rt [] []
noncomputable def i_tripIndex_1_M : MS (Trip × Int) Bool := ⟨.x .r .b, fun x => i_tripIndex_1 x.1 x.2, fun y => dV y, fun _ => [], fun x _ => [bxO x.2]⟩
theorem i_tripIndex_1_c {x c1 y} (hm : i_tripIndex_1 x c1 = some y) : i_tripIndex_1_M.C (x, c1) y := i_tripIndex_1_M.c (x, c1) hm
theorem i_tripIndex_1_ok : FnOK Try.prog 204 i_tripIndex_1_M.S := by
 refine fm tt i_tripIndex_1_M [] Try.call204 Try.func204 rfl Try.results204 Try.ntmps204 ?_
 rintro ⟨x, c1⟩ y cx G hm
 have hm : i_tripIndex_1 x c1 = some y := hm
 unfold i_tripIndex_1 at hm
 refine rg G (rg G ?_)
 cases hm
 exact rt [] []
noncomputable def slices_IndexFunc_Trip__i_tripIndex_1_M : MS ((List Trip) × Int) Int := ⟨⟨[.rd, .fn 204 [.bx]], fun x => [Enc.e x.1, .agg [.sc undef]], fun x => [bxO x.2], 1, fun _ => rfl, fun _ => rfl, (by
  rintro ⟨a0, a1⟩ ⟨b0, b1⟩ h hO
  have q0 : a0 = b0 := qI 0 h
  have q1 : a1 = b1 := Enc.inj _ _ (congrArg (fun l => (obD l 0).getD 0 (.sc undef)) hO)
  subst q0; subst q1; rfl)⟩, fun x => slices_IndexFunc_Trip__i_tripIndex_1 x.1 x.2, fun y => dV y, fun _ => [], fun x _ => [bxO x.2]⟩
theorem slices_IndexFunc_Trip__i_tripIndex_1_c {s c1 y} (hm : slices_IndexFunc_Trip__i_tripIndex_1 s c1 = some y) : slices_IndexFunc_Trip__i_tripIndex_1_M.C (s, c1) y := slices_IndexFunc_Trip__i_tripIndex_1_M.c (s, c1) hm
theorem slices_IndexFunc_Trip__i_tripIndex_1_ok : FnOK Try.prog 203 slices_IndexFunc_Trip__i_tripIndex_1_M.S := by
 refine fm tt slices_IndexFunc_Trip__i_tripIndex_1_M [fo i_tripIndex_1_ok] Try.call203 Try.func203 rfl Try.results203 Try.ntmps203 ?_
 rintro ⟨s, c1⟩ y cx G hm
 have hm : slices_IndexFunc_Trip__i_tripIndex_1 s c1 = some y := hm
 obtain ⟨f, hf_f⟩ : ∃ q, (fun (z0 : Trip) => i_tripIndex_1 z0 c1) = q := ⟨_, rfl⟩
 have hm : slices_IndexFunc_Trip s f = some y := by rw [← hf_f]; exact hm
 unfold slices_IndexFunc_Trip at hm
 refine rg G (Ok_seq (rs G (hN 1 s h0) ?_))
 refine tF hm (fun _ => ⟨[(1, .fn 204 [.ref 0 0])], [bX 0 [dV c1]], 48⟩) (fun v1 hr hm => ?_) ?_
 ·refine Ok_block (lp G hm (fun v => ⟨[(0, dV s), (1, .fn 204 [.ref 0 0]), (7, dV (s.length : Int)), (8, dV v)], [bX 0 [dV c1]], 48⟩) ?_)
  rintro v r0 hb hm
  rw [slices_IndexFunc_Trip_L1] at hm
  refine rg G (Ok_seq (cd hm (fun hm => ?_) (fun hm => ?_)))
  ·refine X_skip (thN (Ok_seq (Ok_block (rg G ?_))))
   obtain ⟨e, h, hm⟩ := obind hm
   obtain ⟨r, h1, hm⟩ := obind hm
   have h1 : i_tripIndex_1 e c1 = some r := by rw [← hf_f] at h1; exact h1
   refine rs G (hD 3 h (hC 5 (i_tripIndex_1_c h1) h0)) ?_
   refine cd hm (fun hm => ?_) (fun hm => ?_)
   ·refine rg G ?_
    have hm := eL hm hb hr
    cases hm
    exact rt [] []
   ·exact X_skip (ibN (thN (rh G (wL G hm))))
  ·exact Ok_exit (thE (thE (ibE (wE G hm hb))))
 rintro ⟨⟩ hm s1 hw
 refine thN (Ok_weak hw ?_)
 refine rg G ?_
 cases hm
 exact rt [] []
noncomputable def i_tripIndex_M : MS (Timetable × Int) Int := ⟨.x .r .r, fun x => i_tripIndex x.1 x.2, fun y => dV y, fun _ => [], fun _ _ => []⟩
theorem i_tripIndex_c {t id y} (hm : i_tripIndex t id = some y) : i_tripIndex_M.C (t, id) y := i_tripIndex_M.c (t, id) hm
theorem i_tripIndex_ok : FnOK Try.prog 103 i_tripIndex_M.S := by
 refine fm tt i_tripIndex_M [fo slices_IndexFunc_Trip__i_tripIndex_1_ok] Try.call103 Try.func103 rfl Try.results103 Try.ntmps103 ?_
 rintro ⟨t, id⟩ y cx G hm
 have hm : i_tripIndex t id = some y := hm
 unfold i_tripIndex at hm
 refine rg G ?_
 obtain ⟨r, h, hm⟩ := obind hm
 refine rs G (hC 3 (slices_IndexFunc_Trip__i_tripIndex_1_c h) h0) ?_
 cases hm
 exact rt [] []
noncomputable def i_lineOf_M : MS (Timetable × Trip) Line := ⟨.x .r .r, fun x => i_lineOf x.1 x.2, fun y => dV y, fun _ => [], fun _ _ => []⟩
theorem i_lineOf_c {t x y} (hm : i_lineOf t x = some y) : i_lineOf_M.C (t, x) y := i_lineOf_M.c (t, x) hm
theorem i_lineOf_ok : FnOK Try.prog 115 i_lineOf_M.S := by
 refine fm tt i_lineOf_M [] Try.call115 Try.func115 rfl Try.results115 Try.ntmps115 ?_
 rintro ⟨t, x⟩ y cx G hm
 have hm : i_lineOf t x = some y := hm
 unfold i_lineOf at hm
 refine rg G ?_
 obtain ⟨e, h, hm⟩ := obind hm
 refine rs G (hD 5 h h0) ?_
 cases hm
 exact rt [] []
noncomputable def i_stopTimes_M : MS (Timetable × Trip) ((List Int)) := ⟨.x .r .r, fun x => i_stopTimes x.1 x.2, fun _ => .own 0, fun y => [arO 3 y], fun _ _ => []⟩
theorem i_stopTimes_c {t x y} (hm : i_stopTimes t x = some y) : i_stopTimes_M.C (t, x) y := i_stopTimes_M.c (t, x) hm
theorem i_stopTimes_ok : FnOK Try.prog 136 i_stopTimes_M.S := by
 refine fm tt i_stopTimes_M [fo i_lineOf_ok] Try.call136 Try.func136 rfl Try.results136 Try.ntmps136 ?_
 rintro ⟨t, x⟩ y cx G hm
 have hm : i_stopTimes t x = some y := hm
 unfold i_stopTimes at hm
 refine rg G (rg G (Ok_seq ?_))
 obtain ⟨r, h, hm⟩ := obind hm
 refine rs G (hC 2 (i_lineOf_c h) (hN 4 r.Runs h0)) ?_
 refine tl hm (fun r2 => ⟨[(5, .own 16)], [aX 16 3 r2], 48⟩) (fun r2 hm => ?_) ?_
 ·refine Ok_block (lp G hm (fun (v, r1) => ⟨[(5, .own 16), (14, dV r.Runs), (15, dV (r.Runs.length : Int)), (16, dV v)], [aX 16 3 r1], 48⟩) ?_)
  rintro ⟨v, r1⟩ r0 hb hm
  rw [i_stopTimes_L1] at hm
  refine rg G (Ok_seq (cd hm (fun hm => ?_) (fun hm => ?_)))
  ·refine X_skip (thN (Ok_seq (Ok_block ?_)))
   obtain ⟨e, h1, hm⟩ := obind hm
   refine rs G (hD 1 h1 h0) ?_
   obtain ⟨e1, h2, hm⟩ := obind hm
   obtain ⟨u, h3, hm⟩ := obind hm
   refine re G (hD 3 h2 (hE 4 h2 (hA 8 8 h3 h0))) ?_
   exact ibN (thN (rh G (wL G hm)))
  ·exact Ok_exit (thE (thE (ibE (wD G hm hb))))
 rintro r2 hm s hw
 refine thN (Ok_weak hw ?_)
 refine rg G ?_
 cases hm
 exact rt [16] []
noncomputable def i_fillLeg_M : MS (Timetable × Trip × Int × Int) (Leg × Bool) := ⟨.x .r (.x .r (.x .r .r)), fun x => i_fillLeg x.1 x.2.1 x.2.2.1 x.2.2.2, fun y => .tup [dV y.1, dV y.2], fun _ => [], fun _ _ => []⟩
theorem i_fillLeg_c {t x from_ to y} (hm : i_fillLeg t x from_ to = some y) : i_fillLeg_M.C (t, x, from_, to) y := i_fillLeg_M.c (t, x, from_, to) hm
theorem i_fillLeg_ok : FnOK Try.prog 114 i_fillLeg_M.S := by
 refine fm tt i_fillLeg_M [fo i_lineOf_ok, fo slices_Index_int_ok, fo i_stopTimes_ok] Try.call114 Try.func114 rfl Try.results114 Try.ntmps114 ?_
 rintro ⟨t, x, from_, to⟩ y cx G hm
 have hm : i_fillLeg t x from_ to = some y := hm
 unfold i_fillLeg at hm
 refine rg G ?_
 obtain ⟨r, h, hm⟩ := obind hm
 refine rs G (hC 2 (i_lineOf_c h) h0) ?_
 obtain ⟨r1, h1, hm⟩ := obind hm
 obtain ⟨r2, h2, hm⟩ := obind hm
 refine rs G (hC 2 (slices_Index_int_c h1) (hC 5 (slices_Index_int_c h2) h0)) ?_
 refine Ok_seq (jn hm (fun v => ⟨[(2, dV from_), (3, dV to), (4, .ref 16 0), (5, .ref 32 0), (8, .ref 48 0), (11, dV r1), (12, dV r2), (30, dV v)], [bX 16 [dV t.Network.Stops, dV t.Network.Lines, dV t.Trips], bX 32 [dV x.Id, dV x.Line, dV x.Start], bX 48 [kV .i64 0, kV .i64 0, kV .i64 0, kV .i64 0, kV .i64 0]], 80⟩) (fun v hm => ?_) ?_)
 ·rcases bf hm with ⟨hb, hm⟩ | ⟨hb, hm⟩
  ·refine re G (hO 2 (.b true) (hP hb h0)) ?_
   exact wJ G hm
  ·refine re G (hO 2 (.b false) (hP hb h0)) ?_
   exact wJ G hm
 rintro v hm
 refine cd hm (fun hm => ?_) (fun hm => ?_)
 ·refine rg G ?_
  cases hm
  exact rt [] []
 ·refine X_skip (thN ?_)
  obtain ⟨r3, h3, hm⟩ := obind hm
  refine rs G (hC 2 (i_stopTimes_c h3) h0) ?_
  obtain ⟨e2, h6, hm⟩ := obind hm
  obtain ⟨e3, h7, hm⟩ := obind hm
  refine ds G [(13, [48])] (hD 6 h6 (hE 7 h6 (hD 10 h7 (hE 11 h7 h0)))) ?_
  cases hm
  exact rt [] []
noncomputable def i_isJourney_1_M : MS (Leg × Leg) Bool := ⟨.x .r .b, fun x => i_isJourney_1 x.1 x.2, fun y => dV y, fun _ => [], fun x _ => [bxO x.2]⟩
theorem i_isJourney_1_c {b c1 y} (hm : i_isJourney_1 b c1 = some y) : i_isJourney_1_M.C (b, c1) y := i_isJourney_1_M.c (b, c1) hm
theorem i_isJourney_1_ok : FnOK Try.prog 207 i_isJourney_1_M.S := by
 refine fm tt i_isJourney_1_M [] Try.call207 Try.func207 rfl Try.results207 Try.ntmps207 ?_
 rintro ⟨b, c1⟩ y cx G hm
 have hm : i_isJourney_1 b c1 = some y := hm
 unfold i_isJourney_1 at hm
 refine rg G (rg G ?_)
 cases hm
 exact rt [] []
noncomputable def slices_IndexFunc_Leg__i_isJourney_1_M : MS ((List Leg) × Leg) Int := ⟨⟨[.rd, .fn 207 [.bx]], fun x => [Enc.e x.1, .agg [.sc undef]], fun x => [bxO x.2], 1, fun _ => rfl, fun _ => rfl, (by
  rintro ⟨a0, a1⟩ ⟨b0, b1⟩ h hO
  have q0 : a0 = b0 := qI 0 h
  have q1 : a1 = b1 := Enc.inj _ _ (congrArg (fun l => D.agg (obD l 0)) hO)
  subst q0; subst q1; rfl)⟩, fun x => slices_IndexFunc_Leg__i_isJourney_1 x.1 x.2, fun y => dV y, fun _ => [], fun x _ => [bxO x.2]⟩
theorem slices_IndexFunc_Leg__i_isJourney_1_c {s c1 y} (hm : slices_IndexFunc_Leg__i_isJourney_1 s c1 = some y) : slices_IndexFunc_Leg__i_isJourney_1_M.C (s, c1) y := slices_IndexFunc_Leg__i_isJourney_1_M.c (s, c1) hm
theorem slices_IndexFunc_Leg__i_isJourney_1_ok : FnOK Try.prog 253 slices_IndexFunc_Leg__i_isJourney_1_M.S := by
 refine fm tt slices_IndexFunc_Leg__i_isJourney_1_M [fo i_isJourney_1_ok] Try.call253 Try.func253 rfl Try.results253 Try.ntmps253 ?_
 rintro ⟨s, c1⟩ y cx G hm
 have hm : slices_IndexFunc_Leg__i_isJourney_1 s c1 = some y := hm
 obtain ⟨f, hf_f⟩ : ∃ q, (fun (z0 : Leg) => i_isJourney_1 z0 c1) = q := ⟨_, rfl⟩
 have hm : slices_IndexFunc_Leg s f = some y := by rw [← hf_f]; exact hm
 unfold slices_IndexFunc_Leg at hm
 refine rg G (Ok_seq (rs G (hN 1 s h0) ?_))
 refine tF hm (fun _ => ⟨[(1, .fn 207 [.ref 0 0])], [bX 0 [dV c1.Trip, dV c1.From, dV c1.To, dV c1.Depart, dV c1.Arrive]], 48⟩) (fun v1 hr hm => ?_) ?_
 ·refine Ok_block (lp G hm (fun v => ⟨[(0, dV s), (1, .fn 207 [.ref 0 0]), (7, dV (s.length : Int)), (8, dV v)], [bX 0 [dV c1.Trip, dV c1.From, dV c1.To, dV c1.Depart, dV c1.Arrive]], 48⟩) ?_)
  rintro v r0 hb hm
  rw [slices_IndexFunc_Leg_L1] at hm
  refine rg G (Ok_seq (cd hm (fun hm => ?_) (fun hm => ?_)))
  ·refine X_skip (thN (Ok_seq (Ok_block (rg G ?_))))
   obtain ⟨e, h, hm⟩ := obind hm
   obtain ⟨r, h1, hm⟩ := obind hm
   have h1 : i_isJourney_1 e c1 = some r := by rw [← hf_f] at h1; exact h1
   refine rs G (hD 3 h (hC 5 (i_isJourney_1_c h1) h0)) ?_
   refine cd hm (fun hm => ?_) (fun hm => ?_)
   ·refine rg G ?_
    have hm := eL hm hb hr
    cases hm
    exact rt [] []
   ·exact X_skip (ibN (thN (rh G (wL G hm))))
  ·exact Ok_exit (thE (thE (ibE (wE G hm hb))))
 rintro ⟨⟩ hm s1 hw
 refine thN (Ok_weak hw ?_)
 refine rg G ?_
 cases hm
 exact rt [] []
noncomputable def slices_ContainsFunc_Leg__i_isJourney_1_M : MS ((List Leg) × Leg) Bool := ⟨⟨[.rd, .fn 207 [.bx]], fun x => [Enc.e x.1, .agg [.sc undef]], fun x => [bxO x.2], 1, fun _ => rfl, fun _ => rfl, (by
  rintro ⟨a0, a1⟩ ⟨b0, b1⟩ h hO
  have q0 : a0 = b0 := qI 0 h
  have q1 : a1 = b1 := Enc.inj _ _ (congrArg (fun l => D.agg (obD l 0)) hO)
  subst q0; subst q1; rfl)⟩, fun x => slices_ContainsFunc_Leg__i_isJourney_1 x.1 x.2, fun y => dV y, fun _ => [], fun x _ => [bxO x.2]⟩
theorem slices_ContainsFunc_Leg__i_isJourney_1_c {s c1 y} (hm : slices_ContainsFunc_Leg__i_isJourney_1 s c1 = some y) : slices_ContainsFunc_Leg__i_isJourney_1_M.C (s, c1) y := slices_ContainsFunc_Leg__i_isJourney_1_M.c (s, c1) hm
theorem slices_ContainsFunc_Leg__i_isJourney_1_ok : FnOK Try.prog 206 slices_ContainsFunc_Leg__i_isJourney_1_M.S := by
 refine fm tt slices_ContainsFunc_Leg__i_isJourney_1_M [fo slices_IndexFunc_Leg__i_isJourney_1_ok] Try.call206 Try.func206 rfl Try.results206 Try.ntmps206 ?_
 rintro ⟨s, c1⟩ y cx G hm
 have hm : slices_ContainsFunc_Leg__i_isJourney_1 s c1 = some y := hm
 obtain ⟨f, hf_f⟩ : ∃ q, (fun (z0 : Leg) => i_isJourney_1 z0 c1) = q := ⟨_, rfl⟩
 have hm : slices_ContainsFunc_Leg s f = some y := by rw [← hf_f]; exact hm
 unfold slices_ContainsFunc_Leg at hm
 refine rg G ?_
 obtain ⟨r, h, hm⟩ := obind hm
 have h : slices_IndexFunc_Leg__i_isJourney_1 s c1 = some r := by rw [← hf_f] at h; exact h
 refine rs G (hC 2 (slices_IndexFunc_Leg__i_isJourney_1_c h) h0) ?_
 cases hm
 exact rt [] []
noncomputable def i_isJourney_M : MS (Timetable × Int × (List Leg)) Bool := ⟨.x .r (.x .r .r), fun x => i_isJourney x.1 x.2.1 x.2.2, fun y => dV y, fun _ => [], fun _ _ => []⟩
theorem i_isJourney_c {t change legs y} (hm : i_isJourney t change legs = some y) : i_isJourney_M.C (t, change, legs) y := i_isJourney_M.c (t, change, legs) hm
theorem i_isJourney_ok : FnOK Try.prog 112 i_isJourney_M.S := by
 refine fm tt i_isJourney_M [fo i_within_ok, fo i_tripIndex_ok, fo i_fillLeg_ok, fo slices_ContainsFunc_Leg__i_isJourney_1_ok] Try.call112 Try.func112 rfl Try.results112 Try.ntmps112 ?_
 rintro ⟨t, change, legs⟩ y cx G hm
 have hm : i_isJourney t change legs = some y := hm
 unfold i_isJourney at hm
 refine rg G (Ok_seq ?_)
 obtain ⟨r, h, hm⟩ := obind hm
 refine rs G (hN 1 legs (hC 2 (i_within_c h) h0)) ?_
 refine cd hm (fun hm => ?_) (fun hm => ?_)
 ·refine rg G ?_
  cases hm
  exact rt [] []
 ·refine X_skip (thN (Ok_seq (rs G (hN 1 legs h0) ?_)))
  refine tF hm (fun _ => ⟨[], [], 32⟩) (fun v4 hr hm => ?_) ?_
  ·refine Ok_block (lp G hm (fun v => ⟨[(1, dV change), (2, dV legs), (3, .ref 16 0), (16, dV legs), (17, dV (legs.length : Int)), (18, dV v)], [bX 16 [dV t.Network.Stops, dV t.Network.Lines, dV t.Trips]], 48⟩) ?_)
   rintro v r0 hb hm
   rw [i_isJourney_L1] at hm
   refine rg G (Ok_seq (cd hm (fun hm => ?_) (fun hm => ?_)))
   ·refine X_skip (thN (jF hm (fun _ => ⟨[(1, dV change), (2, dV legs), (3, .ref 16 0), (16, dV legs), (17, dV (legs.length : Int)), (18, dV v)], [bX 16 [dV t.Network.Stops, dV t.Network.Lines, dV t.Trips]], 48⟩) (fun v3 hr1 hm => ?_) ?_))
    ·refine Ok_block ?_
     obtain ⟨e, h1, hm⟩ := obind hm
     refine rs G (hD 1 h1 h0) ?_
     obtain ⟨r1, h2, hm⟩ := obind hm
     refine rs G (hC 3 (i_tripIndex_c h2) h0) ?_
     refine Ok_seq (rg G (cd hm (fun hm => ?_) (fun hm => ?_)))
     ·refine rg G ?_
      have hm := eR hm hr1
      have hm := eL hm hb hr
      cases hm
      exact rt [] []
     ·refine X_skip (thN (Ok_seq ?_))
      obtain ⟨e4, h5, hm⟩ := obind hm
      obtain ⟨r5, h6, hm⟩ := obind hm
      refine ds G [(15, [496])] (hD 4 h5 (hC 10 (i_fillLeg_c h6) h0)) ?_
      refine jn hm (fun v1 => ⟨[(1, dV change), (2, dV legs), (3, .ref 16 0), (7, dV v), (8, .ref 32 0), (16, dV legs), (17, dV (legs.length : Int)), (18, dV v), (49, dV v1)], [bX 16 [dV t.Network.Stops, dV t.Network.Lines, dV t.Trips], bX 32 [dV e.Trip, dV e.From, dV e.To, dV e.Depart, dV e.Arrive]], 64⟩) (fun v1 hm => ?_) ?_
      ·rcases bf hm with ⟨hb1, hm⟩ | ⟨hb1, hm⟩
       ·refine re G (hO 2 (.b true) (hP hb1 h0)) ?_
        exact wJ G hm
       ·refine re G (hO 2 (.b false) (hP hb1 h0)) ?_
        exact wJ G hm
      rintro v1 hm
      refine cd hm (fun hm => ?_) (fun hm => ?_)
      ·refine rg G ?_
       have hm := eR hm hr1
       have hm := eL hm hb hr
       cases hm
       exact rt [] []
      ·refine X_skip (thN (Ok_seq (rg G (cd hm (fun hm => ?_) (fun hm => ?_)))))
       ·exact Ok_exit (thE (ibE (wF G hm)))
       ·refine X_skip (thN (Ok_seq ?_))
        obtain ⟨e9, h9, hm⟩ := obind hm
        refine jn hm (fun v2 => ⟨[(1, dV change), (2, dV legs), (3, .ref 16 0), (7, dV v), (8, .ref 32 0), (16, dV legs), (17, dV (legs.length : Int)), (18, dV v), (73, dV v2)], [bX 16 [dV t.Network.Stops, dV t.Network.Lines, dV t.Trips], bX 32 [dV e.Trip, dV e.From, dV e.To, dV e.Depart, dV e.Arrive]], 64⟩) (fun v2 hm => ?_) ?_
        ·rcases bf hm with ⟨hb2, hm⟩ | ⟨hb2, hm⟩
         ·refine de G [] (hD 5 h9 (hO 9 (.b true) (hP hb2 h0))) ?_
          exact wJ G hm
         ·obtain ⟨e10, h10, hm⟩ := obind hm
          refine de G [] (hD 5 h9 (hO 9 (.b false) (hP hb2 (hD 15 h10 h0)))) ?_
          exact wJ G hm
        rintro v2 hm
        refine cd hm (fun hm => ?_) (fun hm => ?_)
        ·refine rg G ?_
         have hm := eR hm hr1
         have hm := eL hm hb hr
         cases hm
         exact rt [] []
        ·refine X_skip (thN ?_)
         obtain ⟨u, h11, hm⟩ := obind hm
         obtain ⟨r10, h12, hm⟩ := obind hm
         refine rs G (hU 2 h11 (hC 4 (slices_ContainsFunc_Leg__i_isJourney_1_c h12) h0)) ?_
         refine cd hm (fun hm => ?_) (fun hm => ?_)
         ·refine rg G ?_
          have hm := eR hm hr1
          have hm := eL hm hb hr
          cases hm
          exact rt [] []
         ·exact X_skip (ibN (wF G hm))
    rintro ⟨⟩ hm
    exact rh G (wL G hm)
   ·exact Ok_exit (thE (thE (ibE (wE G hm hb))))
  rintro ⟨⟩ hm s hw
  refine thN (Ok_weak hw ?_)
  refine rg G ?_
  cases hm
  exact rt [] []
noncomputable def i_IsValidJourney_M : MS (Timetable × Int × (List Leg)) Bool := ⟨.x .r (.x .r .r), fun x => i_IsValidJourney x.1 x.2.1 x.2.2, fun y => dV y, fun _ => [], fun _ _ => []⟩
theorem i_IsValidJourney_c {t change legs y} (hm : i_IsValidJourney t change legs = some y) : i_IsValidJourney_M.C (t, change, legs) y := i_IsValidJourney_M.c (t, change, legs) hm
theorem i_IsValidJourney_ok : FnOK Try.prog 21 i_IsValidJourney_M.S := by
 refine fm tt i_IsValidJourney_M [fo i_IsValidTimetable_ok, fo i_isChange_ok, fo i_isJourney_ok] Try.call21 Try.func21 rfl Try.results21 Try.ntmps21 ?_
 rintro ⟨t, change, legs⟩ y cx G hm
 have hm : i_IsValidJourney t change legs = some y := hm
 unfold i_IsValidJourney at hm
 refine rg G ?_
 obtain ⟨r, h, hm⟩ := obind hm
 refine jn hm (fun v => ⟨[(6, dV v)], [], 32⟩) (fun v hm => ?_) ?_
 ·rcases bf hm with ⟨hb, hm⟩ | ⟨hb, hm⟩
  ·obtain ⟨r1, h1, hm⟩ := obind hm
   rcases bf hm with ⟨hb1, hm⟩ | ⟨hb1, hm⟩
   ·obtain ⟨r2, h2, hm⟩ := obind hm
    refine re G (hC 1 (i_IsValidTimetable_c h) (hO 2 (.b true) (hP hb (hC 4 (i_isChange_c h1) (hO 6 (.b true) (hP hb1 (hC 10 (i_isJourney_c h2) h0))))))) ?_
    exact wJ G hm
   ·refine re G (hC 1 (i_IsValidTimetable_c h) (hO 2 (.b true) (hP hb (hC 4 (i_isChange_c h1) (hO 6 (.b false) (hP hb1 h0)))))) ?_
    exact wJ G hm
  ·refine re G (hC 1 (i_IsValidTimetable_c h) (hO 2 (.b false) (hP hb h0))) ?_
   exact wJ G hm
 rintro v hm
 cases hm
 exact rt [] []
noncomputable def i_JourneyTimes_M : MS (Timetable × Int × (List Leg)) (Int × Int × Bool) := ⟨.x .r (.x .r .r), fun x => i_JourneyTimes x.1 x.2.1 x.2.2, fun y => .tup [dV y.1, dV y.2.1, dV y.2.2], fun _ => [], fun _ _ => []⟩
theorem i_JourneyTimes_c {t change legs y} (hm : i_JourneyTimes t change legs = some y) : i_JourneyTimes_M.C (t, change, legs) y := i_JourneyTimes_M.c (t, change, legs) hm
theorem i_JourneyTimes_ok : FnOK Try.prog 19 i_JourneyTimes_M.S := by
 refine fm tt i_JourneyTimes_M [fo i_IsValidJourney_ok] Try.call19 Try.func19 rfl Try.results19 Try.ntmps19 ?_
 rintro ⟨t, change, legs⟩ y cx G hm
 have hm : i_JourneyTimes t change legs = some y := hm
 unfold i_JourneyTimes at hm
 refine rg G (Ok_seq ?_)
 obtain ⟨r, h, hm⟩ := obind hm
 refine rs G (hC 3 (i_IsValidJourney_c h) h0) ?_
 refine cd hm (fun hm => ?_) (fun hm => ?_)
 ·refine rg G ?_
  cases hm
  exact rt [] []
 ·refine X_skip (thN (rg G (Ok_seq (rg G (tl hm (fun v2 => ⟨[(2, dV legs), (9, dV v2)], [], 32⟩) (fun v2 hm => ?_) ?_)))))
  ·refine Ok_block (lp G hm (fun (v, v1) => ⟨[(2, dV legs), (9, dV v), (10, dV v1)], [], 32⟩) ?_)
   rintro ⟨v, v1⟩ r0 hb hm
   rw [i_JourneyTimes_L1] at hm
   refine Ok_seq (rs G (hN 2 legs h0) ?_)
   refine cd hm (fun hm => ?_) (fun hm => ?_)
   ·refine X_skip (thN (Ok_seq (Ok_block ?_)))
    obtain ⟨e2, h3, hm⟩ := obind hm
    obtain ⟨e3, h4, hm⟩ := obind hm
    refine de G [] (hD 3 h3 (hD 9 h4 h0)) ?_
    exact ibN (thN (rh G (wL G hm)))
   ·exact Ok_exit (thE (thE (ibE (wD G hm hb))))
  rintro v2 hm s hw
  refine thN (Ok_weak hw ?_)
  obtain ⟨e6, h7, hm⟩ := obind hm
  obtain ⟨e7, h8, hm⟩ := obind hm
  refine ds G [] (hN 2 legs (hD 4 h7 (hD 8 h8 h0))) ?_
  cases hm
  exact rt [] []
noncomputable def s_l5Find_M : MS (Timetable × Int) Int := ⟨.x .r .r, fun x => s_l5Find x.1 x.2, fun y => dV y, fun _ => [], fun _ _ => []⟩
theorem s_l5Find_c {t id y} (hm : s_l5Find t id = some y) : s_l5Find_M.C (t, id) y := s_l5Find_M.c (t, id) hm
theorem s_l5Find_ok : FnOK Try.prog 108 s_l5Find_M.S := by
 refine fm tt s_l5Find_M [] Try.call108 Try.func108 rfl Try.results108 Try.ntmps108 ?_
 rintro ⟨t, id⟩ y cx G hm
 have hm : s_l5Find t id = some y := hm
 unfold s_l5Find at hm
 refine rg G (Ok_seq (rg G (tF hm (fun _ => ⟨[], [], 32⟩) (fun v1 hr hm => ?_) ?_)))
 ·refine Ok_block (lp G hm (fun v => ⟨[(1, dV id), (2, .ref 16 0), (5, dV v)], [bX 16 [dV t.Network.Stops, dV t.Network.Lines, dV t.Trips]], 48⟩) ?_)
  rintro v r0 hb hm
  rw [s_l5Find_L1] at hm
  refine Ok_seq (rs G (hN 3 t.Trips h0) ?_)
  refine cd hm (fun hm => ?_) (fun hm => ?_)
  ·refine X_skip (thN (Ok_seq (Ok_block ?_)))
   obtain ⟨e, h, hm⟩ := obind hm
   refine rs G (hD 3 h h0) ?_
   refine cd hm (fun hm => ?_) (fun hm => ?_)
   ·refine rg G ?_
    have hm := eL hm hb hr
    cases hm
    exact rt [] []
   ·exact X_skip (ibN (thN (rh G (wL G hm))))
  ·exact Ok_exit (thE (thE (ibE (wE G hm hb))))
 rintro ⟨⟩ hm s hw
 refine thN (Ok_weak hw ?_)
 refine rg G ?_
 cases hm
 exact rt [] []
noncomputable def s_l8Fill_M : MS (Timetable × Int × Int × Int) (Leg × Bool) := ⟨.x .r (.x .r (.x .r .r)), fun x => s_l8Fill x.1 x.2.1 x.2.2.1 x.2.2.2, fun y => .tup [dV y.1, dV y.2], fun _ => [], fun _ _ => []⟩
theorem s_l8Fill_c {t trip from_ to y} (hm : s_l8Fill t trip from_ to = some y) : s_l8Fill_M.C (t, trip, from_, to) y := s_l8Fill_M.c (t, trip, from_, to) hm
theorem s_l8Fill_ok : FnOK Try.prog 205 s_l8Fill_M.S := by
 refine fm tt s_l8Fill_M [fo s_l5Find_ok, fo s_l5Line_ok, fo s_l2Place_ok, fo s_l8Leg_ok] Try.call205 Try.func205 rfl Try.results205 Try.ntmps205 ?_
 rintro ⟨t, trip, from_, to⟩ y cx G hm
 have hm : s_l8Fill t trip from_ to = some y := hm
 unfold s_l8Fill at hm
 refine rg G ?_
 obtain ⟨r, h, hm⟩ := obind hm
 refine rs G (hC 2 (s_l5Find_c h) h0) ?_
 refine Ok_seq (rg G (cd hm (fun hm => ?_) (fun hm => ?_)))
 ·refine rg G ?_
  cases hm
  exact rt [] []
 ·refine X_skip (thN ?_)
  obtain ⟨r5, h5, hm⟩ := obind hm
  obtain ⟨r6, h6, hm⟩ := obind hm
  obtain ⟨r7, h7, hm⟩ := obind hm
  obtain ⟨r8, h8, hm⟩ := obind hm
  refine ds G [] (hC 2 (s_l5Line_c h5) (hC 4 (s_l2Place_c h6) (hC 7 (s_l5Line_c h7) (hC 9 (s_l2Place_c h8) h0)))) ?_
  refine Ok_seq (jn hm (fun v => ⟨[(4, .ref 16 0), (8, .ref 32 0), (10, dV r), (11, dV r6), (12, dV r8), (35, dV v)], [bX 16 [dV t.Network.Stops, dV t.Network.Lines, dV t.Trips], bX 32 [kV .i64 0, kV .i64 0, kV .i64 0, kV .i64 0, kV .i64 0]], 64⟩) (fun v hm => ?_) ?_)
  ·rcases bf hm with ⟨hb, hm⟩ | ⟨hb, hm⟩
   ·refine re G (hO 2 (.b true) (hP hb h0)) ?_
    exact wJ G hm
   ·refine re G (hO 2 (.b false) (hP hb h0)) ?_
    exact wJ G hm
  rintro v hm
  refine cd hm (fun hm => ?_) (fun hm => ?_)
  ·refine rg G ?_
   cases hm
   exact rt [] []
  ·refine X_skip (thN ?_)
   obtain ⟨r9, h9, hm⟩ := obind hm
   refine rs G (hC 4 (s_l8Leg_c h9) h0) ?_
   cases hm
   exact rt [] []
noncomputable def s_l8Journey_M : MS (Timetable × Int × (List Leg)) Bool := ⟨.x .r (.x .r .r), fun x => s_l8Journey x.1 x.2.1 x.2.2, fun y => dV y, fun _ => [], fun _ _ => []⟩
theorem s_l8Journey_c {t change legs y} (hm : s_l8Journey t change legs = some y) : s_l8Journey_M.C (t, change, legs) y := s_l8Journey_M.c (t, change, legs) hm
theorem s_l8Journey_ok : FnOK Try.prog 107 s_l8Journey_M.S := by
 refine fm tt s_l8Journey_M [fo s_l1In_ok, fo s_l8Fill_ok] Try.call107 Try.func107 rfl Try.results107 Try.ntmps107 ?_
 rintro ⟨t, change, legs⟩ y cx G hm
 have hm : s_l8Journey t change legs = some y := hm
 unfold s_l8Journey at hm
 refine rg G (Ok_seq ?_)
 obtain ⟨r, h, hm⟩ := obind hm
 refine rs G (hN 1 legs (hC 2 (s_l1In_c h) h0)) ?_
 refine cd hm (fun hm => ?_) (fun hm => ?_)
 ·refine rg G ?_
  cases hm
  exact rt [] []
 ·refine X_skip (thN (Ok_seq (rg G (tF hm (fun _ => ⟨[], [], 32⟩) (fun v4 hr hm => ?_) ?_))))
  ·refine Ok_block (lp G hm (fun k => ⟨[(1, dV change), (2, dV legs), (3, .ref 16 0), (7, dV k)], [bX 16 [dV t.Network.Stops, dV t.Network.Lines, dV t.Trips]], 48⟩) ?_)
   rintro k r0 hb hm
   rw [s_l8Journey_L2] at hm
   refine Ok_seq (rs G (hN 2 legs h0) ?_)
   refine cd hm (fun hm => ?_) (fun hm => ?_)
   ·refine X_skip (thN (Ok_seq (Ok_block ?_)))
    obtain ⟨e3, h5, hm⟩ := obind hm
    obtain ⟨e4, h6, hm⟩ := obind hm
    obtain ⟨e5, h7, hm⟩ := obind hm
    obtain ⟨r2, h8, hm⟩ := obind hm
    refine ds G [(21, [432])] (hD 3 h5 (hD 8 h6 (hD 13 h7 (hC 16 (s_l8Fill_c h8) h0)))) ?_
    refine Ok_seq (jn hm (fun v => ⟨[(1, dV change), (2, dV legs), (3, .ref 16 0), (7, dV k), (8, .ref 32 0), (50, dV v)], [bX 16 [dV t.Network.Stops, dV t.Network.Lines, dV t.Trips], bX 32 [dV r2.1.Trip, dV r2.1.From, dV r2.1.To, dV r2.1.Depart, dV r2.1.Arrive]], 64⟩) (fun v hm => ?_) ?_)
    ·rcases bf hm with ⟨hb1, hm⟩ | ⟨hb1, hm⟩
     ·refine de G [] (hO 2 (.b true) (hP hb1 h0)) ?_
      exact wJ G hm
     ·obtain ⟨e7, h10, hm⟩ := obind hm
      refine de G [] (hO 2 (.b false) (hP hb1 (hD 6 h10 h0))) ?_
      exact wJ G hm
    rintro v hm
    refine cd hm (fun hm => ?_) (fun hm => ?_)
    ·refine rg G ?_
     have hm := eL hm hb hr
     cases hm
     exact rt [] []
    ·refine X_skip (thN (Ok_seq (rg G (tF hm (fun _ => ⟨[(1, dV change), (2, dV legs), (3, .ref 16 0), (7, dV k), (8, .ref 32 0)], [bX 16 [dV t.Network.Stops, dV t.Network.Lines, dV t.Trips], bX 32 [dV r2.1.Trip, dV r2.1.From, dV r2.1.To, dV r2.1.Depart, dV r2.1.Arrive]], 64⟩) (fun v3 hr1 hm => ?_) ?_))))
     ·refine Ok_block (lp G hm (fun v1 => ⟨[(1, dV change), (2, dV legs), (3, .ref 16 0), (7, dV k), (8, .ref 32 0), (10, dV v1)], [bX 16 [dV t.Network.Stops, dV t.Network.Lines, dV t.Trips], bX 32 [dV r2.1.Trip, dV r2.1.From, dV r2.1.To, dV r2.1.Depart, dV r2.1.Arrive]], 64⟩) ?_)
      rintro v1 r0 hb2 hm
      rw [s_l8Journey_L1] at hm
      refine Ok_seq (rg G (cd hm (fun hm => ?_) (fun hm => ?_)))
      ·refine X_skip (thN (Ok_seq (Ok_block ?_)))
       obtain ⟨e10, h12, hm⟩ := obind hm
       refine ds G [] (hD 2 h12 h0) ?_
       refine cd hm (fun hm => ?_) (fun hm => ?_)
       ·refine rg G ?_
        have hm := eL hm hb2 hr1
        have hm := eL hm hb hr
        cases hm
        exact rt [] []
       ·exact X_skip (ibN (thN (rh G (wL G hm))))
      ·exact Ok_exit (thE (thE (ibE (wE G hm hb2))))
     rintro ⟨⟩ hm s hw
     refine thN (Ok_weak hw ?_)
     refine jn hm (fun v2 => ⟨[(1, dV change), (2, dV legs), (3, .ref 16 0), (7, dV k), (89, dV v2)], [bX 16 [dV t.Network.Stops, dV t.Network.Lines, dV t.Trips]], 48⟩) (fun v2 hm => ?_) ?_
     ·rcases bf hm with ⟨hb3, hm⟩ | ⟨hb3, hm⟩
      ·obtain ⟨e15, h15, hm⟩ := obind hm
       rcases bf hm with ⟨hb4, hm⟩ | ⟨hb4, hm⟩
       ·refine de G [] (hO 2 (.b true) (hP hb3 (hD 6 h15 (hO 12 (.b true) (hP hb4 h0))))) ?_
        exact wJ G hm
       ·obtain ⟨e16, h16, hm⟩ := obind hm
        refine de G [] (hO 2 (.b true) (hP hb3 (hD 6 h15 (hO 12 (.b false) (hP hb4 (hD 18 h16 h0)))))) ?_
        exact wJ G hm
      ·refine de G [] (hO 2 (.b false) (hP hb3 h0)) ?_
       exact wJ G hm
     rintro v2 hm
     refine cd hm (fun hm => ?_) (fun hm => ?_)
     ·refine rg G ?_
      have hm := eL hm hb hr
      cases hm
      exact rt [] []
     ·exact X_skip (ibN (thN (rh G (wL G hm))))
   ·exact Ok_exit (thE (thE (ibE (wE G hm hb))))
  rintro ⟨⟩ hm s1 hw1
  refine thN (Ok_weak hw1 ?_)
  refine rg G ?_
  cases hm
  exact rt [] []
noncomputable def s_JourneyTimes_M : MS (Timetable × Int × (List Leg)) (Int × Int × Bool) := ⟨.x .r (.x .r .r), fun x => s_JourneyTimes x.1 x.2.1 x.2.2, fun y => .tup [dV y.1, dV y.2.1, dV y.2.2], fun _ => [], fun _ _ => []⟩
theorem s_JourneyTimes_c {t change legs y} (hm : s_JourneyTimes t change legs = some y) : s_JourneyTimes_M.C (t, change, legs) y := s_JourneyTimes_M.c (t, change, legs) hm
theorem s_JourneyTimes_ok : FnOK Try.prog 20 s_JourneyTimes_M.S := by
 refine fm tt s_JourneyTimes_M [fo s_l8Asked_ok, fo s_l8Journey_ok] Try.call20 Try.func20 rfl Try.results20 Try.ntmps20 ?_
 rintro ⟨t, change, legs⟩ y cx G hm
 have hm : s_JourneyTimes t change legs = some y := hm
 unfold s_JourneyTimes at hm
 refine rg G (Ok_seq ?_)
 obtain ⟨r, h, hm⟩ := obind hm
 refine jn hm (fun v => ⟨[(2, dV legs), (21, dV v)], [], 32⟩) (fun v hm => ?_) ?_
 ·rcases bf hm with ⟨hb, hm⟩ | ⟨hb, hm⟩
  ·refine re G (hC 2 (s_l8Asked_c h) (hO 4 (.b true) (hP hb h0))) ?_
   exact wJ G hm
  ·obtain ⟨r1, h1, hm⟩ := obind hm
   refine re G (hC 2 (s_l8Asked_c h) (hO 4 (.b false) (hP hb (hC 8 (s_l8Journey_c h1) h0)))) ?_
   exact wJ G hm
 rintro v hm
 refine cd hm (fun hm => ?_) (fun hm => ?_)
 ·refine rg G ?_
  cases hm
  exact rt [] []
 ·refine X_skip (thN (rg G (Ok_seq (rg G (tl hm (fun v3 => ⟨[(2, dV legs), (9, dV v3)], [], 32⟩) (fun v3 hm => ?_) ?_)))))
  ·refine Ok_block (lp G hm (fun (v1, v2) => ⟨[(2, dV legs), (9, dV v1), (10, dV v2)], [], 32⟩) ?_)
   rintro ⟨v1, v2⟩ r0 hb1 hm
   rw [s_JourneyTimes_L1] at hm
   refine Ok_seq (rs G (hN 2 legs h0) ?_)
   refine cd hm (fun hm => ?_) (fun hm => ?_)
   ·refine X_skip (thN (Ok_seq (Ok_block ?_)))
    obtain ⟨e2, h4, hm⟩ := obind hm
    obtain ⟨e3, h5, hm⟩ := obind hm
    refine de G [] (hD 3 h4 (hD 10 h5 h0)) ?_
    exact ibN (thN (rh G (wL G hm)))
   ·exact Ok_exit (thE (thE (ibE (wD G hm hb1))))
  rintro v3 hm s hw
  refine thN (Ok_weak hw ?_)
  obtain ⟨e6, h8, hm⟩ := obind hm
  obtain ⟨e7, h9, hm⟩ := obind hm
  refine ds G [] (hN 2 legs (hD 4 h8 (hD 8 h9 h0))) ?_
  cases hm
  exact rt [] []
noncomputable def i_FillLeg_M : MS (Timetable × Int × Int × Int) (Leg × Bool) := ⟨.x .r (.x .r (.x .r .r)), fun x => i_FillLeg x.1 x.2.1 x.2.2.1 x.2.2.2, fun y => .tup [dV y.1, dV y.2], fun _ => [], fun _ _ => []⟩
theorem i_FillLeg_c {t trip from_ to y} (hm : i_FillLeg t trip from_ to = some y) : i_FillLeg_M.C (t, trip, from_, to) y := i_FillLeg_M.c (t, trip, from_, to) hm
theorem i_FillLeg_ok : FnOK Try.prog 22 i_FillLeg_M.S := by
 refine fm tt i_FillLeg_M [fo i_IsValidTimetable_ok, fo i_isStop_ok, fo i_tripIndex_ok, fo i_fillLeg_ok] Try.call22 Try.func22 rfl Try.results22 Try.ntmps22 ?_
 rintro ⟨t, trip, from_, to⟩ y cx G hm
 have hm : i_FillLeg t trip from_ to = some y := hm
 unfold i_FillLeg at hm
 refine rg G (Ok_seq ?_)
 obtain ⟨r, h, hm⟩ := obind hm
 refine jn hm (fun v => ⟨[(1, dV trip), (2, dV from_), (3, dV to), (4, .ref 16 0), (8, .ref 32 0), (27, dV v)], [bX 16 [dV t.Network.Stops, dV t.Network.Lines, dV t.Trips], bX 32 [kV .i64 0, kV .i64 0, kV .i64 0, kV .i64 0, kV .i64 0]], 64⟩) (fun v hm => ?_) ?_
 ·rcases bf hm with ⟨hb, hm⟩ | ⟨hb, hm⟩
  ·refine re G (hC 1 (i_IsValidTimetable_c h) (hO 3 (.b true) (hP hb h0))) ?_
   exact wJ G hm
  ·obtain ⟨r1, h1, hm⟩ := obind hm
   rcases bf hm with ⟨hb1, hm⟩ | ⟨hb1, hm⟩
   ·refine re G (hC 1 (i_IsValidTimetable_c h) (hO 3 (.b false) (hP hb (hC 7 (i_isStop_c h1) (hO 10 (.b true) (hP hb1 h0)))))) ?_
    exact wJ G hm
   ·obtain ⟨r2, h2, hm⟩ := obind hm
    refine re G (hC 1 (i_IsValidTimetable_c h) (hO 3 (.b false) (hP hb (hC 7 (i_isStop_c h1) (hO 10 (.b false) (hP hb1 (hC 14 (i_isStop_c h2) h0))))))) ?_
    exact wJ G hm
 rintro v hm
 refine cd hm (fun hm => ?_) (fun hm => ?_)
 ·refine rg G ?_
  cases hm
  exact rt [] []
 ·refine X_skip (thN ?_)
  obtain ⟨r3, h3, hm⟩ := obind hm
  refine rs G (hC 2 (i_tripIndex_c h3) h0) ?_
  refine Ok_seq (rg G (cd hm (fun hm => ?_) (fun hm => ?_)))
  ·refine rg G ?_
   cases hm
   exact rt [] []
  ·refine X_skip (thN ?_)
   obtain ⟨e1, h6, hm⟩ := obind hm
   obtain ⟨r5, h7, hm⟩ := obind hm
   refine ds G [(11, [32])] (hD 4 h6 (hC 8 (i_fillLeg_c h7) h0)) ?_
   cases hm
   exact rt [] []
noncomputable def i_ServedStops_M : MS (Timetable × Int × (List Leg)) ((List Int) × Bool) := ⟨.x .r (.x .r .r), fun x => i_ServedStops x.1 x.2.1 x.2.2, fun y => .tup [dV y.1, dV y.2], fun _ => [], fun _ _ => []⟩
theorem i_ServedStops_c {t change legs y} (hm : i_ServedStops t change legs = some y) : i_ServedStops_M.C (t, change, legs) y := i_ServedStops_M.c (t, change, legs) hm
theorem i_ServedStops_ok : FnOK Try.prog 23 i_ServedStops_M.S := by
 refine fm tt i_ServedStops_M [fo i_IsValidJourney_ok, fo i_tripIndex_ok, fo i_lineOf_ok, fo slices_Index_int_ok] Try.call23 Try.func23 rfl Try.results23 Try.ntmps23 ?_
 rintro ⟨t, change, legs⟩ y cx G hm
 have hm : i_ServedStops t change legs = some y := hm
 unfold i_ServedStops at hm
 refine rg G (Ok_seq ?_)
 obtain ⟨r, h, hm⟩ := obind hm
 refine rs G (hC 3 (i_IsValidJourney_c h) h0) ?_
 refine cd hm (fun hm => ?_) (fun hm => ?_)
 ·refine rg G ?_
  cases hm
  exact rt [] [[.z 1]]
 ·refine X_skip (thN ?_)
  obtain ⟨e, h1, hm⟩ := obind hm
  refine rs G (hD 1 h1 h0) ?_
  refine Ok_seq (rs G (hN 1 legs h0) ?_)
  refine tl hm (fun stops1 => ⟨[(8, .own 16)], [aX 16 3 stops1], 48⟩) (fun stops1 hm => ?_) ?_
  ·refine Ok_block (lp G hm (fun (v, stops) => ⟨[(3, .ref 16 0), (8, .own 32), (24, dV legs), (25, dV (legs.length : Int)), (26, dV v)], [bX 16 [dV t.Network.Stops, dV t.Network.Lines, dV t.Trips], aX 32 3 stops], 64⟩) ?_)
   rintro ⟨v, stops⟩ r0 hb hm
   rw [i_ServedStops_L1] at hm
   refine rg G (Ok_seq (cd hm (fun hm => ?_) (fun hm => ?_)))
   ·refine X_skip (thN (Ok_seq (Ok_block ?_)))
    obtain ⟨e1, h2, hm⟩ := obind hm
    refine rs G (hD 0 h2 h0) ?_
    obtain ⟨r3, h6, hm⟩ := obind hm
    obtain ⟨e3, h7, hm⟩ := obind hm
    obtain ⟨r4, h8, hm⟩ := obind hm
    refine ds G [] (hC 6 (i_tripIndex_c h6) (hD 7 h7 (hC 9 (i_lineOf_c h8) h0))) ?_
    obtain ⟨r7, h11, hm⟩ := obind hm
    obtain ⟨r8, h12, hm⟩ := obind hm
    refine ds G [] (hC 3 (slices_Index_int_c h11) (hC 7 (slices_Index_int_c h12) h0)) ?_
    obtain ⟨u, h13, hm⟩ := obind hm
    obtain ⟨u1, h14, hm⟩ := obind hm
    refine re G (hU 6 h13 (hA 7 8 h14 h0)) ?_
    exact ibN (thN (rh G (wL G hm)))
   ·exact Ok_exit (thE (thE (ibE (wD G hm hb))))
  rintro stops1 hm s hw
  refine thN (Ok_weak hw ?_)
  refine rg G ?_
  cases hm
  exact rt [] []
noncomputable def i_SlackOf_M : MS (Timetable × Int × (List Leg)) ((List Int) × Bool) := ⟨.x .r (.x .r .r), fun x => i_SlackOf x.1 x.2.1 x.2.2, fun y => .tup [dV y.1, dV y.2], fun _ => [], fun _ _ => []⟩
theorem i_SlackOf_c {t change legs y} (hm : i_SlackOf t change legs = some y) : i_SlackOf_M.C (t, change, legs) y := i_SlackOf_M.c (t, change, legs) hm
theorem i_SlackOf_ok : FnOK Try.prog 17 i_SlackOf_M.S := by
 refine fm tt i_SlackOf_M [fo i_IsValidJourney_ok] Try.call17 Try.func17 rfl Try.results17 Try.ntmps17 ?_
 rintro ⟨t, change, legs⟩ y cx G hm
 have hm : i_SlackOf t change legs = some y := hm
 unfold i_SlackOf at hm
 refine rg G (Ok_seq ?_)
 obtain ⟨r, h, hm⟩ := obind hm
 refine rs G (hC 3 (i_IsValidJourney_c h) h0) ?_
 refine cd hm (fun hm => ?_) (fun hm => ?_)
 ·refine rg G ?_
  cases hm
  exact rt [] [[.z 1]]
 ·refine X_skip (thN (rg G (Ok_seq (rg G (tl hm (fun v2 => ⟨[(8, .own 16)], [aX 16 3 v2], 48⟩) (fun v2 hm => ?_) ?_)))))
  ·refine Ok_block (lpP hm (fun (v, v1) => ⟨[(1, dV change), (2, dV legs), (8, .own 16), (9, dV v)], [aX 16 3 v1], 48⟩) (Wk_J G.hL ⟨[(1, []), (2, []), (8, [.o 16]), (9, [])], [], [(16, 3, 1, [])], 48⟩ (by kernel_rfl)) ?_)
   rintro ⟨v, v1⟩ r0 hb hm
   rw [i_SlackOf_L1] at hm
   refine Ok_seq (rs G (hN 2 legs h0) ?_)
   refine cd hm (fun hm => ?_) (fun hm => ?_)
   ·refine X_skip (thN (Ok_seq (Ok_block ?_)))
    obtain ⟨e2, h4, hm⟩ := obind hm
    obtain ⟨e3, h5, hm⟩ := obind hm
    obtain ⟨u1, h6, hm⟩ := obind hm
    refine de G [(16, [16, 352])] (hD 3 h4 (hD 11 h5 (hA 16 8 h6 h0))) ?_
    exact ibN (thN (rh G (wL G hm)))
   ·exact Ok_exit (thE (thE (ibE (wD G hm hb))))
  rintro v2 hm s hw
  refine thN (Ok_weak hw ?_)
  refine rg G ?_
  cases hm
  exact rt [] []
noncomputable def v_FnJourneyTimes_M : MS ((List UInt8)) Bool := ⟨.r, v_FnJourneyTimes, fun y => dV y, fun _ => [], fun _ _ => []⟩
theorem v_FnJourneyTimes_c {code y} (hm : v_FnJourneyTimes code = some y) : v_FnJourneyTimes_M.C code y := v_FnJourneyTimes_M.c code hm
theorem v_FnJourneyTimes_ok : FnOK Try.prog 4 v_FnJourneyTimes_M.S := by
 refine fm tt v_FnJourneyTimes_M [fo v_vBig_ok, fo s_DrawJourneyTimes_ok, fo i_JourneyTimes_ok, fo s_JourneyTimes_ok, fo i_IsValidJourney_ok, fo i_FillLeg_ok, fo i_ServedStops_ok, fo i_SlackOf_ok] Try.call4 Try.func4 rfl Try.results4 Try.ntmps4 ?_
 rintro code y cx G hm
 have hm : v_FnJourneyTimes code = some y := hm
 unfold v_FnJourneyTimes at hm
 refine rg G (Ok_seq ?_)
 obtain ⟨r, h, hm⟩ := obind hm
 refine rs G (hC 1 (v_vBig_c h) h0) ?_
 refine cd hm (fun hm => ?_) (fun hm => ?_)
 ·refine rg G ?_
  cases hm
  exact rt [] []
 ·refine X_skip (thN ?_)
  obtain ⟨r1, h1, hm⟩ := obind hm
  refine rs G (hC 1 (s_DrawJourneyTimes_c h1) h0) ?_
  obtain ⟨r2, h2, hm⟩ := obind hm
  refine rs G (hC 3 (i_JourneyTimes_c h2) h0) ?_
  refine Ok_seq ?_
  obtain ⟨r3, h3, hm⟩ := obind hm
  refine rs G (hC 3 (s_JourneyTimes_c h3) h0) ?_
  refine jn hm (fun v => ⟨[(3, .ref 16 0), (4, dV r1.2.1), (5, .own 32), (6, dV r2.1), (7, dV r2.2.1), (8, dV r2.2.2), (65, dV v)], [bX 16 [dV r1.1.Network.Stops, dV r1.1.Network.Lines, dV r1.1.Trips], aX 32 40 r1.2.2], 64⟩) (fun v hm => ?_) ?_
  ·rcases bf hm with ⟨hb, hm⟩ | ⟨hb, hm⟩
   ·refine re G (hO 3 (.b true) (hP hb h0)) ?_
    exact wJ G hm
   ·rcases bf hm with ⟨hb1, hm⟩ | ⟨hb1, hm⟩
    ·refine re G (hO 3 (.b false) (hP hb (hO 8 (.b true) (hP hb1 h0)))) ?_
     exact wJ G hm
    ·rcases bf hm with ⟨hb2, hm⟩ | ⟨hb2, hm⟩
     ·refine re G (hO 3 (.b false) (hP hb (hO 8 (.b false) (hP hb1 (hO 13 (.b true) (hP hb2 h0)))))) ?_
      exact wJ G hm
     ·obtain ⟨r4, h4, hm⟩ := obind hm
      refine re G (hO 3 (.b false) (hP hb (hO 8 (.b false) (hP hb1 (hO 13 (.b false) (hP hb2 (hC 18 (i_IsValidJourney_c h4) h0))))))) ?_
      exact wJ G hm
  rintro v hm
  refine cd hm (fun hm => ?_) (fun hm => ?_)
  ·refine rg G ?_
   cases hm
   exact rt [] []
  ·refine X_skip (thN (Ok_seq (rg G (cd hm (fun hm => ?_) (fun hm => ?_)))))
   ·refine rg G ?_
    cases hm
    exact rt [] []
   ·refine X_skip (thN (rg G (Ok_seq (rg G (tF hm (fun i1 => ⟨[(3, .ref 16 0), (4, dV r1.2.1), (5, .own 32), (6, dV r2.1), (12, dV i1)], [bX 16 [dV r1.1.Network.Stops, dV r1.1.Network.Lines, dV r1.1.Trips], aX 32 40 r1.2.2], 64⟩) (fun v5 hr hm => ?_) ?_)))))
    ·refine Ok_block (lp G hm (fun (i, x) => ⟨[(3, .ref 16 0), (4, dV r1.2.1), (5, .own 32), (6, dV r2.1), (12, dV i), (13, dV x)], [bX 16 [dV r1.1.Network.Stops, dV r1.1.Network.Lines, dV r1.1.Trips], aX 32 40 r1.2.2], 64⟩) ?_)
     rintro ⟨i, x⟩ r0 hb3 hm
     rw [v_FnJourneyTimes_L1] at hm
     refine Ok_seq (rs G (hN 2 r1.2.2 h0) ?_)
     refine cd hm (fun hm => ?_) (fun hm => ?_)
     ·refine X_skip (thN (Ok_seq (Ok_block ?_)))
      obtain ⟨e3, h9, hm⟩ := obind hm
      obtain ⟨e4, h10, hm⟩ := obind hm
      obtain ⟨e5, h11, hm⟩ := obind hm
      obtain ⟨r6, h12, hm⟩ := obind hm
      refine ds G [(21, [448])] (hD 3 h9 (hE 5 h9 (hD 8 h10 (hE 10 h10 (hD 13 h11 (hE 15 h11 (hC 16 (i_FillLeg_c h12) h0))))))) ?_
      refine Ok_seq (jn hm (fun v1 => ⟨[(3, .ref 16 0), (4, dV r1.2.1), (5, .own 32), (6, dV r2.1), (12, dV i), (13, dV x), (14, .ref 48 0), (106, dV v1)], [bX 16 [dV r1.1.Network.Stops, dV r1.1.Network.Lines, dV r1.1.Trips], aX 32 40 r1.2.2, bX 48 [dV r6.1.Trip, dV r6.1.From, dV r6.1.To, dV r6.1.Depart, dV r6.1.Arrive]], 80⟩) (fun v1 hm => ?_) ?_)
      ·rcases bf hm with ⟨hb4, hm⟩ | ⟨hb4, hm⟩
       ·refine de G [] (hO 2 (.b true) (hP hb4 h0)) ?_
        exact wJ G hm
       ·obtain ⟨e7, h14, hm⟩ := obind hm
        refine de G [] (hO 2 (.b false) (hP hb4 (hD 6 h14 (hE 7 h14 h0)))) ?_
        exact wJ G hm
      rintro v1 hm
      refine cd hm (fun hm => ?_) (fun hm => ?_)
      ·refine rg G ?_
       have hm := eL hm hb3 hr
       cases hm
       exact rt [] []
      ·exact X_skip (thN (rh G (ibN (thN (rh G (wL G hm))))))
     ·exact Ok_exit (thE (thE (ibE (wE G hm hb3))))
    rintro i1 hm s hw
    refine thN (Ok_weak hw ?_)
    obtain ⟨r8, h15, hm⟩ := obind hm
    refine rs G (hO 3 (.fz [32] [] []) (hC 3 (i_ServedStops_c h15) h0)) ?_
    obtain ⟨r9, h16, hm⟩ := obind hm
    refine rs G (hC 3 (i_SlackOf_c h16) h0) ?_
    refine Ok_seq (jn hm (fun v2 => ⟨[(5, dV r1.2.2), (6, dV r2.1), (12, dV i1), (16, dV r8.1), (18, dV r9.1), (146, dV v2)], [], 32⟩) (fun v2 hm => ?_) ?_)
    ·rcases bf hm with ⟨hb5, hm⟩ | ⟨hb5, hm⟩
     ·refine re G (hO 2 (.b true) (hP hb5 h0)) ?_
      exact wJ G hm
     ·rcases bf hm with ⟨hb6, hm⟩ | ⟨hb6, hm⟩
      ·refine re G (hO 2 (.b false) (hP hb5 (hO 6 (.b true) (hP hb6 h0)))) ?_
       exact wJ G hm
      ·rcases bf hm with ⟨hb7, hm⟩ | ⟨hb7, hm⟩
       ·refine re G (hO 2 (.b false) (hP hb5 (hO 6 (.b false) (hP hb6 (hN 8 r8.1 (hO 11 (.b true) (hP hb7 h0))))))) ?_
        exact wJ G hm
       ·refine re G (hO 2 (.b false) (hP hb5 (hO 6 (.b false) (hP hb6 (hN 8 r8.1 (hO 11 (.b false) (hP hb7 (hN 13 r9.1 (hN 15 r1.2.2 h0))))))))) ?_
        exact wJ G hm
    rintro v2 hm
    refine cd hm (fun hm => ?_) (fun hm => ?_)
    ·refine rg G ?_
     cases hm
     exact rt [] []
    ·refine X_skip (thN (Ok_seq (rg G (tF hm (fun _ => ⟨[(5, dV r1.2.2), (6, dV r2.1), (12, dV i1), (16, dV r8.1)], [], 32⟩) (fun v4 hr1 hm => ?_) ?_))))
     ·refine Ok_block (lp G hm (fun v3 => ⟨[(5, dV r1.2.2), (6, dV r2.1), (12, dV i1), (16, dV r8.1), (18, dV r9.1), (20, dV v3)], [], 32⟩) ?_)
      rintro v3 r0 hb8 hm
      rw [v_FnJourneyTimes_L2] at hm
      refine Ok_seq (rs G (hN 2 r9.1 h0) ?_)
      refine cd hm (fun hm => ?_) (fun hm => ?_)
      ·refine X_skip (thN (Ok_seq (Ok_block ?_)))
       obtain ⟨e9, h17, hm⟩ := obind hm
       refine rs G (hD 2 h17 h0) ?_
       refine cd hm (fun hm => ?_) (fun hm => ?_)
       ·refine rg G ?_
        have hm := eL hm hb8 hr1
        cases hm
        exact rt [] []
       ·exact X_skip (ibN (thN (rh G (wL G hm))))
      ·exact Ok_exit (thE (thE (ibE (wE G hm hb8))))
     rintro ⟨⟩ hm s1 hw1
     refine thN (Ok_weak hw1 ?_)
     refine jn hm (fun t => ⟨[(2, dV t)], [], 32⟩) (fun t hm => ?_) ?_
     ·rcases bf hm with ⟨hb9, hm⟩ | ⟨hb9, hm⟩
      ·obtain ⟨e15, h22, hm⟩ := obind hm
       obtain ⟨e16, h23, hm⟩ := obind hm
       rcases bf hm with ⟨hb10, hm⟩ | ⟨hb10, hm⟩
       ·obtain ⟨e17, h24, hm⟩ := obind hm
        obtain ⟨e18, h25, hm⟩ := obind hm
        refine de G [] (hO 3 (.b true) (hP hb9 (hD 5 h22 (hD 8 h23 (hO 13 (.b true) (hP hb10 (hN 16 r8.1 (hD 18 h24 (hN 22 r1.2.2 (hD 24 h25 h0)))))))))) ?_
        exact wJ G hm
       ·refine de G [] (hO 3 (.b true) (hP hb9 (hD 5 h22 (hD 8 h23 (hO 13 (.b false) (hP hb10 h0)))))) ?_
        exact wJ G hm
      ·refine de G [] (hO 3 (.b false) (hP hb9 h0)) ?_
       exact wJ G hm
     rintro t hm
     cases hm
     exact rt [] []
end Go.Proofs.Ytgminbcbkcacnaa
