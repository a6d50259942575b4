/- Each function computes what its model says. Made by program (dec.py). -/
import Derived.Test.YtjljkjbdkjjdcaaTy
import Derived.Test.YtjljkjbdkjjdcaaAbC
import Derived.Test.YtjljkjbdkjjdcaaTdM
namespace Go.Proofs.Ytjljkjbdkjjdcaa
open Go Go.Ab
set_option maxRecDepth 100000
set_option maxHeartbeats 4000000
set_option linter.unusedVariables false
set_option linter.unusedSimpArgs false
theorem tt : TT Try.prog ty := ⟨by kernel_rfl, ty_ok⟩
noncomputable def v_rBig_M : MS ((List UInt8)) Bool := ⟨.r, v_rBig, fun y => dV y, fun _ => [], fun _ _ => []⟩
theorem v_rBig_c {code y} (hm : v_rBig code = some y) : v_rBig_M.C code y := v_rBig_M.c code hm
theorem v_rBig_ok : FnOK Try.prog 6 v_rBig_M.S := by
 refine fm tt v_rBig_M [] Try.call6 Try.func6 rfl Try.results6 Try.ntmps6 ?_
 rintro code y cx G hm
 have hm : v_rBig code = some y := hm
 unfold v_rBig at hm
 refine rg G (rs G (hN 1 code h0) ?_)
 cases hm
 exact rt [] []
noncomputable def s_l1Cur_next_M : MS l1Cur (Int × l1Cur) := ⟨.b, s_l1Cur_next, fun y => dV y.1, fun _ => [], fun _ y => [bxO y.2]⟩
theorem s_l1Cur_next_c {c y} (hm : s_l1Cur_next c = some y) : s_l1Cur_next_M.C c y := s_l1Cur_next_M.c c hm
theorem s_l1Cur_next_ok : FnOK Try.prog 125 s_l1Cur_next_M.S := by
 refine fm tt s_l1Cur_next_M [] Try.call125 Try.func125 rfl Try.results125 Try.ntmps125 ?_
 rintro c y cx G hm
 have hm : s_l1Cur_next c = some y := hm
 unfold s_l1Cur_next at hm
 refine rg G (rg G (jn hm (fun v => ⟨[(0, .ref 0 0), (3, dV v)], [bX 0 [dV c.code_, dV c.at_, kV .u64 c.seed_.v]], 48⟩) (fun v hm => ?_) ?_))
 ·refine ds G [] (hN 8 c.code_ h0) ?_
  refine cd hm (fun hm => ?_) (fun hm => ?_)
  ·obtain ⟨e1, h1, hm⟩ := obind hm
   refine de G [] (hD 8 h1 h0) ?_
   exact wJ G hm
  ·exact X_skip (wJ G hm)
 rintro v hm
 refine rg G (rg G (Ok_seq (ds G [] (hN 8 c.code_ h0) ?_)))
 refine cd hm (fun hm => ?_) (fun hm => ?_)
 ·refine rg G ?_
  cases hm
  exact rt [] []
 ·refine X_skip (thN ?_)
  obtain ⟨u, h2, hm⟩ := obind hm
  refine rs G (hK h2 h0) ?_
  cases hm
  exact rt [] []
noncomputable def s_l1Cur_pick_M : MS (l1Cur × Int) (Int × l1Cur) := ⟨.x .b .r, fun x => s_l1Cur_pick x.1 x.2, fun y => dV y.1, fun _ => [], fun _ y => [bxO y.2]⟩
theorem s_l1Cur_pick_c {c n y} (hm : s_l1Cur_pick c n = some y) : s_l1Cur_pick_M.C (c, n) y := s_l1Cur_pick_M.c (c, n) hm
theorem s_l1Cur_pick_ok : FnOK Try.prog 77 s_l1Cur_pick_M.S := by
 refine fm tt s_l1Cur_pick_M [fo s_l1Cur_next_ok] Try.call77 Try.func77 rfl Try.results77 Try.ntmps77 ?_
 rintro ⟨c, n⟩ y cx G hm
 have hm : s_l1Cur_pick c n = some y := hm
 unfold s_l1Cur_pick at hm
 refine rg G (Ok_seq (rg G (cd hm (fun hm => ?_) (fun hm => ?_))))
 ·refine rg G ?_
  cases hm
  exact rt [] []
 ·refine X_skip (thN ?_)
  obtain ⟨r, h, hm⟩ := obind hm
  refine rs G (hC 1 (s_l1Cur_next_c h) h0) ?_
  refine jn hm (fun (v, v1, v2, v3) => ⟨[(0, .ref 0 0), (1, dV n), (5, dV v)], [bX 0 [dV v1, dV v2, kV .u64 v3]], 48⟩) (fun vv hm => ?_) ?_
  ·refine rg G (cd hm (fun hm => ?_) (fun hm => ?_))
   ·obtain ⟨r1, h1, hm⟩ := obind hm
    refine re G (hC 3 (s_l1Cur_next_c h1) h0) ?_
    exact wJ G hm
   ·exact X_skip (wJ G hm)
  rintro ⟨v, v1, v2, v3⟩ hm
  obtain ⟨u, h2, hm⟩ := obind hm
  refine rs G (hK h2 h0) ?_
  cases hm
  exact rt [] []
noncomputable def s_l1Num_MR (rec_ : Int → Option (ByteArray)) : MS Int ByteArray := ⟨.r, rec_, fun y => dV y, fun _ => [], fun _ _ => []⟩
noncomputable def s_l1Num_M : MS Int ByteArray := s_l1Num_MR s_l1Num
theorem s_l1Num_c {n y} (hm : s_l1Num n = some y) : s_l1Num_M.C n y := s_l1Num_M.c n hm
theorem s_l1Num_cR {rec_ : Int → Option (ByteArray)} {n y} (hm : rec_ n = some y) : (s_l1Num_MR rec_).C n y := (s_l1Num_MR rec_).c n hm
theorem s_l1Num_okF {rec_ : Int → Option (ByteArray)} (hrec : FnOK Try.prog 149 (s_l1Num_MR rec_).S) : FnOK Try.prog 149 (s_l1Num_MR (s_l1Num_F rec_)).S := by
 refine fm tt (s_l1Num_MR (s_l1Num_F rec_)) [fo hrec] Try.call149 Try.func149 rfl Try.results149 Try.ntmps149 ?_
 rintro n y cx G hm
 have hm : s_l1Num_F rec_ n = some y := hm
 unfold s_l1Num_F at hm
 refine rg G (Ok_seq (rg G (cd hm (fun hm => ?_) (fun hm => ?_))))
 ·obtain ⟨r, h, hm⟩ := obind hm
  obtain ⟨u, h1, hm⟩ := obind hm
  refine rs G (hC 2 (s_l1Num_cR h) (hP (cat_p (chk_t h1)) h0)) ?_
  cases hm
  exact rt [] []
 ·refine X_skip (thN (Ok_seq (rg G (cd hm (fun hm => ?_) (fun hm => ?_)))))
  ·obtain ⟨u1, h2, hm⟩ := obind hm
   refine rs G (hK h2 h0) ?_
   cases hm
   exact rt [] []
  ·refine X_skip (thN ?_)
   obtain ⟨u7, h9, hm⟩ := obind hm
   obtain ⟨r2, h10, hm⟩ := obind hm
   obtain ⟨u8, h11, hm⟩ := obind hm
   obtain ⟨u9, h12, hm⟩ := obind hm
   obtain ⟨u10, h13, hm⟩ := obind hm
   obtain ⟨u11, h14, hm⟩ := obind hm
   refine ds G [] (hK h9 (hC 2 (s_l1Num_cR h10) (hK h11 (hK h12 (hK h13 (hP (cat_p (chk_t h14)) h0)))))) ?_
   cases hm
   exact rt [] []
theorem s_l1Num_okn : ∀ k, FnOK Try.prog 149 (s_l1Num_MR (s_l1Num_k k)).S
 | 0 => ⟨fun args w => Try.call149 args w, fun vs w F ds obs κ hp => by obtain ⟨x, y, _, _, h⟩ := hp; cases h⟩
 | k + 1 => s_l1Num_okF (s_l1Num_okn k)
theorem s_l1Num_ok : FnOK Try.prog 149 s_l1Num_M.S := s_l1Num_okn 4294967296
noncomputable def s_l2Place_M : MS (Line × Int) Int := ⟨.x .r .r, fun x => s_l2Place x.1 x.2, fun y => dV y, fun _ => [], fun _ _ => []⟩
theorem s_l2Place_c {x stop y} (hm : s_l2Place x stop = some y) : s_l2Place_M.C (x, stop) y := s_l2Place_M.c (x, stop) hm
theorem s_l2Place_ok : FnOK Try.prog 73 s_l2Place_M.S := by
 refine fm tt s_l2Place_M [] Try.call73 Try.func73 rfl Try.results73 Try.ntmps73 ?_
 rintro ⟨x, stop⟩ y cx G hm
 have hm : s_l2Place x stop = some y := hm
 unfold s_l2Place at hm
 refine rg G (Ok_seq (rg G (tF hm (fun _ => ⟨[], [], 32⟩) (fun v1 hr hm => ?_) ?_)))
 ·refine Ok_block (lp G hm (fun v => ⟨[(1, dV stop), (2, .ref 16 0), (5, dV v)], [bX 16 [dV x.Name, dV x.Stops, dV x.Runs]], 48⟩) ?_)
  rintro v r0 hb hm
  rw [s_l2Place_L1] at hm
  refine Ok_seq (rs G (hN 3 x.Stops h0) ?_)
  refine cd hm (fun hm => ?_) (fun hm => ?_)
  ·refine X_skip (thN (Ok_seq (Ok_block ?_)))
   obtain ⟨e, h, hm⟩ := obind hm
   refine rs G (hD 3 h h0) ?_
   refine cd hm (fun hm => ?_) (fun hm => ?_)
   ·refine rg G ?_
    have hm := eL hm hb hr
    cases hm
    exact rt [] []
   ·exact X_skip (ibN (thN (rh G (wL G hm))))
  ·exact Ok_exit (thE (thE (ibE (wE G hm hb))))
 rintro ⟨⟩ hm s hw
 refine thN (Ok_weak hw ?_)
 refine rg G ?_
 cases hm
 exact rt [] []
noncomputable def s_l1Cur_line_M : MS (l1Cur × ByteArray × Int) (Line × l1Cur) := ⟨.x .b (.x .r .r), fun x => s_l1Cur_line x.1 x.2.1 x.2.2, fun y => .aggv [dV y.1.Name, .own 0, .own 1], fun y => [arO 3 y.1.Stops, arO 3 y.1.Runs], fun _ y => [bxO y.2]⟩
theorem s_l1Cur_line_c {c name stops y} (hm : s_l1Cur_line c name stops = some y) : s_l1Cur_line_M.C (c, name, stops) y := s_l1Cur_line_M.c (c, name, stops) hm
theorem s_l1Cur_line_ok : FnOK Try.prog 148 s_l1Cur_line_M.S := by
 refine fm tt s_l1Cur_line_M [fo s_l1Cur_pick_ok, fo s_l2Place_ok] Try.call148 Try.func148 rfl Try.results148 Try.ntmps148 ?_
 rintro ⟨c, name, stops⟩ y cx G hm
 have hm : s_l1Cur_line c name stops = some y := hm
 unfold s_l1Cur_line at hm
 refine rg G (rg G ?_)
 obtain ⟨r, h, hm⟩ := obind hm
 refine rs G (hC 2 (s_l1Cur_pick_c h) h0) ?_
 refine Ok_seq ?_
 obtain ⟨r1, h1, hm⟩ := obind hm
 refine rs G (hC 1 (s_l1Cur_pick_c h1) h0) ?_
 refine tl hm (fun (v7, v8, v9, v10) => ⟨[(0, .ref 0 0), (2, dV stops), (6, .ref 32 0), (7, .ref 48 0)], [bX 0 [dV v7, dV v8, kV .u64 v9], bX 32 [dV ByteArray.empty, .dat (.sc (.slice none 0 0)), .dat (.sc (.slice none 0 0))], bX 48 [dV name, .own 64, .dat (.sc (.slice none 0 0))], aX 64 3 v10], 96⟩) (fun vv1 hm => ?_) ?_
 ·refine Ok_block (lpP hm (fun (v, v1, v2, v3, v4, v5) => ⟨[(0, .ref 0 0), (2, dV stops), (6, .ref 32 0), (7, .ref 48 0), (8, dV v), (9, dV v1)], [bX 0 [dV v2, dV v3, kV .u64 v4], bX 32 [dV ByteArray.empty, .dat (.sc (.slice none 0 0)), .dat (.sc (.slice none 0 0))], bX 48 [dV name, .own 64, .dat (.sc (.slice none 0 0))], aX 64 3 v5], 96⟩) (Wk_J G.hL ⟨[(0, []), (2, []), (6, []), (7, []), (8, []), (9, [])], [(0, 0, []), (32, 16, []), (48, 64, [.k, .o 64])], [(64, 3, 1, [])], 96⟩ (by kernel_rfl)) ?_)
  rintro ⟨v, v1, v2, v3, v4, v5⟩ r0 hb hm
  rw [s_l1Cur_line_L1] at hm
  refine Ok_seq (rg G (cd hm (fun hm => ?_) (fun hm => ?_)))
  ·refine X_skip (thN (Ok_seq (Ok_block (jn hm (fun v6 => ⟨[(0, .ref 0 0), (2, dV stops), (6, .ref 32 0), (7, .ref 48 0), (8, dV v), (9, dV v1)], [bX 0 [dV v2, dV v3, kV .u64 v4], bX 32 [dV ByteArray.empty, .dat (.sc (.slice none 0 0)), .dat (.sc (.slice none 0 0))], bX 48 [dV name, .own 64, .dat (.sc (.slice none 0 0))], aX 64 3 v6], 96⟩) (fun v6 hm => ?_) ?_))))
   ·obtain ⟨r2, h2, hm⟩ := obind hm
    refine rs G (hC 2 (s_l2Place_c h2) h0) ?_
    refine cd hm (fun hm => ?_) (fun hm => ?_)
    ·obtain ⟨u, h3, hm⟩ := obind hm
     refine re G (hA 4 8 h3 h0) ?_
     exact wJ G hm
    ·exact X_skip (wJ G hm)
   rintro v6 hm
   obtain ⟨r3, h4, hm⟩ := obind hm
   obtain ⟨u1, h5, hm⟩ := obind hm
   refine re G (hC 3 (s_l1Cur_pick_c h4) (hK h5 h0)) ?_
   exact ibN (thN (rh G (wL G hm)))
  ·exact Ok_exit (thE (thE (ibE (wD G hm hb))))
 rintro ⟨v7, v8, v9, v10⟩ hm s hw
 refine thN (Ok_weak hw ?_)
 refine jn hm (fun v11 => ⟨[(0, .ref 0 0), (6, .ref 32 0), (7, .ref 48 0)], [bX 0 [dV v7, dV v8, kV .u64 v9], bX 32 [dV ByteArray.empty, .dat (.sc (.slice none 0 0)), .dat (.sc (.slice none 0 0))], bX 48 [dV name, .own 64, .dat (.sc (.slice none 0 0))], aX 64 3 v11], 96⟩) (fun v11 hm => ?_) ?_
 ·refine rs G (hN 2 v10 h0) ?_
  refine cd hm (fun hm => ?_) (fun hm => ?_)
  ·obtain ⟨e1, h9, hm⟩ := obind hm
   obtain ⟨u4, h10, hm⟩ := obind hm
   obtain ⟨u5, h11, hm⟩ := obind hm
   refine de G [(10, [64, 304]), (12, [48, 320])] (hD 4 h9 (hE 5 h9 (hK h10 (hA 10 8 h11 h0)))) ?_
   exact wJ G hm
  ·exact X_skip (wJ G hm)
 rintro v11 hm
 refine Ok_seq (rg G (tl hm (fun (v17, v18, v19, v20) => ⟨[(0, .ref 0 0), (6, .ref 32 0), (7, .ref 48 0)], [bX 0 [dV v17, dV v18, kV .u64 v19], bX 32 [dV ByteArray.empty, .dat (.sc (.slice none 0 0)), .dat (.sc (.slice none 0 0))], bX 48 [dV name, .own 64, .own 80], aX 64 3 v11, aX 80 3 v20], 112⟩) (fun vv hm => ?_) ?_))
 ·refine Ok_block (lpP hm (fun (v12, v13, v14, v15, v16) => ⟨[(0, .ref 0 0), (6, .ref 32 0), (7, .ref 48 0), (10, dV v12)], [bX 0 [dV v13, dV v14, kV .u64 v15], bX 32 [dV ByteArray.empty, .dat (.sc (.slice none 0 0)), .dat (.sc (.slice none 0 0))], bX 48 [dV name, .own 64, .own 80], aX 64 3 v11, aX 80 3 v16], 112⟩) (Wk_J G.hL ⟨[(0, []), (6, []), (7, []), (10, [])], [(0, 0, []), (32, 32, []), (48, 48, [.k, .k, .o 80]), (64, 64, [])], [(80, 3, 1, [])], 112⟩ (by kernel_rfl)) ?_)
  rintro ⟨v12, v13, v14, v15, v16⟩ r0 hb1 hm
  rw [s_l1Cur_line_L2] at hm
  refine Ok_seq (rs G (hN 3 v11 h0) ?_)
  refine cd hm (fun hm => ?_) (fun hm => ?_)
  ·refine X_skip (thN (Ok_seq (Ok_block ?_)))
   obtain ⟨r5, h14, hm⟩ := obind hm
   obtain ⟨u7, h15, hm⟩ := obind hm
   refine de G [(3, [0]), (6, [80, 272]), (8, [48, 288])] (hC 3 (s_l1Cur_pick_c h14) (hA 6 8 h15 h0)) ?_
   exact ibN (thN (rh G (wL G hm)))
  ·exact Ok_exit (thE (thE (ibE (wD G hm hb1))))
 rintro ⟨v17, v18, v19, v20⟩ hm s1 hw1
 refine thN (Ok_weak hw1 ?_)
 refine rg G ?_
 cases hm
 exact rt [64, 80] []
noncomputable def s_l1Cur_line_f_M : MS (l1Cur × ByteArray × Int) (Line × l1Cur) := ⟨.x .b (.x .r .r), fun x => s_l1Cur_line_f x.1 x.2.1 x.2.2, fun y => dV y.1, fun _ => [], fun _ y => [bxO y.2]⟩
theorem s_l1Cur_line_f_c {c name stops y} (hm : s_l1Cur_line_f c name stops = some y) : s_l1Cur_line_f_M.C (c, name, stops) y := s_l1Cur_line_f_M.c (c, name, stops) hm
theorem s_l1Cur_line_f_ok : FnOK Try.prog 148 s_l1Cur_line_f_M.S := by
 refine fm tt s_l1Cur_line_f_M [fo s_l1Cur_pick_ok, fo s_l2Place_ok] Try.call148 Try.func148 rfl Try.results148 Try.ntmps148 ?_
 rintro ⟨c, name, stops⟩ y cx G hm
 have hm : s_l1Cur_line_f c name stops = some y := hm
 unfold s_l1Cur_line_f at hm
 refine rg G (rg G ?_)
 obtain ⟨r, h, hm⟩ := obind hm
 refine rs G (hC 2 (s_l1Cur_pick_c h) h0) ?_
 refine Ok_seq ?_
 obtain ⟨r1, h1, hm⟩ := obind hm
 refine rs G (hC 1 (s_l1Cur_pick_c h1) h0) ?_
 refine tl hm (fun (v7, v8, v9, v10) => ⟨[(0, .ref 0 0), (2, dV stops), (6, .ref 32 0), (7, .ref 48 0)], [bX 0 [dV v7, dV v8, kV .u64 v9], bX 32 [dV ByteArray.empty, .dat (.sc (.slice none 0 0)), .dat (.sc (.slice none 0 0))], bX 48 [dV name, .own 64, .dat (.sc (.slice none 0 0))], aX 64 3 v10], 96⟩) (fun vv1 hm => ?_) ?_
 ·refine Ok_block (lpP hm (fun (v, v1, v2, v3, v4, v5) => ⟨[(0, .ref 0 0), (2, dV stops), (6, .ref 32 0), (7, .ref 48 0), (8, dV v), (9, dV v1)], [bX 0 [dV v2, dV v3, kV .u64 v4], bX 32 [dV ByteArray.empty, .dat (.sc (.slice none 0 0)), .dat (.sc (.slice none 0 0))], bX 48 [dV name, .own 64, .dat (.sc (.slice none 0 0))], aX 64 3 v5], 96⟩) (Wk_J G.hL ⟨[(0, []), (2, []), (6, []), (7, []), (8, []), (9, [])], [(0, 0, []), (32, 16, []), (48, 64, [.k, .o 64])], [(64, 3, 1, [])], 96⟩ (by kernel_rfl)) ?_)
  rintro ⟨v, v1, v2, v3, v4, v5⟩ r0 hb hm
  rw [s_l1Cur_line_f_L1] at hm
  refine Ok_seq (rg G (cd hm (fun hm => ?_) (fun hm => ?_)))
  ·refine X_skip (thN (Ok_seq (Ok_block (jn hm (fun v6 => ⟨[(0, .ref 0 0), (2, dV stops), (6, .ref 32 0), (7, .ref 48 0), (8, dV v), (9, dV v1)], [bX 0 [dV v2, dV v3, kV .u64 v4], bX 32 [dV ByteArray.empty, .dat (.sc (.slice none 0 0)), .dat (.sc (.slice none 0 0))], bX 48 [dV name, .own 64, .dat (.sc (.slice none 0 0))], aX 64 3 v6], 96⟩) (fun v6 hm => ?_) ?_))))
   ·obtain ⟨r2, h2, hm⟩ := obind hm
    refine rs G (hC 2 (s_l2Place_c h2) h0) ?_
    refine cd hm (fun hm => ?_) (fun hm => ?_)
    ·obtain ⟨u, h3, hm⟩ := obind hm
     refine re G (hA 4 8 h3 h0) ?_
     exact wJ G hm
    ·exact X_skip (wJ G hm)
   rintro v6 hm
   obtain ⟨r3, h4, hm⟩ := obind hm
   obtain ⟨u1, h5, hm⟩ := obind hm
   refine re G (hC 3 (s_l1Cur_pick_c h4) (hK h5 h0)) ?_
   exact ibN (thN (rh G (wL G hm)))
  ·exact Ok_exit (thE (thE (ibE (wD G hm hb))))
 rintro ⟨v7, v8, v9, v10⟩ hm s hw
 refine thN (Ok_weak hw ?_)
 refine jn hm (fun v11 => ⟨[(0, .ref 0 0), (6, .ref 32 0), (7, .ref 48 0)], [bX 0 [dV v7, dV v8, kV .u64 v9], bX 32 [dV ByteArray.empty, .dat (.sc (.slice none 0 0)), .dat (.sc (.slice none 0 0))], bX 48 [dV name, .own 64, .dat (.sc (.slice none 0 0))], aX 64 3 v11], 96⟩) (fun v11 hm => ?_) ?_
 ·refine rs G (hN 2 v10 h0) ?_
  refine cd hm (fun hm => ?_) (fun hm => ?_)
  ·obtain ⟨e1, h9, hm⟩ := obind hm
   obtain ⟨u4, h10, hm⟩ := obind hm
   obtain ⟨u5, h11, hm⟩ := obind hm
   refine de G [(10, [64, 304]), (12, [48, 320])] (hD 4 h9 (hE 5 h9 (hK h10 (hA 10 8 h11 h0)))) ?_
   exact wJ G hm
  ·exact X_skip (wJ G hm)
 rintro v11 hm
 refine Ok_seq (rg G (tl hm (fun (v17, v18, v19, v20) => ⟨[(0, .ref 0 0), (6, .ref 32 0), (7, .ref 48 0)], [bX 0 [dV v17, dV v18, kV .u64 v19], bX 32 [dV ByteArray.empty, .dat (.sc (.slice none 0 0)), .dat (.sc (.slice none 0 0))], bX 48 [dV name, .own 64, .own 80], aX 64 3 v11, aX 80 3 v20], 112⟩) (fun vv hm => ?_) ?_))
 ·refine Ok_block (lpP hm (fun (v12, v13, v14, v15, v16) => ⟨[(0, .ref 0 0), (6, .ref 32 0), (7, .ref 48 0), (10, dV v12)], [bX 0 [dV v13, dV v14, kV .u64 v15], bX 32 [dV ByteArray.empty, .dat (.sc (.slice none 0 0)), .dat (.sc (.slice none 0 0))], bX 48 [dV name, .own 64, .own 80], aX 64 3 v11, aX 80 3 v16], 112⟩) (Wk_J G.hL ⟨[(0, []), (6, []), (7, []), (10, [])], [(0, 0, []), (32, 32, []), (48, 48, [.k, .k, .o 80]), (64, 64, [])], [(80, 3, 1, [])], 112⟩ (by kernel_rfl)) ?_)
  rintro ⟨v12, v13, v14, v15, v16⟩ r0 hb1 hm
  rw [s_l1Cur_line_f_L2] at hm
  refine Ok_seq (rs G (hN 3 v11 h0) ?_)
  refine cd hm (fun hm => ?_) (fun hm => ?_)
  ·refine X_skip (thN (Ok_seq (Ok_block ?_)))
   obtain ⟨r5, h14, hm⟩ := obind hm
   obtain ⟨u7, h15, hm⟩ := obind hm
   refine de G [(3, [0]), (6, [80, 272]), (8, [48, 288])] (hC 3 (s_l1Cur_pick_c h14) (hA 6 8 h15 h0)) ?_
   exact ibN (thN (rh G (wL G hm)))
  ·exact Ok_exit (thE (thE (ibE (wD G hm hb1))))
 rintro ⟨v17, v18, v19, v20⟩ hm s1 hw1
 refine thN (Ok_weak hw1 ?_)
 refine rg G ?_
 cases hm
 exact rt [] []
noncomputable def s_l1Cur_one_M : MS (l1Cur × Int) (Bool × l1Cur) := ⟨.x .b .r, fun x => s_l1Cur_one x.1 x.2, fun y => dV y.1, fun _ => [], fun _ y => [bxO y.2]⟩
theorem s_l1Cur_one_c {c n y} (hm : s_l1Cur_one c n = some y) : s_l1Cur_one_M.C (c, n) y := s_l1Cur_one_M.c (c, n) hm
theorem s_l1Cur_one_ok : FnOK Try.prog 104 s_l1Cur_one_M.S := by
 refine fm tt s_l1Cur_one_M [fo s_l1Cur_pick_ok] Try.call104 Try.func104 rfl Try.results104 Try.ntmps104 ?_
 rintro ⟨c, n⟩ y cx G hm
 have hm : s_l1Cur_one c n = some y := hm
 unfold s_l1Cur_one at hm
 refine rg G ?_
 obtain ⟨r, h, hm⟩ := obind hm
 refine rs G (hC 2 (s_l1Cur_pick_c h) h0) ?_
 cases hm
 exact rt [] []
noncomputable def s_l2Back_f_M : MS ((List Int)) ((List Int)) := ⟨.r, s_l2Back_f, fun y => dV y, fun _ => [], fun _ _ => []⟩
theorem s_l2Back_f_c {list y} (hm : s_l2Back_f list = some y) : s_l2Back_f_M.C list y := s_l2Back_f_M.c list hm
theorem s_l2Back_f_ok : FnOK Try.prog 167 s_l2Back_f_M.S := by
 refine fm tt s_l2Back_f_M [] Try.call167 Try.func167 rfl Try.results167 Try.ntmps167 ?_
 rintro list y cx G hm
 have hm : s_l2Back_f list = some y := hm
 unfold s_l2Back_f at hm
 refine rg G (rg G (Ok_seq (rs G (hN 1 list h0) ?_)))
 refine tl hm (fun i1 => ⟨[(3, .own 16)], [aX 16 3 i1], 48⟩) (fun i1 hm => ?_) ?_
 ·refine Ok_block (lp G hm (fun (v, i) => ⟨[(0, dV list), (3, .own 16), (4, dV v)], [aX 16 3 i], 48⟩) ?_)
  rintro ⟨v, i⟩ r0 hb hm
  rw [s_l2Back_f_L1] at hm
  refine Ok_seq (rg G (cd hm (fun hm => ?_) (fun hm => ?_)))
  ·refine X_skip (thN (Ok_seq (Ok_block ?_)))
   obtain ⟨e, h, hm⟩ := obind hm
   obtain ⟨u, h1, hm⟩ := obind hm
   refine re G (hD 3 h (hA 6 8 h1 h0)) ?_
   exact ibN (thN (rh G (wL G hm)))
  ·exact Ok_exit (thE (thE (ibE (wD G hm hb))))
 rintro i1 hm s hw
 refine thN (Ok_weak hw ?_)
 refine rg G ?_
 cases hm
 exact rt [] []
noncomputable def s_l1Own_M : MS ((List Int)) ((List Int)) := ⟨.r, s_l1Own, fun _ => .own 0, fun y => [arO 3 y], fun _ _ => []⟩
theorem s_l1Own_c {l y} (hm : s_l1Own l = some y) : s_l1Own_M.C l y := s_l1Own_M.c l hm
theorem s_l1Own_ok : FnOK Try.prog 187 s_l1Own_M.S := by
 refine fm tt s_l1Own_M [] Try.call187 Try.func187 rfl Try.results187 Try.ntmps187 ?_
 rintro l y cx G hm
 have hm : s_l1Own l = some y := hm
 unfold s_l1Own at hm
 refine rg G ?_
 obtain ⟨u, h, hm⟩ := obind hm
 refine rs G (hA 2 8 h h0) ?_
 cases hm
 exact rt [64] []
noncomputable def s_l1Own_f_M : MS ((List Int)) ((List Int)) := ⟨.r, s_l1Own_f, fun y => dV y, fun _ => [], fun _ _ => []⟩
theorem s_l1Own_f_c {l y} (hm : s_l1Own_f l = some y) : s_l1Own_f_M.C l y := s_l1Own_f_M.c l hm
theorem s_l1Own_f_ok : FnOK Try.prog 187 s_l1Own_f_M.S := by
 refine fm tt s_l1Own_f_M [] Try.call187 Try.func187 rfl Try.results187 Try.ntmps187 ?_
 rintro l y cx G hm
 have hm : s_l1Own_f l = some y := hm
 unfold s_l1Own_f at hm
 refine rg G ?_
 obtain ⟨u, h, hm⟩ := obind hm
 refine rs G (hA 2 8 h h0) ?_
 cases hm
 exact rt [] []
noncomputable def s_l2Own_M : MS Network Network := ⟨.r, s_l2Own, fun _ => .aggv [.own 0, .own 1], fun y => [arO 9 y.Stops, arO 80 y.Lines], fun _ _ => []⟩
theorem s_l2Own_c {n y} (hm : s_l2Own n = some y) : s_l2Own_M.C n y := s_l2Own_M.c n hm
theorem s_l2Own_ok : FnOK Try.prog 168 s_l2Own_M.S := by
 refine fm tt s_l2Own_M [fo s_l1Own_f_ok] Try.call168 Try.func168 rfl Try.results168 Try.ntmps168 ?_
 rintro n y cx G hm
 have hm : s_l2Own n = some y := hm
 unfold s_l2Own at hm
 refine rg G ?_
 obtain ⟨u, h, hm⟩ := obind hm
 refine rs G (hA 3 16 h h0) ?_
 refine Ok_seq (rg G (tl hm (fun v2 => ⟨[(2, .ref 16 0), (3, .ref 32 0)], [bX 16 [.dat (.sc (.slice none 0 0)), .dat (.sc (.slice none 0 0))], bX 32 [.own 48, .own 64], aX 48 9 (([] : List ByteArray) ++ n.Stops), aX 64 80 v2], 96⟩) (fun v2 hm => ?_) ?_))
 ·refine Ok_block (lpP hm (fun (v, v1) => ⟨[(1, .ref 16 0), (2, .ref 32 0), (3, .ref 48 0), (4, dV v)], [bX 16 [dV n.Stops, dV n.Lines], bX 32 [.dat (.sc (.slice none 0 0)), .dat (.sc (.slice none 0 0))], bX 48 [.own 64, .own 80], aX 64 9 (([] : List ByteArray) ++ n.Stops), aX 80 80 v1], 112⟩) (Wk_J G.hL ⟨[(1, []), (2, []), (3, []), (4, [])], [(16, 16, []), (32, 32, []), (48, 128, [.k, .o 80]), (64, 96, [])], [(80, 80, 3, [])], 112⟩ (by kernel_rfl)) ?_)
  rintro ⟨v, v1⟩ r0 hb hm
  rw [s_l2Own_L1] at hm
  refine Ok_seq (rs G (hN 3 n.Lines h0) ?_)
  refine cd hm (fun hm => ?_) (fun hm => ?_)
  ·refine X_skip (thN (Ok_seq (Ok_block ?_)))
   obtain ⟨e3, h7, hm⟩ := obind hm
   obtain ⟨e4, h8, hm⟩ := obind hm
   obtain ⟨r2, h9, hm⟩ := obind hm
   obtain ⟨e5, h10, hm⟩ := obind hm
   obtain ⟨r3, h11, hm⟩ := obind hm
   obtain ⟨u2, h12, hm⟩ := obind hm
   refine de G [(23, []), (24, [80, 560]), (26, [48, 576])] (hD 5 h7 (hD 11 h8 (hC 14 (s_l1Own_f_c h9) (hD 18 h10 (hC 21 (s_l1Own_f_c h11) (hA 24 64 h12 h0)))))) ?_
   exact ibN (thN (rh G (wL G hm)))
  ·exact Ok_exit (thE (thE (ibE (wD G hm hb))))
 rintro v2 hm s hw
 refine thN (Ok_weak hw ?_)
 refine rg G ?_
 cases hm
 exact rt [48, 64] []
noncomputable def s_l1Cur_network_M : MS l1Cur (Network × l1Cur) := ⟨.b, s_l1Cur_network, fun _ => .aggv [.own 0, .own 1], fun y => [arO 9 y.1.Stops, arO 80 y.1.Lines], fun _ y => [bxO y.2]⟩
theorem s_l1Cur_network_c {c y} (hm : s_l1Cur_network c = some y) : s_l1Cur_network_M.C c y := s_l1Cur_network_M.c c hm
theorem s_l1Cur_network_ok : FnOK Try.prog 146 s_l1Cur_network_M.S := by
 refine fm tt s_l1Cur_network_M [fo s_l1Cur_pick_ok, fo s_l1Num_ok, fo s_l1Cur_line_f_ok, fo s_l1Cur_one_ok, fo s_l2Back_f_ok, fo s_l2Own_ok] Try.call146 Try.func146 rfl Try.results146 Try.ntmps146 ?_
 rintro c y cx G hm
 have hm : s_l1Cur_network c = some y := hm
 unfold s_l1Cur_network at hm
 refine rg G ?_
 obtain ⟨r, h, hm⟩ := obind hm
 refine rs G (hC 1 (s_l1Cur_pick_c h) h0) ?_
 obtain ⟨u, h1, hm⟩ := obind hm
 refine rs G (hO 2 (.fz [96] [] []) (hU 2 h1 h0)) ?_
 refine Ok_seq ?_
 obtain ⟨r1, h2, hm⟩ := obind hm
 refine rs G (hC 1 (s_l1Cur_pick_c h2) h0) ?_
 refine tl hm (fun (v4, v5, v6, v7) => ⟨[(0, .ref 0 0), (2, .ref 32 0), (4, .ref 48 0)], [bX 0 [dV v4, dV v5, kV .u64 v6], bX 32 [.dat (.sc (.slice none 0 0)), .dat (.sc (.slice none 0 0))], bX 48 [dV ((([(str [112, 111, 114, 116]), (str [109, 105, 108, 108]), (str [112, 97, 114, 107]), (str [104, 97, 108, 108]), (str [100, 111, 99, 107]), (str [102, 97, 105, 114])] : List ByteArray).take (w64 (2 + r.1)).toNat).drop (0 : Int).toNat), .own 64], aX 64 80 v7], 96⟩) (fun vv1 hm => ?_) ?_
 ·refine Ok_block (lpP hm (fun (x, v, v1, v2, v3) => ⟨[(0, .ref 0 0), (2, .ref 32 0), (3, dV (w64 (2 + r.1))), (4, .ref 48 0), (5, dV x)], [bX 0 [dV v, dV v1, kV .u64 v2], bX 32 [.dat (.sc (.slice none 0 0)), .dat (.sc (.slice none 0 0))], bX 48 [dV ((([(str [112, 111, 114, 116]), (str [109, 105, 108, 108]), (str [112, 97, 114, 107]), (str [104, 97, 108, 108]), (str [100, 111, 99, 107]), (str [102, 97, 105, 114])] : List ByteArray).take (w64 (2 + r.1)).toNat).drop (0 : Int).toNat), .own 64], aX 64 80 v3], 96⟩) (Wk_J G.hL ⟨[(0, []), (2, []), (3, []), (4, []), (5, [])], [(0, 0, []), (32, 16, []), (48, 160, [.k, .o 64])], [(64, 80, 3, [])], 96⟩ (by kernel_rfl)) ?_)
  rintro ⟨x, v, v1, v2, v3⟩ r0 hb hm
  rw [s_l1Cur_network_L1] at hm
  refine Ok_seq (rg G (cd hm (fun hm => ?_) (fun hm => ?_)))
  ·refine X_skip (thN (Ok_seq (Ok_block ?_)))
   obtain ⟨r4, h7, hm⟩ := obind hm
   obtain ⟨u3, h8, hm⟩ := obind hm
   obtain ⟨r5, h9, hm⟩ := obind hm
   obtain ⟨u4, h10, hm⟩ := obind hm
   refine de G [(7, [0]), (8, []), (9, [64, 256]), (11, [48, 272])] (hC 4 (s_l1Num_c h7) (hP (cat_p (chk_t h8)) (hC 7 (s_l1Cur_line_f_c h9) (hA 9 64 h10 h0)))) ?_
   exact ibN (thN (rh G (wL G hm)))
  ·exact Ok_exit (thE (thE (ibE (wD G hm hb))))
 rintro ⟨v4, v5, v6, v7⟩ hm s hw
 refine thN (Ok_weak hw ?_)
 refine jn hm (fun (v8, v9, v10, v11) => ⟨[(0, .ref 0 0), (2, .ref 32 0), (4, .ref 48 0)], [bX 0 [dV v8, dV v9, kV .u64 v10], bX 32 [.dat (.sc (.slice none 0 0)), .dat (.sc (.slice none 0 0))], bX 48 [dV ((([(str [112, 111, 114, 116]), (str [109, 105, 108, 108]), (str [112, 97, 114, 107]), (str [104, 97, 108, 108]), (str [100, 111, 99, 107]), (str [102, 97, 105, 114])] : List ByteArray).take (w64 (2 + r.1)).toNat).drop (0 : Int).toNat), .own 64], aX 64 80 v11], 96⟩) (fun vv hm => ?_) ?_
 ·obtain ⟨r6, h11, hm⟩ := obind hm
  refine rs G (hC 1 (s_l1Cur_one_c h11) h0) ?_
  refine cd hm (fun hm => ?_) (fun hm => ?_)
  ·obtain ⟨e, h12, hm⟩ := obind hm
   refine rs G (hD 2 h12 (hE 3 h12 h0)) ?_
   obtain ⟨r9, h16, hm⟩ := obind hm
   obtain ⟨r10, h17, hm⟩ := obind hm
   obtain ⟨u6, h18, hm⟩ := obind hm
   refine de G [(9, []), (10, [64, 368]), (12, [48, 384])] (hC 4 (s_l2Back_f_c h16) (hC 7 (s_l2Back_f_c h17) (hA 10 64 h18 h0))) ?_
   exact wJ G hm
  ·exact X_skip (wJ G hm)
 rintro ⟨v8, v9, v10, v11⟩ hm
 obtain ⟨r11, h19, hm⟩ := obind hm
 refine rs G (hO 1 (.fz [64] [] []) (hC 1 (s_l2Own_c h19) h0)) ?_
 cases hm
 exact rt [112, 113] []
noncomputable def s_l1Cur_timetable_M : MS l1Cur (Timetable × l1Cur) := ⟨.b, s_l1Cur_timetable, fun _ => .aggv [.own 0, .own 1, .own 2], fun y => [arO 9 y.1.Network.Stops, arO 80 y.1.Network.Lines, arO 107 y.1.Trips], fun _ y => [bxO y.2]⟩
theorem s_l1Cur_timetable_c {c y} (hm : s_l1Cur_timetable c = some y) : s_l1Cur_timetable_M.C c y := s_l1Cur_timetable_M.c c hm
theorem s_l1Cur_timetable_ok : FnOK Try.prog 115 s_l1Cur_timetable_M.S := by
 refine fm tt s_l1Cur_timetable_M [fo s_l1Cur_network_ok, fo s_l1Cur_pick_ok] Try.call115 Try.func115 rfl Try.results115 Try.ntmps115 ?_
 rintro c y cx G hm
 have hm : s_l1Cur_timetable c = some y := hm
 unfold s_l1Cur_timetable at hm
 refine rg G ?_
 obtain ⟨r, h, hm⟩ := obind hm
 refine rs G (hC 1 (s_l1Cur_network_c h) h0) ?_
 refine rg G (Ok_seq ?_)
 obtain ⟨r1, h1, hm⟩ := obind hm
 refine rs G (hC 1 (s_l1Cur_pick_c h1) h0) ?_
 refine tl hm (fun (v5, v6, v7, v8) => ⟨[(0, .ref 0 0), (2, .ref 32 0), (3, .ref 48 0)], [bX 0 [dV v5, dV v6, kV .u64 v7], bX 32 [.dat (.sc (.slice none 0 0)), .dat (.sc (.slice none 0 0)), .dat (.sc (.slice none 0 0))], bX 48 [.own 64, .own 80, .own 96], aX 64 9 r.1.Stops, aX 80 80 r.1.Lines, aX 96 107 v8], 128⟩) (fun vv hm => ?_) ?_
 ·refine Ok_block (lpP hm (fun (n, v, v1, v2, v3, v4) => ⟨[(0, .ref 0 0), (2, .ref 32 0), (3, .ref 48 0), (4, dV n), (5, dV v)], [bX 0 [dV v1, dV v2, kV .u64 v3], bX 32 [.dat (.sc (.slice none 0 0)), .dat (.sc (.slice none 0 0)), .dat (.sc (.slice none 0 0))], bX 48 [.own 64, .own 80, .own 96], aX 64 9 r.1.Stops, aX 80 80 r.1.Lines, aX 96 107 v4], 128⟩) (Wk_J G.hL ⟨[(0, []), (2, []), (3, []), (4, []), (5, [])], [(0, 0, []), (32, 16, []), (48, 80, [.k, .k, .o 96]), (64, 48, []), (80, 49, [])], [(96, 107, 3, [])], 128⟩ (by kernel_rfl)) ?_)
  rintro ⟨n, v, v1, v2, v3, v4⟩ r0 hb hm
  rw [s_l1Cur_timetable_L1] at hm
  refine Ok_seq (rg G (cd hm (fun hm => ?_) (fun hm => ?_)))
  ·refine X_skip (thN (Ok_seq (Ok_block ?_)))
   obtain ⟨r2, h2, hm⟩ := obind hm
   refine rs G (hC 3 (s_l1Cur_pick_c h2) h0) ?_
   obtain ⟨r5, h6, hm⟩ := obind hm
   obtain ⟨r6, h7, hm⟩ := obind hm
   obtain ⟨u1, h8, hm⟩ := obind hm
   refine de G [(8, [0]), (10, [0]), (15, [96, 480]), (17, [48, 496])] (hN 7 r.1.Lines (hC 8 (s_l1Cur_pick_c h6) (hC 10 (s_l1Cur_pick_c h7) (hA 15 24 h8 h0)))) ?_
   exact ibN (thN (rh G (wL G hm)))
  ·exact Ok_exit (thE (thE (ibE (wD G hm hb))))
 rintro ⟨v5, v6, v7, v8⟩ hm s hw
 refine thN (Ok_weak hw ?_)
 refine rg G ?_
 cases hm
 exact rt [64, 80, 96] []
noncomputable def s_l1Cur_among_M : MS (l1Cur × (List Int)) (Int × l1Cur) := ⟨.x .b .r, fun x => s_l1Cur_among x.1 x.2, fun y => dV y.1, fun _ => [], fun _ y => [bxO y.2]⟩
theorem s_l1Cur_among_c {c list y} (hm : s_l1Cur_among c list = some y) : s_l1Cur_among_M.C (c, list) y := s_l1Cur_among_M.c (c, list) hm
theorem s_l1Cur_among_ok : FnOK Try.prog 48 s_l1Cur_among_M.S := by
 refine fm tt s_l1Cur_among_M [fo s_l1Cur_pick_ok] Try.call48 Try.func48 rfl Try.results48 Try.ntmps48 ?_
 rintro ⟨c, list⟩ y cx G hm
 have hm : s_l1Cur_among c list = some y := hm
 unfold s_l1Cur_among at hm
 refine rg G ?_
 obtain ⟨r, h, hm⟩ := obind hm
 obtain ⟨e, h1, hm⟩ := obind hm
 refine rs G (hN 3 list (hC 4 (s_l1Cur_pick_c h) (hD 5 h1 h0))) ?_
 cases hm
 exact rt [] []
noncomputable def s_l1Cur_of_w_M : MS (l1Cur × (List ByteArray)) (ByteArray × l1Cur) := ⟨.x .b (.s 9), fun x => s_l1Cur_of_w x.1 x.2, fun y => dV y.1, fun _ => [], fun x y => [bxO y.2, arO 9 x.2]⟩
theorem s_l1Cur_of_w_c {c list y} (hm : s_l1Cur_of_w c list = some y) : s_l1Cur_of_w_M.C (c, list) y := s_l1Cur_of_w_M.c (c, list) hm
theorem s_l1Cur_of_w_ok : FnOK Try.prog 147 s_l1Cur_of_w_M.S := by
 refine fm tt s_l1Cur_of_w_M [fo s_l1Cur_pick_ok] Try.call147 Try.func147 rfl Try.results147 Try.ntmps147 ?_
 rintro ⟨c, list⟩ y cx G hm
 have hm : s_l1Cur_of_w c list = some y := hm
 unfold s_l1Cur_of_w at hm
 refine rg G ?_
 obtain ⟨r, h, hm⟩ := obind hm
 obtain ⟨e, h1, hm⟩ := obind hm
 refine rs G (hN 3 list (hC 4 (s_l1Cur_pick_c h) (hD 5 h1 (hE 6 h1 h0)))) ?_
 cases hm
 exact rt [] []
noncomputable def s_l2Own_t_M : MS Network Network := ⟨.r, s_l2Own_t, fun _ => .aggv [.own 0, .own 1], fun y => [arO 9 y.Stops, taO 80 [none, some 3, some 3] y.Lines], fun _ _ => []⟩
theorem s_l2Own_t_c {n y} (hm : s_l2Own_t n = some y) : s_l2Own_t_M.C n y := s_l2Own_t_M.c n hm
theorem s_l2Own_t_ok : FnOK Try.prog 168 s_l2Own_t_M.S := by
 refine fm tt s_l2Own_t_M [fo s_l1Own_ok] Try.call168 Try.func168 rfl Try.results168 Try.ntmps168 ?_
 rintro n y cx G hm
 have hm : s_l2Own_t n = some y := hm
 unfold s_l2Own_t at hm
 refine rg G ?_
 obtain ⟨u, h, hm⟩ := obind hm
 refine rs G (hA 3 16 h h0) ?_
 refine Ok_seq (rg G (tl hm (fun v2 => ⟨[(2, .ref 16 0), (3, .ref 32 0)], [bX 16 [.dat (.sc (.slice none 0 0)), .dat (.sc (.slice none 0 0))], bX 32 [.own 48, .own 64], aX 48 9 (([] : List ByteArray) ++ n.Stops), tX 64 80 [none, some 3, some 3] v2 64 none], 96⟩) (fun v2 hm => ?_) ?_))
 ·refine Ok_block (lpP hm (fun (v, v1) => ⟨[(1, .ref 16 0), (2, .ref 32 0), (3, .ref 48 0), (4, dV v)], [bX 16 [dV n.Stops, dV n.Lines], bX 32 [.dat (.sc (.slice none 0 0)), .dat (.sc (.slice none 0 0))], bX 48 [.own 64, .own 80], aX 64 9 (([] : List ByteArray) ++ n.Stops), tX 80 80 [none, some 3, some 3] v1 80 none], 112⟩) (Wk_J G.hL ⟨[(1, []), (2, []), (3, []), (4, [])], [(16, 16, []), (32, 32, []), (48, 128, [.k, .o 80]), (64, 96, [])], [(80, 80, 3, [none, some 3, some 3])], 112⟩ (by kernel_rfl)) ?_)
  rintro ⟨v, v1⟩ r0 hb hm
  rw [s_l2Own_t_L1] at hm
  refine Ok_seq (rs G (hN 3 n.Lines h0) ?_)
  refine cd hm (fun hm => ?_) (fun hm => ?_)
  ·refine X_skip (thN (Ok_seq (Ok_block ?_)))
   obtain ⟨e3, h7, hm⟩ := obind hm
   obtain ⟨e4, h8, hm⟩ := obind hm
   obtain ⟨r2, h9, hm⟩ := obind hm
   obtain ⟨e5, h10, hm⟩ := obind hm
   obtain ⟨r3, h11, hm⟩ := obind hm
   obtain ⟨u2, h12, hm⟩ := obind hm
   refine de G [(23, [416, 528]), (24, [80, 560]), (26, [48, 576])] (hD 5 h7 (hD 11 h8 (hC 14 (s_l1Own_c h9) (hD 18 h10 (hC 21 (s_l1Own_c h11) (hP (nodupB_ok (l := [416, 528]) rfl) (hA 24 64 h12 h0))))))) ?_
   exact ibN (thN (rh G (wL G hm)))
  ·exact Ok_exit (thE (thE (ibE (wD G hm hb))))
 rintro v2 hm s hw
 refine thN (Ok_weak hw ?_)
 refine rg G ?_
 cases hm
 exact rt [48, 64] []
noncomputable def s_l1Cur_network_t_M : MS l1Cur (Network × l1Cur) := ⟨.b, s_l1Cur_network_t, fun _ => .aggv [.own 0, .own 1], fun y => [arO 9 y.1.Stops, taO 80 [none, some 3, some 3] y.1.Lines], fun _ y => [bxO y.2]⟩
theorem s_l1Cur_network_t_c {c y} (hm : s_l1Cur_network_t c = some y) : s_l1Cur_network_t_M.C c y := s_l1Cur_network_t_M.c c hm
theorem s_l1Cur_network_t_ok : FnOK Try.prog 146 s_l1Cur_network_t_M.S := by
 refine fm tt s_l1Cur_network_t_M [fo s_l1Cur_pick_ok, fo s_l1Num_ok, fo s_l1Cur_line_f_ok, fo s_l1Cur_one_ok, fo s_l2Back_f_ok, fo s_l2Own_t_ok] Try.call146 Try.func146 rfl Try.results146 Try.ntmps146 ?_
 rintro c y cx G hm
 have hm : s_l1Cur_network_t c = some y := hm
 unfold s_l1Cur_network_t at hm
 refine rg G ?_
 obtain ⟨r, h, hm⟩ := obind hm
 refine rs G (hC 1 (s_l1Cur_pick_c h) h0) ?_
 obtain ⟨u, h1, hm⟩ := obind hm
 refine rs G (hO 2 (.fz [96] [] []) (hU 2 h1 h0)) ?_
 refine Ok_seq ?_
 obtain ⟨r1, h2, hm⟩ := obind hm
 refine rs G (hC 1 (s_l1Cur_pick_c h2) h0) ?_
 refine tl hm (fun (v4, v5, v6, v7) => ⟨[(0, .ref 0 0), (2, .ref 32 0), (4, .ref 48 0)], [bX 0 [dV v4, dV v5, kV .u64 v6], bX 32 [.dat (.sc (.slice none 0 0)), .dat (.sc (.slice none 0 0))], bX 48 [dV ((([(str [112, 111, 114, 116]), (str [109, 105, 108, 108]), (str [112, 97, 114, 107]), (str [104, 97, 108, 108]), (str [100, 111, 99, 107]), (str [102, 97, 105, 114])] : List ByteArray).take (w64 (2 + r.1)).toNat).drop (0 : Int).toNat), .own 64], aX 64 80 v7], 96⟩) (fun vv1 hm => ?_) ?_
 ·refine Ok_block (lpP hm (fun (x, v, v1, v2, v3) => ⟨[(0, .ref 0 0), (2, .ref 32 0), (3, dV (w64 (2 + r.1))), (4, .ref 48 0), (5, dV x)], [bX 0 [dV v, dV v1, kV .u64 v2], bX 32 [.dat (.sc (.slice none 0 0)), .dat (.sc (.slice none 0 0))], bX 48 [dV ((([(str [112, 111, 114, 116]), (str [109, 105, 108, 108]), (str [112, 97, 114, 107]), (str [104, 97, 108, 108]), (str [100, 111, 99, 107]), (str [102, 97, 105, 114])] : List ByteArray).take (w64 (2 + r.1)).toNat).drop (0 : Int).toNat), .own 64], aX 64 80 v3], 96⟩) (Wk_J G.hL ⟨[(0, []), (2, []), (3, []), (4, []), (5, [])], [(0, 0, []), (32, 16, []), (48, 160, [.k, .o 64])], [(64, 80, 3, [])], 96⟩ (by kernel_rfl)) ?_)
  rintro ⟨x, v, v1, v2, v3⟩ r0 hb hm
  rw [s_l1Cur_network_t_L1] at hm
  refine Ok_seq (rg G (cd hm (fun hm => ?_) (fun hm => ?_)))
  ·refine X_skip (thN (Ok_seq (Ok_block ?_)))
   obtain ⟨r4, h7, hm⟩ := obind hm
   obtain ⟨u3, h8, hm⟩ := obind hm
   obtain ⟨r5, h9, hm⟩ := obind hm
   obtain ⟨u4, h10, hm⟩ := obind hm
   refine de G [(7, [0]), (8, []), (9, [64, 256]), (11, [48, 272])] (hC 4 (s_l1Num_c h7) (hP (cat_p (chk_t h8)) (hC 7 (s_l1Cur_line_f_c h9) (hA 9 64 h10 h0)))) ?_
   exact ibN (thN (rh G (wL G hm)))
  ·exact Ok_exit (thE (thE (ibE (wD G hm hb))))
 rintro ⟨v4, v5, v6, v7⟩ hm s hw
 refine thN (Ok_weak hw ?_)
 refine jn hm (fun (v8, v9, v10, v11) => ⟨[(0, .ref 0 0), (2, .ref 32 0), (4, .ref 48 0)], [bX 0 [dV v8, dV v9, kV .u64 v10], bX 32 [.dat (.sc (.slice none 0 0)), .dat (.sc (.slice none 0 0))], bX 48 [dV ((([(str [112, 111, 114, 116]), (str [109, 105, 108, 108]), (str [112, 97, 114, 107]), (str [104, 97, 108, 108]), (str [100, 111, 99, 107]), (str [102, 97, 105, 114])] : List ByteArray).take (w64 (2 + r.1)).toNat).drop (0 : Int).toNat), .own 64], aX 64 80 v11], 96⟩) (fun vv hm => ?_) ?_
 ·obtain ⟨r6, h11, hm⟩ := obind hm
  refine rs G (hC 1 (s_l1Cur_one_c h11) h0) ?_
  refine cd hm (fun hm => ?_) (fun hm => ?_)
  ·obtain ⟨e, h12, hm⟩ := obind hm
   refine rs G (hD 2 h12 (hE 3 h12 h0)) ?_
   obtain ⟨r9, h16, hm⟩ := obind hm
   obtain ⟨r10, h17, hm⟩ := obind hm
   obtain ⟨u6, h18, hm⟩ := obind hm
   refine de G [(9, []), (10, [64, 368]), (12, [48, 384])] (hC 4 (s_l2Back_f_c h16) (hC 7 (s_l2Back_f_c h17) (hA 10 64 h18 h0))) ?_
   exact wJ G hm
  ·exact X_skip (wJ G hm)
 rintro ⟨v8, v9, v10, v11⟩ hm
 obtain ⟨r11, h19, hm⟩ := obind hm
 refine rs G (hO 1 (.fz [64] [] []) (hC 1 (s_l2Own_t_c h19) h0)) ?_
 cases hm
 exact rt [112, 113] []
noncomputable def s_l1Cur_among_w_M : MS (l1Cur × (List Int)) (Int × l1Cur) := ⟨.x .b (.s 3), fun x => s_l1Cur_among_w x.1 x.2, fun y => dV y.1, fun _ => [], fun x y => [bxO y.2, arO 3 x.2]⟩
theorem s_l1Cur_among_w_c {c list y} (hm : s_l1Cur_among_w c list = some y) : s_l1Cur_among_w_M.C (c, list) y := s_l1Cur_among_w_M.c (c, list) hm
theorem s_l1Cur_among_w_ok : FnOK Try.prog 48 s_l1Cur_among_w_M.S := by
 refine fm tt s_l1Cur_among_w_M [fo s_l1Cur_pick_ok] Try.call48 Try.func48 rfl Try.results48 Try.ntmps48 ?_
 rintro ⟨c, list⟩ y cx G hm
 have hm : s_l1Cur_among_w c list = some y := hm
 unfold s_l1Cur_among_w at hm
 refine rg G ?_
 obtain ⟨r, h, hm⟩ := obind hm
 obtain ⟨e, h1, hm⟩ := obind hm
 refine rs G (hN 3 list (hC 4 (s_l1Cur_pick_c h) (hD 5 h1 (hE 6 h1 h0)))) ?_
 cases hm
 exact rt [] []
noncomputable def s_l1Cur_anyNetwork_M : MS l1Cur (Network × l1Cur) := ⟨.b, s_l1Cur_anyNetwork, fun y => .aggv [.own 0, dV y.1.Lines], fun y => [arO 9 y.1.Stops], fun _ y => [bxO y.2]⟩
theorem s_l1Cur_anyNetwork_c {c y} (hm : s_l1Cur_anyNetwork c = some y) : s_l1Cur_anyNetwork_M.C c y := s_l1Cur_anyNetwork_M.c c hm
theorem s_l1Cur_anyNetwork_ok : FnOK Try.prog 116 s_l1Cur_anyNetwork_M.S := by
 refine fm tt s_l1Cur_anyNetwork_M [fo s_l1Cur_network_t_ok, fo s_l1Cur_pick_ok, fo s_l1Cur_of_w_ok, fo s_l1Cur_among_w_ok, fo s_l1Num_ok, fo s_l1Cur_line_ok] Try.call116 Try.func116 rfl Try.results116 Try.ntmps116 ?_
 rintro c y cx G hm
 have hm : s_l1Cur_anyNetwork c = some y := hm
 unfold s_l1Cur_anyNetwork at hm
 refine rg G ?_
 obtain ⟨r, h, hm⟩ := obind hm
 refine rs G (hC 1 (s_l1Cur_network_t_c h) h0) ?_
 obtain ⟨r1, h1, hm⟩ := obind hm
 refine rs G (hN 3 r.1.Lines (hC 4 (s_l1Cur_pick_c h1) h0)) ?_
 obtain ⟨e, h2, hm⟩ := obind hm
 refine rs G (hD 3 h2 (hE 4 h2 h0)) ?_
 refine jF hm (fun (v, v1, v2, v3, v4, v5, v6) => ⟨[(0, .ref 0 0), (2, .ref 32 0), (3, .ref 48 0), (4, dV r1.1), (5, .ref 64 0)], [bX 0 [dV v, dV v1, kV .u64 v2], bX 32 [.dat (.sc (.slice none 0 0)), .dat (.sc (.slice none 0 0))], bX 48 [.own 80, .own 96], bX 64 [dV v3, .row 96 96 r1.1.toNat 1, .own 112], aX 80 9 v4, tX 96 80 [none, some 3, some 3] v5 96 (some (r1.1.toNat, 2)), aX 112 3 v6], 144⟩) (fun v17 hr hm => ?_) ?_
 ·obtain ⟨r2, h3, hm⟩ := obind hm
  refine rs G (hC 1 (s_l1Cur_pick_c h3) h0) ?_
  refine Ok_block (rg G (cd hm (fun hm => ?_) (fun hm => ?_)))
  ·obtain ⟨r4, h6, hm⟩ := obind hm
   obtain ⟨e2, h7, hm⟩ := obind hm
   refine de G [(4, [0, 416]), (6, [48])] (hC 4 (s_l1Cur_of_w_c h6) (hD 5 h7 (hS 6 h7 r4.1 h0))) ?_
   exact ibN (wFp hm (Wk.trans (Wk_S (.c 272 2) (Enc.e e) (.cons (idx_m2 (f := Enc.e) (l := r.1.Lines) (i := r1.1) h2) .nil) (by kernel_rfl)) (Wk_J G.hL ⟨[(0, []), (2, []), (3, []), (4, []), (5, [])], [(0, 0, []), (32, 16, []), (48, 64, []), (64, 272, []), (80, 48, []), (96, 49, []), (112, 480, [])], [], 144⟩ (by kernel_rfl))))
  ·refine rg G (cd hm (fun hm => ?_) (fun hm => ?_))
   ·obtain ⟨r5, h8, hm⟩ := obind hm
    refine re G (hC 2 (s_l1Cur_of_w_c h8) h0) ?_
    exact ibN (wFp hm (Wk.trans (Wk_S (.c 272 2) (Enc.e e) (.cons (idx_m2 (f := Enc.e) (l := r.1.Lines) (i := r1.1) h2) .nil) (by kernel_rfl)) (Wk_J G.hL ⟨[(0, []), (2, []), (3, []), (4, []), (5, [])], [(0, 0, []), (32, 16, []), (48, 64, []), (64, 272, []), (80, 48, []), (96, 49, []), (112, 480, [])], [], 144⟩ (by kernel_rfl))))
   ·refine rg G (cd hm (fun hm => ?_) (fun hm => ?_))
    ·obtain ⟨r8, h12, hm⟩ := obind hm
     obtain ⟨r9, h13, hm⟩ := obind hm
     obtain ⟨e4, h14, hm⟩ := obind hm
     refine de G [(6, [0]), (8, [0]), (11, [49])] (hO 5 (.dn (Enc.e e) (e.Stops.length : Int)) (hP (idx_m2 (f := Enc.e) h2) (hP (len_m Enc.e e.Stops) (hC 6 (s_l1Cur_pick_c h12) (hC 8 (s_l1Cur_pick_c h13) (hE 10 h2 (hP (idx_b (f := Enc.e) h14) (hO 11 (.sd2 (Enc.e e) (Enc.e e4) (List.map Enc.e (e.Stops.set r8.1.toNat (w64 (r9.1 - 1)))) (List.map Enc.e (r.1.Lines.set r1.1.toNat (⟨e.Name, (e.Stops.set r8.1.toNat (w64 (r9.1 - 1))), e.Runs⟩ : Line)))) (hP (idx_m2 (f := Enc.e) h2) (hP (idx_m2 (f := Enc.e) h14) (hP (set_m Enc.e e.Stops r8.1.toNat (w64 (r9.1 - 1))) (hP (set_m Enc.e r.1.Lines r1.1.toNat (⟨e.Name, (e.Stops.set r8.1.toNat (w64 (r9.1 - 1))), e.Runs⟩ : Line)) h0)))))))))))) ?_
     exact ibN (wFp hm (Wk.trans (Wk_S (.c 272 2) (Enc.e (⟨e.Name, (e.Stops.set r8.1.toNat (w64 (r9.1 - 1))), e.Runs⟩ : Line)) (.cons (idx_m2 (f := Enc.e) (l := (r.1.Lines.set r1.1.toNat (⟨e.Name, (e.Stops.set r8.1.toNat (w64 (r9.1 - 1))), e.Runs⟩ : Line))) (i := r1.1) (idx_set (y := (⟨e.Name, (e.Stops.set r8.1.toNat (w64 (r9.1 - 1))), e.Runs⟩ : Line)) h2)) .nil) (by kernel_rfl)) (Wk_J G.hL ⟨[(0, []), (2, []), (3, []), (4, []), (5, [])], [(0, 0, []), (32, 16, []), (48, 64, []), (64, 272, []), (80, 48, []), (96, 49, []), (112, 624, [])], [], 144⟩ (by kernel_rfl))))
    ·refine rg G (cd hm (fun hm => ?_) (fun hm => ?_))
     ·obtain ⟨r12, h18, hm⟩ := obind hm
      obtain ⟨r13, h19, hm⟩ := obind hm
      obtain ⟨e6, h20, hm⟩ := obind hm
      refine de G [(6, [0]), (9, [0, 592]), (11, [49])] (hO 5 (.dn (Enc.e e) (e.Runs.length : Int)) (hP (idx_m2 (f := Enc.e) h2) (hP (len_m Enc.e e.Runs) (hC 6 (s_l1Cur_pick_c h18) (hC 9 (s_l1Cur_among_w_c h19) (hE 10 h2 (hP (idx_b (f := Enc.e) h20) (hO 11 (.sd2 (Enc.e e) (Enc.e e6) (List.map Enc.e (e.Runs.set r12.1.toNat r13.1)) (List.map Enc.e (r.1.Lines.set r1.1.toNat (⟨e.Name, e.Stops, (e.Runs.set r12.1.toNat r13.1)⟩ : Line)))) (hP (idx_m2 (f := Enc.e) h2) (hP (idx_m2 (f := Enc.e) h20) (hP (set_m Enc.e e.Runs r12.1.toNat r13.1) (hP (set_m Enc.e r.1.Lines r1.1.toNat (⟨e.Name, e.Stops, (e.Runs.set r12.1.toNat r13.1)⟩ : Line)) h0)))))))))))) ?_
      exact ibN (wFp hm (Wk.trans (Wk_S (.c 272 2) (Enc.e (⟨e.Name, e.Stops, (e.Runs.set r12.1.toNat r13.1)⟩ : Line)) (.cons (idx_m2 (f := Enc.e) (l := (r.1.Lines.set r1.1.toNat (⟨e.Name, e.Stops, (e.Runs.set r12.1.toNat r13.1)⟩ : Line))) (i := r1.1) (idx_set (y := (⟨e.Name, e.Stops, (e.Runs.set r12.1.toNat r13.1)⟩ : Line)) h2)) .nil) (by kernel_rfl)) (Wk_J G.hL ⟨[(0, []), (2, []), (3, []), (4, []), (5, [])], [(0, 0, []), (32, 16, []), (48, 64, []), (64, 272, []), (80, 48, []), (96, 49, []), (112, 656, [])], [], 144⟩ (by kernel_rfl))))
     ·refine rg G (cd hm (fun hm => ?_) (fun hm => ?_))
      ·obtain ⟨u, h21, hm⟩ := obind hm
       refine re G (hO 3 (.sd (Enc.e e) (List.map Enc.e (e.Runs ++ ([3] : List Int)))) (hP (idx_m2 (f := Enc.e) h2) (hP (app_p (f := Enc.e) (g := Enc.e) (l := e.Runs) (r := ([3] : List Int)) (b := 8) (chk_t h21) rfl) (hP (app_m Enc.e e.Runs ([3] : List Int)) h0)))) ?_
       exact ibN (wF G hm)
      ·refine rg G (cd hm (fun hm => ?_) (fun hm => ?_))
       ·refine rg G (rg G ?_)
        have hm := eR hm hr
        cases hm
        exact rt [48] []
       ·refine rg G (cd hm (fun hm => ?_) (fun hm => ?_))
        ·refine Ok_seq (rg G (tl hm (fun (v13, v14, v15, v16) => ⟨[(0, .ref 0 0), (2, .ref 32 0), (3, .ref 48 0)], [bX 0 [dV v13, dV v14, kV .u64 v15], bX 32 [.dat (.sc (.slice none 0 0)), .dat (.sc (.slice none 0 0))], bX 48 [.own 64, .own 80], aX 64 9 r.1.Stops, tX 80 80 [none, some 3, some 3] v16 80 none], 112⟩) (fun vv hm => ?_) ?_))
         ·refine Ok_block (lp G hm (fun (v7, v8, v9, v10, v11) => ⟨[(0, .ref 0 0), (2, .ref 32 0), (3, .ref 48 0), (6, dV v7)], [bX 0 [dV v8, dV v9, kV .u64 v10], bX 32 [.dat (.sc (.slice none 0 0)), .dat (.sc (.slice none 0 0))], bX 48 [.own 64, .own 80], aX 64 9 r.1.Stops, tX 80 80 [none, some 3, some 3] v11 80 none], 112⟩) ?_)
          rintro ⟨v7, v8, v9, v10, v11⟩ r0 hb hm
          rw [s_l1Cur_anyNetwork_L1] at hm
          refine Ok_seq ?_
          obtain ⟨r16, h23, hm⟩ := obind hm
          refine jn hm (fun v12 => ⟨[(0, .ref 0 0), (2, .ref 32 0), (3, .ref 48 0), (6, dV v7), (85, dV v12)], [bX 0 [dV r16.2.code_, dV r16.2.at_, kV .u64 r16.2.seed_.v], bX 32 [.dat (.sc (.slice none 0 0)), .dat (.sc (.slice none 0 0))], bX 48 [.own 64, .own 80], aX 64 9 r.1.Stops, tX 80 80 [none, some 3, some 3] v11 80 none], 112⟩) (fun v12 hm => ?_) ?_
          ·rcases bf hm with ⟨hb1, hm⟩ | ⟨hb1, hm⟩
           ·refine de G [(4, [0])] (hN 2 v11 (hC 4 (s_l1Cur_pick_c h23) (hO 7 (.b true) (hP hb1 h0)))) ?_
            exact wJ G hm
           ·refine de G [(4, [0])] (hN 2 v11 (hC 4 (s_l1Cur_pick_c h23) (hO 7 (.b false) (hP hb1 h0)))) ?_
            exact wJ G hm
          rintro v12 hm
          refine cd hm (fun hm => ?_) (fun hm => ?_)
          ·refine X_skip (thN (Ok_seq (Ok_block ?_)))
           obtain ⟨r19, h28, hm⟩ := obind hm
           obtain ⟨u3, h29, hm⟩ := obind hm
           obtain ⟨r20, h30, hm⟩ := obind hm
           obtain ⟨u4, h31, hm⟩ := obind hm
           refine de G [(9, [0]), (10, [256, 257]), (11, [80, 272]), (13, [48, 288])] (hC 4 (s_l1Num_c h28) (hP (cat_p (chk_t h29)) (hN 8 r.1.Stops (hC 9 (s_l1Cur_line_c h30) (hP (nodupB_ok (l := [256, 257]) rfl) (hA 11 64 h31 h0)))))) ?_
           exact ibN (thN (rh G (wL G hm)))
          ·exact Ok_exit (thE (thE (ibE (wD G hm hb))))
         rintro ⟨v13, v14, v15, v16⟩ hm s hw
         refine thN (Ok_weak hw ?_)
         refine rg G ?_
         have hm := eR hm hr
         cases hm
         exact rt [64] []
        ·exact X_skip (ibN (wFp hm (Wk.trans (Wk_S (.c 272 2) (Enc.e e) (.cons (idx_m2 (f := Enc.e) (l := r.1.Lines) (i := r1.1) h2) .nil) (by kernel_rfl)) (Wk_J G.hL ⟨[(0, []), (2, []), (3, []), (4, []), (5, [])], [(0, 0, []), (32, 16, []), (48, 64, []), (64, 272, []), (80, 48, []), (96, 49, []), (112, 560, [])], [], 144⟩ (by kernel_rfl)))))
 rintro ⟨v, v1, v2, v3, v4, v5, v6⟩ hm
 obtain ⟨e9, h32, hm⟩ := obind hm
 refine rs G (hD 4 h32 (hS 5 h32 (⟨v3, e9.Stops, v6⟩ : Line) (hP (Eq.refl r1.1.toNat) (hP (Eq.refl r1.1.toNat) h0)))) ?_
 refine rg G ?_
 cases hm
 exact rt [80] []
noncomputable def s_l1Cur_anyTimetable_M : MS l1Cur (Timetable × l1Cur) := ⟨.b, s_l1Cur_anyTimetable, fun y => .aggv [.own 0, dV y.1.Network.Lines, .own 1], fun y => [arO 9 y.1.Network.Stops, arO 107 y.1.Trips], fun _ y => [bxO y.2]⟩
theorem s_l1Cur_anyTimetable_c {c y} (hm : s_l1Cur_anyTimetable c = some y) : s_l1Cur_anyTimetable_M.C c y := s_l1Cur_anyTimetable_M.c c hm
theorem s_l1Cur_anyTimetable_ok : FnOK Try.prog 45 s_l1Cur_anyTimetable_M.S := by
 refine fm tt s_l1Cur_anyTimetable_M [fo s_l1Cur_timetable_ok, fo s_l1Cur_pick_ok, fo s_l1Cur_among_ok, fo s_l1Cur_anyNetwork_ok] Try.call45 Try.func45 rfl Try.results45 Try.ntmps45 ?_
 rintro c y cx G hm
 have hm : s_l1Cur_anyTimetable c = some y := hm
 unfold s_l1Cur_anyTimetable at hm
 refine rg G ?_
 obtain ⟨r, h, hm⟩ := obind hm
 refine rs G (hC 1 (s_l1Cur_timetable_c h) h0) ?_
 refine Ok_seq (rs G (hN 2 r.1.Trips h0) ?_)
 refine cd hm (fun hm => ?_) (fun hm => ?_)
 ·refine rg G ?_
  cases hm
  exact rt [48, 50] []
 ·refine X_skip (thN ?_)
  obtain ⟨r1, h1, hm⟩ := obind hm
  refine rs G (hN 3 r.1.Trips (hC 4 (s_l1Cur_pick_c h1) h0)) ?_
  obtain ⟨e, h2, hm⟩ := obind hm
  refine rs G (hD 3 h2 (hE 4 h2 h0)) ?_
  refine jF hm (fun (v, v1, v2, v3, v4, v5, v6, v7) => ⟨[(0, .ref 0 0), (2, .ref 32 0), (3, .ref 48 0), (4, dV r1.1), (5, .ref 64 0)], [bX 0 [dV v, dV v1, kV .u64 v2], bX 32 [.dat (.sc (.slice none 0 0)), .dat (.sc (.slice none 0 0)), .dat (.sc (.slice none 0 0))], bX 48 [.own 80, dV v3, .own 96], bX 64 [dV v4, dV v5, dV v6], aX 80 9 v7, aX 96 107 r.1.Trips], 128⟩) (fun v18 hr hm => ?_) ?_
  ·obtain ⟨r2, h3, hm⟩ := obind hm
   refine rs G (hC 1 (s_l1Cur_pick_c h3) h0) ?_
   refine Ok_block (rg G (cd hm (fun hm => ?_) (fun hm => ?_)))
   ·obtain ⟨r3, h4, hm⟩ := obind hm
    refine re G (hO 2 (.fz [448] [] []) (hC 2 (s_l1Cur_among_c h4) h0)) ?_
    exact ibN (wF G hm)
   ·refine rg G (cd hm (fun hm => ?_) (fun hm => ?_))
    ·obtain ⟨r4, h5, hm⟩ := obind hm
     refine re G (hC 1 (s_l1Cur_pick_c h5) h0) ?_
     exact ibN (wF G hm)
    ·refine rg G (cd hm (fun hm => ?_) (fun hm => ?_))
     ·obtain ⟨r5, h6, hm⟩ := obind hm
      refine re G (hO 2 (.fz [512] [] []) (hC 2 (s_l1Cur_among_c h6) h0)) ?_
      exact ibN (wF G hm)
     ·refine rg G (cd hm (fun hm => ?_) (fun hm => ?_))
      ·obtain ⟨r6, h7, hm⟩ := obind hm
       refine re G (hC 1 (s_l1Cur_anyNetwork_c h7) h0) ?_
       exact ibN (wF G hm)
      ·refine rg G (cd hm (fun hm => ?_) (fun hm => ?_))
       ·refine Ok_seq (rg G (tl hm (fun (v14, v15, v16, v17) => ⟨[(0, .ref 0 0), (2, .ref 32 0), (3, .ref 48 0)], [bX 0 [dV v14, dV v15, kV .u64 v16], bX 32 [.dat (.sc (.slice none 0 0)), .dat (.sc (.slice none 0 0)), .dat (.sc (.slice none 0 0))], bX 48 [.own 64, .own 80, .own 96], aX 64 9 r.1.Network.Stops, aX 80 80 r.1.Network.Lines, aX 96 107 v17], 128⟩) (fun vv hm => ?_) ?_))
        ·refine Ok_block (lp G hm (fun (v8, v9, v10, v11, v12) => ⟨[(0, .ref 0 0), (2, .ref 32 0), (3, .ref 48 0), (6, dV v8)], [bX 0 [dV v9, dV v10, kV .u64 v11], bX 32 [.dat (.sc (.slice none 0 0)), .dat (.sc (.slice none 0 0)), .dat (.sc (.slice none 0 0))], bX 48 [.own 64, .own 80, .own 96], aX 64 9 r.1.Network.Stops, aX 80 80 r.1.Network.Lines, aX 96 107 v12], 128⟩) ?_)
         rintro ⟨v8, v9, v10, v11, v12⟩ r0 hb hm
         rw [s_l1Cur_anyTimetable_L1] at hm
         refine Ok_seq ?_
         obtain ⟨r8, h9, hm⟩ := obind hm
         refine jn hm (fun v13 => ⟨[(0, .ref 0 0), (2, .ref 32 0), (3, .ref 48 0), (6, dV v8), (61, dV v13)], [bX 0 [dV r8.2.code_, dV r8.2.at_, kV .u64 r8.2.seed_.v], bX 32 [.dat (.sc (.slice none 0 0)), .dat (.sc (.slice none 0 0)), .dat (.sc (.slice none 0 0))], bX 48 [.own 64, .own 80, .own 96], aX 64 9 r.1.Network.Stops, aX 80 80 r.1.Network.Lines, aX 96 107 v12], 128⟩) (fun v13 hm => ?_) ?_
         ·rcases bf hm with ⟨hb1, hm⟩ | ⟨hb1, hm⟩
          ·refine de G [(4, [0])] (hN 2 v12 (hC 4 (s_l1Cur_pick_c h9) (hO 7 (.b true) (hP hb1 h0)))) ?_
           exact wJ G hm
          ·refine de G [(4, [0])] (hN 2 v12 (hC 4 (s_l1Cur_pick_c h9) (hO 7 (.b false) (hP hb1 h0)))) ?_
           exact wJ G hm
         rintro v13 hm
         refine cd hm (fun hm => ?_) (fun hm => ?_)
         ·refine X_skip (thN (Ok_seq (Ok_block ?_)))
          obtain ⟨u, h10, hm⟩ := obind hm
          refine re G (hA 8 24 h10 h0) ?_
          exact ibN (thN (rh G (wL G hm)))
         ·exact Ok_exit (thE (thE (ibE (wD G hm hb))))
        rintro ⟨v14, v15, v16, v17⟩ hm s hw
        refine thN (Ok_weak hw ?_)
        refine rg G ?_
        have hm := eR hm hr
        cases hm
        exact rt [64, 96] []
       ·exact X_skip (ibN (wF G hm))
  rintro ⟨v, v1, v2, v3, v4, v5, v6, v7⟩ hm
  obtain ⟨e2, h11, hm⟩ := obind hm
  refine rs G (hD 4 h11 (hS 5 h11 (⟨v4, v5, v6⟩ : Trip) h0)) ?_
  refine rg G ?_
  cases hm
  exact rt [80, 96] []
noncomputable def s_l1Cur_delays23_M : MS (l1Cur × Timetable) ((List TripDelay) × l1Cur) := ⟨.x .b .r, fun x => s_l1Cur_delays23 x.1 x.2, fun _ => .own 0, fun y => [arO 37 y.1], fun _ y => [bxO y.2]⟩
theorem s_l1Cur_delays23_c {c t y} (hm : s_l1Cur_delays23 c t = some y) : s_l1Cur_delays23_M.C (c, t) y := s_l1Cur_delays23_M.c (c, t) hm
theorem s_l1Cur_delays23_ok : FnOK Try.prog 46 s_l1Cur_delays23_M.S := by
 refine fm tt s_l1Cur_delays23_M [fo s_l1Cur_one_ok, fo s_l1Cur_among_w_ok, fo s_l1Cur_pick_ok] Try.call46 Try.func46 rfl Try.results46 Try.ntmps46 ?_
 rintro ⟨c, t⟩ y cx G hm
 have hm : s_l1Cur_delays23 c t = some y := hm
 unfold s_l1Cur_delays23 at hm
 refine rg G (rg G (Ok_seq (rg G (tl hm (fun (v9, v10, v11, v12) => ⟨[(0, .ref 0 0), (5, .own 32)], [bX 0 [dV v9, dV v10, kV .u64 v11], aX 32 37 v12], 64⟩) (fun vv2 hm => ?_) ?_))))
 ·refine Ok_block (lp G hm (fun (v, v1, v2, v3, v4) => ⟨[(0, .ref 0 0), (3, .ref 32 0), (5, .own 48), (6, dV v)], [bX 0 [dV v1, dV v2, kV .u64 v3], bX 32 [dV t.Network.Stops, dV t.Network.Lines, dV t.Trips], aX 48 37 v4], 80⟩) ?_)
  rintro ⟨v, v1, v2, v3, v4⟩ r0 hb hm
  rw [s_l1Cur_delays23_L1] at hm
  refine Ok_seq (rs G (hN 3 t.Trips h0) ?_)
  refine cd hm (fun hm => ?_) (fun hm => ?_)
  ·refine X_skip (thN (jn hm (fun (v5, v6, v7, v8) => ⟨[(0, .ref 0 0), (3, .ref 32 0), (5, .own 48), (6, dV v)], [bX 0 [dV v5, dV v6, kV .u64 v7], bX 32 [dV t.Network.Stops, dV t.Network.Lines, dV t.Trips], aX 48 37 v8], 80⟩) (fun vv hm => ?_) ?_))
   ·refine Ok_block ?_
    obtain ⟨r, h, hm⟩ := obind hm
    refine rs G (hC 1 (s_l1Cur_one_c h) h0) ?_
    refine cd hm (fun hm => ?_) (fun hm => ?_)
    ·obtain ⟨e1, h4, hm⟩ := obind hm
     obtain ⟨r2, h5, hm⟩ := obind hm
     obtain ⟨u1, h6, hm⟩ := obind hm
     refine de G [(9, [0, 320]), (12, [48, 368])] (hD 4 h4 (hC 9 (s_l1Cur_among_w_c h5) (hA 12 16 h6 h0))) ?_
     exact ibN (wJ G hm)
    ·exact X_skip (ibN (wJ G hm))
   rintro ⟨v5, v6, v7, v8⟩ hm
   exact rh G (wL G hm)
  ·exact Ok_exit (thE (thE (ibE (wD G hm hb))))
 rintro ⟨v9, v10, v11, v12⟩ hm s hw
 refine thN (Ok_weak hw ?_)
 refine jn hm (fun (v13, v14, v15, v16) => ⟨[(0, .ref 0 0), (5, .own 32)], [bX 0 [dV v13, dV v14, kV .u64 v15], aX 32 37 v16], 64⟩) (fun vv1 hm => ?_) ?_
 ·obtain ⟨r3, h7, hm⟩ := obind hm
  refine rs G (hC 1 (s_l1Cur_pick_c h7) h0) ?_
  refine Ok_block (rg G (cd hm (fun hm => ?_) (fun hm => ?_)))
  ·obtain ⟨r4, h8, hm⟩ := obind hm
   obtain ⟨u2, h9, hm⟩ := obind hm
   refine re G (hC 3 (s_l1Cur_among_w_c h8) (hA 6 16 h9 h0)) ?_
   exact ibN (wJ G hm)
  ·refine rg G (cd hm (fun hm => ?_) (fun hm => ?_))
   ·refine rs G (hN 1 v12 h0) ?_
    refine cd hm (fun hm => ?_) (fun hm => ?_)
    ·obtain ⟨e4, h13, hm⟩ := obind hm
     obtain ⟨r6, h14, hm⟩ := obind hm
     obtain ⟨e5, h15, hm⟩ := obind hm
     refine de G [(13, [0, 400]), (16, [32])] (hN 2 v12 (hN 6 v12 (hD 8 h13 (hE 10 h13 (hC 13 (s_l1Cur_among_w_c h14) (hD 15 h15 (hS 16 h15 (⟨e4.Id, r6.1⟩ : TripDelay) h0))))))) ?_
     exact ibN (wJ G hm)
    ·exact X_skip (ibN (wJ G hm))
   ·exact X_skip (ibN (wJ G hm))
 rintro ⟨v13, v14, v15, v16⟩ hm
 refine rg G ?_
 cases hm
 exact rt [32] []
noncomputable def s_l1Cur_idOf_M : MS (l1Cur × Timetable) (Int × l1Cur) := ⟨.x .b .r, fun x => s_l1Cur_idOf x.1 x.2, fun y => dV y.1, fun _ => [], fun _ y => [bxO y.2]⟩
theorem s_l1Cur_idOf_c {c t y} (hm : s_l1Cur_idOf c t = some y) : s_l1Cur_idOf_M.C (c, t) y := s_l1Cur_idOf_M.c (c, t) hm
theorem s_l1Cur_idOf_ok : FnOK Try.prog 47 s_l1Cur_idOf_M.S := by
 refine fm tt s_l1Cur_idOf_M [fo s_l1Cur_one_ok, fo s_l1Cur_pick_ok] Try.call47 Try.func47 rfl Try.results47 Try.ntmps47 ?_
 rintro ⟨c, t⟩ y cx G hm
 have hm : s_l1Cur_idOf c t = some y := hm
 unfold s_l1Cur_idOf at hm
 refine rg G (Ok_seq (jn hm (fun (v, v1, v2, v3) => ⟨[(0, .ref 0 0), (3, .ref 32 0), (12, dV v)], [bX 0 [dV v1, dV v2, kV .u64 v3], bX 32 [dV t.Network.Stops, dV t.Network.Lines, dV t.Trips]], 64⟩) (fun vv hm => ?_) ?_))
 ·rcases bf hm with ⟨hb, hm⟩ | ⟨hb, hm⟩
  ·refine re G (hN 2 t.Trips (hO 4 (.b true) (hP hb h0))) ?_
   exact wJ G hm
  ·obtain ⟨r, h, hm⟩ := obind hm
   refine re G (hN 2 t.Trips (hO 4 (.b false) (hP hb (hC 6 (s_l1Cur_one_c h) h0)))) ?_
   exact wJ G hm
 rintro ⟨v, v1, v2, v3⟩ hm
 refine cd hm (fun hm => ?_) (fun hm => ?_)
 ·obtain ⟨r1, h1, hm⟩ := obind hm
  refine rs G (hC 1 (s_l1Cur_pick_c h1) h0) ?_
  cases hm
  exact rt [] []
 ·refine X_skip (thN ?_)
  obtain ⟨r3, h4, hm⟩ := obind hm
  obtain ⟨e1, h5, hm⟩ := obind hm
  refine ds G [(6, [0])] (hN 5 t.Trips (hC 6 (s_l1Cur_pick_c h4) (hD 7 h5 h0))) ?_
  cases hm
  exact rt [] []
noncomputable def s_l23Delay_M : MS ((List TripDelay) × Int) Int := ⟨.x .r .r, fun x => s_l23Delay x.1 x.2, fun y => dV y, fun _ => [], fun _ _ => []⟩
theorem s_l23Delay_c {delays id y} (hm : s_l23Delay delays id = some y) : s_l23Delay_M.C (delays, id) y := s_l23Delay_M.c (delays, id) hm
theorem s_l23Delay_ok : FnOK Try.prog 49 s_l23Delay_M.S := by
 refine fm tt s_l23Delay_M [] Try.call49 Try.func49 rfl Try.results49 Try.ntmps49 ?_
 rintro ⟨delays, id⟩ y cx G hm
 have hm : s_l23Delay delays id = some y := hm
 unfold s_l23Delay at hm
 refine rg G (Ok_seq (rg G (tF hm (fun _ => ⟨[], [], 32⟩) (fun v1 hr hm => ?_) ?_)))
 ·refine Ok_block (lp G hm (fun v => ⟨[(0, dV delays), (1, dV id), (5, dV v)], [], 32⟩) ?_)
  rintro v r0 hb hm
  rw [s_l23Delay_L1] at hm
  refine Ok_seq (rs G (hN 2 delays h0) ?_)
  refine cd hm (fun hm => ?_) (fun hm => ?_)
  ·refine X_skip (thN (Ok_seq (Ok_block ?_)))
   obtain ⟨e, h, hm⟩ := obind hm
   refine rs G (hD 2 h h0) ?_
   refine cd hm (fun hm => ?_) (fun hm => ?_)
   ·obtain ⟨e1, h1, hm⟩ := obind hm
    refine rs G (hD 2 h1 h0) ?_
    have hm := eL hm hb hr
    cases hm
    exact rt [] []
   ·exact X_skip (ibN (thN (rh G (wL G hm))))
  ·exact Ok_exit (thE (thE (ibE (wE G hm hb))))
 rintro ⟨⟩ hm s hw
 refine thN (Ok_weak hw ?_)
 refine rg G ?_
 cases hm
 exact rt [] []
noncomputable def s_DrawDelayTrip_M : MS ((List UInt8)) (Timetable × (List TripDelay) × Int × Int) := ⟨.r, s_DrawDelayTrip, fun y => .tup [dV y.1, .own 0, dV y.2.2.1, dV y.2.2.2], fun y => [arO 37 y.2.1], fun _ _ => []⟩
theorem s_DrawDelayTrip_c {code y} (hm : s_DrawDelayTrip code = some y) : s_DrawDelayTrip_M.C code y := s_DrawDelayTrip_M.c code hm
theorem s_DrawDelayTrip_ok : FnOK Try.prog 7 s_DrawDelayTrip_M.S := by
 refine fm tt s_DrawDelayTrip_M [fo s_l1Cur_anyTimetable_ok, fo s_l1Cur_delays23_ok, fo s_l1Cur_idOf_ok, fo s_l23Delay_ok, fo s_l1Cur_among_w_ok] Try.call7 Try.func7 rfl Try.results7 Try.ntmps7 ?_
 rintro code y cx G hm
 have hm : s_DrawDelayTrip code = some y := hm
 unfold s_DrawDelayTrip at hm
 refine rg G (rg G ?_)
 obtain ⟨r, h, hm⟩ := obind hm
 refine rs G (hC 1 (s_l1Cur_anyTimetable_c h) h0) ?_
 obtain ⟨r1, h1, hm⟩ := obind hm
 refine rs G (hO 2 (.fz [160, 161] [] []) (hC 2 (s_l1Cur_delays23_c h1) h0)) ?_
 obtain ⟨r2, h2, hm⟩ := obind hm
 refine rs G (hC 2 (s_l1Cur_idOf_c h2) h0) ?_
 obtain ⟨r5, h5, hm⟩ := obind hm
 obtain ⟨r6, h6, hm⟩ := obind hm
 refine ds G [(9, [112, 464]), (10, [16])] (hC 6 (s_l23Delay_c h5) (hC 9 (s_l1Cur_among_w_c h6) h0)) ?_
 cases hm
 exact rt [240] []
noncomputable def i_within_M : MS (Int × Int × Int) Bool := ⟨.x .r (.x .r .r), fun x => i_within x.1 x.2.1 x.2.2, fun y => dV y, fun _ => [], fun _ _ => []⟩
theorem i_within_c {n lo hi y} (hm : i_within n lo hi = some y) : i_within_M.C (n, lo, hi) y := i_within_M.c (n, lo, hi) hm
theorem i_within_ok : FnOK Try.prog 52 i_within_M.S := by
 refine fm tt i_within_M [] Try.call52 Try.func52 rfl Try.results52 Try.ntmps52 ?_
 rintro ⟨n, lo, hi⟩ y cx G hm
 have hm : i_within n lo hi = some y := hm
 unfold i_within at hm
 refine rg G (jn hm (fun v => ⟨[(6, dV v)], [], 32⟩) (fun v hm => ?_) ?_)
 ·rcases bf hm with ⟨hb, hm⟩ | ⟨hb, hm⟩
  ·refine re G (hO 3 (.b true) (hP hb h0)) ?_
   exact wJ G hm
  ·refine re G (hO 3 (.b false) (hP hb h0)) ?_
   exact wJ G hm
 rintro v hm
 cases hm
 exact rt [] []
noncomputable def i_isName_M : MS ByteArray Bool := ⟨.r, i_isName, fun y => dV y, fun _ => [], fun _ _ => []⟩
theorem i_isName_c {s y} (hm : i_isName s = some y) : i_isName_M.C s y := i_isName_M.c s hm
theorem i_isName_ok : FnOK Try.prog 183 i_isName_M.S := by
 refine fm tt i_isName_M [] Try.call183 Try.func183 rfl Try.results183 Try.ntmps183 ?_
 rintro s y cx G hm
 have hm : i_isName s = some y := hm
 unfold i_isName at hm
 refine rg G (Ok_seq (jn hm (fun v => ⟨[(0, dV s), (12, dV v)], [], 32⟩) (fun v hm => ?_) ?_))
 ·rcases bf hm with ⟨hb, hm⟩ | ⟨hb, hm⟩
  ·refine re G (hO 3 (.b true) (hP hb h0)) ?_
   exact wJ G hm
  ·refine re G (hO 3 (.b false) (hP hb h0)) ?_
   exact wJ G hm
 rintro v hm
 refine cd hm (fun hm => ?_) (fun hm => ?_)
 ·refine rg G ?_
  cases hm
  exact rt [] []
 ·refine X_skip (thN (Ok_seq (rg G (tF hm (fun _ => ⟨[], [], 32⟩) (fun v4 hr hm => ?_) ?_))))
  ·refine Ok_block (lp G hm (fun v1 => ⟨[(0, dV s), (14, dV (s.size : Int)), (15, dV v1)], [], 32⟩) ?_)
   rintro v1 r0 hb1 hm
   rw [i_isName_L1] at hm
   refine rg G (Ok_seq (cd hm (fun hm => ?_) (fun hm => ?_)))
   ·refine X_skip (thN (Ok_seq (Ok_block (rg G ?_))))
    obtain ⟨u, h, hm⟩ := obind hm
    refine jn hm (fun v2 => ⟨[(0, dV s), (3, dV v1), (4, dV v2), (14, dV (s.size : Int)), (15, dV v1)], [], 32⟩) (fun v2 hm => ?_) ?_
    ·rcases bf hm with ⟨hb2, hm⟩ | ⟨hb2, hm⟩
     ·obtain ⟨u1, h1, hm⟩ := obind hm
      refine re G (hK h (hO 4 (.b true) (hP hb2 (hK h1 h0)))) ?_
      exact wJ G hm
     ·refine re G (hK h (hO 4 (.b false) (hP hb2 h0))) ?_
      exact wJ G hm
    rintro v2 hm
    refine jn hm (fun v3 => ⟨[(0, dV s), (14, dV (s.size : Int)), (15, dV v1), (45, dV v3)], [], 32⟩) (fun v3 hm => ?_) ?_
    ·rcases bf hm with ⟨hb3, hm⟩ | ⟨hb3, hm⟩
     ·rcases bf hm with ⟨hb4, hm⟩ | ⟨hb4, hm⟩
      ·refine re G (hO 2 (.b true) (hP hb3 (hO 5 (.b true) (hP hb4 h0)))) ?_
       exact wJ G hm
      ·obtain ⟨u2, h2, hm⟩ := obind hm
       rcases bf hm with ⟨hb5, hm⟩ | ⟨hb5, hm⟩
       ·refine re G (hO 2 (.b true) (hP hb3 (hO 5 (.b false) (hP hb4 (hK h2 (hO 11 (.b true) (hP hb5 h0))))))) ?_
        exact wJ G hm
       ·obtain ⟨u3, h3, hm⟩ := obind hm
        refine re G (hO 2 (.b true) (hP hb3 (hO 5 (.b false) (hP hb4 (hK h2 (hO 11 (.b false) (hP hb5 (hK h3 h0)))))))) ?_
        exact wJ G hm
     ·refine re G (hO 2 (.b false) (hP hb3 h0)) ?_
      exact wJ G hm
    rintro v3 hm
    refine cd hm (fun hm => ?_) (fun hm => ?_)
    ·refine rg G ?_
     have hm := eL hm hb1 hr
     cases hm
     exact rt [] []
    ·exact X_skip (ibN (thN (rh G (wL G hm))))
   ·exact Ok_exit (thE (thE (ibE (wE G hm hb1))))
  rintro ⟨⟩ hm s1 hw
  refine thN (Ok_weak hw ?_)
  refine rg G ?_
  cases hm
  exact rt [] []
noncomputable def slices_Index_string_M : MS ((List ByteArray) × ByteArray) Int := ⟨.x .r .r, fun x => slices_Index_string x.1 x.2, fun y => dV y, fun _ => [], fun _ _ => []⟩
theorem slices_Index_string_c {s v y} (hm : slices_Index_string s v = some y) : slices_Index_string_M.C (s, v) y := slices_Index_string_M.c (s, v) hm
theorem slices_Index_string_ok : FnOK Try.prog 184 slices_Index_string_M.S := by
 refine fm tt slices_Index_string_M [] Try.call184 Try.func184 rfl Try.results184 Try.ntmps184 ?_
 rintro ⟨s, v⟩ y cx G hm
 have hm : slices_Index_string s v = some y := hm
 unfold slices_Index_string at hm
 refine rg G (Ok_seq (rs G (hN 1 s h0) ?_))
 refine tF hm (fun _ => ⟨[], [], 32⟩) (fun v2 hr hm => ?_) ?_
 ·refine Ok_block (lp G hm (fun v1 => ⟨[(0, dV s), (1, dV v), (7, dV (s.length : Int)), (8, dV v1)], [], 32⟩) ?_)
  rintro v1 r0 hb hm
  rw [slices_Index_string_L1] at hm
  refine rg G (Ok_seq (cd hm (fun hm => ?_) (fun hm => ?_)))
  ·refine X_skip (thN (Ok_seq (Ok_block (rg G ?_))))
   obtain ⟨e, h, hm⟩ := obind hm
   refine rs G (hD 3 h h0) ?_
   refine cd hm (fun hm => ?_) (fun hm => ?_)
   ·refine rg G ?_
    have hm := eL hm hb hr
    cases hm
    exact rt [] []
   ·exact X_skip (ibN (thN (rh G (wL G hm))))
  ·exact Ok_exit (thE (thE (ibE (wE G hm hb))))
 rintro ⟨⟩ hm s1 hw
 refine thN (Ok_weak hw ?_)
 refine rg G ?_
 cases hm
 exact rt [] []
noncomputable def i_areNames_M : MS ((List ByteArray)) Bool := ⟨.r, i_areNames, fun y => dV y, fun _ => [], fun _ _ => []⟩
theorem i_areNames_c {names y} (hm : i_areNames names = some y) : i_areNames_M.C names y := i_areNames_M.c names hm
theorem i_areNames_ok : FnOK Try.prog 162 i_areNames_M.S := by
 refine fm tt i_areNames_M [fo i_isName_ok, fo slices_Index_string_ok] Try.call162 Try.func162 rfl Try.results162 Try.ntmps162 ?_
 rintro names y cx G hm
 have hm : i_areNames names = some y := hm
 unfold i_areNames at hm
 refine rg G (Ok_seq (rs G (hN 1 names h0) ?_))
 refine tF hm (fun _ => ⟨[], [], 32⟩) (fun v2 hr hm => ?_) ?_
 ·refine Ok_block (lp G hm (fun v => ⟨[(0, dV names), (5, dV names), (6, dV (names.length : Int)), (7, dV v)], [], 32⟩) ?_)
  rintro v r0 hb hm
  rw [i_areNames_L1] at hm
  refine rg G (Ok_seq (cd hm (fun hm => ?_) (fun hm => ?_)))
  ·refine X_skip (thN (Ok_seq (Ok_block ?_)))
   obtain ⟨e, h, hm⟩ := obind hm
   refine rs G (hD 1 h h0) ?_
   obtain ⟨r, h1, hm⟩ := obind hm
   refine jn hm (fun v1 => ⟨[(0, dV names), (5, dV names), (6, dV (names.length : Int)), (7, dV v), (21, dV v1)], [], 32⟩) (fun v1 hm => ?_) ?_
   ·rcases bf hm with ⟨hb1, hm⟩ | ⟨hb1, hm⟩
    ·refine re G (hC 1 (i_isName_c h1) (hO 3 (.b true) (hP hb1 h0))) ?_
     exact wJ G hm
    ·obtain ⟨r1, h2, hm⟩ := obind hm
     refine re G (hC 1 (i_isName_c h1) (hO 3 (.b false) (hP hb1 (hC 6 (slices_Index_string_c h2) h0)))) ?_
     exact wJ G hm
   rintro v1 hm
   refine cd hm (fun hm => ?_) (fun hm => ?_)
   ·refine rg G ?_
    have hm := eL hm hb hr
    cases hm
    exact rt [] []
   ·exact X_skip (ibN (thN (rh G (wL G hm))))
  ·exact Ok_exit (thE (thE (ibE (wE G hm hb))))
 rintro ⟨⟩ hm s hw
 refine thN (Ok_weak hw ?_)
 refine rg G ?_
 cases hm
 exact rt [] []
noncomputable def i_lineNames_M : MS Network ((List ByteArray)) := ⟨.r, i_lineNames, fun _ => .own 0, fun y => [arO 9 y], fun _ _ => []⟩
theorem i_lineNames_c {n y} (hm : i_lineNames n = some y) : i_lineNames_M.C n y := i_lineNames_M.c n hm
theorem i_lineNames_ok : FnOK Try.prog 163 i_lineNames_M.S := by
 refine fm tt i_lineNames_M [] Try.call163 Try.func163 rfl Try.results163 Try.ntmps163 ?_
 rintro n y cx G hm
 have hm : i_lineNames n = some y := hm
 unfold i_lineNames at hm
 refine rg G ?_
 obtain ⟨u, h, hm⟩ := obind hm
 refine rs G (hN 2 n.Lines (hO 3 (.l (List.map Enc.e (List.replicate (n.Lines.length : Int).toNat (ByteArray.empty : ByteArray)))) (hP (mk_p (b := 16) (chk_t h) rfl) (hP (rep_m Enc.e (n.Lines.length : Int).toNat (ByteArray.empty : ByteArray)) h0)))) ?_
 refine Ok_seq (rs G (hN 2 n.Lines h0) ?_)
 refine tl hm (fun i1 => ⟨[(3, .own 16)], [aX 16 9 i1], 48⟩) (fun i1 hm => ?_) ?_
 ·refine Ok_block (lp G hm (fun (v, i) => ⟨[(3, .own 16), (11, dV n.Lines), (12, dV (n.Lines.length : Int)), (13, dV v)], [aX 16 9 i], 48⟩) ?_)
  rintro ⟨v, i⟩ r0 hb hm
  rw [i_lineNames_L1] at hm
  refine rg G (Ok_seq (cd hm (fun hm => ?_) (fun hm => ?_)))
  ·refine X_skip (thN (Ok_seq (Ok_block ?_)))
   obtain ⟨e, h1, hm⟩ := obind hm
   refine rs G (hD 1 h1 h0) ?_
   obtain ⟨e1, h2, hm⟩ := obind hm
   refine re G (hD 4 h2 (hS 5 h2 e.Name h0)) ?_
   exact ibN (thN (rh G (wL G hm)))
  ·exact Ok_exit (thE (thE (ibE (wD G hm hb))))
 rintro i1 hm s hw
 refine thN (Ok_weak hw ?_)
 refine rg G ?_
 cases hm
 exact rt [16] []
noncomputable def i_isStop_M : MS (Network × Int) Bool := ⟨.x .r .r, fun x => i_isStop x.1 x.2, fun y => dV y, fun _ => [], fun _ _ => []⟩
theorem i_isStop_c {n stop y} (hm : i_isStop n stop = some y) : i_isStop_M.C (n, stop) y := i_isStop_M.c (n, stop) hm
theorem i_isStop_ok : FnOK Try.prog 119 i_isStop_M.S := by
 refine fm tt i_isStop_M [] Try.call119 Try.func119 rfl Try.results119 Try.ntmps119 ?_
 rintro ⟨n, stop⟩ y cx G hm
 have hm : i_isStop n stop = some y := hm
 unfold i_isStop at hm
 refine rg G (jn hm (fun v => ⟨[(4, dV v)], [], 32⟩) (fun v hm => ?_) ?_)
 ·rcases bf hm with ⟨hb, hm⟩ | ⟨hb, hm⟩
  ·refine re G (hO 2 (.b true) (hP hb (hN 6 n.Stops h0))) ?_
   exact wJ G hm
  ·refine re G (hO 2 (.b false) (hP hb h0)) ?_
   exact wJ G hm
 rintro v hm
 cases hm
 exact rt [] []
noncomputable def slices_Index_int_M : MS ((List Int) × Int) Int := ⟨.x .r .r, fun x => slices_Index_int x.1 x.2, fun y => dV y, fun _ => [], fun _ _ => []⟩
theorem slices_Index_int_c {s v y} (hm : slices_Index_int s v = some y) : slices_Index_int_M.C (s, v) y := slices_Index_int_M.c (s, v) hm
theorem slices_Index_int_ok : FnOK Try.prog 66 slices_Index_int_M.S := by
 refine fm tt slices_Index_int_M [] Try.call66 Try.func66 rfl Try.results66 Try.ntmps66 ?_
 rintro ⟨s, v⟩ y cx G hm
 have hm : slices_Index_int s v = some y := hm
 unfold slices_Index_int at hm
 refine rg G (Ok_seq (rs G (hN 1 s h0) ?_))
 refine tF hm (fun _ => ⟨[], [], 32⟩) (fun v2 hr hm => ?_) ?_
 ·refine Ok_block (lp G hm (fun v1 => ⟨[(0, dV s), (1, dV v), (7, dV (s.length : Int)), (8, dV v1)], [], 32⟩) ?_)
  rintro v1 r0 hb hm
  rw [slices_Index_int_L1] at hm
  refine rg G (Ok_seq (cd hm (fun hm => ?_) (fun hm => ?_)))
  ·refine X_skip (thN (Ok_seq (Ok_block (rg G ?_))))
   obtain ⟨e, h, hm⟩ := obind hm
   refine rs G (hD 3 h h0) ?_
   refine cd hm (fun hm => ?_) (fun hm => ?_)
   ·refine rg G ?_
    have hm := eL hm hb hr
    cases hm
    exact rt [] []
   ·exact X_skip (ibN (thN (rh G (wL G hm))))
  ·exact Ok_exit (thE (thE (ibE (wE G hm hb))))
 rintro ⟨⟩ hm s1 hw
 refine thN (Ok_weak hw ?_)
 refine rg G ?_
 cases hm
 exact rt [] []
noncomputable def i_isValidLine_M : MS (Network × Line) Bool := ⟨.x .r .r, fun x => i_isValidLine x.1 x.2, fun y => dV y, fun _ => [], fun _ _ => []⟩
theorem i_isValidLine_c {n l y} (hm : i_isValidLine n l = some y) : i_isValidLine_M.C (n, l) y := i_isValidLine_M.c (n, l) hm
theorem i_isValidLine_ok : FnOK Try.prog 164 i_isValidLine_M.S := by
 refine fm tt i_isValidLine_M [fo i_within_ok, fo i_isStop_ok, fo slices_Index_int_ok] Try.call164 Try.func164 rfl Try.results164 Try.ntmps164 ?_
 rintro ⟨n, l⟩ y cx G hm
 have hm : i_isValidLine n l = some y := hm
 unfold i_isValidLine at hm
 refine rg G (Ok_seq ?_)
 obtain ⟨r, h, hm⟩ := obind hm
 refine jn hm (fun v => ⟨[(2, .ref 16 0), (3, .ref 32 0), (23, dV v)], [bX 16 [dV n.Stops, dV n.Lines], bX 32 [dV l.Name, dV l.Stops, dV l.Runs]], 64⟩) (fun v hm => ?_) ?_
 ·rcases bf hm with ⟨hb, hm⟩ | ⟨hb, hm⟩
  ·refine re G (hN 2 l.Stops (hC 3 (i_within_c h) (hO 5 (.b true) (hP hb h0)))) ?_
   exact wJ G hm
  ·refine re G (hN 2 l.Stops (hC 3 (i_within_c h) (hO 5 (.b false) (hP hb (hN 8 l.Runs (hN 11 l.Stops h0)))))) ?_
   exact wJ G hm
 rintro v hm
 refine cd hm (fun hm => ?_) (fun hm => ?_)
 ·refine rg G ?_
  cases hm
  exact rt [] []
 ·refine X_skip (thN (Ok_seq (rs G (hN 2 l.Stops h0) ?_)))
  refine tF hm (fun _ => ⟨[(3, .ref 16 0)], [bX 16 [dV l.Name, dV l.Stops, dV l.Runs]], 48⟩) (fun v5 hr hm => ?_) ?_
  ·refine Ok_block (lp G hm (fun v1 => ⟨[(2, .ref 16 0), (3, .ref 32 0), (25, dV l.Stops), (26, dV (l.Stops.length : Int)), (27, dV v1)], [bX 16 [dV n.Stops, dV n.Lines], bX 32 [dV l.Name, dV l.Stops, dV l.Runs]], 64⟩) ?_)
   rintro v1 r0 hb1 hm
   rw [i_isValidLine_L1] at hm
   refine rg G (Ok_seq (cd hm (fun hm => ?_) (fun hm => ?_)))
   ·refine X_skip (thN (Ok_seq (Ok_block ?_)))
    obtain ⟨e, h1, hm⟩ := obind hm
    refine rs G (hD 1 h1 h0) ?_
    obtain ⟨r1, h2, hm⟩ := obind hm
    refine jn hm (fun v2 => ⟨[(2, .ref 16 0), (3, .ref 32 0), (25, dV l.Stops), (26, dV (l.Stops.length : Int)), (27, dV v1), (43, dV v2)], [bX 16 [dV n.Stops, dV n.Lines], bX 32 [dV l.Name, dV l.Stops, dV l.Runs]], 64⟩) (fun v2 hm => ?_) ?_
    ·rcases bf hm with ⟨hb2, hm⟩ | ⟨hb2, hm⟩
     ·refine re G (hC 2 (i_isStop_c h2) (hO 4 (.b true) (hP hb2 h0))) ?_
      exact wJ G hm
     ·obtain ⟨r2, h3, hm⟩ := obind hm
      refine re G (hC 2 (i_isStop_c h2) (hO 4 (.b false) (hP hb2 (hC 8 (slices_Index_int_c h3) h0)))) ?_
      exact wJ G hm
    rintro v2 hm
    refine cd hm (fun hm => ?_) (fun hm => ?_)
    ·refine rg G ?_
     have hm := eL hm hb1 hr
     cases hm
     exact rt [] []
    ·exact X_skip (ibN (thN (rh G (wL G hm))))
   ·exact Ok_exit (thE (thE (ibE (wE G hm hb1))))
  rintro ⟨⟩ hm s hw
  refine thN (Ok_weak hw ?_)
  refine Ok_seq (rs G (hN 2 l.Runs h0) ?_)
  refine tF hm (fun _ => ⟨[], [], 32⟩) (fun v4 hr1 hm => ?_) ?_
  ·refine Ok_block (lp G hm (fun v3 => ⟨[(46, dV l.Runs), (47, dV (l.Runs.length : Int)), (48, dV v3)], [], 32⟩) ?_)
   rintro v3 r0 hb3 hm
   rw [i_isValidLine_L2] at hm
   refine rg G (Ok_seq (cd hm (fun hm => ?_) (fun hm => ?_)))
   ·refine X_skip (thN (Ok_seq (Ok_block ?_)))
    obtain ⟨e2, h4, hm⟩ := obind hm
    refine rs G (hD 0 h4 h0) ?_
    obtain ⟨r4, h5, hm⟩ := obind hm
    refine rs G (hC 1 (i_within_c h5) h0) ?_
    refine cd hm (fun hm => ?_) (fun hm => ?_)
    ·refine rg G ?_
     have hm := eL hm hb3 hr1
     cases hm
     exact rt [] []
    ·exact X_skip (ibN (thN (rh G (wL G hm))))
   ·exact Ok_exit (thE (thE (ibE (wE G hm hb3))))
  rintro ⟨⟩ hm s1 hw1
  refine thN (Ok_weak hw1 ?_)
  refine rg G ?_
  cases hm
  exact rt [] []
noncomputable def i_IsValidNetwork_M : MS Network Bool := ⟨.r, i_IsValidNetwork, fun y => dV y, fun _ => [], fun _ _ => []⟩
theorem i_IsValidNetwork_c {n y} (hm : i_IsValidNetwork n = some y) : i_IsValidNetwork_M.C n y := i_IsValidNetwork_M.c n hm
theorem i_IsValidNetwork_ok : FnOK Try.prog 129 i_IsValidNetwork_M.S := by
 refine fm tt i_IsValidNetwork_M [fo i_within_ok, fo i_areNames_ok, fo i_lineNames_ok, fo i_isValidLine_ok] Try.call129 Try.func129 rfl Try.results129 Try.ntmps129 ?_
 rintro n y cx G hm
 have hm : i_IsValidNetwork n = some y := hm
 unfold i_IsValidNetwork at hm
 refine rg G (Ok_seq ?_)
 obtain ⟨r, h, hm⟩ := obind hm
 refine jn hm (fun v => ⟨[(1, .ref 16 0), (28, dV v)], [bX 16 [dV n.Stops, dV n.Lines]], 48⟩) (fun v hm => ?_) ?_
 ·rcases bf hm with ⟨hb, hm⟩ | ⟨hb, hm⟩
  ·refine re G (hN 2 n.Stops (hC 3 (i_within_c h) (hO 5 (.b true) (hP hb h0)))) ?_
   exact wJ G hm
  ·obtain ⟨r1, h1, hm⟩ := obind hm
   rcases bf hm with ⟨hb1, hm⟩ | ⟨hb1, hm⟩
   ·refine re G (hN 2 n.Stops (hC 3 (i_within_c h) (hO 5 (.b false) (hP hb (hN 8 n.Lines (hC 9 (i_within_c h1) (hO 12 (.b true) (hP hb1 h0)))))))) ?_
    exact wJ G hm
   ·obtain ⟨r2, h2, hm⟩ := obind hm
    rcases bf hm with ⟨hb2, hm⟩ | ⟨hb2, hm⟩
    ·refine re G (hN 2 n.Stops (hC 3 (i_within_c h) (hO 5 (.b false) (hP hb (hN 8 n.Lines (hC 9 (i_within_c h1) (hO 12 (.b false) (hP hb1 (hC 15 (i_areNames_c h2) (hO 18 (.b true) (hP hb2 h0))))))))))) ?_
     exact wJ G hm
    ·obtain ⟨r3, h3, hm⟩ := obind hm
     obtain ⟨r4, h4, hm⟩ := obind hm
     refine re G (hN 2 n.Stops (hC 3 (i_within_c h) (hO 5 (.b false) (hP hb (hN 8 n.Lines (hC 9 (i_within_c h1) (hO 12 (.b false) (hP hb1 (hC 15 (i_areNames_c h2) (hO 18 (.b false) (hP hb2 (hC 20 (i_lineNames_c h3) (hC 21 (i_areNames_c h4) h0))))))))))))) ?_
     exact wJ G hm
 rintro v hm
 refine cd hm (fun hm => ?_) (fun hm => ?_)
 ·refine rg G ?_
  cases hm
  exact rt [] []
 ·refine X_skip (thN (Ok_seq (rs G (hN 2 n.Lines h0) ?_)))
  refine tF hm (fun _ => ⟨[], [], 32⟩) (fun v2 hr hm => ?_) ?_
  ·refine Ok_block (lp G hm (fun v1 => ⟨[(1, .ref 16 0), (30, dV n.Lines), (31, dV (n.Lines.length : Int)), (32, dV v1)], [bX 16 [dV n.Stops, dV n.Lines]], 48⟩) ?_)
   rintro v1 r0 hb3 hm
   rw [i_IsValidNetwork_L1] at hm
   refine rg G (Ok_seq (cd hm (fun hm => ?_) (fun hm => ?_)))
   ·refine X_skip (thN (Ok_seq (Ok_block ?_)))
    obtain ⟨e, h5, hm⟩ := obind hm
    refine rs G (hD 0 h5 h0) ?_
    obtain ⟨r5, h6, hm⟩ := obind hm
    refine rs G (hC 2 (i_isValidLine_c h6) h0) ?_
    refine cd hm (fun hm => ?_) (fun hm => ?_)
    ·refine rg G ?_
     have hm := eL hm hb3 hr
     cases hm
     exact rt [] []
    ·exact X_skip (ibN (thN (rh G (wL G hm))))
   ·exact Ok_exit (thE (thE (ibE (wE G hm hb3))))
  rintro ⟨⟩ hm s hw
  refine thN (Ok_weak hw ?_)
  refine rg G ?_
  cases hm
  exact rt [] []
noncomputable def i_isLine_M : MS (Network × Int) Bool := ⟨.x .r .r, fun x => i_isLine x.1 x.2, fun y => dV y, fun _ => [], fun _ _ => []⟩
theorem i_isLine_c {n line y} (hm : i_isLine n line = some y) : i_isLine_M.C (n, line) y := i_isLine_M.c (n, line) hm
theorem i_isLine_ok : FnOK Try.prog 130 i_isLine_M.S := by
 refine fm tt i_isLine_M [] Try.call130 Try.func130 rfl Try.results130 Try.ntmps130 ?_
 rintro ⟨n, line⟩ y cx G hm
 have hm : i_isLine n line = some y := hm
 unfold i_isLine at hm
 refine rg G (jn hm (fun v => ⟨[(4, dV v)], [], 32⟩) (fun v hm => ?_) ?_)
 ·rcases bf hm with ⟨hb, hm⟩ | ⟨hb, hm⟩
  ·refine re G (hO 2 (.b true) (hP hb (hN 6 n.Lines h0))) ?_
   exact wJ G hm
  ·refine re G (hO 2 (.b false) (hP hb h0)) ?_
   exact wJ G hm
 rintro v hm
 cases hm
 exact rt [] []
noncomputable def i_IsValidTime_M : MS Int Bool := ⟨.r, i_IsValidTime, fun y => dV y, fun _ => [], fun _ _ => []⟩
theorem i_IsValidTime_c {t y} (hm : i_IsValidTime t = some y) : i_IsValidTime_M.C t y := i_IsValidTime_M.c t hm
theorem i_IsValidTime_ok : FnOK Try.prog 65 i_IsValidTime_M.S := by
 refine fm tt i_IsValidTime_M [fo i_within_ok] Try.call65 Try.func65 rfl Try.results65 Try.ntmps65 ?_
 rintro t y cx G hm
 have hm : i_IsValidTime t = some y := hm
 unfold i_IsValidTime at hm
 refine rg G ?_
 obtain ⟨r, h, hm⟩ := obind hm
 refine rs G (hC 1 (i_within_c h) h0) ?_
 cases hm
 exact rt [] []
noncomputable def i_total_M : MS ((List Int)) Int := ⟨.r, i_total, fun y => dV y, fun _ => [], fun _ _ => []⟩
theorem i_total_c {list y} (hm : i_total list = some y) : i_total_M.C list y := i_total_M.c list hm
theorem i_total_ok : FnOK Try.prog 106 i_total_M.S := by
 refine fm tt i_total_M [] Try.call106 Try.func106 rfl Try.results106 Try.ntmps106 ?_
 rintro list y cx G hm
 have hm : i_total list = some y := hm
 unfold i_total at hm
 refine rg G (rg G (Ok_seq (rs G (hN 1 list h0) ?_)))
 refine tl hm (fun v2 => ⟨[(3, dV v2)], [], 32⟩) (fun v2 hm => ?_) ?_
 ·refine Ok_block (lp G hm (fun (v, v1) => ⟨[(3, dV v), (6, dV list), (7, dV (list.length : Int)), (8, dV v1)], [], 32⟩) ?_)
  rintro ⟨v, v1⟩ r0 hb hm
  rw [i_total_L1] at hm
  refine rg G (Ok_seq (cd hm (fun hm => ?_) (fun hm => ?_)))
  ·refine X_skip (thN (Ok_seq (Ok_block ?_)))
   obtain ⟨e, h, hm⟩ := obind hm
   refine rs G (hD 0 h h0) ?_
   exact rh G (ibN (thN (rh G (wL G hm))))
  ·exact Ok_exit (thE (thE (ibE (wD G hm hb))))
 rintro v2 hm s hw
 refine thN (Ok_weak hw ?_)
 refine rg G ?_
 cases hm
 exact rt [] []
noncomputable def i_endOf_M : MS (Timetable × Trip) Int := ⟨.x .r .r, fun x => i_endOf x.1 x.2, fun y => dV y, fun _ => [], fun _ _ => []⟩
theorem i_endOf_c {t x y} (hm : i_endOf t x = some y) : i_endOf_M.C (t, x) y := i_endOf_M.c (t, x) hm
theorem i_endOf_ok : FnOK Try.prog 165 i_endOf_M.S := by
 refine fm tt i_endOf_M [fo i_total_ok] Try.call165 Try.func165 rfl Try.results165 Try.ntmps165 ?_
 rintro ⟨t, x⟩ y cx G hm
 have hm : i_endOf t x = some y := hm
 unfold i_endOf at hm
 refine rg G ?_
 obtain ⟨e1, h2, hm⟩ := obind hm
 obtain ⟨r1, h3, hm⟩ := obind hm
 refine ds G [] (hD 7 h2 (hC 10 (i_total_c h3) h0)) ?_
 cases hm
 exact rt [] []
noncomputable def i_areTrips_M : MS Timetable Bool := ⟨.r, i_areTrips, fun y => dV y, fun _ => [], fun _ _ => []⟩
theorem i_areTrips_c {t y} (hm : i_areTrips t = some y) : i_areTrips_M.C t y := i_areTrips_M.c t hm
theorem i_areTrips_ok : FnOK Try.prog 131 i_areTrips_M.S := by
 refine fm tt i_areTrips_M [fo i_isLine_ok, fo i_IsValidTime_ok, fo i_endOf_ok] Try.call131 Try.func131 rfl Try.results131 Try.ntmps131 ?_
 rintro t y cx G hm
 have hm : i_areTrips t = some y := hm
 unfold i_areTrips at hm
 refine rg G (Ok_seq (rs G (hN 2 t.Trips h0) ?_))
 refine cd hm (fun hm => ?_) (fun hm => ?_)
 ·refine rg G ?_
  cases hm
  exact rt [] []
 ·refine X_skip (thN (rg G (Ok_seq (rs G (hN 2 t.Trips h0) ?_))))
  refine tF hm (fun _ => ⟨[], [], 32⟩) (fun v3 hr hm => ?_) ?_
  ·refine Ok_block (lp G hm (fun (v, v1) => ⟨[(1, .ref 16 0), (3, dV v), (11, dV t.Trips), (12, dV (t.Trips.length : Int)), (13, dV v1)], [bX 16 [dV t.Network.Stops, dV t.Network.Lines, dV t.Trips]], 48⟩) ?_)
   rintro ⟨v, v1⟩ r0 hb hm
   rw [i_areTrips_L1] at hm
   refine rg G (Ok_seq (cd hm (fun hm => ?_) (fun hm => ?_)))
   ·refine X_skip (thN (Ok_seq (Ok_block ?_)))
    obtain ⟨e, h, hm⟩ := obind hm
    refine rs G (hD 0 h h0) ?_
    refine Ok_seq (jn hm (fun v2 => ⟨[(1, .ref 16 0), (5, .ref 32 0), (11, dV t.Trips), (12, dV (t.Trips.length : Int)), (13, dV v1), (46, dV v2)], [bX 16 [dV t.Network.Stops, dV t.Network.Lines, dV t.Trips], bX 32 [dV e.Id, dV e.Line, dV e.Start]], 64⟩) (fun v2 hm => ?_) ?_)
    ·rcases bf hm with ⟨hb1, hm⟩ | ⟨hb1, hm⟩
     ·refine re G (hO 4 (.b true) (hP hb1 h0)) ?_
      exact wJ G hm
     ·rcases bf hm with ⟨hb2, hm⟩ | ⟨hb2, hm⟩
      ·refine re G (hO 4 (.b false) (hP hb1 (hO 9 (.b true) (hP hb2 h0)))) ?_
       exact wJ G hm
      ·obtain ⟨r, h1, hm⟩ := obind hm
       rcases bf hm with ⟨hb3, hm⟩ | ⟨hb3, hm⟩
       ·refine re G (hO 4 (.b false) (hP hb1 (hO 9 (.b false) (hP hb2 (hC 14 (i_isLine_c h1) (hO 17 (.b true) (hP hb3 h0))))))) ?_
        exact wJ G hm
       ·obtain ⟨r1, h2, hm⟩ := obind hm
        rcases bf hm with ⟨hb4, hm⟩ | ⟨hb4, hm⟩
        ·refine re G (hO 4 (.b false) (hP hb1 (hO 9 (.b false) (hP hb2 (hC 14 (i_isLine_c h1) (hO 17 (.b false) (hP hb3 (hC 20 (i_IsValidTime_c h2) (hO 23 (.b true) (hP hb4 h0)))))))))) ?_
         exact wJ G hm
        ·obtain ⟨r2, h3, hm⟩ := obind hm
         obtain ⟨r3, h4, hm⟩ := obind hm
         refine re G (hO 4 (.b false) (hP hb1 (hO 9 (.b false) (hP hb2 (hC 14 (i_isLine_c h1) (hO 17 (.b false) (hP hb3 (hC 20 (i_IsValidTime_c h2) (hO 23 (.b false) (hP hb4 (hC 26 (i_endOf_c h3) (hC 27 (i_IsValidTime_c h4) h0)))))))))))) ?_
         exact wJ G hm
    rintro v2 hm
    refine cd hm (fun hm => ?_) (fun hm => ?_)
    ·refine rg G ?_
     have hm := eL hm hb hr
     cases hm
     exact rt [] []
    ·exact X_skip (thN (rh G (ibN (thN (rh G (wL G hm))))))
   ·exact Ok_exit (thE (thE (ibE (wE G hm hb))))
  rintro ⟨⟩ hm s hw
  refine thN (Ok_weak hw ?_)
  refine rg G ?_
  cases hm
  exact rt [] []
noncomputable def i_IsValidTimetable_M : MS Timetable Bool := ⟨.r, i_IsValidTimetable, fun y => dV y, fun _ => [], fun _ _ => []⟩
theorem i_IsValidTimetable_c {t y} (hm : i_IsValidTimetable t = some y) : i_IsValidTimetable_M.C t y := i_IsValidTimetable_M.c t hm
theorem i_IsValidTimetable_ok : FnOK Try.prog 97 i_IsValidTimetable_M.S := by
 refine fm tt i_IsValidTimetable_M [fo i_IsValidNetwork_ok, fo i_areTrips_ok] Try.call97 Try.func97 rfl Try.results97 Try.ntmps97 ?_
 rintro t y cx G hm
 have hm : i_IsValidTimetable t = some y := hm
 unfold i_IsValidTimetable at hm
 refine rg G ?_
 obtain ⟨r, h, hm⟩ := obind hm
 refine jn hm (fun v => ⟨[(2, dV v)], [], 32⟩) (fun v hm => ?_) ?_
 ·rcases bf hm with ⟨hb, hm⟩ | ⟨hb, hm⟩
  ·obtain ⟨r1, h1, hm⟩ := obind hm
   refine re G (hC 2 (i_IsValidNetwork_c h) (hO 3 (.b true) (hP hb (hC 5 (i_areTrips_c h1) h0)))) ?_
   exact wJ G hm
  ·refine re G (hC 2 (i_IsValidNetwork_c h) (hO 3 (.b false) (hP hb h0))) ?_
   exact wJ G hm
 rintro v hm
 cases hm
 exact rt [] []
noncomputable def i_tripIndex_1_M : MS (Trip × Int) Bool := ⟨.x .r .b, fun x => i_tripIndex_1 x.1 x.2, fun y => dV y, fun _ => [], fun x _ => [bxO x.2]⟩
theorem i_tripIndex_1_c {x c1 y} (hm : i_tripIndex_1 x c1 = some y) : i_tripIndex_1_M.C (x, c1) y := i_tripIndex_1_M.c (x, c1) hm
theorem i_tripIndex_1_ok : FnOK Try.prog 118 i_tripIndex_1_M.S := by
 refine fm tt i_tripIndex_1_M [] Try.call118 Try.func118 rfl Try.results118 Try.ntmps118 ?_
 rintro ⟨x, c1⟩ y cx G hm
 have hm : i_tripIndex_1 x c1 = some y := hm
 unfold i_tripIndex_1 at hm
 refine rg G (rg G ?_)
 cases hm
 exact rt [] []
noncomputable def slices_IndexFunc_Trip__i_tripIndex_1_M : MS ((List Trip) × Int) Int := ⟨⟨[.rd, .fn 118 [.bx]], fun x => [Enc.e x.1, .agg [.sc undef]], fun x => [bxO x.2], 1, 1, fun _ => rfl, fun _ => rfl, rfl, (by
  rintro ⟨a0, a1⟩ ⟨b0, b1⟩ h hO
  have q0 : a0 = b0 := qI 0 h
  have q1 : a1 = b1 := Enc.inj _ _ (congrArg (fun l => (obD l 0).getD 0 (.sc undef)) hO)
  subst q0; subst q1; rfl)⟩, fun x => slices_IndexFunc_Trip__i_tripIndex_1 x.1 x.2, fun y => dV y, fun _ => [], fun x _ => [bxO x.2]⟩
theorem slices_IndexFunc_Trip__i_tripIndex_1_c {s c1 y} (hm : slices_IndexFunc_Trip__i_tripIndex_1 s c1 = some y) : slices_IndexFunc_Trip__i_tripIndex_1_M.C (s, c1) y := slices_IndexFunc_Trip__i_tripIndex_1_M.c (s, c1) hm
theorem slices_IndexFunc_Trip__i_tripIndex_1_ok : FnOK Try.prog 117 slices_IndexFunc_Trip__i_tripIndex_1_M.S := by
 refine fm tt slices_IndexFunc_Trip__i_tripIndex_1_M [fo i_tripIndex_1_ok] Try.call117 Try.func117 rfl Try.results117 Try.ntmps117 ?_
 rintro ⟨s, c1⟩ y cx G hm
 have hm : slices_IndexFunc_Trip__i_tripIndex_1 s c1 = some y := hm
 obtain ⟨f, hf_f⟩ : ∃ q, (fun (z0 : Trip) => i_tripIndex_1 z0 c1) = q := ⟨_, rfl⟩
 have hm : slices_IndexFunc_Trip s f = some y := by rw [← hf_f]; exact hm
 unfold slices_IndexFunc_Trip at hm
 refine rg G (Ok_seq (rs G (hN 1 s h0) ?_))
 refine tF hm (fun _ => ⟨[(1, .fn 118 [.ref 0 0])], [bX 0 [dV c1]], 48⟩) (fun v1 hr hm => ?_) ?_
 ·refine Ok_block (lp G hm (fun v => ⟨[(0, dV s), (1, .fn 118 [.ref 0 0]), (7, dV (s.length : Int)), (8, dV v)], [bX 0 [dV c1]], 48⟩) ?_)
  rintro v r0 hb hm
  rw [slices_IndexFunc_Trip_L1] at hm
  refine rg G (Ok_seq (cd hm (fun hm => ?_) (fun hm => ?_)))
  ·refine X_skip (thN (Ok_seq (Ok_block (rg G ?_))))
   obtain ⟨e, h, hm⟩ := obind hm
   obtain ⟨r, h1, hm⟩ := obind hm
   have h1 : i_tripIndex_1 e c1 = some r := by rw [← hf_f] at h1; exact h1
   refine rs G (hD 3 h (hC 5 (i_tripIndex_1_c h1) h0)) ?_
   refine cd hm (fun hm => ?_) (fun hm => ?_)
   ·refine rg G ?_
    have hm := eL hm hb hr
    cases hm
    exact rt [] []
   ·exact X_skip (ibN (thN (rh G (wL G hm))))
  ·exact Ok_exit (thE (thE (ibE (wE G hm hb))))
 rintro ⟨⟩ hm s1 hw
 refine thN (Ok_weak hw ?_)
 refine rg G ?_
 cases hm
 exact rt [] []
noncomputable def i_tripIndex_M : MS (Timetable × Int) Int := ⟨.x .r .r, fun x => i_tripIndex x.1 x.2, fun y => dV y, fun _ => [], fun _ _ => []⟩
theorem i_tripIndex_c {t id y} (hm : i_tripIndex t id = some y) : i_tripIndex_M.C (t, id) y := i_tripIndex_M.c (t, id) hm
theorem i_tripIndex_ok : FnOK Try.prog 51 i_tripIndex_M.S := by
 refine fm tt i_tripIndex_M [fo slices_IndexFunc_Trip__i_tripIndex_1_ok] Try.call51 Try.func51 rfl Try.results51 Try.ntmps51 ?_
 rintro ⟨t, id⟩ y cx G hm
 have hm : i_tripIndex t id = some y := hm
 unfold i_tripIndex at hm
 refine rg G ?_
 obtain ⟨r, h, hm⟩ := obind hm
 refine rs G (hC 3 (slices_IndexFunc_Trip__i_tripIndex_1_c h) h0) ?_
 cases hm
 exact rt [] []
noncomputable def i_areTripDelays_M : MS (Timetable × (List TripDelay)) Bool := ⟨.x .r .r, fun x => i_areTripDelays x.1 x.2, fun y => dV y, fun _ => [], fun _ _ => []⟩
theorem i_areTripDelays_c {t delays y} (hm : i_areTripDelays t delays = some y) : i_areTripDelays_M.C (t, delays) y := i_areTripDelays_M.c (t, delays) hm
theorem i_areTripDelays_ok : FnOK Try.prog 54 i_areTripDelays_M.S := by
 refine fm tt i_areTripDelays_M [fo i_tripIndex_ok, fo i_within_ok] Try.call54 Try.func54 rfl Try.results54 Try.ntmps54 ?_
 rintro ⟨t, delays⟩ y cx G hm
 have hm : i_areTripDelays t delays = some y := hm
 unfold i_areTripDelays at hm
 refine rg G (rg G (Ok_seq (rs G (hN 1 delays h0) ?_)))
 refine tF hm (fun _ => ⟨[], [], 32⟩) (fun v2 hr hm => ?_) ?_
 ·refine Ok_block (lp G hm (fun (d, v) => ⟨[(2, .ref 16 0), (5, dV d), (8, dV delays), (9, dV (delays.length : Int)), (10, dV v)], [bX 16 [dV t.Network.Stops, dV t.Network.Lines, dV t.Trips]], 48⟩) ?_)
  rintro ⟨d, v⟩ r0 hb hm
  rw [i_areTripDelays_L1] at hm
  refine rg G (Ok_seq (cd hm (fun hm => ?_) (fun hm => ?_)))
  ·refine X_skip (thN (Ok_seq (Ok_block ?_)))
   obtain ⟨e, h, hm⟩ := obind hm
   refine rs G (hD 0 h h0) ?_
   refine Ok_seq (jn hm (fun v1 => ⟨[(2, .ref 16 0), (7, .ref 32 0), (8, dV delays), (9, dV (delays.length : Int)), (10, dV v), (30, dV v1)], [bX 16 [dV t.Network.Stops, dV t.Network.Lines, dV t.Trips], bX 32 [dV e.Id, dV e.Minutes]], 64⟩) (fun v1 hm => ?_) ?_)
   ·rcases bf hm with ⟨hb1, hm⟩ | ⟨hb1, hm⟩
    ·refine re G (hO 4 (.b true) (hP hb1 h0)) ?_
     exact wJ G hm
    ·obtain ⟨r, h1, hm⟩ := obind hm
     rcases bf hm with ⟨hb2, hm⟩ | ⟨hb2, hm⟩
     ·refine re G (hO 4 (.b false) (hP hb1 (hC 8 (i_tripIndex_c h1) (hO 11 (.b true) (hP hb2 h0))))) ?_
      exact wJ G hm
     ·obtain ⟨r1, h2, hm⟩ := obind hm
      refine re G (hO 4 (.b false) (hP hb1 (hC 8 (i_tripIndex_c h1) (hO 11 (.b false) (hP hb2 (hC 14 (i_within_c h2) h0)))))) ?_
      exact wJ G hm
   rintro v1 hm
   refine cd hm (fun hm => ?_) (fun hm => ?_)
   ·refine rg G ?_
    have hm := eL hm hb hr
    cases hm
    exact rt [] []
   ·exact X_skip (thN (rh G (ibN (thN (rh G (wL G hm))))))
  ·exact Ok_exit (thE (thE (ibE (wE G hm hb))))
 rintro ⟨⟩ hm s hw
 refine thN (Ok_weak hw ?_)
 refine rg G ?_
 cases hm
 exact rt [] []
noncomputable def i_IsValidTripDelays_M : MS (Timetable × (List TripDelay)) Bool := ⟨.x .r .r, fun x => i_IsValidTripDelays x.1 x.2, fun y => dV y, fun _ => [], fun _ _ => []⟩
theorem i_IsValidTripDelays_c {t delays y} (hm : i_IsValidTripDelays t delays = some y) : i_IsValidTripDelays_M.C (t, delays) y := i_IsValidTripDelays_M.c (t, delays) hm
theorem i_IsValidTripDelays_ok : FnOK Try.prog 50 i_IsValidTripDelays_M.S := by
 refine fm tt i_IsValidTripDelays_M [fo i_IsValidTimetable_ok, fo i_areTripDelays_ok] Try.call50 Try.func50 rfl Try.results50 Try.ntmps50 ?_
 rintro ⟨t, delays⟩ y cx G hm
 have hm : i_IsValidTripDelays t delays = some y := hm
 unfold i_IsValidTripDelays at hm
 refine rg G ?_
 obtain ⟨r, h, hm⟩ := obind hm
 refine jn hm (fun v => ⟨[(4, dV v)], [], 32⟩) (fun v hm => ?_) ?_
 ·rcases bf hm with ⟨hb, hm⟩ | ⟨hb, hm⟩
  ·obtain ⟨r1, h1, hm⟩ := obind hm
   refine re G (hC 1 (i_IsValidTimetable_c h) (hO 2 (.b true) (hP hb (hC 5 (i_areTripDelays_c h1) h0)))) ?_
   exact wJ G hm
  ·refine re G (hC 1 (i_IsValidTimetable_c h) (hO 2 (.b false) (hP hb h0))) ?_
   exact wJ G hm
 rintro v hm
 cases hm
 exact rt [] []
noncomputable def i_delayOf_M : MS ((List TripDelay) × Int) Int := ⟨.x .r .r, fun x => i_delayOf x.1 x.2, fun y => dV y, fun _ => [], fun _ _ => []⟩
theorem i_delayOf_c {delays id y} (hm : i_delayOf delays id = some y) : i_delayOf_M.C (delays, id) y := i_delayOf_M.c (delays, id) hm
theorem i_delayOf_ok : FnOK Try.prog 53 i_delayOf_M.S := by
 refine fm tt i_delayOf_M [] Try.call53 Try.func53 rfl Try.results53 Try.ntmps53 ?_
 rintro ⟨delays, id⟩ y cx G hm
 have hm : i_delayOf delays id = some y := hm
 unfold i_delayOf at hm
 refine rg G (Ok_seq (rs G (hN 1 delays h0) ?_))
 refine tF hm (fun _ => ⟨[], [], 32⟩) (fun v1 hr hm => ?_) ?_
 ·refine Ok_block (lp G hm (fun v => ⟨[(1, dV id), (7, dV delays), (8, dV (delays.length : Int)), (9, dV v)], [], 32⟩) ?_)
  rintro v r0 hb hm
  rw [i_delayOf_L1] at hm
  refine rg G (Ok_seq (cd hm (fun hm => ?_) (fun hm => ?_)))
  ·refine X_skip (thN (Ok_seq (Ok_block ?_)))
   obtain ⟨e, h, hm⟩ := obind hm
   refine rs G (hD 0 h h0) ?_
   refine rg G (cd hm (fun hm => ?_) (fun hm => ?_))
   ·refine rg G ?_
    have hm := eL hm hb hr
    cases hm
    exact rt [] []
   ·exact X_skip (ibN (thN (rh G (wL G hm))))
  ·exact Ok_exit (thE (thE (ibE (wE G hm hb))))
 rintro ⟨⟩ hm s hw
 refine thN (Ok_weak hw ?_)
 refine rg G ?_
 cases hm
 exact rt [] []
noncomputable def i_DelayTrip_M : MS (Timetable × (List TripDelay) × Int × Int) ((List TripDelay) × Bool) := ⟨.x .r (.x .r (.x .r .r)), fun x => i_DelayTrip x.1 x.2.1 x.2.2.1 x.2.2.2, fun y => .tup [dV y.1, dV y.2], fun _ => [], fun _ _ => []⟩
theorem i_DelayTrip_c {t delays id minutes y} (hm : i_DelayTrip t delays id minutes = some y) : i_DelayTrip_M.C (t, delays, id, minutes) y := i_DelayTrip_M.c (t, delays, id, minutes) hm
theorem i_DelayTrip_ok : FnOK Try.prog 8 i_DelayTrip_M.S := by
 refine fm tt i_DelayTrip_M [fo i_IsValidTripDelays_ok, fo i_tripIndex_ok, fo i_within_ok, fo i_delayOf_ok, fo i_areTripDelays_ok] Try.call8 Try.func8 rfl Try.results8 Try.ntmps8 ?_
 rintro ⟨t, delays, id, minutes⟩ y cx G hm
 have hm : i_DelayTrip t delays id minutes = some y := hm
 unfold i_DelayTrip at hm
 refine rg G (Ok_seq ?_)
 obtain ⟨r, h, hm⟩ := obind hm
 refine jn hm (fun v => ⟨[(1, dV delays), (2, dV id), (3, dV minutes), (4, .ref 16 0), (30, dV v)], [bX 16 [dV t.Network.Stops, dV t.Network.Lines, dV t.Trips]], 48⟩) (fun v hm => ?_) ?_
 ·rcases bf hm with ⟨hb, hm⟩ | ⟨hb, hm⟩
  ·refine re G (hC 2 (i_IsValidTripDelays_c h) (hO 4 (.b true) (hP hb h0))) ?_
   exact wJ G hm
  ·obtain ⟨r1, h1, hm⟩ := obind hm
   rcases bf hm with ⟨hb1, hm⟩ | ⟨hb1, hm⟩
   ·refine re G (hC 2 (i_IsValidTripDelays_c h) (hO 4 (.b false) (hP hb (hC 7 (i_tripIndex_c h1) (hO 10 (.b true) (hP hb1 h0)))))) ?_
    exact wJ G hm
   ·obtain ⟨r2, h2, hm⟩ := obind hm
    refine re G (hC 2 (i_IsValidTripDelays_c h) (hO 4 (.b false) (hP hb (hC 7 (i_tripIndex_c h1) (hO 10 (.b false) (hP hb1 (hC 12 (i_within_c h2) h0))))))) ?_
    exact wJ G hm
 rintro v hm
 refine cd hm (fun hm => ?_) (fun hm => ?_)
 ·refine rg G ?_
  cases hm
  exact rt [] [[.z 2]]
 ·refine X_skip (thN (rg G ?_))
  obtain ⟨r3, h3, hm⟩ := obind hm
  refine rs G (hC 3 (i_delayOf_c h3) h0) ?_
  refine Ok_seq (rs G (hN 1 delays h0) ?_)
  refine tl hm (fun v4 => ⟨[(1, dV delays), (2, dV id), (4, .ref 16 0), (10, .own 32), (11, .ref 48 0)], [bX 16 [dV t.Network.Stops, dV t.Network.Lines, dV t.Trips], aX 32 37 v4, bX 48 [dV id, dV (w64 (r3 + minutes))]], 80⟩) (fun v4 hm => ?_) ?_
  ·refine Ok_block (lpP hm (fun (v1, v2) => ⟨[(1, dV delays), (2, dV id), (4, .ref 16 0), (10, .own 32), (11, .ref 48 0), (38, dV delays), (39, dV (delays.length : Int)), (40, dV v1)], [bX 16 [dV t.Network.Stops, dV t.Network.Lines, dV t.Trips], aX 32 37 v2, bX 48 [dV id, dV (w64 (r3 + minutes))]], 80⟩) (Wk_J G.hL ⟨[(1, []), (2, []), (4, []), (10, [.o 32]), (11, []), (38, []), (39, []), (40, [])], [(16, 16, []), (48, 176, [])], [(32, 37, 2, [])], 80⟩ (by kernel_rfl)) ?_)
   rintro ⟨v1, v2⟩ r0 hb2 hm
   rw [i_DelayTrip_L1] at hm
   refine rg G (Ok_seq (cd hm (fun hm => ?_) (fun hm => ?_)))
   ·refine X_skip (thN (jn hm (fun v3 => ⟨[(1, dV delays), (2, dV id), (4, .ref 16 0), (10, .own 32), (11, .ref 48 0), (38, dV delays), (39, dV (delays.length : Int)), (40, dV v1)], [bX 16 [dV t.Network.Stops, dV t.Network.Lines, dV t.Trips], aX 32 37 v3, bX 48 [dV id, dV (w64 (r3 + minutes))]], 80⟩) (fun v3 hm => ?_) ?_))
    ·refine Ok_block ?_
     obtain ⟨e, h4, hm⟩ := obind hm
     refine rs G (hD 0 h4 h0) ?_
     refine rg G (cd hm (fun hm => ?_) (fun hm => ?_))
     ·obtain ⟨u, h5, hm⟩ := obind hm
      refine re G (hA 3 16 h5 h0) ?_
      exact ibN (wJ G hm)
     ·exact X_skip (ibN (wJ G hm))
    rintro v3 hm
    exact rh G (wL G hm)
   ·exact Ok_exit (thE (thE (ibE (wD G hm hb2))))
  rintro v4 hm s hw
  refine thN (Ok_weak hw ?_)
  refine jn hm (fun v5 => ⟨[(1, dV delays), (2, dV id), (4, .ref 16 0), (10, .own 32)], [bX 16 [dV t.Network.Stops, dV t.Network.Lines, dV t.Trips], aX 32 37 v5], 64⟩) (fun v5 hm => ?_) ?_
  ·refine rg G (cd hm (fun hm => ?_) (fun hm => ?_))
   ·obtain ⟨u1, h6, hm⟩ := obind hm
    refine re G (hA 3 16 h6 h0) ?_
    exact wJ G hm
   ·exact X_skip (wJ G hm)
  rintro v5 hm
  refine Ok_seq (rs G (hN 1 delays h0) ?_)
  refine tl hm (fun v9 => ⟨[(4, .ref 16 0), (10, .own 32)], [bX 16 [dV t.Network.Stops, dV t.Network.Lines, dV t.Trips], aX 32 37 v9], 64⟩) (fun v9 hm => ?_) ?_
  ·refine Ok_block (lp G hm (fun (v6, v7) => ⟨[(2, dV id), (4, .ref 16 0), (10, .own 32), (60, dV delays), (61, dV (delays.length : Int)), (62, dV v6)], [bX 16 [dV t.Network.Stops, dV t.Network.Lines, dV t.Trips], aX 32 37 v7], 64⟩) ?_)
   rintro ⟨v6, v7⟩ r0 hb3 hm
   rw [i_DelayTrip_L2] at hm
   refine rg G (Ok_seq (cd hm (fun hm => ?_) (fun hm => ?_)))
   ·refine X_skip (thN (jn hm (fun v8 => ⟨[(2, dV id), (4, .ref 16 0), (10, .own 32), (60, dV delays), (61, dV (delays.length : Int)), (62, dV v6)], [bX 16 [dV t.Network.Stops, dV t.Network.Lines, dV t.Trips], aX 32 37 v8], 64⟩) (fun v8 hm => ?_) ?_))
    ·refine Ok_block ?_
     obtain ⟨e1, h7, hm⟩ := obind hm
     refine rs G (hD 0 h7 h0) ?_
     refine rg G (cd hm (fun hm => ?_) (fun hm => ?_))
     ·obtain ⟨u2, h8, hm⟩ := obind hm
      refine re G (hA 3 16 h8 h0) ?_
      exact ibN (wJ G hm)
     ·exact X_skip (ibN (wJ G hm))
    rintro v8 hm
    exact rh G (wL G hm)
   ·exact Ok_exit (thE (thE (ibE (wD G hm hb3))))
  rintro v9 hm s1 hw1
  refine thN (Ok_weak hw1 ?_)
  refine Ok_seq ?_
  obtain ⟨r4, h9, hm⟩ := obind hm
  refine rs G (hC 2 (i_areTripDelays_c h9) h0) ?_
  refine cd hm (fun hm => ?_) (fun hm => ?_)
  ·refine rg G ?_
   cases hm
   exact rt [] [[.z 2]]
  ·refine X_skip (thN (rg G ?_))
   cases hm
   exact rt [] []
noncomputable def s_l1In_M : MS (Int × Int × Int) Bool := ⟨.x .r (.x .r .r), fun x => s_l1In x.1 x.2.1 x.2.2, fun y => dV y, fun _ => [], fun _ _ => []⟩
theorem s_l1In_c {x a b y} (hm : s_l1In x a b = some y) : s_l1In_M.C (x, a, b) y := s_l1In_M.c (x, a, b) hm
theorem s_l1In_ok : FnOK Try.prog 57 s_l1In_M.S := by
 refine fm tt s_l1In_M [] Try.call57 Try.func57 rfl Try.results57 Try.ntmps57 ?_
 rintro ⟨x, a, b⟩ y cx G hm
 have hm : s_l1In x a b = some y := hm
 unfold s_l1In at hm
 refine rg G (jn hm (fun v => ⟨[(6, dV v)], [], 32⟩) (fun v hm => ?_) ?_)
 ·rcases bf hm with ⟨hb, hm⟩ | ⟨hb, hm⟩
  ·refine re G (hO 3 (.b true) (hP hb h0)) ?_
   exact wJ G hm
  ·refine re G (hO 3 (.b false) (hP hb h0)) ?_
   exact wJ G hm
 rintro v hm
 cases hm
 exact rt [] []
noncomputable def s_l2Name_M : MS ByteArray Bool := ⟨.r, s_l2Name, fun y => dV y, fun _ => [], fun _ _ => []⟩
theorem s_l2Name_c {s y} (hm : s_l2Name s = some y) : s_l2Name_M.C s y := s_l2Name_M.c s hm
theorem s_l2Name_ok : FnOK Try.prog 139 s_l2Name_M.S := by
 refine fm tt s_l2Name_M [fo s_l1In_ok] Try.call139 Try.func139 rfl Try.results139 Try.ntmps139 ?_
 rintro s y cx G hm
 have hm : s_l2Name s = some y := hm
 unfold s_l2Name at hm
 refine rg G (Ok_seq ?_)
 obtain ⟨r, h, hm⟩ := obind hm
 refine jn hm (fun v => ⟨[(0, dV s), (17, dV v)], [], 32⟩) (fun v hm => ?_) ?_
 ·rcases bf hm with ⟨hb, hm⟩ | ⟨hb, hm⟩
  ·refine re G (hC 2 (s_l1In_c h) (hO 4 (.b true) (hP hb h0))) ?_
   exact wJ G hm
  ·obtain ⟨u, h1, hm⟩ := obind hm
   rcases bf hm with ⟨hb1, hm⟩ | ⟨hb1, hm⟩
   ·refine re G (hC 2 (s_l1In_c h) (hO 4 (.b false) (hP hb (hK h1 (hO 9 (.b true) (hP hb1 h0)))))) ?_
    exact wJ G hm
   ·obtain ⟨u1, h2, hm⟩ := obind hm
    refine re G (hC 2 (s_l1In_c h) (hO 4 (.b false) (hP hb (hK h1 (hO 9 (.b false) (hP hb1 (hK h2 h0))))))) ?_
    exact wJ G hm
 rintro v hm
 refine cd hm (fun hm => ?_) (fun hm => ?_)
 ·refine rg G ?_
  cases hm
  exact rt [] []
 ·refine X_skip (thN (Ok_seq (rg G (tF hm (fun _ => ⟨[], [], 32⟩) (fun v3 hr hm => ?_) ?_))))
  ·refine Ok_block (lp G hm (fun v1 => ⟨[(0, dV s), (3, dV v1)], [], 32⟩) ?_)
   rintro v1 r0 hb2 hm
   rw [s_l2Name_L1] at hm
   refine Ok_seq (rg G (cd hm (fun hm => ?_) (fun hm => ?_)))
   ·refine X_skip (thN (Ok_seq (Ok_block ?_)))
    obtain ⟨u2, h3, hm⟩ := obind hm
    refine jn hm (fun v2 => ⟨[(0, dV s), (3, dV v1), (45, dV v2)], [], 32⟩) (fun v2 hm => ?_) ?_
    ·rcases bf hm with ⟨hb3, hm⟩ | ⟨hb3, hm⟩
     ·obtain ⟨u3, h4, hm⟩ := obind hm
      rcases bf hm with ⟨hb4, hm⟩ | ⟨hb4, hm⟩
      ·refine re G (hK h3 (hO 4 (.b true) (hP hb3 (hK h4 (hO 15 (.b true) (hP hb4 h0)))))) ?_
       exact wJ G hm
      ·obtain ⟨u4, h5, hm⟩ := obind hm
       refine re G (hK h3 (hO 4 (.b true) (hP hb3 (hK h4 (hO 15 (.b false) (hP hb4 (hK h5 h0))))))) ?_
       exact wJ G hm
     ·obtain ⟨u5, h6, hm⟩ := obind hm
      rcases bf hm with ⟨hb5, hm⟩ | ⟨hb5, hm⟩
      ·obtain ⟨u6, h7, hm⟩ := obind hm
       rcases bf hm with ⟨hb6, hm⟩ | ⟨hb6, hm⟩
       ·refine re G (hK h3 (hO 4 (.b false) (hP hb3 (hK h6 (hO 10 (.b true) (hP hb5 (hK h7 (hO 15 (.b true) (hP hb6 h0))))))))) ?_
        exact wJ G hm
       ·obtain ⟨u7, h8, hm⟩ := obind hm
        refine re G (hK h3 (hO 4 (.b false) (hP hb3 (hK h6 (hO 10 (.b true) (hP hb5 (hK h7 (hO 15 (.b false) (hP hb6 (hK h8 h0)))))))))) ?_
        exact wJ G hm
      ·refine re G (hK h3 (hO 4 (.b false) (hP hb3 (hK h6 (hO 10 (.b false) (hP hb5 h0)))))) ?_
       exact wJ G hm
    rintro v2 hm
    refine cd hm (fun hm => ?_) (fun hm => ?_)
    ·refine rg G ?_
     have hm := eL hm hb2 hr
     cases hm
     exact rt [] []
    ·exact X_skip (ibN (thN (rh G (wL G hm))))
   ·exact Ok_exit (thE (thE (ibE (wE G hm hb2))))
  rintro ⟨⟩ hm s1 hw
  refine thN (Ok_weak hw ?_)
  refine rg G ?_
  cases hm
  exact rt [] []
noncomputable def s_l2Find_M : MS ((List ByteArray) × ByteArray) Int := ⟨.x .r .r, fun x => s_l2Find x.1 x.2, fun y => dV y, fun _ => [], fun _ _ => []⟩
theorem s_l2Find_c {list name y} (hm : s_l2Find list name = some y) : s_l2Find_M.C (list, name) y := s_l2Find_M.c (list, name) hm
theorem s_l2Find_ok : FnOK Try.prog 140 s_l2Find_M.S := by
 refine fm tt s_l2Find_M [] Try.call140 Try.func140 rfl Try.results140 Try.ntmps140 ?_
 rintro ⟨list, name⟩ y cx G hm
 have hm : s_l2Find list name = some y := hm
 unfold s_l2Find at hm
 refine rg G (Ok_seq (rg G (tF hm (fun _ => ⟨[], [], 32⟩) (fun v1 hr hm => ?_) ?_)))
 ·refine Ok_block (lp G hm (fun v => ⟨[(0, dV list), (1, dV name), (5, dV v)], [], 32⟩) ?_)
  rintro v r0 hb hm
  rw [s_l2Find_L1] at hm
  refine Ok_seq (rs G (hN 2 list h0) ?_)
  refine cd hm (fun hm => ?_) (fun hm => ?_)
  ·refine X_skip (thN (Ok_seq (Ok_block ?_)))
   obtain ⟨e, h, hm⟩ := obind hm
   refine rs G (hD 2 h h0) ?_
   refine cd hm (fun hm => ?_) (fun hm => ?_)
   ·refine rg G ?_
    have hm := eL hm hb hr
    cases hm
    exact rt [] []
   ·exact X_skip (ibN (thN (rh G (wL G hm))))
  ·exact Ok_exit (thE (thE (ibE (wE G hm hb))))
 rintro ⟨⟩ hm s hw
 refine thN (Ok_weak hw ?_)
 refine rg G ?_
 cases hm
 exact rt [] []
noncomputable def s_l2Line_M : MS (Line × Int) Bool := ⟨.x .r .r, fun x => s_l2Line x.1 x.2, fun y => dV y, fun _ => [], fun _ _ => []⟩
theorem s_l2Line_c {x stops y} (hm : s_l2Line x stops = some y) : s_l2Line_M.C (x, stops) y := s_l2Line_M.c (x, stops) hm
theorem s_l2Line_ok : FnOK Try.prog 141 s_l2Line_M.S := by
 refine fm tt s_l2Line_M [fo s_l2Name_ok, fo s_l1In_ok, fo s_l2Place_ok] Try.call141 Try.func141 rfl Try.results141 Try.ntmps141 ?_
 rintro ⟨x, stops⟩ y cx G hm
 have hm : s_l2Line x stops = some y := hm
 unfold s_l2Line at hm
 refine rg G (Ok_seq ?_)
 obtain ⟨r, h, hm⟩ := obind hm
 refine jn hm (fun v => ⟨[(1, dV stops), (2, .ref 16 0), (27, dV v)], [bX 16 [dV x.Name, dV x.Stops, dV x.Runs]], 48⟩) (fun v hm => ?_) ?_
 ·rcases bf hm with ⟨hb, hm⟩ | ⟨hb, hm⟩
  ·refine re G (hC 2 (s_l2Name_c h) (hO 4 (.b true) (hP hb h0))) ?_
   exact wJ G hm
  ·obtain ⟨r1, h1, hm⟩ := obind hm
   rcases bf hm with ⟨hb1, hm⟩ | ⟨hb1, hm⟩
   ·refine re G (hC 2 (s_l2Name_c h) (hO 4 (.b false) (hP hb (hN 7 x.Stops (hC 8 (s_l1In_c h1) (hO 11 (.b true) (hP hb1 h0))))))) ?_
    exact wJ G hm
   ·refine re G (hC 2 (s_l2Name_c h) (hO 4 (.b false) (hP hb (hN 7 x.Stops (hC 8 (s_l1In_c h1) (hO 11 (.b false) (hP hb1 (hN 14 x.Runs (hN 17 x.Stops h0))))))))) ?_
    exact wJ G hm
 rintro v hm
 refine cd hm (fun hm => ?_) (fun hm => ?_)
 ·refine rg G ?_
  cases hm
  exact rt [] []
 ·refine X_skip (thN (Ok_seq (rg G (tF hm (fun _ => ⟨[(2, .ref 16 0)], [bX 16 [dV x.Name, dV x.Stops, dV x.Runs]], 48⟩) (fun v5 hr hm => ?_) ?_))))
  ·refine Ok_block (lp G hm (fun v1 => ⟨[(1, dV stops), (2, .ref 16 0), (5, dV v1)], [bX 16 [dV x.Name, dV x.Stops, dV x.Runs]], 48⟩) ?_)
   rintro v1 r0 hb2 hm
   rw [s_l2Line_L1] at hm
   refine Ok_seq (rs G (hN 3 x.Stops h0) ?_)
   refine cd hm (fun hm => ?_) (fun hm => ?_)
   ·refine X_skip (thN (Ok_seq (Ok_block ?_)))
    obtain ⟨e2, h6, hm⟩ := obind hm
    obtain ⟨r4, h7, hm⟩ := obind hm
    refine jn hm (fun v2 => ⟨[(1, dV stops), (2, .ref 16 0), (5, dV v1), (54, dV v2)], [bX 16 [dV x.Name, dV x.Stops, dV x.Runs]], 48⟩) (fun v2 hm => ?_) ?_
    ·rcases bf hm with ⟨hb3, hm⟩ | ⟨hb3, hm⟩
     ·refine de G [] (hD 3 h6 (hC 7 (s_l1In_c h7) (hO 9 (.b true) (hP hb3 h0)))) ?_
      exact wJ G hm
     ·obtain ⟨e3, h8, hm⟩ := obind hm
      obtain ⟨r5, h9, hm⟩ := obind hm
      refine de G [] (hD 3 h6 (hC 7 (s_l1In_c h7) (hO 9 (.b false) (hP hb3 (hD 14 h8 (hC 16 (s_l2Place_c h9) h0)))))) ?_
      exact wJ G hm
    rintro v2 hm
    refine cd hm (fun hm => ?_) (fun hm => ?_)
    ·refine rg G ?_
     have hm := eL hm hb2 hr
     cases hm
     exact rt [] []
    ·exact X_skip (ibN (thN (rh G (wL G hm))))
   ·exact Ok_exit (thE (thE (ibE (wE G hm hb2))))
  rintro ⟨⟩ hm s hw
  refine thN (Ok_weak hw ?_)
  refine Ok_seq (rg G (tF hm (fun _ => ⟨[], [], 32⟩) (fun v4 hr1 hm => ?_) ?_))
  ·refine Ok_block (lp G hm (fun v3 => ⟨[(2, .ref 16 0), (6, dV v3)], [bX 16 [dV x.Name, dV x.Stops, dV x.Runs]], 48⟩) ?_)
   rintro v3 r0 hb4 hm
   rw [s_l2Line_L2] at hm
   refine Ok_seq (rs G (hN 3 x.Runs h0) ?_)
   refine cd hm (fun hm => ?_) (fun hm => ?_)
   ·refine X_skip (thN (Ok_seq (Ok_block ?_)))
    obtain ⟨e5, h10, hm⟩ := obind hm
    obtain ⟨r7, h11, hm⟩ := obind hm
    refine rs G (hD 3 h10 (hC 5 (s_l1In_c h11) h0)) ?_
    refine cd hm (fun hm => ?_) (fun hm => ?_)
    ·refine rg G ?_
     have hm := eL hm hb4 hr1
     cases hm
     exact rt [] []
    ·exact X_skip (ibN (thN (rh G (wL G hm))))
   ·exact Ok_exit (thE (thE (ibE (wE G hm hb4))))
  rintro ⟨⟩ hm s1 hw1
  refine thN (Ok_weak hw1 ?_)
  refine rg G ?_
  cases hm
  exact rt [] []
noncomputable def s_l2LineNamed_M : MS (Network × ByteArray) Int := ⟨.x .r .r, fun x => s_l2LineNamed x.1 x.2, fun y => dV y, fun _ => [], fun _ _ => []⟩
theorem s_l2LineNamed_c {n name y} (hm : s_l2LineNamed n name = some y) : s_l2LineNamed_M.C (n, name) y := s_l2LineNamed_M.c (n, name) hm
theorem s_l2LineNamed_ok : FnOK Try.prog 142 s_l2LineNamed_M.S := by
 refine fm tt s_l2LineNamed_M [] Try.call142 Try.func142 rfl Try.results142 Try.ntmps142 ?_
 rintro ⟨n, name⟩ y cx G hm
 have hm : s_l2LineNamed n name = some y := hm
 unfold s_l2LineNamed at hm
 refine rg G (Ok_seq (rg G (tF hm (fun _ => ⟨[], [], 32⟩) (fun v1 hr hm => ?_) ?_)))
 ·refine Ok_block (lp G hm (fun v => ⟨[(1, dV name), (2, .ref 16 0), (5, dV v)], [bX 16 [dV n.Stops, dV n.Lines]], 48⟩) ?_)
  rintro v r0 hb hm
  rw [s_l2LineNamed_L1] at hm
  refine Ok_seq (rs G (hN 3 n.Lines h0) ?_)
  refine cd hm (fun hm => ?_) (fun hm => ?_)
  ·refine X_skip (thN (Ok_seq (Ok_block ?_)))
   obtain ⟨e, h, hm⟩ := obind hm
   refine rs G (hD 3 h h0) ?_
   refine cd hm (fun hm => ?_) (fun hm => ?_)
   ·refine rg G ?_
    have hm := eL hm hb hr
    cases hm
    exact rt [] []
   ·exact X_skip (ibN (thN (rh G (wL G hm))))
  ·exact Ok_exit (thE (thE (ibE (wE G hm hb))))
 rintro ⟨⟩ hm s hw
 refine thN (Ok_weak hw ?_)
 refine rg G ?_
 cases hm
 exact rt [] []
noncomputable def s_l2Good_M : MS Network Bool := ⟨.r, s_l2Good, fun y => dV y, fun _ => [], fun _ _ => []⟩
theorem s_l2Good_c {n y} (hm : s_l2Good n = some y) : s_l2Good_M.C n y := s_l2Good_M.c n hm
theorem s_l2Good_ok : FnOK Try.prog 107 s_l2Good_M.S := by
 refine fm tt s_l2Good_M [fo s_l1In_ok, fo s_l2Name_ok, fo s_l2Find_ok, fo s_l2Line_ok, fo s_l2LineNamed_ok] Try.call107 Try.func107 rfl Try.results107 Try.ntmps107 ?_
 rintro n y cx G hm
 have hm : s_l2Good n = some y := hm
 unfold s_l2Good at hm
 refine rg G (Ok_seq ?_)
 obtain ⟨r, h, hm⟩ := obind hm
 refine jn hm (fun v => ⟨[(1, .ref 16 0), (16, dV v)], [bX 16 [dV n.Stops, dV n.Lines]], 48⟩) (fun v hm => ?_) ?_
 ·rcases bf hm with ⟨hb, hm⟩ | ⟨hb, hm⟩
  ·refine re G (hN 2 n.Stops (hC 3 (s_l1In_c h) (hO 5 (.b true) (hP hb h0)))) ?_
   exact wJ G hm
  ·obtain ⟨r1, h1, hm⟩ := obind hm
   refine re G (hN 2 n.Stops (hC 3 (s_l1In_c h) (hO 5 (.b false) (hP hb (hN 8 n.Lines (hC 9 (s_l1In_c h1) h0)))))) ?_
   exact wJ G hm
 rintro v hm
 refine cd hm (fun hm => ?_) (fun hm => ?_)
 ·refine rg G ?_
  cases hm
  exact rt [] []
 ·refine X_skip (thN (Ok_seq (rg G (tF hm (fun _ => ⟨[(1, .ref 16 0)], [bX 16 [dV n.Stops, dV n.Lines]], 48⟩) (fun v5 hr hm => ?_) ?_))))
  ·refine Ok_block (lp G hm (fun i => ⟨[(1, .ref 16 0), (3, dV i)], [bX 16 [dV n.Stops, dV n.Lines]], 48⟩) ?_)
   rintro i r0 hb1 hm
   rw [s_l2Good_L1] at hm
   refine Ok_seq (rs G (hN 3 n.Stops h0) ?_)
   refine cd hm (fun hm => ?_) (fun hm => ?_)
   ·refine X_skip (thN (Ok_seq (Ok_block ?_)))
    obtain ⟨e2, h6, hm⟩ := obind hm
    obtain ⟨r4, h7, hm⟩ := obind hm
    refine jn hm (fun v1 => ⟨[(1, .ref 16 0), (3, dV i), (42, dV v1)], [bX 16 [dV n.Stops, dV n.Lines]], 48⟩) (fun v1 hm => ?_) ?_
    ·rcases bf hm with ⟨hb2, hm⟩ | ⟨hb2, hm⟩
     ·refine de G [] (hD 3 h6 (hC 5 (s_l2Name_c h7) (hO 7 (.b true) (hP hb2 h0)))) ?_
      exact wJ G hm
     ·obtain ⟨e3, h8, hm⟩ := obind hm
      obtain ⟨r5, h9, hm⟩ := obind hm
      refine de G [] (hD 3 h6 (hC 5 (s_l2Name_c h7) (hO 7 (.b false) (hP hb2 (hD 13 h8 (hC 15 (s_l2Find_c h9) h0)))))) ?_
      exact wJ G hm
    rintro v1 hm
    refine cd hm (fun hm => ?_) (fun hm => ?_)
    ·refine rg G ?_
     have hm := eL hm hb1 hr
     cases hm
     exact rt [] []
    ·exact X_skip (ibN (thN (rh G (wL G hm))))
   ·exact Ok_exit (thE (thE (ibE (wE G hm hb1))))
  rintro ⟨⟩ hm s hw
  refine thN (Ok_weak hw ?_)
  refine Ok_seq (rg G (tF hm (fun _ => ⟨[], [], 32⟩) (fun v4 hr1 hm => ?_) ?_))
  ·refine Ok_block (lp G hm (fun v2 => ⟨[(1, .ref 16 0), (4, dV v2)], [bX 16 [dV n.Stops, dV n.Lines]], 48⟩) ?_)
   rintro v2 r0 hb3 hm
   rw [s_l2Good_L2] at hm
   refine Ok_seq (rs G (hN 3 n.Lines h0) ?_)
   refine cd hm (fun hm => ?_) (fun hm => ?_)
   ·refine X_skip (thN (Ok_seq (Ok_block ?_)))
    obtain ⟨e7, h14, hm⟩ := obind hm
    obtain ⟨r9, h15, hm⟩ := obind hm
    refine jn hm (fun v3 => ⟨[(1, .ref 16 0), (4, dV v2), (71, dV v3)], [bX 16 [dV n.Stops, dV n.Lines]], 48⟩) (fun v3 hm => ?_) ?_
    ·rcases bf hm with ⟨hb4, hm⟩ | ⟨hb4, hm⟩
     ·refine de G [] (hD 3 h14 (hN 7 n.Stops (hC 8 (s_l2Line_c h15) (hO 10 (.b true) (hP hb4 h0))))) ?_
      exact wJ G hm
     ·obtain ⟨e8, h16, hm⟩ := obind hm
      obtain ⟨r10, h17, hm⟩ := obind hm
      refine de G [] (hD 3 h14 (hN 7 n.Stops (hC 8 (s_l2Line_c h15) (hO 10 (.b false) (hP hb4 (hD 15 h16 (hC 18 (s_l2LineNamed_c h17) h0))))))) ?_
      exact wJ G hm
    rintro v3 hm
    refine cd hm (fun hm => ?_) (fun hm => ?_)
    ·refine rg G ?_
     have hm := eL hm hb3 hr1
     cases hm
     exact rt [] []
    ·exact X_skip (ibN (thN (rh G (wL G hm))))
   ·exact Ok_exit (thE (thE (ibE (wE G hm hb3))))
  rintro ⟨⟩ hm s1 hw1
  refine thN (Ok_weak hw1 ?_)
  refine rg G ?_
  cases hm
  exact rt [] []
noncomputable def s_l4Time_M : MS Int Bool := ⟨.r, s_l4Time, fun y => dV y, fun _ => [], fun _ _ => []⟩
theorem s_l4Time_c {t y} (hm : s_l4Time t = some y) : s_l4Time_M.C t y := s_l4Time_M.c t hm
theorem s_l4Time_ok : FnOK Try.prog 72 s_l4Time_M.S := by
 refine fm tt s_l4Time_M [fo s_l1In_ok] Try.call72 Try.func72 rfl Try.results72 Try.ntmps72 ?_
 rintro t y cx G hm
 have hm : s_l4Time t = some y := hm
 unfold s_l4Time at hm
 refine rg G ?_
 obtain ⟨r, h, hm⟩ := obind hm
 refine rs G (hC 1 (s_l1In_c h) h0) ?_
 cases hm
 exact rt [] []
noncomputable def s_l5Line_M : MS (Timetable × Int) Line := ⟨.x .r .r, fun x => s_l5Line x.1 x.2, fun y => dV y, fun _ => [], fun _ _ => []⟩
theorem s_l5Line_c {t i y} (hm : s_l5Line t i = some y) : s_l5Line_M.C (t, i) y := s_l5Line_M.c (t, i) hm
theorem s_l5Line_ok : FnOK Try.prog 74 s_l5Line_M.S := by
 refine fm tt s_l5Line_M [] Try.call74 Try.func74 rfl Try.results74 Try.ntmps74 ?_
 rintro ⟨t, i⟩ y cx G hm
 have hm : s_l5Line t i = some y := hm
 unfold s_l5Line at hm
 refine rg G ?_
 obtain ⟨e2, h2, hm⟩ := obind hm
 obtain ⟨e3, h3, hm⟩ := obind hm
 refine ds G [(11, [32])] (hD 6 h2 (hD 9 h3 h0)) ?_
 cases hm
 exact rt [] []
noncomputable def s_l5Stops_M : MS (Timetable × Int) ((List Int)) := ⟨.x .r .r, fun x => s_l5Stops x.1 x.2, fun y => dV y, fun _ => [], fun _ _ => []⟩
theorem s_l5Stops_c {t i y} (hm : s_l5Stops t i = some y) : s_l5Stops_M.C (t, i) y := s_l5Stops_M.c (t, i) hm
theorem s_l5Stops_ok : FnOK Try.prog 120 s_l5Stops_M.S := by
 refine fm tt s_l5Stops_M [fo s_l5Line_ok] Try.call120 Try.func120 rfl Try.results120 Try.ntmps120 ?_
 rintro ⟨t, i⟩ y cx G hm
 have hm : s_l5Stops t i = some y := hm
 unfold s_l5Stops at hm
 refine rg G ?_
 obtain ⟨r, h, hm⟩ := obind hm
 refine rs G (hC 2 (s_l5Line_c h) h0) ?_
 cases hm
 exact rt [] []
noncomputable def s_l2Run_M : MS (Line × Int × Int) Int := ⟨.x .r (.x .r .r), fun x => s_l2Run x.1 x.2.1 x.2.2, fun y => dV y, fun _ => [], fun _ _ => []⟩
theorem s_l2Run_c {x from_ to y} (hm : s_l2Run x from_ to = some y) : s_l2Run_M.C (x, from_, to) y := s_l2Run_M.c (x, from_, to) hm
theorem s_l2Run_ok : FnOK Try.prog 100 s_l2Run_M.S := by
 refine fm tt s_l2Run_M [] Try.call100 Try.func100 rfl Try.results100 Try.ntmps100 ?_
 rintro ⟨x, from_, to⟩ y cx G hm
 have hm : s_l2Run x from_ to = some y := hm
 unfold s_l2Run at hm
 refine rg G (rg G (Ok_seq (rg G (tl hm (fun v2 => ⟨[(7, dV v2)], [], 32⟩) (fun v2 hm => ?_) ?_))))
 ·refine Ok_block (lp G hm (fun (v, v1) => ⟨[(2, dV to), (3, .ref 16 0), (7, dV v), (8, dV v1)], [bX 16 [dV x.Name, dV x.Stops, dV x.Runs]], 48⟩) ?_)
  rintro ⟨v, v1⟩ r0 hb hm
  rw [s_l2Run_L1] at hm
  refine Ok_seq (rg G (cd hm (fun hm => ?_) (fun hm => ?_)))
  ·refine X_skip (thN (Ok_seq (Ok_block ?_)))
   obtain ⟨e, h, hm⟩ := obind hm
   refine re G (hD 4 h h0) ?_
   exact ibN (thN (rh G (wL G hm)))
  ·exact Ok_exit (thE (thE (ibE (wD G hm hb))))
 rintro v2 hm s hw
 refine thN (Ok_weak hw ?_)
 refine rg G ?_
 cases hm
 exact rt [] []
noncomputable def s_l5At_M : MS (Timetable × Int × Int) Int := ⟨.x .r (.x .r .r), fun x => s_l5At x.1 x.2.1 x.2.2, fun y => dV y, fun _ => [], fun _ _ => []⟩
theorem s_l5At_c {t i k y} (hm : s_l5At t i k = some y) : s_l5At_M.C (t, i, k) y := s_l5At_M.c (t, i, k) hm
theorem s_l5At_ok : FnOK Try.prog 75 s_l5At_M.S := by
 refine fm tt s_l5At_M [fo s_l5Line_ok, fo s_l2Run_ok] Try.call75 Try.func75 rfl Try.results75 Try.ntmps75 ?_
 rintro ⟨t, i, k⟩ y cx G hm
 have hm : s_l5At t i k = some y := hm
 unfold s_l5At at hm
 refine rg G ?_
 obtain ⟨e1, h3, hm⟩ := obind hm
 obtain ⟨r2, h4, hm⟩ := obind hm
 obtain ⟨r3, h5, hm⟩ := obind hm
 refine ds G [] (hD 3 h3 (hC 8 (s_l5Line_c h4) (hC 10 (s_l2Run_c h5) h0))) ?_
 cases hm
 exact rt [] []
noncomputable def s_l5End_M : MS (Timetable × Int) Int := ⟨.x .r .r, fun x => s_l5End x.1 x.2, fun y => dV y, fun _ => [], fun _ _ => []⟩
theorem s_l5End_c {t i y} (hm : s_l5End t i = some y) : s_l5End_M.C (t, i) y := s_l5End_M.c (t, i) hm
theorem s_l5End_ok : FnOK Try.prog 138 s_l5End_M.S := by
 refine fm tt s_l5End_M [fo s_l5Stops_ok, fo s_l5At_ok] Try.call138 Try.func138 rfl Try.results138 Try.ntmps138 ?_
 rintro ⟨t, i⟩ y cx G hm
 have hm : s_l5End t i = some y := hm
 unfold s_l5End at hm
 refine rg G ?_
 obtain ⟨r2, h2, hm⟩ := obind hm
 obtain ⟨r3, h3, hm⟩ := obind hm
 refine ds G [] (hC 4 (s_l5Stops_c h2) (hN 5 r2 (hC 7 (s_l5At_c h3) h0))) ?_
 cases hm
 exact rt [] []
noncomputable def s_l5Good_M : MS Timetable Bool := ⟨.r, s_l5Good, fun y => dV y, fun _ => [], fun _ _ => []⟩
theorem s_l5Good_c {t y} (hm : s_l5Good t = some y) : s_l5Good_M.C t y := s_l5Good_M.c t hm
theorem s_l5Good_ok : FnOK Try.prog 103 s_l5Good_M.S := by
 refine fm tt s_l5Good_M [fo s_l2Good_ok, fo s_l1In_ok, fo s_l4Time_ok, fo s_l5End_ok] Try.call103 Try.func103 rfl Try.results103 Try.ntmps103 ?_
 rintro t y cx G hm
 have hm : s_l5Good t = some y := hm
 unfold s_l5Good at hm
 refine rg G (Ok_seq ?_)
 obtain ⟨r, h, hm⟩ := obind hm
 refine jn hm (fun v => ⟨[(1, .ref 16 0), (14, dV v)], [bX 16 [dV t.Network.Stops, dV t.Network.Lines, dV t.Trips]], 48⟩) (fun v hm => ?_) ?_
 ·rcases bf hm with ⟨hb, hm⟩ | ⟨hb, hm⟩
  ·refine re G (hC 2 (s_l2Good_c h) (hO 4 (.b true) (hP hb h0))) ?_
   exact wJ G hm
  ·refine re G (hC 2 (s_l2Good_c h) (hO 4 (.b false) (hP hb (hN 7 t.Trips h0)))) ?_
   exact wJ G hm
 rintro v hm
 refine cd hm (fun hm => ?_) (fun hm => ?_)
 ·refine rg G ?_
  cases hm
  exact rt [] []
 ·refine X_skip (thN (Ok_seq (rg G (tF hm (fun _ => ⟨[], [], 32⟩) (fun v2 hr hm => ?_) ?_))))
  ·refine Ok_block (lp G hm (fun x => ⟨[(1, .ref 16 0), (3, dV x)], [bX 16 [dV t.Network.Stops, dV t.Network.Lines, dV t.Trips]], 48⟩) ?_)
   rintro x r0 hb1 hm
   rw [s_l5Good_L1] at hm
   refine Ok_seq (rs G (hN 3 t.Trips h0) ?_)
   refine cd hm (fun hm => ?_) (fun hm => ?_)
   ·refine X_skip (thN (Ok_seq (Ok_block ?_)))
    obtain ⟨e, h1, hm⟩ := obind hm
    refine rs G (hD 3 h1 h0) ?_
    obtain ⟨r6, h8, hm⟩ := obind hm
    refine jn hm (fun v1 => ⟨[(1, .ref 16 0), (3, dV x), (70, dV v1)], [bX 16 [dV t.Network.Stops, dV t.Network.Lines, dV t.Trips]], 48⟩) (fun v1 hm => ?_) ?_
    ·rcases bf hm with ⟨hb2, hm⟩ | ⟨hb2, hm⟩
     ·refine de G [] (hC 2 (s_l1In_c h8) (hO 4 (.b true) (hP hb2 h0))) ?_
      exact wJ G hm
     ·obtain ⟨r7, h9, hm⟩ := obind hm
      rcases bf hm with ⟨hb3, hm⟩ | ⟨hb3, hm⟩
      ·refine de G [] (hC 2 (s_l1In_c h8) (hO 4 (.b false) (hP hb2 (hN 10 t.Network.Lines (hC 12 (s_l1In_c h9) (hO 15 (.b true) (hP hb3 h0))))))) ?_
       exact wJ G hm
      ·obtain ⟨r8, h10, hm⟩ := obind hm
       rcases bf hm with ⟨hb4, hm⟩ | ⟨hb4, hm⟩
       ·refine de G [] (hC 2 (s_l1In_c h8) (hO 4 (.b false) (hP hb2 (hN 10 t.Network.Lines (hC 12 (s_l1In_c h9) (hO 15 (.b false) (hP hb3 (hC 18 (s_l4Time_c h10) (hO 21 (.b true) (hP hb4 h0)))))))))) ?_
        exact wJ G hm
       ·obtain ⟨r9, h11, hm⟩ := obind hm
        obtain ⟨r10, h12, hm⟩ := obind hm
        rcases bf hm with ⟨hb5, hm⟩ | ⟨hb5, hm⟩
        ·refine de G [] (hC 2 (s_l1In_c h8) (hO 4 (.b false) (hP hb2 (hN 10 t.Network.Lines (hC 12 (s_l1In_c h9) (hO 15 (.b false) (hP hb3 (hC 18 (s_l4Time_c h10) (hO 21 (.b false) (hP hb4 (hC 24 (s_l5End_c h11) (hC 25 (s_l4Time_c h12) (hO 28 (.b true) (hP hb5 h0)))))))))))))) ?_
         exact wJ G hm
        ·rcases bf hm with ⟨hb6, hm⟩ | ⟨hb6, hm⟩
         ·obtain ⟨e2, h13, hm⟩ := obind hm
          refine de G [] (hC 2 (s_l1In_c h8) (hO 4 (.b false) (hP hb2 (hN 10 t.Network.Lines (hC 12 (s_l1In_c h9) (hO 15 (.b false) (hP hb3 (hC 18 (s_l4Time_c h10) (hO 21 (.b false) (hP hb4 (hC 24 (s_l5End_c h11) (hC 25 (s_l4Time_c h12) (hO 28 (.b false) (hP hb5 (hO 31 (.b true) (hP hb6 (hD 36 h13 h0))))))))))))))))) ?_
          exact wJ G hm
         ·refine de G [] (hC 2 (s_l1In_c h8) (hO 4 (.b false) (hP hb2 (hN 10 t.Network.Lines (hC 12 (s_l1In_c h9) (hO 15 (.b false) (hP hb3 (hC 18 (s_l4Time_c h10) (hO 21 (.b false) (hP hb4 (hC 24 (s_l5End_c h11) (hC 25 (s_l4Time_c h12) (hO 28 (.b false) (hP hb5 (hO 31 (.b false) (hP hb6 h0)))))))))))))))) ?_
          exact wJ G hm
    rintro v1 hm
    refine cd hm (fun hm => ?_) (fun hm => ?_)
    ·refine rg G ?_
     have hm := eL hm hb1 hr
     cases hm
     exact rt [] []
    ·exact X_skip (ibN (thN (rh G (wL G hm))))
   ·exact Ok_exit (thE (thE (ibE (wE G hm hb1))))
  rintro ⟨⟩ hm s hw
  refine thN (Ok_weak hw ?_)
  refine rg G ?_
  cases hm
  exact rt [] []
noncomputable def s_l5Find_M : MS (Timetable × Int) Int := ⟨.x .r .r, fun x => s_l5Find x.1 x.2, fun y => dV y, fun _ => [], fun _ _ => []⟩
theorem s_l5Find_c {t id y} (hm : s_l5Find t id = some y) : s_l5Find_M.C (t, id) y := s_l5Find_M.c (t, id) hm
theorem s_l5Find_ok : FnOK Try.prog 56 s_l5Find_M.S := by
 refine fm tt s_l5Find_M [] Try.call56 Try.func56 rfl Try.results56 Try.ntmps56 ?_
 rintro ⟨t, id⟩ y cx G hm
 have hm : s_l5Find t id = some y := hm
 unfold s_l5Find at hm
 refine rg G (Ok_seq (rg G (tF hm (fun _ => ⟨[], [], 32⟩) (fun v1 hr hm => ?_) ?_)))
 ·refine Ok_block (lp G hm (fun v => ⟨[(1, dV id), (2, .ref 16 0), (5, dV v)], [bX 16 [dV t.Network.Stops, dV t.Network.Lines, dV t.Trips]], 48⟩) ?_)
  rintro v r0 hb hm
  rw [s_l5Find_L1] at hm
  refine Ok_seq (rs G (hN 3 t.Trips h0) ?_)
  refine cd hm (fun hm => ?_) (fun hm => ?_)
  ·refine X_skip (thN (Ok_seq (Ok_block ?_)))
   obtain ⟨e, h, hm⟩ := obind hm
   refine rs G (hD 3 h h0) ?_
   refine cd hm (fun hm => ?_) (fun hm => ?_)
   ·refine rg G ?_
    have hm := eL hm hb hr
    cases hm
    exact rt [] []
   ·exact X_skip (ibN (thN (rh G (wL G hm))))
  ·exact Ok_exit (thE (thE (ibE (wE G hm hb))))
 rintro ⟨⟩ hm s hw
 refine thN (Ok_weak hw ?_)
 refine rg G ?_
 cases hm
 exact rt [] []
noncomputable def s_l23Good_M : MS (Timetable × (List TripDelay)) Bool := ⟨.x .r .r, fun x => s_l23Good x.1 x.2, fun y => dV y, fun _ => [], fun _ _ => []⟩
theorem s_l23Good_c {t delays y} (hm : s_l23Good t delays = some y) : s_l23Good_M.C (t, delays) y := s_l23Good_M.c (t, delays) hm
theorem s_l23Good_ok : FnOK Try.prog 55 s_l23Good_M.S := by
 refine fm tt s_l23Good_M [fo s_l5Good_ok, fo s_l5Find_ok, fo s_l1In_ok] Try.call55 Try.func55 rfl Try.results55 Try.ntmps55 ?_
 rintro ⟨t, delays⟩ y cx G hm
 have hm : s_l23Good t delays = some y := hm
 unfold s_l23Good at hm
 refine rg G (Ok_seq ?_)
 obtain ⟨r, h, hm⟩ := obind hm
 refine rs G (hC 1 (s_l5Good_c h) h0) ?_
 refine cd hm (fun hm => ?_) (fun hm => ?_)
 ·refine rg G ?_
  cases hm
  exact rt [] []
 ·refine X_skip (thN (Ok_seq (rg G (tF hm (fun _ => ⟨[], [], 32⟩) (fun v2 hr hm => ?_) ?_))))
  ·refine Ok_block (lp G hm (fun v => ⟨[(1, dV delays), (2, .ref 16 0), (5, dV v)], [bX 16 [dV t.Network.Stops, dV t.Network.Lines, dV t.Trips]], 48⟩) ?_)
   rintro v r0 hb hm
   rw [s_l23Good_L1] at hm
   refine Ok_seq (rs G (hN 2 delays h0) ?_)
   refine cd hm (fun hm => ?_) (fun hm => ?_)
   ·refine X_skip (thN (Ok_seq (Ok_block ?_)))
    obtain ⟨e4, h7, hm⟩ := obind hm
    obtain ⟨r3, h8, hm⟩ := obind hm
    refine jn hm (fun v1 => ⟨[(1, dV delays), (2, .ref 16 0), (5, dV v), (49, dV v1)], [bX 16 [dV t.Network.Stops, dV t.Network.Lines, dV t.Trips]], 48⟩) (fun v1 hm => ?_) ?_
    ·rcases bf hm with ⟨hb1, hm⟩ | ⟨hb1, hm⟩
     ·refine de G [] (hD 3 h7 (hC 6 (s_l5Find_c h8) (hO 8 (.b true) (hP hb1 h0)))) ?_
      exact wJ G hm
     ·obtain ⟨e5, h9, hm⟩ := obind hm
      obtain ⟨r4, h10, hm⟩ := obind hm
      rcases bf hm with ⟨hb2, hm⟩ | ⟨hb2, hm⟩
      ·refine de G [] (hD 3 h7 (hC 6 (s_l5Find_c h8) (hO 8 (.b false) (hP hb1 (hD 11 h9 (hC 14 (s_l1In_c h10) (hO 17 (.b true) (hP hb2 h0)))))))) ?_
       exact wJ G hm
      ·rcases bf hm with ⟨hb3, hm⟩ | ⟨hb3, hm⟩
       ·obtain ⟨e6, h11, hm⟩ := obind hm
        obtain ⟨e7, h12, hm⟩ := obind hm
        refine de G [] (hD 3 h7 (hC 6 (s_l5Find_c h8) (hO 8 (.b false) (hP hb1 (hD 11 h9 (hC 14 (s_l1In_c h10) (hO 17 (.b false) (hP hb2 (hO 20 (.b true) (hP hb3 (hD 24 h11 (hD 29 h12 h0)))))))))))) ?_
        exact wJ G hm
       ·refine de G [] (hD 3 h7 (hC 6 (s_l5Find_c h8) (hO 8 (.b false) (hP hb1 (hD 11 h9 (hC 14 (s_l1In_c h10) (hO 17 (.b false) (hP hb2 (hO 20 (.b false) (hP hb3 h0)))))))))) ?_
        exact wJ G hm
    rintro v1 hm
    refine cd hm (fun hm => ?_) (fun hm => ?_)
    ·refine rg G ?_
     have hm := eL hm hb hr
     cases hm
     exact rt [] []
    ·exact X_skip (ibN (thN (rh G (wL G hm))))
   ·exact Ok_exit (thE (thE (ibE (wE G hm hb))))
  rintro ⟨⟩ hm s hw
  refine thN (Ok_weak hw ?_)
  refine rg G ?_
  cases hm
  exact rt [] []
noncomputable def s_DelayTrip_M : MS (Timetable × (List TripDelay) × Int × Int) ((List TripDelay) × Bool) := ⟨.x .r (.x .r (.x .r .r)), fun x => s_DelayTrip x.1 x.2.1 x.2.2.1 x.2.2.2, fun y => .tup [.own 0, dV y.2], fun y => [arO 37 y.1], fun _ _ => []⟩
theorem s_DelayTrip_c {t delays id minutes y} (hm : s_DelayTrip t delays id minutes = some y) : s_DelayTrip_M.C (t, delays, id, minutes) y := s_DelayTrip_M.c (t, delays, id, minutes) hm
theorem s_DelayTrip_ok : FnOK Try.prog 9 s_DelayTrip_M.S := by
 refine fm tt s_DelayTrip_M [fo s_l23Good_ok, fo s_l5Find_ok, fo s_l1In_ok, fo s_l23Delay_ok] Try.call9 Try.func9 rfl Try.results9 Try.ntmps9 ?_
 rintro ⟨t, delays, id, minutes⟩ y cx G hm
 have hm : s_DelayTrip t delays id minutes = some y := hm
 unfold s_DelayTrip at hm
 refine rg G (Ok_seq ?_)
 obtain ⟨r, h, hm⟩ := obind hm
 refine jn hm (fun v => ⟨[(1, dV delays), (2, dV id), (3, dV minutes), (4, .ref 16 0), (28, dV v)], [bX 16 [dV t.Network.Stops, dV t.Network.Lines, dV t.Trips]], 48⟩) (fun v hm => ?_) ?_
 ·rcases bf hm with ⟨hb, hm⟩ | ⟨hb, hm⟩
  ·refine re G (hC 2 (s_l23Good_c h) (hO 4 (.b true) (hP hb h0))) ?_
   exact wJ G hm
  ·obtain ⟨r1, h1, hm⟩ := obind hm
   rcases bf hm with ⟨hb1, hm⟩ | ⟨hb1, hm⟩
   ·refine re G (hC 2 (s_l23Good_c h) (hO 4 (.b false) (hP hb (hC 7 (s_l5Find_c h1) (hO 10 (.b true) (hP hb1 h0)))))) ?_
    exact wJ G hm
   ·obtain ⟨r2, h2, hm⟩ := obind hm
    refine re G (hC 2 (s_l23Good_c h) (hO 4 (.b false) (hP hb (hC 7 (s_l5Find_c h1) (hO 10 (.b false) (hP hb1 (hC 12 (s_l1In_c h2) h0))))))) ?_
    exact wJ G hm
 rintro v hm
 refine cd hm (fun hm => ?_) (fun hm => ?_)
 ·refine rg G ?_
  cases hm
  exact rt [48] []
 ·refine X_skip (thN ?_)
  obtain ⟨r3, h3, hm⟩ := obind hm
  refine rs G (hC 3 (s_l23Delay_c h3) h0) ?_
  refine rg G (rg G (Ok_seq (rg G (tl hm (fun (v9, v10) => ⟨[(4, .ref 16 0), (10, .ref 32 0), (11, .own 48), (12, dV v9)], [bX 16 [dV t.Network.Stops, dV t.Network.Lines, dV t.Trips], bX 32 [dV id, dV (w64 (r3 + minutes))], aX 48 37 v10], 80⟩) (fun vv2 hm => ?_) ?_))))
  ·refine Ok_block (lp G hm (fun (v1, v2, v3) => ⟨[(1, dV delays), (2, dV id), (4, .ref 16 0), (10, .ref 32 0), (11, .own 48), (12, dV v1), (13, dV v2)], [bX 16 [dV t.Network.Stops, dV t.Network.Lines, dV t.Trips], bX 32 [dV id, dV (w64 (r3 + minutes))], aX 48 37 v3], 80⟩) ?_)
   rintro ⟨v1, v2, v3⟩ r0 hb2 hm
   rw [s_DelayTrip_L1] at hm
   refine Ok_seq (rs G (hN 2 delays h0) ?_)
   refine cd hm (fun hm => ?_) (fun hm => ?_)
   ·refine X_skip (thN (jn hm (fun (v4, v5) => ⟨[(1, dV delays), (2, dV id), (4, .ref 16 0), (10, .ref 32 0), (11, .own 48), (12, dV v4), (13, dV v2)], [bX 16 [dV t.Network.Stops, dV t.Network.Lines, dV t.Trips], bX 32 [dV id, dV (w64 (r3 + minutes))], aX 48 37 v5], 80⟩) (fun vv1 hm => ?_) ?_))
    ·refine Ok_block (jn hm (fun (v6, v7) => ⟨[(1, dV delays), (2, dV id), (4, .ref 16 0), (10, .ref 32 0), (11, .own 48), (12, dV v6), (13, dV v2)], [bX 16 [dV t.Network.Stops, dV t.Network.Lines, dV t.Trips], bX 32 [dV id, dV (w64 (r3 + minutes))], aX 48 37 v7], 80⟩) (fun vv hm => ?_) ?_)
     ·refine jn hm (fun v8 => ⟨[(1, dV delays), (2, dV id), (4, .ref 16 0), (10, .ref 32 0), (11, .own 48), (12, dV v1), (13, dV v2), (57, dV v8)], [bX 16 [dV t.Network.Stops, dV t.Network.Lines, dV t.Trips], bX 32 [dV id, dV (w64 (r3 + minutes))], aX 48 37 v3], 80⟩) (fun v8 hm => ?_) ?_
      ·rcases bf hm with ⟨hb3, hm⟩ | ⟨hb3, hm⟩
       ·obtain ⟨e, h4, hm⟩ := obind hm
        refine re G (hO 2 (.b true) (hP hb3 (hD 5 h4 h0))) ?_
        exact wJ G hm
       ·refine re G (hO 2 (.b false) (hP hb3 h0)) ?_
        exact wJ G hm
      rintro v8 hm
      refine cd hm (fun hm => ?_) (fun hm => ?_)
      ·obtain ⟨u, h5, hm⟩ := obind hm
       refine rs G (hA 3 16 h5 h0) ?_
       exact rh G (wJ G hm)
      ·exact X_skip (wJ G hm)
     rintro ⟨v6, v7⟩ hm
     obtain ⟨e1, h6, hm⟩ := obind hm
     refine rs G (hD 2 h6 h0) ?_
     refine cd hm (fun hm => ?_) (fun hm => ?_)
     ·obtain ⟨e2, h7, hm⟩ := obind hm
      obtain ⟨u1, h8, hm⟩ := obind hm
      refine re G (hD 3 h7 (hA 6 16 h8 h0)) ?_
      exact ibN (wJ G hm)
     ·exact X_skip (ibN (wJ G hm))
    rintro ⟨v4, v5⟩ hm
    exact rh G (wL G hm)
   ·exact Ok_exit (thE (thE (ibE (wD G hm hb2))))
  rintro ⟨v9, v10⟩ hm s hw
  refine thN (Ok_weak hw ?_)
  refine jn hm (fun v11 => ⟨[(4, .ref 16 0), (11, .own 32)], [bX 16 [dV t.Network.Stops, dV t.Network.Lines, dV t.Trips], aX 32 37 v11], 64⟩) (fun v11 hm => ?_) ?_
  ·refine rg G (cd hm (fun hm => ?_) (fun hm => ?_))
   ·obtain ⟨u2, h9, hm⟩ := obind hm
    refine re G (hA 3 16 h9 h0) ?_
    exact wJ G hm
   ·exact X_skip (wJ G hm)
  rintro v11 hm
  refine Ok_seq ?_
  obtain ⟨r4, h10, hm⟩ := obind hm
  refine rs G (hC 2 (s_l23Good_c h10) h0) ?_
  refine cd hm (fun hm => ?_) (fun hm => ?_)
  ·refine rg G ?_
   cases hm
   exact rt [128] []
  ·refine X_skip (thN (rg G ?_))
   cases hm
   exact rt [32] []
noncomputable def s_l1Cur_stopOf_M : MS (l1Cur × Timetable) (Int × l1Cur) := ⟨.x .b .r, fun x => s_l1Cur_stopOf x.1 x.2, fun y => dV y.1, fun _ => [], fun _ y => [bxO y.2]⟩
theorem s_l1Cur_stopOf_c {c t y} (hm : s_l1Cur_stopOf c t = some y) : s_l1Cur_stopOf_M.C (c, t) y := s_l1Cur_stopOf_M.c (c, t) hm
theorem s_l1Cur_stopOf_ok : FnOK Try.prog 63 s_l1Cur_stopOf_M.S := by
 refine fm tt s_l1Cur_stopOf_M [fo s_l5Good_ok, fo s_l1Cur_one_ok, fo s_l1Cur_pick_ok, fo s_l5Stops_ok] Try.call63 Try.func63 rfl Try.results63 Try.ntmps63 ?_
 rintro ⟨c, t⟩ y cx G hm
 have hm : s_l1Cur_stopOf c t = some y := hm
 unfold s_l1Cur_stopOf at hm
 refine rg G (Ok_seq (jn hm (fun (v, v1, v2, v3) => ⟨[(0, .ref 0 0), (3, .ref 32 0), (18, dV v)], [bX 0 [dV v1, dV v2, kV .u64 v3], bX 32 [dV t.Network.Stops, dV t.Network.Lines, dV t.Trips]], 64⟩) (fun vv hm => ?_) ?_))
 ·rcases bf hm with ⟨hb, hm⟩ | ⟨hb, hm⟩
  ·obtain ⟨r, h, hm⟩ := obind hm
   rcases bf hm with ⟨hb1, hm⟩ | ⟨hb1, hm⟩
   ·obtain ⟨r1, h1, hm⟩ := obind hm
    refine re G (hN 2 t.Trips (hO 4 (.b true) (hP hb (hC 6 (s_l5Good_c h) (hO 8 (.b true) (hP hb1 (hC 10 (s_l1Cur_one_c h1) h0))))))) ?_
    exact wJ G hm
   ·refine re G (hN 2 t.Trips (hO 4 (.b true) (hP hb (hC 6 (s_l5Good_c h) (hO 8 (.b false) (hP hb1 h0)))))) ?_
    exact wJ G hm
  ·refine re G (hN 2 t.Trips (hO 4 (.b false) (hP hb h0))) ?_
   exact wJ G hm
 rintro ⟨v, v1, v2, v3⟩ hm
 refine cd hm (fun hm => ?_) (fun hm => ?_)
 ·obtain ⟨r4, h4, hm⟩ := obind hm
  obtain ⟨r5, h5, hm⟩ := obind hm
  refine ds G [(5, [0])] (hN 4 t.Trips (hC 5 (s_l1Cur_pick_c h4) (hC 6 (s_l5Stops_c h5) h0))) ?_
  obtain ⟨r6, h6, hm⟩ := obind hm
  obtain ⟨e, h7, hm⟩ := obind hm
  refine rs G (hN 3 r5 (hC 4 (s_l1Cur_pick_c h6) (hD 5 h7 h0))) ?_
  cases hm
  exact rt [] []
 ·refine X_skip (thN ?_)
  obtain ⟨r7, h8, hm⟩ := obind hm
  obtain ⟨r8, h9, hm⟩ := obind hm
  obtain ⟨u, h10, hm⟩ := obind hm
  refine rs G (hN 4 t.Network.Stops (hC 6 (s_l1Cur_pick_c h8) (hC 8 (s_l1Cur_pick_c h9) (hK h10 h0)))) ?_
  cases hm
  exact rt [] []
noncomputable def s_l1Cur_time_M : MS l1Cur (Int × l1Cur) := ⟨.b, s_l1Cur_time, fun y => dV y.1, fun _ => [], fun _ y => [bxO y.2]⟩
theorem s_l1Cur_time_c {c y} (hm : s_l1Cur_time c = some y) : s_l1Cur_time_M.C c y := s_l1Cur_time_M.c c hm
theorem s_l1Cur_time_ok : FnOK Try.prog 121 s_l1Cur_time_M.S := by
 refine fm tt s_l1Cur_time_M [fo s_l1Cur_one_ok, fo s_l1Cur_among_ok, fo s_l1Cur_pick_ok] Try.call121 Try.func121 rfl Try.results121 Try.ntmps121 ?_
 rintro c y cx G hm
 have hm : s_l1Cur_time c = some y := hm
 unfold s_l1Cur_time at hm
 refine rg G (Ok_seq ?_)
 obtain ⟨r, h, hm⟩ := obind hm
 refine rs G (hC 1 (s_l1Cur_one_c h) h0) ?_
 refine cd hm (fun hm => ?_) (fun hm => ?_)
 ·obtain ⟨r1, h1, hm⟩ := obind hm
  refine rs G (hO 2 (.fz [80] [] []) (hC 2 (s_l1Cur_among_c h1) h0)) ?_
  cases hm
  exact rt [] []
 ·refine X_skip (thN ?_)
  obtain ⟨r2, h2, hm⟩ := obind hm
  refine rs G (hC 1 (s_l1Cur_pick_c h2) h0) ?_
  cases hm
  exact rt [] []
noncomputable def s_l1Cur_now23_M : MS (l1Cur × Timetable) (Int × l1Cur) := ⟨.x .b .r, fun x => s_l1Cur_now23 x.1 x.2, fun y => dV y.1, fun _ => [], fun _ y => [bxO y.2]⟩
theorem s_l1Cur_now23_c {c t y} (hm : s_l1Cur_now23 c t = some y) : s_l1Cur_now23_M.C (c, t) y := s_l1Cur_now23_M.c (c, t) hm
theorem s_l1Cur_now23_ok : FnOK Try.prog 64 s_l1Cur_now23_M.S := by
 refine fm tt s_l1Cur_now23_M [fo s_l1Cur_one_ok, fo s_l1Cur_pick_ok, fo s_l1Cur_time_ok] Try.call64 Try.func64 rfl Try.results64 Try.ntmps64 ?_
 rintro ⟨c, t⟩ y cx G hm
 have hm : s_l1Cur_now23 c t = some y := hm
 unfold s_l1Cur_now23 at hm
 refine rg G (Ok_seq (jn hm (fun (v, v1, v2, v3) => ⟨[(0, .ref 0 0), (3, .ref 32 0), (13, dV v)], [bX 0 [dV v1, dV v2, kV .u64 v3], bX 32 [dV t.Network.Stops, dV t.Network.Lines, dV t.Trips]], 64⟩) (fun vv hm => ?_) ?_))
 ·rcases bf hm with ⟨hb, hm⟩ | ⟨hb, hm⟩
  ·obtain ⟨r, h, hm⟩ := obind hm
   refine re G (hN 2 t.Trips (hO 4 (.b true) (hP hb (hC 6 (s_l1Cur_one_c h) h0)))) ?_
   exact wJ G hm
  ·refine re G (hN 2 t.Trips (hO 4 (.b false) (hP hb h0))) ?_
   exact wJ G hm
 rintro ⟨v, v1, v2, v3⟩ hm
 refine cd hm (fun hm => ?_) (fun hm => ?_)
 ·obtain ⟨r3, h4, hm⟩ := obind hm
  obtain ⟨e1, h5, hm⟩ := obind hm
  obtain ⟨r4, h6, hm⟩ := obind hm
  refine ds G [(6, [0]), (11, [0])] (hN 5 t.Trips (hC 6 (s_l1Cur_pick_c h4) (hD 7 h5 (hC 11 (s_l1Cur_pick_c h6) h0)))) ?_
  cases hm
  exact rt [] []
 ·refine X_skip (thN ?_)
  obtain ⟨r5, h7, hm⟩ := obind hm
  refine rs G (hC 1 (s_l1Cur_time_c h7) h0) ?_
  cases hm
  exact rt [] []
noncomputable def s_DrawBoardRows_M : MS ((List UInt8)) (Timetable × (List TripDelay) × Int × Int × Int) := ⟨.r, s_DrawBoardRows, fun y => .tup [dV y.1, .own 0, dV y.2.2.1, dV y.2.2.2.1, dV y.2.2.2.2], fun y => [arO 37 y.2.1], fun _ _ => []⟩
theorem s_DrawBoardRows_c {code y} (hm : s_DrawBoardRows code = some y) : s_DrawBoardRows_M.C code y := s_DrawBoardRows_M.c code hm
theorem s_DrawBoardRows_ok : FnOK Try.prog 58 s_DrawBoardRows_M.S := by
 refine fm tt s_DrawBoardRows_M [fo s_l1Cur_anyTimetable_ok, fo s_l1Cur_delays23_ok, fo s_l1Cur_stopOf_ok, fo s_l1Cur_now23_ok, fo s_l1Cur_pick_ok, fo s_l1Cur_among_w_ok] Try.call58 Try.func58 rfl Try.results58 Try.ntmps58 ?_
 rintro code y cx G hm
 have hm : s_DrawBoardRows code = some y := hm
 unfold s_DrawBoardRows at hm
 refine rg G (rg G ?_)
 obtain ⟨r, h, hm⟩ := obind hm
 refine rs G (hC 1 (s_l1Cur_anyTimetable_c h) h0) ?_
 obtain ⟨r1, h1, hm⟩ := obind hm
 refine rs G (hO 2 (.fz [176, 177] [] []) (hC 2 (s_l1Cur_delays23_c h1) h0)) ?_
 obtain ⟨r2, h2, hm⟩ := obind hm
 refine rs G (hC 2 (s_l1Cur_stopOf_c h2) h0) ?_
 obtain ⟨r3, h3, hm⟩ := obind hm
 refine rs G (hC 2 (s_l1Cur_now23_c h3) h0) ?_
 obtain ⟨r6, h8, hm⟩ := obind hm
 obtain ⟨u2, h9, hm⟩ := obind hm
 obtain ⟨u3, h10, hm⟩ := obind hm
 obtain ⟨r7, h11, hm⟩ := obind hm
 refine ds G [(7, [128]), (10, [496]), (11, [128, 576]), (12, [16])] (hC 7 (s_l1Cur_pick_c h8) (hK h9 (hU 10 h10 (hC 11 (s_l1Cur_among_w_c h11) h0)))) ?_
 cases hm
 exact rt [256] []
noncomputable def s_DrawOvertakings_M : MS ((List UInt8)) (Timetable × (List TripDelay) × Int) := ⟨.r, s_DrawOvertakings, fun y => .tup [dV y.1, .own 0, dV y.2.2], fun y => [arO 37 y.2.1], fun _ _ => []⟩
theorem s_DrawOvertakings_c {code y} (hm : s_DrawOvertakings code = some y) : s_DrawOvertakings_M.C code y := s_DrawOvertakings_M.c code hm
theorem s_DrawOvertakings_ok : FnOK Try.prog 10 s_DrawOvertakings_M.S := by
 refine fm tt s_DrawOvertakings_M [fo s_DrawBoardRows_ok] Try.call10 Try.func10 rfl Try.results10 Try.ntmps10 ?_
 rintro code y cx G hm
 have hm : s_DrawOvertakings code = some y := hm
 unfold s_DrawOvertakings at hm
 refine rg G ?_
 obtain ⟨r, h, hm⟩ := obind hm
 refine rs G (hC 1 (s_DrawBoardRows_c h) h0) ?_
 refine rg G ?_
 cases hm
 exact rt [80] []
noncomputable def i_isBoard_M : MS (Timetable × (List TripDelay) × Int × Int) Bool := ⟨.x .r (.x .r (.x .r .r)), fun x => i_isBoard x.1 x.2.1 x.2.2.1 x.2.2.2, fun y => dV y, fun _ => [], fun _ _ => []⟩
theorem i_isBoard_c {t delays stop now y} (hm : i_isBoard t delays stop now = some y) : i_isBoard_M.C (t, delays, stop, now) y := i_isBoard_M.c (t, delays, stop, now) hm
theorem i_isBoard_ok : FnOK Try.prog 59 i_isBoard_M.S := by
 refine fm tt i_isBoard_M [fo i_IsValidTripDelays_ok, fo i_isStop_ok, fo i_IsValidTime_ok] Try.call59 Try.func59 rfl Try.results59 Try.ntmps59 ?_
 rintro ⟨t, delays, stop, now⟩ y cx G hm
 have hm : i_isBoard t delays stop now = some y := hm
 unfold i_isBoard at hm
 refine rg G ?_
 obtain ⟨r, h, hm⟩ := obind hm
 refine jn hm (fun v => ⟨[(8, dV v)], [], 32⟩) (fun v hm => ?_) ?_
 ·rcases bf hm with ⟨hb, hm⟩ | ⟨hb, hm⟩
  ·obtain ⟨r1, h1, hm⟩ := obind hm
   rcases bf hm with ⟨hb1, hm⟩ | ⟨hb1, hm⟩
   ·obtain ⟨r2, h2, hm⟩ := obind hm
    refine re G (hC 2 (i_IsValidTripDelays_c h) (hO 3 (.b true) (hP hb (hC 7 (i_isStop_c h1) (hO 9 (.b true) (hP hb1 (hC 11 (i_IsValidTime_c h2) h0))))))) ?_
    exact wJ G hm
   ·refine re G (hC 2 (i_IsValidTripDelays_c h) (hO 3 (.b true) (hP hb (hC 7 (i_isStop_c h1) (hO 9 (.b false) (hP hb1 h0)))))) ?_
    exact wJ G hm
  ·refine re G (hC 2 (i_IsValidTripDelays_c h) (hO 3 (.b false) (hP hb h0))) ?_
   exact wJ G hm
 rintro v hm
 cases hm
 exact rt [] []
noncomputable def i_lineOf_M : MS (Timetable × Trip) Line := ⟨.x .r .r, fun x => i_lineOf x.1 x.2, fun y => dV y, fun _ => [], fun _ _ => []⟩
theorem i_lineOf_c {t x y} (hm : i_lineOf t x = some y) : i_lineOf_M.C (t, x) y := i_lineOf_M.c (t, x) hm
theorem i_lineOf_ok : FnOK Try.prog 67 i_lineOf_M.S := by
 refine fm tt i_lineOf_M [] Try.call67 Try.func67 rfl Try.results67 Try.ntmps67 ?_
 rintro ⟨t, x⟩ y cx G hm
 have hm : i_lineOf t x = some y := hm
 unfold i_lineOf at hm
 refine rg G ?_
 obtain ⟨e, h, hm⟩ := obind hm
 refine rs G (hD 5 h h0) ?_
 cases hm
 exact rt [] []
noncomputable def i_stopTimes_M : MS (Timetable × Trip) ((List Int)) := ⟨.x .r .r, fun x => i_stopTimes x.1 x.2, fun _ => .own 0, fun y => [arO 3 y], fun _ _ => []⟩
theorem i_stopTimes_c {t x y} (hm : i_stopTimes t x = some y) : i_stopTimes_M.C (t, x) y := i_stopTimes_M.c (t, x) hm
theorem i_stopTimes_ok : FnOK Try.prog 68 i_stopTimes_M.S := by
 refine fm tt i_stopTimes_M [fo i_lineOf_ok] Try.call68 Try.func68 rfl Try.results68 Try.ntmps68 ?_
 rintro ⟨t, x⟩ y cx G hm
 have hm : i_stopTimes t x = some y := hm
 unfold i_stopTimes at hm
 refine rg G (rg G (Ok_seq ?_))
 obtain ⟨r, h, hm⟩ := obind hm
 refine rs G (hC 2 (i_lineOf_c h) (hN 4 r.Runs h0)) ?_
 refine tl hm (fun r2 => ⟨[(5, .own 16)], [aX 16 3 r2], 48⟩) (fun r2 hm => ?_) ?_
 ·refine Ok_block (lp G hm (fun (v, r1) => ⟨[(5, .own 16), (14, dV r.Runs), (15, dV (r.Runs.length : Int)), (16, dV v)], [aX 16 3 r1], 48⟩) ?_)
  rintro ⟨v, r1⟩ r0 hb hm
  rw [i_stopTimes_L1] at hm
  refine rg G (Ok_seq (cd hm (fun hm => ?_) (fun hm => ?_)))
  ·refine X_skip (thN (Ok_seq (Ok_block ?_)))
   obtain ⟨e, h1, hm⟩ := obind hm
   refine rs G (hD 1 h1 h0) ?_
   obtain ⟨e1, h2, hm⟩ := obind hm
   obtain ⟨u, h3, hm⟩ := obind hm
   refine re G (hD 3 h2 (hE 4 h2 (hA 8 8 h3 h0))) ?_
   exact ibN (thN (rh G (wL G hm)))
  ·exact Ok_exit (thE (thE (ibE (wD G hm hb))))
 rintro r2 hm s hw
 refine thN (Ok_weak hw ?_)
 refine rg G ?_
 cases hm
 exact rt [16] []
noncomputable def i_departuresAt_M : MS (Timetable × (List TripDelay) × Int) ((List departure)) := ⟨.x .r (.x .r .r), fun x => i_departuresAt x.1 x.2.1 x.2.2, fun _ => .own 0, fun y => [arO 109 y], fun _ _ => []⟩
theorem i_departuresAt_c {t delays stop y} (hm : i_departuresAt t delays stop = some y) : i_departuresAt_M.C (t, delays, stop) y := i_departuresAt_M.c (t, delays, stop) hm
theorem i_departuresAt_ok : FnOK Try.prog 60 i_departuresAt_M.S := by
 refine fm tt i_departuresAt_M [fo i_lineOf_ok, fo i_stopTimes_ok, fo slices_Index_int_ok, fo i_delayOf_ok] Try.call60 Try.func60 rfl Try.results60 Try.ntmps60 ?_
 rintro ⟨t, delays, stop⟩ y cx G hm
 have hm : i_departuresAt t delays stop = some y := hm
 unfold i_departuresAt at hm
 refine rg G (rg G (Ok_seq (rs G (hN 2 t.Trips h0) ?_)))
 refine tl hm (fun stops2 => ⟨[(7, .own 16)], [aX 16 109 stops2], 48⟩) (fun stops2 hm => ?_) ?_
 ·refine Ok_block (lpP hm (fun (v, stops) => ⟨[(1, dV delays), (2, dV stop), (3, .ref 16 0), (7, .own 32), (14, dV t.Trips), (15, dV (t.Trips.length : Int)), (16, dV v)], [bX 16 [dV t.Network.Stops, dV t.Network.Lines, dV t.Trips], aX 32 109 stops], 64⟩) (Wk_J G.hL ⟨[(1, []), (2, []), (3, []), (7, [.o 32]), (14, []), (15, []), (16, [])], [(16, 16, [])], [(32, 109, 5, [])], 64⟩ (by kernel_rfl)) ?_)
  rintro ⟨v, stops⟩ r0 hb hm
  rw [i_departuresAt_L1] at hm
  refine rg G (Ok_seq (cd hm (fun hm => ?_) (fun hm => ?_)))
  ·refine X_skip (thN (jn hm (fun stops1 => ⟨[(1, dV delays), (2, dV stop), (3, .ref 16 0), (7, .own 32), (14, dV t.Trips), (15, dV (t.Trips.length : Int)), (16, dV v)], [bX 16 [dV t.Network.Stops, dV t.Network.Lines, dV t.Trips], aX 32 109 stops1], 64⟩) (fun stops1 hm => ?_) ?_))
   ·refine Ok_block ?_
    obtain ⟨e, h, hm⟩ := obind hm
    refine rs G (hD 0 h h0) ?_
    obtain ⟨r2, h3, hm⟩ := obind hm
    obtain ⟨r3, h4, hm⟩ := obind hm
    refine ds G [] (hC 2 (i_lineOf_c h3) (hC 6 (i_stopTimes_c h4) h0)) ?_
    obtain ⟨r4, h5, hm⟩ := obind hm
    refine rs G (hC 2 (slices_Index_int_c h5) h0) ?_
    refine jn hm (fun v1 => ⟨[(1, dV delays), (2, dV stop), (3, .ref 16 0), (7, .own 32), (9, .ref 48 0), (11, .own 64), (12, dV r4), (14, dV t.Trips), (15, dV (t.Trips.length : Int)), (16, dV v), (38, dV v1)], [bX 16 [dV t.Network.Stops, dV t.Network.Lines, dV t.Trips], aX 32 109 stops, bX 48 [dV e.Id, dV e.Line, dV e.Start], aX 64 3 r3], 96⟩) (fun v1 hm => ?_) ?_
    ·rcases bf hm with ⟨hb1, hm⟩ | ⟨hb1, hm⟩
     ·refine re G (hO 2 (.b true) (hP hb1 (hN 5 r2.Stops h0))) ?_
      exact wJ G hm
     ·refine re G (hO 2 (.b false) (hP hb1 h0)) ?_
      exact wJ G hm
    rintro v1 hm
    refine cd hm (fun hm => ?_) (fun hm => ?_)
    ·obtain ⟨e2, h9, hm⟩ := obind hm
     obtain ⟨r6, h10, hm⟩ := obind hm
     obtain ⟨u1, h11, hm⟩ := obind hm
     refine de G [(12, [32, 272])] (hD 4 h9 (hE 5 h9 (hC 9 (i_delayOf_c h10) (hA 12 40 h11 h0)))) ?_
     exact ibN (wJ G hm)
    ·exact X_skip (ibN (wJ G hm))
   rintro stops1 hm
   exact rh G (wL G hm)
  ·exact Ok_exit (thE (thE (ibE (wD G hm hb))))
 rintro stops2 hm s hw
 refine thN (Ok_weak hw ?_)
 refine rg G ?_
 cases hm
 exact rt [16] []
noncomputable def i_Overtakings_M : MS (Timetable × (List TripDelay) × Int) ((List (List Int)) × Bool) := ⟨.x .r (.x .r .r), fun x => i_Overtakings x.1 x.2.1 x.2.2, fun y => .tup [dV y.1, dV y.2], fun _ => [], fun _ _ => []⟩
theorem i_Overtakings_c {t delays stop y} (hm : i_Overtakings t delays stop = some y) : i_Overtakings_M.C (t, delays, stop) y := i_Overtakings_M.c (t, delays, stop) hm
theorem i_Overtakings_ok : FnOK Try.prog 11 i_Overtakings_M.S := by
 refine fm tt i_Overtakings_M [fo i_isBoard_ok, fo i_departuresAt_ok] Try.call11 Try.func11 rfl Try.results11 Try.ntmps11 ?_
 rintro ⟨t, delays, stop⟩ y cx G hm
 have hm : i_Overtakings t delays stop = some y := hm
 unfold i_Overtakings at hm
 refine rg G (Ok_seq ?_)
 obtain ⟨r, h, hm⟩ := obind hm
 refine rs G (hC 3 (i_isBoard_c h) h0) ?_
 refine cd hm (fun hm => ?_) (fun hm => ?_)
 ·refine rg G ?_
  cases hm
  exact rt [] [[.z 1]]
 ·refine X_skip (thN ?_)
  obtain ⟨r1, h1, hm⟩ := obind hm
  refine rs G (hC 3 (i_departuresAt_c h1) h0) ?_
  refine rg G (Ok_seq (rs G (hN 1 r1 h0) ?_))
  refine tl hm (fun v7 => ⟨[(9, .own 16)], [aX 16 46 v7], 48⟩) (fun v7 hm => ?_) ?_
  ·refine Ok_block (lpP hm (fun (v, v1) => ⟨[(8, .own 16), (9, .own 32), (23, .own 16), (24, dV (r1.length : Int)), (25, dV v)], [aX 16 109 r1, aX 32 46 v1], 64⟩) (Wk_J G.hL ⟨[(8, []), (9, [.o 32]), (23, []), (24, []), (25, [])], [(16, 192, [])], [(32, 46, 1, [])], 64⟩ (by kernel_rfl)) ?_)
   rintro ⟨v, v1⟩ r0 hb hm
   rw [i_Overtakings_L2] at hm
   refine rg G (Ok_seq (cd hm (fun hm => ?_) (fun hm => ?_)))
   ·refine X_skip (thN (Ok_seq (Ok_block ?_)))
    obtain ⟨e, h2, hm⟩ := obind hm
    refine rs G (hD 0 h2 (hE 1 h2 h0)) ?_
    refine rs G (hN 1 r1 h0) ?_
    refine tl hm (fun v6 => ⟨[(8, .own 16), (9, .own 32), (23, .own 16), (24, dV (r1.length : Int)), (25, dV v)], [aX 16 109 r1, aX 32 46 v6], 64⟩) (fun v6 hm => ?_) ?_
    ·refine Ok_block (lp G hm (fun (v2, v3) => ⟨[(8, .own 16), (9, .own 32), (11, .ref 48 0), (23, .own 16), (24, dV (r1.length : Int)), (25, dV v), (29, .own 16), (30, dV (r1.length : Int)), (31, dV v2)], [aX 16 109 r1, aX 32 46 v3, bX 48 [dV e.trip_.Id, dV e.trip_.Line, dV e.trip_.Start, dV e.time_, dV e.delay_]], 80⟩) ?_)
     rintro ⟨v2, v3⟩ r0 hb1 hm
     rw [i_Overtakings_L1] at hm
     refine rg G (Ok_seq (cd hm (fun hm => ?_) (fun hm => ?_)))
     ·refine X_skip (thN (jn hm (fun v4 => ⟨[(8, .own 16), (9, .own 32), (11, .ref 48 0), (23, .own 16), (24, dV (r1.length : Int)), (25, dV v), (29, .own 16), (30, dV (r1.length : Int)), (31, dV v2)], [aX 16 109 r1, aX 32 46 v4, bX 48 [dV e.trip_.Id, dV e.trip_.Line, dV e.trip_.Start, dV e.time_, dV e.delay_]], 80⟩) (fun v4 hm => ?_) ?_))
      ·refine Ok_block ?_
       obtain ⟨e1, h3, hm⟩ := obind hm
       refine rs G (hD 0 h3 (hE 1 h3 h0)) ?_
       refine jn hm (fun v5 => ⟨[(8, .own 16), (9, .own 32), (11, .ref 48 0), (13, .ref 64 0), (23, .own 16), (24, dV (r1.length : Int)), (25, dV v), (29, .own 16), (30, dV (r1.length : Int)), (31, dV v2), (52, dV v5)], [aX 16 109 r1, aX 32 46 v3, bX 48 [dV e.trip_.Id, dV e.trip_.Line, dV e.trip_.Start, dV e.time_, dV e.delay_], bX 64 [dV e1.trip_.Id, dV e1.trip_.Line, dV e1.trip_.Start, dV e1.time_, dV e1.delay_]], 96⟩) (fun v5 hm => ?_) ?_
       ·rcases bf hm with ⟨hb2, hm⟩ | ⟨hb2, hm⟩
        ·refine re G (hO 5 (.b true) (hP hb2 h0)) ?_
         exact wJ G hm
        ·refine re G (hO 5 (.b false) (hP hb2 h0)) ?_
         exact wJ G hm
       rintro v5 hm
       refine cd hm (fun hm => ?_) (fun hm => ?_)
       ·obtain ⟨u, h4, hm⟩ := obind hm
        refine re G (hO 8 (.fz [208] [] []) (hA 9 24 h4 h0)) ?_
        exact ibN (wJ G hm)
       ·exact X_skip (ibN (wJ G hm))
      rintro v4 hm
      exact rh G (wL G hm)
     ·exact Ok_exit (thE (thE (ibE (wD G hm hb1))))
    rintro v6 hm s hw
    refine ibN (thN (Ok_weak hw ?_))
    exact rh G (wL G hm)
   ·exact Ok_exit (thE (thE (ibE (wD G hm hb))))
  rintro v7 hm s1 hw1
  refine thN (Ok_weak hw1 ?_)
  refine rg G ?_
  cases hm
  exact rt [] []
noncomputable def s_l23Asked_M : MS (Timetable × (List TripDelay) × Int) Bool := ⟨.x .r (.x .r .r), fun x => s_l23Asked x.1 x.2.1 x.2.2, fun y => dV y, fun _ => [], fun _ _ => []⟩
theorem s_l23Asked_c {t delays stop y} (hm : s_l23Asked t delays stop = some y) : s_l23Asked_M.C (t, delays, stop) y := s_l23Asked_M.c (t, delays, stop) hm
theorem s_l23Asked_ok : FnOK Try.prog 61 s_l23Asked_M.S := by
 refine fm tt s_l23Asked_M [fo s_l23Good_ok, fo s_l1In_ok] Try.call61 Try.func61 rfl Try.results61 Try.ntmps61 ?_
 rintro ⟨t, delays, stop⟩ y cx G hm
 have hm : s_l23Asked t delays stop = some y := hm
 unfold s_l23Asked at hm
 refine rg G ?_
 obtain ⟨r, h, hm⟩ := obind hm
 refine jn hm (fun v => ⟨[(6, dV v)], [], 32⟩) (fun v hm => ?_) ?_
 ·rcases bf hm with ⟨hb, hm⟩ | ⟨hb, hm⟩
  ·obtain ⟨r1, h1, hm⟩ := obind hm
   refine re G (hC 2 (s_l23Good_c h) (hO 3 (.b true) (hP hb (hN 8 t.Network.Stops (hC 10 (s_l1In_c h1) h0))))) ?_
   exact wJ G hm
  ·refine re G (hC 2 (s_l23Good_c h) (hO 3 (.b false) (hP hb h0))) ?_
   exact wJ G hm
 rintro v hm
 cases hm
 exact rt [] []
noncomputable def s_l23Departure_M : MS (Timetable × Int × Int) Int := ⟨.x .r (.x .r .r), fun x => s_l23Departure x.1 x.2.1 x.2.2, fun y => dV y, fun _ => [], fun _ _ => []⟩
theorem s_l23Departure_c {t i stop y} (hm : s_l23Departure t i stop = some y) : s_l23Departure_M.C (t, i, stop) y := s_l23Departure_M.c (t, i, stop) hm
theorem s_l23Departure_ok : FnOK Try.prog 62 s_l23Departure_M.S := by
 refine fm tt s_l23Departure_M [fo s_l5Line_ok, fo s_l2Place_ok, fo s_l5Stops_ok, fo s_l5At_ok] Try.call62 Try.func62 rfl Try.results62 Try.ntmps62 ?_
 rintro ⟨t, i, stop⟩ y cx G hm
 have hm : s_l23Departure t i stop = some y := hm
 unfold s_l23Departure at hm
 refine rg G ?_
 obtain ⟨r, h, hm⟩ := obind hm
 obtain ⟨r1, h1, hm⟩ := obind hm
 refine rs G (hC 2 (s_l5Line_c h) (hC 4 (s_l2Place_c h1) h0)) ?_
 refine Ok_seq (jn hm (fun v => ⟨[(1, dV i), (3, .ref 16 0), (7, dV r1), (23, dV v)], [bX 16 [dV t.Network.Stops, dV t.Network.Lines, dV t.Trips]], 48⟩) (fun v hm => ?_) ?_)
 ·rcases bf hm with ⟨hb, hm⟩ | ⟨hb, hm⟩
  ·refine re G (hO 2 (.b true) (hP hb h0)) ?_
   exact wJ G hm
  ·obtain ⟨r2, h2, hm⟩ := obind hm
   refine re G (hO 2 (.b false) (hP hb (hC 6 (s_l5Stops_c h2) (hN 7 r2 h0)))) ?_
   exact wJ G hm
 rintro v hm
 refine cd hm (fun hm => ?_) (fun hm => ?_)
 ·refine rg G ?_
  cases hm
  exact rt [] []
 ·refine X_skip (thN ?_)
  obtain ⟨r3, h3, hm⟩ := obind hm
  refine rs G (hC 3 (s_l5At_c h3) h0) ?_
  cases hm
  exact rt [] []
noncomputable def s_Overtakings_M : MS (Timetable × (List TripDelay) × Int) ((List (List Int)) × Bool) := ⟨.x .r (.x .r .r), fun x => s_Overtakings x.1 x.2.1 x.2.2, fun y => .tup [dV y.1, dV y.2], fun _ => [], fun _ _ => []⟩
theorem s_Overtakings_c {t delays stop y} (hm : s_Overtakings t delays stop = some y) : s_Overtakings_M.C (t, delays, stop) y := s_Overtakings_M.c (t, delays, stop) hm
theorem s_Overtakings_ok : FnOK Try.prog 12 s_Overtakings_M.S := by
 refine fm tt s_Overtakings_M [fo s_l23Asked_ok, fo s_l23Departure_ok, fo s_l23Delay_ok] Try.call12 Try.func12 rfl Try.results12 Try.ntmps12 ?_
 rintro ⟨t, delays, stop⟩ y cx G hm
 have hm : s_Overtakings t delays stop = some y := hm
 unfold s_Overtakings at hm
 refine rg G (rg G (Ok_seq ?_))
 obtain ⟨r, h, hm⟩ := obind hm
 refine rs G (hC 3 (s_l23Asked_c h) h0) ?_
 refine cd hm (fun hm => ?_) (fun hm => ?_)
 ·refine rg G ?_
  cases hm
  exact rt [] []
 ·refine X_skip (thN (Ok_seq (rg G (tl hm (fun a4 => ⟨[(8, .own 16)], [tX 16 46 [some 3] a4 16 none], 48⟩) (fun a4 hm => ?_) ?_))))
  ·refine Ok_block (lpP hm (fun (b, a) => ⟨[(1, dV delays), (2, dV stop), (3, .ref 16 0), (8, .own 32), (9, dV b)], [bX 16 [dV t.Network.Stops, dV t.Network.Lines, dV t.Trips], tX 32 46 [some 3] a 32 none], 64⟩) (Wk_J G.hL ⟨[(1, []), (2, []), (3, []), (8, []), (9, [])], [(16, 16, []), (32, 64, [.t [some 3]])], [], 64⟩ (by kernel_rfl)) ?_)
   rintro ⟨b, a⟩ r0 hb hm
   rw [s_Overtakings_L2] at hm
   refine Ok_seq (rs G (hN 3 t.Trips h0) ?_)
   refine cd hm (fun hm => ?_) (fun hm => ?_)
   ·refine X_skip (thN (Ok_seq (Ok_block (rg G (tl hm (fun a3 => ⟨[(1, dV delays), (2, dV stop), (3, .ref 16 0), (8, .own 32), (9, dV b)], [bX 16 [dV t.Network.Stops, dV t.Network.Lines, dV t.Trips], tX 32 46 [some 3] a3 32 none], 64⟩) (fun a3 hm => ?_) ?_)))))
    ·refine Ok_block (lp G hm (fun (x, a1) => ⟨[(1, dV delays), (2, dV stop), (3, .ref 16 0), (8, .own 32), (9, dV b), (10, dV x)], [bX 16 [dV t.Network.Stops, dV t.Network.Lines, dV t.Trips], tX 32 46 [some 3] a1 32 none], 64⟩) ?_)
     rintro ⟨x, a1⟩ r0 hb1 hm
     rw [s_Overtakings_L1] at hm
     refine Ok_seq (rs G (hN 3 t.Trips h0) ?_)
     refine cd hm (fun hm => ?_) (fun hm => ?_)
     ·refine X_skip (thN (jn hm (fun a2 => ⟨[(1, dV delays), (2, dV stop), (3, .ref 16 0), (8, .own 32), (9, dV b), (10, dV x)], [bX 16 [dV t.Network.Stops, dV t.Network.Lines, dV t.Trips], tX 32 46 [some 3] a2 32 none], 64⟩) (fun a2 hm => ?_) ?_))
      ·refine Ok_block ?_
       obtain ⟨r3, h3, hm⟩ := obind hm
       obtain ⟨r4, h4, hm⟩ := obind hm
       refine ds G [] (hC 3 (s_l23Departure_c h3) (hC 7 (s_l23Departure_c h4) h0)) ?_
       obtain ⟨e2, h9, hm⟩ := obind hm
       obtain ⟨r7, h10, hm⟩ := obind hm
       obtain ⟨e3, h11, hm⟩ := obind hm
       obtain ⟨r8, h12, hm⟩ := obind hm
       refine ds G [] (hD 5 h9 (hC 8 (s_l23Delay_c h10) (hD 15 h11 (hC 18 (s_l23Delay_c h12) h0)))) ?_
       refine jn hm (fun v => ⟨[(1, dV delays), (2, dV stop), (3, .ref 16 0), (8, .own 32), (9, dV b), (10, dV x), (79, dV v)], [bX 16 [dV t.Network.Stops, dV t.Network.Lines, dV t.Trips], tX 32 46 [some 3] a1 32 none], 64⟩) (fun v hm => ?_) ?_
       ·rcases bf hm with ⟨hb2, hm⟩ | ⟨hb2, hm⟩
        ·rcases bf hm with ⟨hb3, hm⟩ | ⟨hb3, hm⟩
         ·rcases bf hm with ⟨hb4, hm⟩ | ⟨hb4, hm⟩
          ·refine re G (hO 2 (.b true) (hP hb2 (hO 6 (.b true) (hP hb3 (hO 11 (.b true) (hP hb4 h0)))))) ?_
           exact wJ G hm
          ·refine re G (hO 2 (.b true) (hP hb2 (hO 6 (.b true) (hP hb3 (hO 11 (.b false) (hP hb4 h0)))))) ?_
           exact wJ G hm
         ·refine re G (hO 2 (.b true) (hP hb2 (hO 6 (.b false) (hP hb3 h0)))) ?_
          exact wJ G hm
        ·refine re G (hO 2 (.b false) (hP hb2 h0)) ?_
         exact wJ G hm
       rintro v hm
       refine cd hm (fun hm => ?_) (fun hm => ?_)
       ·obtain ⟨e6, h16, hm⟩ := obind hm
        obtain ⟨e7, h17, hm⟩ := obind hm
        obtain ⟨u1, h18, hm⟩ := obind hm
        refine de G [(14, [272]), (15, [32, 288])] (hD 4 h16 (hD 10 h17 (hP (nodupB_ok (l := [272]) rfl) (hA 15 24 h18 h0)))) ?_
        exact ibN (wJ G hm)
       ·exact X_skip (ibN (wJ G hm))
      rintro a2 hm
      exact rh G (wL G hm)
     ·exact Ok_exit (thE (thE (ibE (wD G hm hb1))))
    rintro a3 hm s hw
    refine ibN (thN (Ok_weak hw ?_))
    exact rh G (wL G hm)
   ·exact Ok_exit (thE (thE (ibE (wD G hm hb))))
  rintro a4 hm s1 hw1
  refine thN (Ok_weak hw1 ?_)
  refine rg G ?_
  cases hm
  exact rt [] []
noncomputable def v_rInts_M : MS ((List Int) × (List Int)) Bool := ⟨.x .r .r, fun x => v_rInts x.1 x.2, fun y => dV y, fun _ => [], fun _ _ => []⟩
theorem v_rInts_c {a b y} (hm : v_rInts a b = some y) : v_rInts_M.C (a, b) y := v_rInts_M.c (a, b) hm
theorem v_rInts_ok : FnOK Try.prog 17 v_rInts_M.S := by
 refine fm tt v_rInts_M [] Try.call17 Try.func17 rfl Try.results17 Try.ntmps17 ?_
 rintro ⟨a, b⟩ y cx G hm
 have hm : v_rInts a b = some y := hm
 unfold v_rInts at hm
 refine rg G (Ok_seq (rs G (hN 1 a (hN 3 b h0)) ?_))
 refine cd hm (fun hm => ?_) (fun hm => ?_)
 ·refine rg G ?_
  cases hm
  exact rt [] []
 ·refine X_skip (thN (Ok_seq (rg G (tF hm (fun _ => ⟨[], [], 32⟩) (fun v1 hr hm => ?_) ?_))))
  ·refine Ok_block (lp G hm (fun v => ⟨[(0, dV a), (1, dV b), (5, dV v)], [], 32⟩) ?_)
   rintro v r0 hb hm
   rw [v_rInts_L1] at hm
   refine Ok_seq (rs G (hN 2 a h0) ?_)
   refine cd hm (fun hm => ?_) (fun hm => ?_)
   ·refine X_skip (thN (Ok_seq (Ok_block ?_)))
    obtain ⟨e2, h2, hm⟩ := obind hm
    obtain ⟨e3, h3, hm⟩ := obind hm
    refine ds G [] (hD 2 h2 (hD 6 h3 h0)) ?_
    refine cd hm (fun hm => ?_) (fun hm => ?_)
    ·refine rg G ?_
     have hm := eL hm hb hr
     cases hm
     exact rt [] []
    ·exact X_skip (ibN (thN (rh G (wL G hm))))
   ·exact Ok_exit (thE (thE (ibE (wE G hm hb))))
  rintro ⟨⟩ hm s hw
  refine thN (Ok_weak hw ?_)
  refine rg G ?_
  cases hm
  exact rt [] []
noncomputable def v_rTable_M : MS ((List (List Int)) × (List (List Int))) Bool := ⟨.x .r .r, fun x => v_rTable x.1 x.2, fun y => dV y, fun _ => [], fun _ _ => []⟩
theorem v_rTable_c {a b y} (hm : v_rTable a b = some y) : v_rTable_M.C (a, b) y := v_rTable_M.c (a, b) hm
theorem v_rTable_ok : FnOK Try.prog 13 v_rTable_M.S := by
 refine fm tt v_rTable_M [fo v_rInts_ok] Try.call13 Try.func13 rfl Try.results13 Try.ntmps13 ?_
 rintro ⟨a, b⟩ y cx G hm
 have hm : v_rTable a b = some y := hm
 unfold v_rTable at hm
 refine rg G (Ok_seq (rs G (hN 1 a (hN 3 b h0)) ?_))
 refine cd hm (fun hm => ?_) (fun hm => ?_)
 ·refine rg G ?_
  cases hm
  exact rt [] []
 ·refine X_skip (thN (Ok_seq (rg G (tF hm (fun _ => ⟨[], [], 32⟩) (fun v1 hr hm => ?_) ?_))))
  ·refine Ok_block (lp G hm (fun v => ⟨[(0, dV a), (1, dV b), (5, dV v)], [], 32⟩) ?_)
   rintro v r0 hb hm
   rw [v_rTable_L1] at hm
   refine Ok_seq (rs G (hN 2 a h0) ?_)
   refine cd hm (fun hm => ?_) (fun hm => ?_)
   ·refine X_skip (thN (Ok_seq (Ok_block ?_)))
    obtain ⟨e2, h3, hm⟩ := obind hm
    obtain ⟨e3, h4, hm⟩ := obind hm
    obtain ⟨r1, h5, hm⟩ := obind hm
    refine ds G [] (hD 2 h3 (hD 6 h4 (hC 8 (v_rInts_c h5) h0))) ?_
    refine cd hm (fun hm => ?_) (fun hm => ?_)
    ·refine rg G ?_
     have hm := eL hm hb hr
     cases hm
     exact rt [] []
    ·exact X_skip (ibN (thN (rh G (wL G hm))))
   ·exact Ok_exit (thE (thE (ibE (wE G hm hb))))
  rintro ⟨⟩ hm s hw
  refine thN (Ok_weak hw ?_)
  refine rg G ?_
  cases hm
  exact rt [] []
noncomputable def s_DrawArrivalsAt_M : MS ((List UInt8)) (Timetable × (List TripDelay) × Int × Int × Int) := ⟨.r, s_DrawArrivalsAt, fun y => .tup [dV y.1, .own 0, dV y.2.2.1, dV y.2.2.2.1, dV y.2.2.2.2], fun y => [arO 37 y.2.1], fun _ _ => []⟩
theorem s_DrawArrivalsAt_c {code y} (hm : s_DrawArrivalsAt code = some y) : s_DrawArrivalsAt_M.C code y := s_DrawArrivalsAt_M.c code hm
theorem s_DrawArrivalsAt_ok : FnOK Try.prog 14 s_DrawArrivalsAt_M.S := by
 refine fm tt s_DrawArrivalsAt_M [fo s_l1Cur_anyTimetable_ok, fo s_l1Cur_delays23_ok, fo s_l1Cur_stopOf_ok, fo s_l1Cur_now23_ok, fo s_l1Cur_among_w_ok] Try.call14 Try.func14 rfl Try.results14 Try.ntmps14 ?_
 rintro code y cx G hm
 have hm : s_DrawArrivalsAt code = some y := hm
 unfold s_DrawArrivalsAt at hm
 refine rg G (rg G ?_)
 obtain ⟨r, h, hm⟩ := obind hm
 refine rs G (hC 1 (s_l1Cur_anyTimetable_c h) h0) ?_
 obtain ⟨r1, h1, hm⟩ := obind hm
 refine rs G (hO 2 (.fz [176, 177] [] []) (hC 2 (s_l1Cur_delays23_c h1) h0)) ?_
 obtain ⟨r2, h2, hm⟩ := obind hm
 refine rs G (hC 2 (s_l1Cur_stopOf_c h2) h0) ?_
 obtain ⟨r3, h3, hm⟩ := obind hm
 refine rs G (hC 2 (s_l1Cur_now23_c h3) h0) ?_
 obtain ⟨r5, h5, hm⟩ := obind hm
 refine ds G [(7, [128, 512]), (9, [16])] (hC 7 (s_l1Cur_among_w_c h5) h0) ?_
 cases hm
 exact rt [256] []
noncomputable def cmp_isNaN_int_M : MS Int Bool := ⟨.r, cmp_isNaN_int, fun y => dV y, fun _ => [], fun _ _ => []⟩
theorem cmp_isNaN_int_c {x y} (hm : cmp_isNaN_int x = some y) : cmp_isNaN_int_M.C x y := cmp_isNaN_int_M.c x hm
theorem cmp_isNaN_int_ok : FnOK Try.prog 160 cmp_isNaN_int_M.S := by
 refine fm tt cmp_isNaN_int_M [] Try.call160 Try.func160 rfl Try.results160 Try.ntmps160 ?_
 rintro x y cx G hm
 have hm : cmp_isNaN_int x = some y := hm
 unfold cmp_isNaN_int at hm
 refine rg G (rg G ?_)
 cases hm
 exact rt [] []
noncomputable def cmp_Compare_int_M : MS (Int × Int) Int := ⟨.x .r .r, fun x => cmp_Compare_int x.1 x.2, fun y => dV y, fun _ => [], fun _ _ => []⟩
theorem cmp_Compare_int_c {x y_ y} (hm : cmp_Compare_int x y_ = some y) : cmp_Compare_int_M.C (x, y_) y := cmp_Compare_int_M.c (x, y_) hm
theorem cmp_Compare_int_ok : FnOK Try.prog 124 cmp_Compare_int_M.S := by
 refine fm tt cmp_Compare_int_M [fo cmp_isNaN_int_ok] Try.call124 Try.func124 rfl Try.results124 Try.ntmps124 ?_
 rintro ⟨x, y_⟩ y cx G hm
 have hm : cmp_Compare_int x y_ = some y := hm
 unfold cmp_Compare_int at hm
 refine rg G ?_
 obtain ⟨r, h, hm⟩ := obind hm
 refine rs G (hC 1 (cmp_isNaN_int_c h) h0) ?_
 obtain ⟨r1, h1, hm⟩ := obind hm
 refine rs G (hC 1 (cmp_isNaN_int_c h1) h0) ?_
 refine Ok_seq (rg G (cd hm (fun hm => ?_) (fun hm => ?_)))
 ·refine Ok_seq (rg G (cd hm (fun hm => ?_) (fun hm => ?_)))
  ·refine rg G ?_
   cases hm
   exact rt [] []
  ·refine X_skip (thN (rg G ?_))
   cases hm
   exact rt [] []
 ·refine X_skip (thN (Ok_seq (rg G (cd hm (fun hm => ?_) (fun hm => ?_)))))
  ·refine rg G ?_
   cases hm
   exact rt [] []
  ·refine X_skip (thN (Ok_seq (rg G (cd hm (fun hm => ?_) (fun hm => ?_)))))
   ·refine rg G ?_
    cases hm
    exact rt [] []
   ·refine X_skip (thN (Ok_seq (rg G (cd hm (fun hm => ?_) (fun hm => ?_)))))
    ·refine rg G ?_
     cases hm
     exact rt [] []
    ·refine X_skip (thN (rg G ?_))
     cases hm
     exact rt [] []
noncomputable def slices_Compare_int_M : MS ((List Int) × (List Int)) Int := ⟨.x .r .r, fun x => slices_Compare_int x.1 x.2, fun y => dV y, fun _ => [], fun _ _ => []⟩
theorem slices_Compare_int_c {s1 s2 y} (hm : slices_Compare_int s1 s2 = some y) : slices_Compare_int_M.C (s1, s2) y := slices_Compare_int_M.c (s1, s2) hm
theorem slices_Compare_int_ok : FnOK Try.prog 71 slices_Compare_int_M.S := by
 refine fm tt slices_Compare_int_M [fo cmp_Compare_int_ok] Try.call71 Try.func71 rfl Try.results71 Try.ntmps71 ?_
 rintro ⟨s1, s2⟩ y cx G hm
 have hm : slices_Compare_int s1 s2 = some y := hm
 unfold slices_Compare_int at hm
 refine rg G (Ok_seq (rs G (hN 1 s1 h0) ?_))
 refine tF hm (fun _ => ⟨[(0, dV s1), (1, dV s2)], [], 32⟩) (fun v1 hr hm => ?_) ?_
 ·refine Ok_block (lp G hm (fun v => ⟨[(0, dV s1), (1, dV s2), (9, dV s1), (10, dV (s1.length : Int)), (11, dV v)], [], 32⟩) ?_)
  rintro v r0 hb hm
  rw [slices_Compare_int_L1] at hm
  refine rg G (Ok_seq (cd hm (fun hm => ?_) (fun hm => ?_)))
  ·refine X_skip (thN (Ok_seq (Ok_block ?_)))
   obtain ⟨e, h, hm⟩ := obind hm
   refine rs G (hD 1 h h0) ?_
   refine Ok_seq (rs G (hN 2 s2 h0) ?_)
   refine cd hm (fun hm => ?_) (fun hm => ?_)
   ·refine rg G ?_
    have hm := eL hm hb hr
    cases hm
    exact rt [] []
   ·refine X_skip (thN ?_)
    obtain ⟨e2, h1, hm⟩ := obind hm
    refine rs G (hD 2 h1 h0) ?_
    obtain ⟨r1, h2, hm⟩ := obind hm
    refine rs G (hC 2 (cmp_Compare_int_c h2) h0) ?_
    refine rg G (cd hm (fun hm => ?_) (fun hm => ?_))
    ·refine rg G ?_
     have hm := eL hm hb hr
     cases hm
     exact rt [] []
    ·exact X_skip (ibN (thN (rh G (wL G hm))))
  ·exact Ok_exit (thE (thE (ibE (wE G hm hb))))
 rintro ⟨⟩ hm s hw
 refine thN (Ok_weak hw ?_)
 refine Ok_seq (rs G (hN 1 s1 (hN 3 s2 h0)) ?_)
 refine cd hm (fun hm => ?_) (fun hm => ?_)
 ·refine rg G ?_
  cases hm
  exact rt [] []
 ·refine X_skip (thN (rg G ?_))
  cases hm
  exact rt [] []
noncomputable def i_ArrivalsAt_1_M : MS (A2_Int × A2_Int) Int := ⟨.x .r .r, fun x => i_ArrivalsAt_1 x.1 x.2, fun y => dV y, fun _ => [], fun _ _ => []⟩
theorem i_ArrivalsAt_1_c {a b y} (hm : i_ArrivalsAt_1 a b = some y) : i_ArrivalsAt_1_M.C (a, b) y := i_ArrivalsAt_1_M.c (a, b) hm
theorem i_ArrivalsAt_1_ok : FnOK Try.prog 70 i_ArrivalsAt_1_M.S := by
 refine fm tt i_ArrivalsAt_1_M [fo slices_Compare_int_ok] Try.call70 Try.func70 rfl Try.results70 Try.ntmps70 ?_
 rintro ⟨a, b⟩ y cx G hm
 have hm : i_ArrivalsAt_1 a b = some y := hm
 unfold i_ArrivalsAt_1 at hm
 refine rg G ?_
 obtain ⟨r1, h5, hm⟩ := obind hm
 refine ds G [(0, [16]), (1, [32])] (hP trivial (hP trivial (hC 2 (slices_Compare_int_c h5) h0))) ?_
 cases hm
 exact rt [] []
noncomputable def math_bits_Len64_M : MS ((IK .u64)) Int := ⟨.r, math_bits_Len64, fun y => dV y, fun _ => [], fun _ _ => []⟩
theorem math_bits_Len64_c {x y} (hm : math_bits_Len64 x = some y) : math_bits_Len64_M.C x y := math_bits_Len64_M.c x hm
theorem math_bits_Len64_ok : FnOK Try.prog 159 math_bits_Len64_M.S := by
 refine fm tt math_bits_Len64_M [] Try.call159 Try.func159 rfl Try.results159 Try.ntmps159 ?_
 rintro x y cx G hm
 have hm : math_bits_Len64 x = some y := hm
 unfold math_bits_Len64 at hm
 refine rg G (jn hm (fun (x1, v) => ⟨[(0, kV .u64 x1), (2, dV v)], [], 32⟩) (fun vv2 hm => ?_) ?_)
 ·refine rg G (cd hm (fun hm => ?_) (fun hm => ?_))
  ·obtain ⟨u, h, hm⟩ := obind hm
   refine rs G (hK h h0) ?_
   exact rh G (wJ G hm)
  ·exact X_skip (wJ G hm)
 rintro ⟨x1, v⟩ hm
 refine jn hm (fun (x2, v1) => ⟨[(0, kV .u64 x2), (2, dV v1)], [], 32⟩) (fun vv1 hm => ?_) ?_
 ·refine rg G (cd hm (fun hm => ?_) (fun hm => ?_))
  ·obtain ⟨u1, h1, hm⟩ := obind hm
   refine rs G (hK h1 h0) ?_
   exact rh G (wJ G hm)
  ·exact X_skip (wJ G hm)
 rintro ⟨x2, v1⟩ hm
 refine jn hm (fun (x3, v2) => ⟨[(0, kV .u64 x3), (2, dV v2)], [], 32⟩) (fun vv hm => ?_) ?_
 ·refine rg G (cd hm (fun hm => ?_) (fun hm => ?_))
  ·obtain ⟨u2, h2, hm⟩ := obind hm
   refine rs G (hK h2 h0) ?_
   exact rh G (wJ G hm)
  ·exact X_skip (wJ G hm)
 rintro ⟨x3, v2⟩ hm
 obtain ⟨u3, h3, hm⟩ := obind hm
 refine rs G (hK h3 h0) ?_
 cases hm
 exact rt [] []
noncomputable def math_bits_Len_M : MS ((IK .u64)) Int := ⟨.r, math_bits_Len, fun y => dV y, fun _ => [], fun _ _ => []⟩
theorem math_bits_Len_c {x y} (hm : math_bits_Len x = some y) : math_bits_Len_M.C x y := math_bits_Len_M.c x hm
theorem math_bits_Len_ok : FnOK Try.prog 123 math_bits_Len_M.S := by
 refine fm tt math_bits_Len_M [fo math_bits_Len64_ok] Try.call123 Try.func123 rfl Try.results123 Try.ntmps123 ?_
 rintro x y cx G hm
 have hm : math_bits_Len x = some y := hm
 unfold math_bits_Len at hm
 refine rg G (Ok_seq (cF (X_skip (thN ?_))))
 obtain ⟨r, h, hm⟩ := obind hm
 refine rs G (hC 1 (math_bits_Len64_c h) h0) ?_
 cases hm
 exact rt [] []
noncomputable def slices_insertionSortCmpFunc__2_int_w__i_ArrivalsAt_1_M : MS ((List A2_Int) × Int × Int) ((List A2_Int)) := ⟨⟨[.sl, .rd, .rd, .fn 70 []], fun x => [.sc undef, Enc.e x.2.1, Enc.e x.2.2, .agg []], fun x => [arO 117 x.1], 1, 1, fun _ => rfl, fun _ => rfl, rfl, (by
  rintro ⟨a0, a1, a2⟩ ⟨b0, b1, b2⟩ h hO
  have q0 : a0 = b0 := Enc.inj _ _ (congrArg (fun l => D.sl 2 (obL l 0)) hO)
  have q1 : a1 = b1 := qI 1 h
  have q2 : a2 = b2 := qI 2 h
  subst q0; subst q1; subst q2; rfl)⟩, fun x => slices_insertionSortCmpFunc__2_int_w__i_ArrivalsAt_1 x.1 x.2.1 x.2.2, fun _ => .tup [], fun _ => [], fun _ y => [arO 117 y]⟩
theorem slices_insertionSortCmpFunc__2_int_w__i_ArrivalsAt_1_c {data a b y} (hm : slices_insertionSortCmpFunc__2_int_w__i_ArrivalsAt_1 data a b = some y) : slices_insertionSortCmpFunc__2_int_w__i_ArrivalsAt_1_M.C (data, a, b) y := slices_insertionSortCmpFunc__2_int_w__i_ArrivalsAt_1_M.c (data, a, b) hm
theorem slices_insertionSortCmpFunc__2_int_w__i_ArrivalsAt_1_ok : FnOK Try.prog 150 slices_insertionSortCmpFunc__2_int_w__i_ArrivalsAt_1_M.S := by
 refine fm tt slices_insertionSortCmpFunc__2_int_w__i_ArrivalsAt_1_M [fo i_ArrivalsAt_1_ok] Try.call150 Try.func150 rfl Try.results150 Try.ntmps150 ?_
 rintro ⟨data, a, b⟩ y cx G hm
 have hm : slices_insertionSortCmpFunc__2_int_w__i_ArrivalsAt_1 data a b = some y := hm
 obtain ⟨cmp, hf_cmp⟩ : ∃ q, (fun (z0 : A2_Int) (z1 : A2_Int) => i_ArrivalsAt_1 z0 z1) = q := ⟨_, rfl⟩
 have hm : slices_insertionSortCmpFunc__2_int_w data a b cmp = some y := by rw [← hf_cmp]; exact hm
 unfold slices_insertionSortCmpFunc__2_int_w at hm
 refine rg G (Ok_block (lp G hm (fun (v, data1) => ⟨[(0, .own 0), (1, dV a), (2, dV b), (3, .fn 70 []), (8, dV v)], [aX 0 117 data1], 48⟩) ?_))
 rintro ⟨v, data1⟩ r0 hb hm
 rw [slices_insertionSortCmpFunc__2_int_w_L2] at hm
 refine Ok_seq (rg G (cd hm (fun hm => ?_) (fun hm => ?_)))
 ·refine X_skip (thN (Ok_seq (Ok_block (rg G (tl hm (fun data3 => ⟨[(0, .own 0), (1, dV a), (2, dV b), (3, .fn 70 []), (8, dV v)], [aX 0 117 data3], 48⟩) (fun data3 hm => ?_) ?_)))))
  ·refine Ok_block (lp G hm (fun (v1, data2) => ⟨[(0, .own 0), (1, dV a), (2, dV b), (3, .fn 70 []), (8, dV v), (9, dV v1)], [aX 0 117 data2], 48⟩) ?_)
   rintro ⟨v1, data2⟩ r0 hb1 hm
   rw [slices_insertionSortCmpFunc__2_int_w_L1] at hm
   refine Ok_seq (jn hm (fun v2 => ⟨[(0, .own 0), (1, dV a), (2, dV b), (3, .fn 70 []), (8, dV v), (9, dV v1), (34, dV v2)], [aX 0 117 data2], 48⟩) (fun v2 hm => ?_) ?_)
   ·rcases bf hm with ⟨hb2, hm⟩ | ⟨hb2, hm⟩
    ·obtain ⟨e2, h3, hm⟩ := obind hm
     obtain ⟨e3, h4, hm⟩ := obind hm
     obtain ⟨r1, h5, hm⟩ := obind hm
     have h5 : i_ArrivalsAt_1 e2 e3 = some r1 := by rw [← hf_cmp] at h5; exact h5
     refine de G [(14, [])] (hO 3 (.b true) (hP hb2 (hD 7 h3 (hE 8 h3 (hD 12 h4 (hE 13 h4 (hC 14 (i_ArrivalsAt_1_c h5) h0))))))) ?_
     exact wJ G hm
    ·refine de G [(14, [])] (hO 3 (.b false) (hP hb2 h0)) ?_
     exact wJ G hm
   rintro v2 hm
   refine cd hm (fun hm => ?_) (fun hm => ?_)
   ·refine X_skip (thN (Ok_seq (Ok_block ?_)))
    obtain ⟨e8, h10, hm⟩ := obind hm
    obtain ⟨e9, h11, hm⟩ := obind hm
    obtain ⟨e10, h12, hm⟩ := obind hm
    obtain ⟨e11, h13, hm⟩ := obind hm
    refine de G [(15, [0]), (17, [0])] (hD 8 h10 (hE 9 h10 (hD 12 h11 (hE 13 h11 (hD 14 h12 (hS 15 h12 e8 (hD 16 h13 (hS 17 h13 e9 h0)))))))) ?_
    exact ibN (thN (rh G (wL G hm)))
   ·exact Ok_exit (thE (thE (ibE (wD G hm hb1))))
  rintro data3 hm s hw
  refine ibN (thN (Ok_weak hw ?_))
  exact rh G (wL G hm)
 ·have hm := eD hm hb
  refine Ok_exit (thE (thE (ibE ?_)))
  cases hm
  exact fN [] []
noncomputable def slices_siftDownCmpFunc__2_int_w__i_ArrivalsAt_1_M : MS ((List A2_Int) × Int × Int × Int) ((List A2_Int)) := ⟨⟨[.sl, .rd, .rd, .rd, .fn 70 []], fun x => [.sc undef, Enc.e x.2.1, Enc.e x.2.2.1, Enc.e x.2.2.2, .agg []], fun x => [arO 117 x.1], 1, 1, fun _ => rfl, fun _ => rfl, rfl, (by
  rintro ⟨a0, a1, a2, a3⟩ ⟨b0, b1, b2, b3⟩ h hO
  have q0 : a0 = b0 := Enc.inj _ _ (congrArg (fun l => D.sl 2 (obL l 0)) hO)
  have q1 : a1 = b1 := qI 1 h
  have q2 : a2 = b2 := qI 2 h
  have q3 : a3 = b3 := qI 3 h
  subst q0; subst q1; subst q2; subst q3; rfl)⟩, fun x => slices_siftDownCmpFunc__2_int_w__i_ArrivalsAt_1 x.1 x.2.1 x.2.2.1 x.2.2.2, fun _ => .tup [], fun _ => [], fun _ y => [arO 117 y]⟩
theorem slices_siftDownCmpFunc__2_int_w__i_ArrivalsAt_1_c {data lo hi first y} (hm : slices_siftDownCmpFunc__2_int_w__i_ArrivalsAt_1 data lo hi first = some y) : slices_siftDownCmpFunc__2_int_w__i_ArrivalsAt_1_M.C (data, lo, hi, first) y := slices_siftDownCmpFunc__2_int_w__i_ArrivalsAt_1_M.c (data, lo, hi, first) hm
theorem slices_siftDownCmpFunc__2_int_w__i_ArrivalsAt_1_ok : FnOK Try.prog 169 slices_siftDownCmpFunc__2_int_w__i_ArrivalsAt_1_M.S := by
 refine fm tt slices_siftDownCmpFunc__2_int_w__i_ArrivalsAt_1_M [fo i_ArrivalsAt_1_ok] Try.call169 Try.func169 rfl Try.results169 Try.ntmps169 ?_
 rintro ⟨data, lo, hi, first⟩ y cx G hm
 have hm : slices_siftDownCmpFunc__2_int_w__i_ArrivalsAt_1 data lo hi first = some y := hm
 obtain ⟨cmp, hf_cmp⟩ : ∃ q, (fun (z0 : A2_Int) (z1 : A2_Int) => i_ArrivalsAt_1 z0 z1) = q := ⟨_, rfl⟩
 have hm : slices_siftDownCmpFunc__2_int_w data lo hi first cmp = some y := by rw [← hf_cmp]; exact hm
 unfold slices_siftDownCmpFunc__2_int_w at hm
 refine rg G (Ok_block (lp G hm (fun (v, data1) => ⟨[(0, .own 0), (2, dV hi), (3, dV first), (4, .fn 70 []), (10, dV v)], [aX 0 117 data1], 48⟩) ?_))
 rintro ⟨v, data1⟩ r0 hb hm
 rw [slices_siftDownCmpFunc__2_int_w_L1] at hm
 refine Ok_block (rg G (Ok_seq (rg G (cd hm (fun hm => ?_) (fun hm => ?_)))))
 ·have hm := eD hm hb
  refine Ok_exit (thE (ibX rfl (thE (ibE ?_))))
  cases hm
  exact fN [] []
 ·refine X_skip (thN (jn hm (fun v1 => ⟨[(0, .own 0), (2, dV hi), (3, dV first), (4, .fn 70 []), (10, dV v), (11, dV v1)], [aX 0 117 data1], 48⟩) (fun v1 hm => ?_) ?_))
  ·refine jn hm (fun v2 => ⟨[(0, .own 0), (2, dV hi), (3, dV first), (4, .fn 70 []), (10, dV v), (11, dV (w64 ((w64 (2 * v)) + 1))), (40, dV v2)], [aX 0 117 data1], 48⟩) (fun v2 hm => ?_) ?_
   ·rcases bf hm with ⟨hb1, hm⟩ | ⟨hb1, hm⟩
    ·obtain ⟨e3, h3, hm⟩ := obind hm
     obtain ⟨e4, h4, hm⟩ := obind hm
     obtain ⟨r2, h5, hm⟩ := obind hm
     have h5 : i_ArrivalsAt_1 e3 e4 = some r2 := by rw [← hf_cmp] at h5; exact h5
     refine de G [(19, [])] (hO 4 (.b true) (hP hb1 (hD 10 h3 (hE 11 h3 (hD 17 h4 (hE 18 h4 (hC 19 (i_ArrivalsAt_1_c h5) h0))))))) ?_
     exact wJ G hm
    ·refine de G [(19, [])] (hO 4 (.b false) (hP hb1 h0)) ?_
     exact wJ G hm
   rintro v2 hm
   refine cd hm (fun hm => ?_) (fun hm => ?_)
   ·exact rh G (wJ G hm)
   ·exact X_skip (wJ G hm)
  rintro v1 hm
  refine Ok_seq ?_
  obtain ⟨e7, h9, hm⟩ := obind hm
  obtain ⟨e8, h10, hm⟩ := obind hm
  obtain ⟨r4, h11, hm⟩ := obind hm
  have h11 : i_ArrivalsAt_1 e7 e8 = some r4 := by rw [← hf_cmp] at h11; exact h11
  refine ds G [(13, [])] (hD 5 h9 (hE 6 h9 (hD 11 h10 (hE 12 h10 (hC 13 (i_ArrivalsAt_1_c h11) h0))))) ?_
  refine cd hm (fun hm => ?_) (fun hm => ?_)
  ·have hm := eD hm hb
   cases hm
   exact rt [] []
  ·refine X_skip (thN ?_)
   obtain ⟨e14, h16, hm⟩ := obind hm
   obtain ⟨e15, h17, hm⟩ := obind hm
   obtain ⟨e16, h18, hm⟩ := obind hm
   obtain ⟨e17, h19, hm⟩ := obind hm
   refine ds G [(21, [0]), (23, [0])] (hD 12 h16 (hE 13 h16 (hD 18 h17 (hE 19 h17 (hD 20 h18 (hS 21 h18 e14 (hD 22 h19 (hS 23 h19 e15 h0)))))))) ?_
   exact rh G (ibN (wL G hm))
noncomputable def slices_heapSortCmpFunc__2_int_w__i_ArrivalsAt_1_M : MS ((List A2_Int) × Int × Int) ((List A2_Int)) := ⟨⟨[.sl, .rd, .rd, .fn 70 []], fun x => [.sc undef, Enc.e x.2.1, Enc.e x.2.2, .agg []], fun x => [arO 117 x.1], 1, 1, fun _ => rfl, fun _ => rfl, rfl, (by
  rintro ⟨a0, a1, a2⟩ ⟨b0, b1, b2⟩ h hO
  have q0 : a0 = b0 := Enc.inj _ _ (congrArg (fun l => D.sl 2 (obL l 0)) hO)
  have q1 : a1 = b1 := qI 1 h
  have q2 : a2 = b2 := qI 2 h
  subst q0; subst q1; subst q2; rfl)⟩, fun x => slices_heapSortCmpFunc__2_int_w__i_ArrivalsAt_1 x.1 x.2.1 x.2.2, fun _ => .tup [], fun _ => [], fun _ y => [arO 117 y]⟩
theorem slices_heapSortCmpFunc__2_int_w__i_ArrivalsAt_1_c {data a b y} (hm : slices_heapSortCmpFunc__2_int_w__i_ArrivalsAt_1 data a b = some y) : slices_heapSortCmpFunc__2_int_w__i_ArrivalsAt_1_M.C (data, a, b) y := slices_heapSortCmpFunc__2_int_w__i_ArrivalsAt_1_M.c (data, a, b) hm
theorem slices_heapSortCmpFunc__2_int_w__i_ArrivalsAt_1_ok : FnOK Try.prog 151 slices_heapSortCmpFunc__2_int_w__i_ArrivalsAt_1_M.S := by
 refine fm tt slices_heapSortCmpFunc__2_int_w__i_ArrivalsAt_1_M [fo slices_siftDownCmpFunc__2_int_w__i_ArrivalsAt_1_ok] Try.call151 Try.func151 rfl Try.results151 Try.ntmps151 ?_
 rintro ⟨data, a, b⟩ y cx G hm
 have hm : slices_heapSortCmpFunc__2_int_w__i_ArrivalsAt_1 data a b = some y := hm
 obtain ⟨cmp, hf_cmp⟩ : ∃ q, (fun (z0 : A2_Int) (z1 : A2_Int) => i_ArrivalsAt_1 z0 z1) = q := ⟨_, rfl⟩
 have hm : slices_heapSortCmpFunc__2_int_w data a b cmp = some y := by rw [← hf_cmp]; exact hm
 unfold slices_heapSortCmpFunc__2_int_w at hm
 refine rg G (rg G (rg G (Ok_seq ?_)))
 obtain ⟨u, h, hm⟩ := obind hm
 refine rs G (hK h h0) ?_
 refine tl hm (fun data2 => ⟨[(0, .own 0), (3, .fn 70 []), (8, dV a), (9, kV .i64 0), (10, dV (w64 (b - a)))], [aX 0 117 data2], 48⟩) (fun data2 hm => ?_) ?_
 ·refine Ok_block (lp G hm (fun (v, data1) => ⟨[(0, .own 0), (3, .fn 70 []), (8, dV a), (9, kV .i64 0), (10, dV (w64 (b - a))), (11, dV v)], [aX 0 117 data1], 48⟩) ?_)
  rintro ⟨v, data1⟩ r0 hb hm
  rw [slices_heapSortCmpFunc__2_int_w_L1] at hm
  refine Ok_seq (rg G (cd hm (fun hm => ?_) (fun hm => ?_)))
  ·refine X_skip (thN (Ok_seq (Ok_block ?_)))
   obtain ⟨r, h1, hm⟩ := obind hm
   have h1 : slices_siftDownCmpFunc__2_int_w__i_ArrivalsAt_1 data1 v (w64 (b - a)) a = some r := by rw [← hf_cmp] at h1; exact h1
   refine re G (hC 5 (slices_siftDownCmpFunc__2_int_w__i_ArrivalsAt_1_c h1) h0) ?_
   exact ibN (thN (rh G (wL G hm)))
  ·exact Ok_exit (thE (thE (ibE (wD G hm hb))))
 rintro data2 hm s hw
 refine thN (Ok_weak hw ?_)
 refine rg G (Ok_block (lp G hm (fun (v1, data3) => ⟨[(0, .own 0), (3, .fn 70 []), (8, dV a), (9, kV .i64 0), (12, dV v1)], [aX 0 117 data3], 48⟩) ?_))
 rintro ⟨v1, data3⟩ r0 hb1 hm
 rw [slices_heapSortCmpFunc__2_int_w_L2] at hm
 refine Ok_seq (rg G (cd hm (fun hm => ?_) (fun hm => ?_)))
 ·refine X_skip (thN (Ok_seq (Ok_block ?_)))
  obtain ⟨e4, h6, hm⟩ := obind hm
  obtain ⟨e5, h7, hm⟩ := obind hm
  obtain ⟨e6, h8, hm⟩ := obind hm
  obtain ⟨e7, h9, hm⟩ := obind hm
  refine ds G [(17, [0]), (19, [0])] (hD 10 h6 (hE 11 h6 (hD 14 h7 (hE 15 h7 (hD 16 h8 (hS 17 h8 e4 (hD 18 h9 (hS 19 h9 e5 h0)))))))) ?_
  obtain ⟨r1, h10, hm⟩ := obind hm
  have h10 : slices_siftDownCmpFunc__2_int_w__i_ArrivalsAt_1 ((data3.set a.toNat e4).set (w64 (a + v1)).toNat e5) 0 v1 a = some r1 := by rw [← hf_cmp] at h10; exact h10
  refine re G (hC 5 (slices_siftDownCmpFunc__2_int_w__i_ArrivalsAt_1_c h10) h0) ?_
  exact ibN (thN (rh G (wL G hm)))
 ·have hm := eD hm hb1
  refine Ok_exit (thE (thE (ibE ?_)))
  cases hm
  exact fN [] []
noncomputable def slices_order2CmpFunc__2_int__i_ArrivalsAt_1_M : MS ((List A2_Int) × Int × Int × Int) (Int × Int × Int) := ⟨⟨[.rd, .rd, .rd, .bx, .fn 70 []], fun x => [Enc.e x.1, Enc.e x.2.1, Enc.e x.2.2.1, .sc undef, .agg []], fun x => [bxO x.2.2.2], 1, 1, fun _ => rfl, fun _ => rfl, rfl, (by
  rintro ⟨a0, a1, a2, a3⟩ ⟨b0, b1, b2, b3⟩ h hO
  have q0 : a0 = b0 := qI 0 h
  have q1 : a1 = b1 := qI 1 h
  have q2 : a2 = b2 := qI 2 h
  have q3 : a3 = b3 := Enc.inj _ _ (congrArg (fun l => (obD l 0).getD 0 (.sc undef)) hO)
  subst q0; subst q1; subst q2; subst q3; rfl)⟩, fun x => slices_order2CmpFunc__2_int__i_ArrivalsAt_1 x.1 x.2.1 x.2.2.1 x.2.2.2, fun y => .tup [dV y.1, dV y.2.1], fun _ => [], fun _ y => [bxO y.2.2]⟩
theorem slices_order2CmpFunc__2_int__i_ArrivalsAt_1_c {data a b swaps y} (hm : slices_order2CmpFunc__2_int__i_ArrivalsAt_1 data a b swaps = some y) : slices_order2CmpFunc__2_int__i_ArrivalsAt_1_M.C (data, a, b, swaps) y := slices_order2CmpFunc__2_int__i_ArrivalsAt_1_M.c (data, a, b, swaps) hm
theorem slices_order2CmpFunc__2_int__i_ArrivalsAt_1_ok : FnOK Try.prog 188 slices_order2CmpFunc__2_int__i_ArrivalsAt_1_M.S := by
 refine fm tt slices_order2CmpFunc__2_int__i_ArrivalsAt_1_M [fo i_ArrivalsAt_1_ok] Try.call188 Try.func188 rfl Try.results188 Try.ntmps188 ?_
 rintro ⟨data, a, b, swaps⟩ y cx G hm
 have hm : slices_order2CmpFunc__2_int__i_ArrivalsAt_1 data a b swaps = some y := hm
 obtain ⟨cmp, hf_cmp⟩ : ∃ q, (fun (z0 : A2_Int) (z1 : A2_Int) => i_ArrivalsAt_1 z0 z1) = q := ⟨_, rfl⟩
 have hm : slices_order2CmpFunc__2_int data a b swaps cmp = some y := by rw [← hf_cmp]; exact hm
 unfold slices_order2CmpFunc__2_int at hm
 refine rg G (Ok_seq ?_)
 obtain ⟨e2, h3, hm⟩ := obind hm
 obtain ⟨e3, h4, hm⟩ := obind hm
 obtain ⟨r1, h5, hm⟩ := obind hm
 have h5 : i_ArrivalsAt_1 e2 e3 = some r1 := by rw [← hf_cmp] at h5; exact h5
 refine ds G [(9, [])] (hD 3 h3 (hD 7 h4 (hC 9 (i_ArrivalsAt_1_c h5) h0))) ?_
 refine cd hm (fun hm => ?_) (fun hm => ?_)
 ·refine rg G (rg G ?_)
  cases hm
  exact rt [] []
 ·refine X_skip (thN (rg G ?_))
  cases hm
  exact rt [] []
noncomputable def slices_medianCmpFunc__2_int__i_ArrivalsAt_1_M : MS ((List A2_Int) × Int × Int × Int × Int) (Int × Int) := ⟨⟨[.rd, .rd, .rd, .rd, .bx, .fn 70 []], fun x => [Enc.e x.1, Enc.e x.2.1, Enc.e x.2.2.1, Enc.e x.2.2.2.1, .sc undef, .agg []], fun x => [bxO x.2.2.2.2], 1, 1, fun _ => rfl, fun _ => rfl, rfl, (by
  rintro ⟨a0, a1, a2, a3, a4⟩ ⟨b0, b1, b2, b3, b4⟩ h hO
  have q0 : a0 = b0 := qI 0 h
  have q1 : a1 = b1 := qI 1 h
  have q2 : a2 = b2 := qI 2 h
  have q3 : a3 = b3 := qI 3 h
  have q4 : a4 = b4 := Enc.inj _ _ (congrArg (fun l => (obD l 0).getD 0 (.sc undef)) hO)
  subst q0; subst q1; subst q2; subst q3; subst q4; rfl)⟩, fun x => slices_medianCmpFunc__2_int__i_ArrivalsAt_1 x.1 x.2.1 x.2.2.1 x.2.2.2.1 x.2.2.2.2, fun y => dV y.1, fun _ => [], fun _ y => [bxO y.2]⟩
theorem slices_medianCmpFunc__2_int__i_ArrivalsAt_1_c {data a b c swaps y} (hm : slices_medianCmpFunc__2_int__i_ArrivalsAt_1 data a b c swaps = some y) : slices_medianCmpFunc__2_int__i_ArrivalsAt_1_M.C (data, a, b, c, swaps) y := slices_medianCmpFunc__2_int__i_ArrivalsAt_1_M.c (data, a, b, c, swaps) hm
theorem slices_medianCmpFunc__2_int__i_ArrivalsAt_1_ok : FnOK Try.prog 173 slices_medianCmpFunc__2_int__i_ArrivalsAt_1_M.S := by
 refine fm tt slices_medianCmpFunc__2_int__i_ArrivalsAt_1_M [fo slices_order2CmpFunc__2_int__i_ArrivalsAt_1_ok] Try.call173 Try.func173 rfl Try.results173 Try.ntmps173 ?_
 rintro ⟨data, a, b, c, swaps⟩ y cx G hm
 have hm : slices_medianCmpFunc__2_int__i_ArrivalsAt_1 data a b c swaps = some y := hm
 obtain ⟨cmp, hf_cmp⟩ : ∃ q, (fun (z0 : A2_Int) (z1 : A2_Int) => i_ArrivalsAt_1 z0 z1) = q := ⟨_, rfl⟩
 have hm : slices_medianCmpFunc__2_int data a b c swaps cmp = some y := by rw [← hf_cmp]; exact hm
 unfold slices_medianCmpFunc__2_int at hm
 refine rg G ?_
 obtain ⟨r, h, hm⟩ := obind hm
 have h : slices_order2CmpFunc__2_int__i_ArrivalsAt_1 data a b swaps = some r := by rw [← hf_cmp] at h; exact h
 refine rs G (hC 5 (slices_order2CmpFunc__2_int__i_ArrivalsAt_1_c h) h0) ?_
 obtain ⟨r1, h1, hm⟩ := obind hm
 have h1 : slices_order2CmpFunc__2_int__i_ArrivalsAt_1 data r.2.1 c r.2.2 = some r1 := by rw [← hf_cmp] at h1; exact h1
 refine rs G (hC 5 (slices_order2CmpFunc__2_int__i_ArrivalsAt_1_c h1) h0) ?_
 obtain ⟨r2, h2, hm⟩ := obind hm
 have h2 : slices_order2CmpFunc__2_int__i_ArrivalsAt_1 data r.1 r1.1 r1.2.2 = some r2 := by rw [← hf_cmp] at h2; exact h2
 refine rs G (hC 5 (slices_order2CmpFunc__2_int__i_ArrivalsAt_1_c h2) h0) ?_
 refine rg G ?_
 cases hm
 exact rt [] []
noncomputable def slices_medianAdjacentCmpFunc__2_int__i_ArrivalsAt_1_M : MS ((List A2_Int) × Int × Int) (Int × Int) := ⟨⟨[.rd, .rd, .bx, .fn 70 []], fun x => [Enc.e x.1, Enc.e x.2.1, .sc undef, .agg []], fun x => [bxO x.2.2], 1, 1, fun _ => rfl, fun _ => rfl, rfl, (by
  rintro ⟨a0, a1, a2⟩ ⟨b0, b1, b2⟩ h hO
  have q0 : a0 = b0 := qI 0 h
  have q1 : a1 = b1 := qI 1 h
  have q2 : a2 = b2 := Enc.inj _ _ (congrArg (fun l => (obD l 0).getD 0 (.sc undef)) hO)
  subst q0; subst q1; subst q2; rfl)⟩, fun x => slices_medianAdjacentCmpFunc__2_int__i_ArrivalsAt_1 x.1 x.2.1 x.2.2, fun y => dV y.1, fun _ => [], fun _ y => [bxO y.2]⟩
theorem slices_medianAdjacentCmpFunc__2_int__i_ArrivalsAt_1_c {data a swaps y} (hm : slices_medianAdjacentCmpFunc__2_int__i_ArrivalsAt_1 data a swaps = some y) : slices_medianAdjacentCmpFunc__2_int__i_ArrivalsAt_1_M.C (data, a, swaps) y := slices_medianAdjacentCmpFunc__2_int__i_ArrivalsAt_1_M.c (data, a, swaps) hm
theorem slices_medianAdjacentCmpFunc__2_int__i_ArrivalsAt_1_ok : FnOK Try.prog 172 slices_medianAdjacentCmpFunc__2_int__i_ArrivalsAt_1_M.S := by
 refine fm tt slices_medianAdjacentCmpFunc__2_int__i_ArrivalsAt_1_M [fo slices_medianCmpFunc__2_int__i_ArrivalsAt_1_ok] Try.call172 Try.func172 rfl Try.results172 Try.ntmps172 ?_
 rintro ⟨data, a, swaps⟩ y cx G hm
 have hm : slices_medianAdjacentCmpFunc__2_int__i_ArrivalsAt_1 data a swaps = some y := hm
 obtain ⟨cmp, hf_cmp⟩ : ∃ q, (fun (z0 : A2_Int) (z1 : A2_Int) => i_ArrivalsAt_1 z0 z1) = q := ⟨_, rfl⟩
 have hm : slices_medianAdjacentCmpFunc__2_int data a swaps cmp = some y := by rw [← hf_cmp]; exact hm
 unfold slices_medianAdjacentCmpFunc__2_int at hm
 refine rg G ?_
 obtain ⟨r, h, hm⟩ := obind hm
 have h : slices_medianCmpFunc__2_int__i_ArrivalsAt_1 data (w64 (a - 1)) a (w64 (a + 1)) swaps = some r := by rw [← hf_cmp] at h; exact h
 refine rs G (hC 8 (slices_medianCmpFunc__2_int__i_ArrivalsAt_1_c h) h0) ?_
 cases hm
 exact rt [] []
noncomputable def slices_choosePivotCmpFunc__2_int__i_ArrivalsAt_1_M : MS ((List A2_Int) × Int × Int) (Int × Int) := ⟨⟨[.rd, .rd, .rd, .fn 70 []], fun x => [Enc.e x.1, Enc.e x.2.1, Enc.e x.2.2, .agg []], fun x => [], 0, 0, fun _ => rfl, fun _ => rfl, rfl, (by
  rintro ⟨a0, a1, a2⟩ ⟨b0, b1, b2⟩ h hO
  have q0 : a0 = b0 := qI 0 h
  have q1 : a1 = b1 := qI 1 h
  have q2 : a2 = b2 := qI 2 h
  subst q0; subst q1; subst q2; rfl)⟩, fun x => slices_choosePivotCmpFunc__2_int__i_ArrivalsAt_1 x.1 x.2.1 x.2.2, fun y => .tup [dV y.1, dV y.2], fun _ => [], fun _ _ => []⟩
theorem slices_choosePivotCmpFunc__2_int__i_ArrivalsAt_1_c {data a b y} (hm : slices_choosePivotCmpFunc__2_int__i_ArrivalsAt_1 data a b = some y) : slices_choosePivotCmpFunc__2_int__i_ArrivalsAt_1_M.C (data, a, b) y := slices_choosePivotCmpFunc__2_int__i_ArrivalsAt_1_M.c (data, a, b) hm
theorem slices_choosePivotCmpFunc__2_int__i_ArrivalsAt_1_ok : FnOK Try.prog 153 slices_choosePivotCmpFunc__2_int__i_ArrivalsAt_1_M.S := by
 refine fm tt slices_choosePivotCmpFunc__2_int__i_ArrivalsAt_1_M [fo slices_medianAdjacentCmpFunc__2_int__i_ArrivalsAt_1_ok, fo slices_medianCmpFunc__2_int__i_ArrivalsAt_1_ok] Try.call153 Try.func153 rfl Try.results153 Try.ntmps153 ?_
 rintro ⟨data, a, b⟩ y cx G hm
 have hm : slices_choosePivotCmpFunc__2_int__i_ArrivalsAt_1 data a b = some y := hm
 obtain ⟨cmp, hf_cmp⟩ : ∃ q, (fun (z0 : A2_Int) (z1 : A2_Int) => i_ArrivalsAt_1 z0 z1) = q := ⟨_, rfl⟩
 have hm : slices_choosePivotCmpFunc__2_int data a b cmp = some y := by rw [← hf_cmp]; exact hm
 unfold slices_choosePivotCmpFunc__2_int at hm
 refine rg G (rg G (rg G ?_))
 obtain ⟨u, h, hm⟩ := obind hm
 refine rs G (hK h h0) ?_
 obtain ⟨u1, h1, hm⟩ := obind hm
 refine rs G (hK h1 h0) ?_
 obtain ⟨u2, h2, hm⟩ := obind hm
 refine rs G (hK h2 h0) ?_
 refine jn hm (fun (v, v1) => ⟨[(3, .fn 70 []), (11, .ref 16 0), (13, dV v)], [bX 16 [dV v1]], 48⟩) (fun vv1 hm => ?_) ?_
 ·refine rg G (cd hm (fun hm => ?_) (fun hm => ?_))
  ·refine jn hm (fun (v2, v3, v4, v5) => ⟨[(0, dV data), (3, .fn 70 []), (11, .ref 16 0), (12, dV v2), (13, dV v3), (14, dV v4)], [bX 16 [dV v5]], 48⟩) (fun vv hm => ?_) ?_
   ·refine rg G (cd hm (fun hm => ?_) (fun hm => ?_))
    ·obtain ⟨r, h3, hm⟩ := obind hm
     have h3 : slices_medianAdjacentCmpFunc__2_int__i_ArrivalsAt_1 data (w64 (a + (w64 ((w64 ((w64 (b - a)).tdiv 4)) * 1)))) 0 = some r := by rw [← hf_cmp] at h3; exact h3
     refine rs G (hC 3 (slices_medianAdjacentCmpFunc__2_int__i_ArrivalsAt_1_c h3) h0) ?_
     obtain ⟨r1, h4, hm⟩ := obind hm
     have h4 : slices_medianAdjacentCmpFunc__2_int__i_ArrivalsAt_1 data (w64 (a + (w64 ((w64 ((w64 (b - a)).tdiv 4)) * 2)))) r.2 = some r1 := by rw [← hf_cmp] at h4; exact h4
     refine rs G (hC 3 (slices_medianAdjacentCmpFunc__2_int__i_ArrivalsAt_1_c h4) h0) ?_
     obtain ⟨r2, h5, hm⟩ := obind hm
     have h5 : slices_medianAdjacentCmpFunc__2_int__i_ArrivalsAt_1 data (w64 (a + (w64 ((w64 ((w64 (b - a)).tdiv 4)) * 3)))) r1.2 = some r2 := by rw [← hf_cmp] at h5; exact h5
     refine re G (hC 3 (slices_medianAdjacentCmpFunc__2_int__i_ArrivalsAt_1_c h5) h0) ?_
     exact wJ G hm
    ·exact X_skip (wJ G hm)
   rintro ⟨v2, v3, v4, v5⟩ hm
   obtain ⟨r3, h6, hm⟩ := obind hm
   have h6 : slices_medianCmpFunc__2_int__i_ArrivalsAt_1 data v2 v3 v4 v5 = some r3 := by rw [← hf_cmp] at h6; exact h6
   refine re G (hC 5 (slices_medianCmpFunc__2_int__i_ArrivalsAt_1_c h6) h0) ?_
   exact wJ G hm
  ·exact X_skip (wJ G hm)
 rintro ⟨v, v1⟩ hm
 refine rg G (Ok_block (rg G (cd hm (fun hm => ?_) (fun hm => ?_))))
 ·refine rg G ?_
  cases hm
  exact rt [] []
 ·refine rg G (cd hm (fun hm => ?_) (fun hm => ?_))
  ·refine rg G ?_
   cases hm
   exact rt [] []
  ·refine rg G ?_
   cases hm
   exact rt [] []
noncomputable def slices_reverseRangeCmpFunc__2_int_w__i_ArrivalsAt_1_M : MS ((List A2_Int) × Int × Int) ((List A2_Int)) := ⟨⟨[.sl, .rd, .rd, .fn 70 []], fun x => [.sc undef, Enc.e x.2.1, Enc.e x.2.2, .agg []], fun x => [arO 117 x.1], 1, 1, fun _ => rfl, fun _ => rfl, rfl, (by
  rintro ⟨a0, a1, a2⟩ ⟨b0, b1, b2⟩ h hO
  have q0 : a0 = b0 := Enc.inj _ _ (congrArg (fun l => D.sl 2 (obL l 0)) hO)
  have q1 : a1 = b1 := qI 1 h
  have q2 : a2 = b2 := qI 2 h
  subst q0; subst q1; subst q2; rfl)⟩, fun x => slices_reverseRangeCmpFunc__2_int_w__i_ArrivalsAt_1 x.1 x.2.1 x.2.2, fun _ => .tup [], fun _ => [], fun _ y => [arO 117 y]⟩
theorem slices_reverseRangeCmpFunc__2_int_w__i_ArrivalsAt_1_c {data a b y} (hm : slices_reverseRangeCmpFunc__2_int_w__i_ArrivalsAt_1 data a b = some y) : slices_reverseRangeCmpFunc__2_int_w__i_ArrivalsAt_1_M.C (data, a, b) y := slices_reverseRangeCmpFunc__2_int_w__i_ArrivalsAt_1_M.c (data, a, b) hm
theorem slices_reverseRangeCmpFunc__2_int_w__i_ArrivalsAt_1_ok : FnOK Try.prog 154 slices_reverseRangeCmpFunc__2_int_w__i_ArrivalsAt_1_M.S := by
 refine fm tt slices_reverseRangeCmpFunc__2_int_w__i_ArrivalsAt_1_M [] Try.call154 Try.func154 rfl Try.results154 Try.ntmps154 ?_
 rintro ⟨data, a, b⟩ y cx G hm
 have hm : slices_reverseRangeCmpFunc__2_int_w__i_ArrivalsAt_1 data a b = some y := hm
 obtain ⟨cmp, hf_cmp⟩ : ∃ q, (fun (z0 : A2_Int) (z1 : A2_Int) => i_ArrivalsAt_1 z0 z1) = q := ⟨_, rfl⟩
 have hm : slices_reverseRangeCmpFunc__2_int_w data a b cmp = some y := by rw [← hf_cmp]; exact hm
 unfold slices_reverseRangeCmpFunc__2_int_w at hm
 refine rg G (rg G (Ok_block (lp G hm (fun (v, v1, data1) => ⟨[(0, .own 0), (3, .fn 70 []), (8, dV v), (9, dV v1)], [aX 0 117 data1], 48⟩) ?_)))
 rintro ⟨v, v1, data1⟩ r0 hb hm
 rw [slices_reverseRangeCmpFunc__2_int_w_L1] at hm
 refine Ok_seq (rg G (cd hm (fun hm => ?_) (fun hm => ?_)))
 ·refine X_skip (thN (Ok_block ?_))
  obtain ⟨e4, h4, hm⟩ := obind hm
  obtain ⟨e5, h5, hm⟩ := obind hm
  obtain ⟨e6, h6, hm⟩ := obind hm
  obtain ⟨e7, h7, hm⟩ := obind hm
  refine ds G [(13, [0]), (15, [0])] (hD 6 h4 (hE 7 h4 (hD 10 h5 (hE 11 h5 (hD 12 h6 (hS 13 h6 e4 (hD 14 h7 (hS 15 h7 e5 h0)))))))) ?_
  exact rg G (rh G (ibN (wL G hm)))
 ·have hm := eD hm hb
  refine Ok_exit (thE (thE (ibE ?_)))
  cases hm
  exact fN [] []
end Go.Proofs.Ytjljkjbdkjjdcaa
