/- Each function computes what its model says. Made by program (dec.py). -/
import Derived.Test.YtjljkjbdkjjdcaaTy
import Derived.Test.YtjljkjbdkjjdcaaAbArr
import Derived.Test.YtjljkjbdkjjdcaaPoM
namespace Go.Proofs.Ytjljkjbdkjjdcaa
open Go Go.Ab
set_option maxRecDepth 100000
set_option maxHeartbeats 4000000
set_option linter.unusedVariables false
set_option linter.unusedSimpArgs false
theorem tt : TT Try.prog ty := ⟨by kernel_rfl, ty_ok⟩
noncomputable def v_rBig_M : MS ((List UInt8)) Bool := ⟨.r, v_rBig, fun y => dV y, fun _ => [], fun _ _ => []⟩
theorem v_rBig_c {code y} (hm : v_rBig code = some y) : v_rBig_M.C code y := v_rBig_M.c code hm
theorem v_rBig_ok : FnOK Try.prog 6 v_rBig_M.S := by
 refine fm tt v_rBig_M [] Try.call6 Try.func6 rfl Try.results6 Try.ntmps6 ?_
 rintro code y cx G hm
 have hm : v_rBig code = some y := hm
 unfold v_rBig at hm
 refine rg G (rs G (hN 1 code h0) ?_)
 cases hm
 exact rt [] []
noncomputable def s_l1Cur_next_M : MS l1Cur (Int × l1Cur) := ⟨.b, s_l1Cur_next, fun y => dV y.1, fun _ => [], fun _ y => [bxO y.2]⟩
theorem s_l1Cur_next_c {c y} (hm : s_l1Cur_next c = some y) : s_l1Cur_next_M.C c y := s_l1Cur_next_M.c c hm
theorem s_l1Cur_next_ok : FnOK Try.prog 125 s_l1Cur_next_M.S := by
 refine fm tt s_l1Cur_next_M [] Try.call125 Try.func125 rfl Try.results125 Try.ntmps125 ?_
 rintro c y cx G hm
 have hm : s_l1Cur_next c = some y := hm
 unfold s_l1Cur_next at hm
 refine rg G (rg G (jn hm (fun v => ⟨[(0, .ref 0 0), (3, dV v)], [bX 0 [dV c.code_, dV c.at_, kV .u64 c.seed_.v]], 48⟩) (fun v hm => ?_) ?_))
 ·refine ds G [] (hN 8 c.code_ h0) ?_
  refine cd hm (fun hm => ?_) (fun hm => ?_)
  ·obtain ⟨e1, h1, hm⟩ := obind hm
   refine de G [] (hD 8 h1 h0) ?_
   exact wJ G hm
  ·exact X_skip (wJ G hm)
 rintro v hm
 refine rg G (rg G (Ok_seq (ds G [] (hN 8 c.code_ h0) ?_)))
 refine cd hm (fun hm => ?_) (fun hm => ?_)
 ·refine rg G ?_
  cases hm
  exact rt [] []
 ·refine X_skip (thN ?_)
  obtain ⟨u, h2, hm⟩ := obind hm
  refine rs G (hK h2 h0) ?_
  cases hm
  exact rt [] []
noncomputable def s_l1Cur_pick_M : MS (l1Cur × Int) (Int × l1Cur) := ⟨.x .b .r, fun x => s_l1Cur_pick x.1 x.2, fun y => dV y.1, fun _ => [], fun _ y => [bxO y.2]⟩
theorem s_l1Cur_pick_c {c n y} (hm : s_l1Cur_pick c n = some y) : s_l1Cur_pick_M.C (c, n) y := s_l1Cur_pick_M.c (c, n) hm
theorem s_l1Cur_pick_ok : FnOK Try.prog 77 s_l1Cur_pick_M.S := by
 refine fm tt s_l1Cur_pick_M [fo s_l1Cur_next_ok] Try.call77 Try.func77 rfl Try.results77 Try.ntmps77 ?_
 rintro ⟨c, n⟩ y cx G hm
 have hm : s_l1Cur_pick c n = some y := hm
 unfold s_l1Cur_pick at hm
 refine rg G (Ok_seq (rg G (cd hm (fun hm => ?_) (fun hm => ?_))))
 ·refine rg G ?_
  cases hm
  exact rt [] []
 ·refine X_skip (thN ?_)
  obtain ⟨r, h, hm⟩ := obind hm
  refine rs G (hC 1 (s_l1Cur_next_c h) h0) ?_
  refine jn hm (fun (v, v1, v2, v3) => ⟨[(0, .ref 0 0), (1, dV n), (5, dV v)], [bX 0 [dV v1, dV v2, kV .u64 v3]], 48⟩) (fun vv hm => ?_) ?_
  ·refine rg G (cd hm (fun hm => ?_) (fun hm => ?_))
   ·obtain ⟨r1, h1, hm⟩ := obind hm
    refine re G (hC 3 (s_l1Cur_next_c h1) h0) ?_
    exact wJ G hm
   ·exact X_skip (wJ G hm)
  rintro ⟨v, v1, v2, v3⟩ hm
  obtain ⟨u, h2, hm⟩ := obind hm
  refine rs G (hK h2 h0) ?_
  cases hm
  exact rt [] []
noncomputable def s_l1Num_MR (rec_ : Int → Option (ByteArray)) : MS Int ByteArray := ⟨.r, rec_, fun y => dV y, fun _ => [], fun _ _ => []⟩
noncomputable def s_l1Num_M : MS Int ByteArray := s_l1Num_MR s_l1Num
theorem s_l1Num_c {n y} (hm : s_l1Num n = some y) : s_l1Num_M.C n y := s_l1Num_M.c n hm
theorem s_l1Num_cR {rec_ : Int → Option (ByteArray)} {n y} (hm : rec_ n = some y) : (s_l1Num_MR rec_).C n y := (s_l1Num_MR rec_).c n hm
theorem s_l1Num_okF {rec_ : Int → Option (ByteArray)} (hrec : FnOK Try.prog 149 (s_l1Num_MR rec_).S) : FnOK Try.prog 149 (s_l1Num_MR (s_l1Num_F rec_)).S := by
 refine fm tt (s_l1Num_MR (s_l1Num_F rec_)) [fo hrec] Try.call149 Try.func149 rfl Try.results149 Try.ntmps149 ?_
 rintro n y cx G hm
 have hm : s_l1Num_F rec_ n = some y := hm
 unfold s_l1Num_F at hm
 refine rg G (Ok_seq (rg G (cd hm (fun hm => ?_) (fun hm => ?_))))
 ·obtain ⟨r, h, hm⟩ := obind hm
  obtain ⟨u, h1, hm⟩ := obind hm
  refine rs G (hC 2 (s_l1Num_cR h) (hP (cat_p (chk_t h1)) h0)) ?_
  cases hm
  exact rt [] []
 ·refine X_skip (thN (Ok_seq (rg G (cd hm (fun hm => ?_) (fun hm => ?_)))))
  ·obtain ⟨u1, h2, hm⟩ := obind hm
   refine rs G (hK h2 h0) ?_
   cases hm
   exact rt [] []
  ·refine X_skip (thN ?_)
   obtain ⟨u7, h9, hm⟩ := obind hm
   obtain ⟨r2, h10, hm⟩ := obind hm
   obtain ⟨u8, h11, hm⟩ := obind hm
   obtain ⟨u9, h12, hm⟩ := obind hm
   obtain ⟨u10, h13, hm⟩ := obind hm
   obtain ⟨u11, h14, hm⟩ := obind hm
   refine ds G [] (hK h9 (hC 2 (s_l1Num_cR h10) (hK h11 (hK h12 (hK h13 (hP (cat_p (chk_t h14)) h0)))))) ?_
   cases hm
   exact rt [] []
theorem s_l1Num_okn : ∀ k, FnOK Try.prog 149 (s_l1Num_MR (s_l1Num_k k)).S
 | 0 => ⟨fun args w => Try.call149 args w, fun vs w F ds obs κ hp => by obtain ⟨x, y, _, _, h⟩ := hp; cases h⟩
 | k + 1 => s_l1Num_okF (s_l1Num_okn k)
theorem s_l1Num_ok : FnOK Try.prog 149 s_l1Num_M.S := s_l1Num_okn 4294967296
noncomputable def s_l2Place_M : MS (Line × Int) Int := ⟨.x .r .r, fun x => s_l2Place x.1 x.2, fun y => dV y, fun _ => [], fun _ _ => []⟩
theorem s_l2Place_c {x stop y} (hm : s_l2Place x stop = some y) : s_l2Place_M.C (x, stop) y := s_l2Place_M.c (x, stop) hm
theorem s_l2Place_ok : FnOK Try.prog 73 s_l2Place_M.S := by
 refine fm tt s_l2Place_M [] Try.call73 Try.func73 rfl Try.results73 Try.ntmps73 ?_
 rintro ⟨x, stop⟩ y cx G hm
 have hm : s_l2Place x stop = some y := hm
 unfold s_l2Place at hm
 refine rg G (Ok_seq (rg G (tF hm (fun _ => ⟨[], [], 32⟩) (fun v1 hr hm => ?_) ?_)))
 ·refine Ok_block (lp G hm (fun v => ⟨[(1, dV stop), (2, .ref 16 0), (5, dV v)], [bX 16 [dV x.Name, dV x.Stops, dV x.Runs]], 48⟩) ?_)
  rintro v r0 hb hm
  rw [s_l2Place_L1] at hm
  refine Ok_seq (rs G (hN 3 x.Stops h0) ?_)
  refine cd hm (fun hm => ?_) (fun hm => ?_)
  ·refine X_skip (thN (Ok_seq (Ok_block ?_)))
   obtain ⟨e, h, hm⟩ := obind hm
   refine rs G (hD 3 h h0) ?_
   refine cd hm (fun hm => ?_) (fun hm => ?_)
   ·refine rg G ?_
    have hm := eL hm hb hr
    cases hm
    exact rt [] []
   ·exact X_skip (ibN (thN (rh G (wL G hm))))
  ·exact Ok_exit (thE (thE (ibE (wE G hm hb))))
 rintro ⟨⟩ hm s hw
 refine thN (Ok_weak hw ?_)
 refine rg G ?_
 cases hm
 exact rt [] []
noncomputable def s_l1Cur_line_M : MS (l1Cur × ByteArray × Int) (Line × l1Cur) := ⟨.x .b (.x .r .r), fun x => s_l1Cur_line x.1 x.2.1 x.2.2, fun y => .aggv [dV y.1.Name, .own 0, .own 1], fun y => [arO 3 y.1.Stops, arO 3 y.1.Runs], fun _ y => [bxO y.2]⟩
theorem s_l1Cur_line_c {c name stops y} (hm : s_l1Cur_line c name stops = some y) : s_l1Cur_line_M.C (c, name, stops) y := s_l1Cur_line_M.c (c, name, stops) hm
theorem s_l1Cur_line_ok : FnOK Try.prog 148 s_l1Cur_line_M.S := by
 refine fm tt s_l1Cur_line_M [fo s_l1Cur_pick_ok, fo s_l2Place_ok] Try.call148 Try.func148 rfl Try.results148 Try.ntmps148 ?_
 rintro ⟨c, name, stops⟩ y cx G hm
 have hm : s_l1Cur_line c name stops = some y := hm
 unfold s_l1Cur_line at hm
 refine rg G (rg G ?_)
 obtain ⟨r, h, hm⟩ := obind hm
 refine rs G (hC 2 (s_l1Cur_pick_c h) h0) ?_
 refine Ok_seq ?_
 obtain ⟨r1, h1, hm⟩ := obind hm
 refine rs G (hC 1 (s_l1Cur_pick_c h1) h0) ?_
 refine tl hm (fun (v7, v8, v9, v10) => ⟨[(0, .ref 0 0), (2, dV stops), (6, .ref 32 0), (7, .ref 48 0)], [bX 0 [dV v7, dV v8, kV .u64 v9], bX 32 [dV ByteArray.empty, .dat (.sc (.slice none 0 0)), .dat (.sc (.slice none 0 0))], bX 48 [dV name, .own 64, .dat (.sc (.slice none 0 0))], aX 64 3 v10], 96⟩) (fun vv1 hm => ?_) ?_
 ·refine Ok_block (lpP hm (fun (v, v1, v2, v3, v4, v5) => ⟨[(0, .ref 0 0), (2, dV stops), (6, .ref 32 0), (7, .ref 48 0), (8, dV v), (9, dV v1)], [bX 0 [dV v2, dV v3, kV .u64 v4], bX 32 [dV ByteArray.empty, .dat (.sc (.slice none 0 0)), .dat (.sc (.slice none 0 0))], bX 48 [dV name, .own 64, .dat (.sc (.slice none 0 0))], aX 64 3 v5], 96⟩) (Wk_J G.hL ⟨[(0, []), (2, []), (6, []), (7, []), (8, []), (9, [])], [(0, 0, []), (32, 16, []), (48, 64, [.k, .o 64])], [(64, 3, 1, [])], 96⟩ (by kernel_rfl)) ?_)
  rintro ⟨v, v1, v2, v3, v4, v5⟩ r0 hb hm
  rw [s_l1Cur_line_L1] at hm
  refine Ok_seq (rg G (cd hm (fun hm => ?_) (fun hm => ?_)))
  ·refine X_skip (thN (Ok_seq (Ok_block (jn hm (fun v6 => ⟨[(0, .ref 0 0), (2, dV stops), (6, .ref 32 0), (7, .ref 48 0), (8, dV v), (9, dV v1)], [bX 0 [dV v2, dV v3, kV .u64 v4], bX 32 [dV ByteArray.empty, .dat (.sc (.slice none 0 0)), .dat (.sc (.slice none 0 0))], bX 48 [dV name, .own 64, .dat (.sc (.slice none 0 0))], aX 64 3 v6], 96⟩) (fun v6 hm => ?_) ?_))))
   ·obtain ⟨r2, h2, hm⟩ := obind hm
    refine rs G (hC 2 (s_l2Place_c h2) h0) ?_
    refine cd hm (fun hm => ?_) (fun hm => ?_)
    ·obtain ⟨u, h3, hm⟩ := obind hm
     refine re G (hA 4 8 h3 h0) ?_
     exact wJ G hm
    ·exact X_skip (wJ G hm)
   rintro v6 hm
   obtain ⟨r3, h4, hm⟩ := obind hm
   obtain ⟨u1, h5, hm⟩ := obind hm
   refine re G (hC 3 (s_l1Cur_pick_c h4) (hK h5 h0)) ?_
   exact ibN (thN (rh G (wL G hm)))
  ·exact Ok_exit (thE (thE (ibE (wD G hm hb))))
 rintro ⟨v7, v8, v9, v10⟩ hm s hw
 refine thN (Ok_weak hw ?_)
 refine jn hm (fun v11 => ⟨[(0, .ref 0 0), (6, .ref 32 0), (7, .ref 48 0)], [bX 0 [dV v7, dV v8, kV .u64 v9], bX 32 [dV ByteArray.empty, .dat (.sc (.slice none 0 0)), .dat (.sc (.slice none 0 0))], bX 48 [dV name, .own 64, .dat (.sc (.slice none 0 0))], aX 64 3 v11], 96⟩) (fun v11 hm => ?_) ?_
 ·refine rs G (hN 2 v10 h0) ?_
  refine cd hm (fun hm => ?_) (fun hm => ?_)
  ·obtain ⟨e1, h9, hm⟩ := obind hm
   obtain ⟨u4, h10, hm⟩ := obind hm
   obtain ⟨u5, h11, hm⟩ := obind hm
   refine de G [(10, [64, 304]), (12, [48, 320])] (hD 4 h9 (hE 5 h9 (hK h10 (hA 10 8 h11 h0)))) ?_
   exact wJ G hm
  ·exact X_skip (wJ G hm)
 rintro v11 hm
 refine Ok_seq (rg G (tl hm (fun (v17, v18, v19, v20) => ⟨[(0, .ref 0 0), (6, .ref 32 0), (7, .ref 48 0)], [bX 0 [dV v17, dV v18, kV .u64 v19], bX 32 [dV ByteArray.empty, .dat (.sc (.slice none 0 0)), .dat (.sc (.slice none 0 0))], bX 48 [dV name, .own 64, .own 80], aX 64 3 v11, aX 80 3 v20], 112⟩) (fun vv hm => ?_) ?_))
 ·refine Ok_block (lpP hm (fun (v12, v13, v14, v15, v16) => ⟨[(0, .ref 0 0), (6, .ref 32 0), (7, .ref 48 0), (10, dV v12)], [bX 0 [dV v13, dV v14, kV .u64 v15], bX 32 [dV ByteArray.empty, .dat (.sc (.slice none 0 0)), .dat (.sc (.slice none 0 0))], bX 48 [dV name, .own 64, .own 80], aX 64 3 v11, aX 80 3 v16], 112⟩) (Wk_J G.hL ⟨[(0, []), (6, []), (7, []), (10, [])], [(0, 0, []), (32, 32, []), (48, 48, [.k, .k, .o 80]), (64, 64, [])], [(80, 3, 1, [])], 112⟩ (by kernel_rfl)) ?_)
  rintro ⟨v12, v13, v14, v15, v16⟩ r0 hb1 hm
  rw [s_l1Cur_line_L2] at hm
  refine Ok_seq (rs G (hN 3 v11 h0) ?_)
  refine cd hm (fun hm => ?_) (fun hm => ?_)
  ·refine X_skip (thN (Ok_seq (Ok_block ?_)))
   obtain ⟨r5, h14, hm⟩ := obind hm
   obtain ⟨u7, h15, hm⟩ := obind hm
   refine de G [(3, [0]), (6, [80, 272]), (8, [48, 288])] (hC 3 (s_l1Cur_pick_c h14) (hA 6 8 h15 h0)) ?_
   exact ibN (thN (rh G (wL G hm)))
  ·exact Ok_exit (thE (thE (ibE (wD G hm hb1))))
 rintro ⟨v17, v18, v19, v20⟩ hm s1 hw1
 refine thN (Ok_weak hw1 ?_)
 refine rg G ?_
 cases hm
 exact rt [64, 80] []
noncomputable def s_l1Cur_line_f_M : MS (l1Cur × ByteArray × Int) (Line × l1Cur) := ⟨.x .b (.x .r .r), fun x => s_l1Cur_line_f x.1 x.2.1 x.2.2, fun y => dV y.1, fun _ => [], fun _ y => [bxO y.2]⟩
theorem s_l1Cur_line_f_c {c name stops y} (hm : s_l1Cur_line_f c name stops = some y) : s_l1Cur_line_f_M.C (c, name, stops) y := s_l1Cur_line_f_M.c (c, name, stops) hm
theorem s_l1Cur_line_f_ok : FnOK Try.prog 148 s_l1Cur_line_f_M.S := by
 refine fm tt s_l1Cur_line_f_M [fo s_l1Cur_pick_ok, fo s_l2Place_ok] Try.call148 Try.func148 rfl Try.results148 Try.ntmps148 ?_
 rintro ⟨c, name, stops⟩ y cx G hm
 have hm : s_l1Cur_line_f c name stops = some y := hm
 unfold s_l1Cur_line_f at hm
 refine rg G (rg G ?_)
 obtain ⟨r, h, hm⟩ := obind hm
 refine rs G (hC 2 (s_l1Cur_pick_c h) h0) ?_
 refine Ok_seq ?_
 obtain ⟨r1, h1, hm⟩ := obind hm
 refine rs G (hC 1 (s_l1Cur_pick_c h1) h0) ?_
 refine tl hm (fun (v7, v8, v9, v10) => ⟨[(0, .ref 0 0), (2, dV stops), (6, .ref 32 0), (7, .ref 48 0)], [bX 0 [dV v7, dV v8, kV .u64 v9], bX 32 [dV ByteArray.empty, .dat (.sc (.slice none 0 0)), .dat (.sc (.slice none 0 0))], bX 48 [dV name, .own 64, .dat (.sc (.slice none 0 0))], aX 64 3 v10], 96⟩) (fun vv1 hm => ?_) ?_
 ·refine Ok_block (lpP hm (fun (v, v1, v2, v3, v4, v5) => ⟨[(0, .ref 0 0), (2, dV stops), (6, .ref 32 0), (7, .ref 48 0), (8, dV v), (9, dV v1)], [bX 0 [dV v2, dV v3, kV .u64 v4], bX 32 [dV ByteArray.empty, .dat (.sc (.slice none 0 0)), .dat (.sc (.slice none 0 0))], bX 48 [dV name, .own 64, .dat (.sc (.slice none 0 0))], aX 64 3 v5], 96⟩) (Wk_J G.hL ⟨[(0, []), (2, []), (6, []), (7, []), (8, []), (9, [])], [(0, 0, []), (32, 16, []), (48, 64, [.k, .o 64])], [(64, 3, 1, [])], 96⟩ (by kernel_rfl)) ?_)
  rintro ⟨v, v1, v2, v3, v4, v5⟩ r0 hb hm
  rw [s_l1Cur_line_f_L1] at hm
  refine Ok_seq (rg G (cd hm (fun hm => ?_) (fun hm => ?_)))
  ·refine X_skip (thN (Ok_seq (Ok_block (jn hm (fun v6 => ⟨[(0, .ref 0 0), (2, dV stops), (6, .ref 32 0), (7, .ref 48 0), (8, dV v), (9, dV v1)], [bX 0 [dV v2, dV v3, kV .u64 v4], bX 32 [dV ByteArray.empty, .dat (.sc (.slice none 0 0)), .dat (.sc (.slice none 0 0))], bX 48 [dV name, .own 64, .dat (.sc (.slice none 0 0))], aX 64 3 v6], 96⟩) (fun v6 hm => ?_) ?_))))
   ·obtain ⟨r2, h2, hm⟩ := obind hm
    refine rs G (hC 2 (s_l2Place_c h2) h0) ?_
    refine cd hm (fun hm => ?_) (fun hm => ?_)
    ·obtain ⟨u, h3, hm⟩ := obind hm
     refine re G (hA 4 8 h3 h0) ?_
     exact wJ G hm
    ·exact X_skip (wJ G hm)
   rintro v6 hm
   obtain ⟨r3, h4, hm⟩ := obind hm
   obtain ⟨u1, h5, hm⟩ := obind hm
   refine re G (hC 3 (s_l1Cur_pick_c h4) (hK h5 h0)) ?_
   exact ibN (thN (rh G (wL G hm)))
  ·exact Ok_exit (thE (thE (ibE (wD G hm hb))))
 rintro ⟨v7, v8, v9, v10⟩ hm s hw
 refine thN (Ok_weak hw ?_)
 refine jn hm (fun v11 => ⟨[(0, .ref 0 0), (6, .ref 32 0), (7, .ref 48 0)], [bX 0 [dV v7, dV v8, kV .u64 v9], bX 32 [dV ByteArray.empty, .dat (.sc (.slice none 0 0)), .dat (.sc (.slice none 0 0))], bX 48 [dV name, .own 64, .dat (.sc (.slice none 0 0))], aX 64 3 v11], 96⟩) (fun v11 hm => ?_) ?_
 ·refine rs G (hN 2 v10 h0) ?_
  refine cd hm (fun hm => ?_) (fun hm => ?_)
  ·obtain ⟨e1, h9, hm⟩ := obind hm
   obtain ⟨u4, h10, hm⟩ := obind hm
   obtain ⟨u5, h11, hm⟩ := obind hm
   refine de G [(10, [64, 304]), (12, [48, 320])] (hD 4 h9 (hE 5 h9 (hK h10 (hA 10 8 h11 h0)))) ?_
   exact wJ G hm
  ·exact X_skip (wJ G hm)
 rintro v11 hm
 refine Ok_seq (rg G (tl hm (fun (v17, v18, v19, v20) => ⟨[(0, .ref 0 0), (6, .ref 32 0), (7, .ref 48 0)], [bX 0 [dV v17, dV v18, kV .u64 v19], bX 32 [dV ByteArray.empty, .dat (.sc (.slice none 0 0)), .dat (.sc (.slice none 0 0))], bX 48 [dV name, .own 64, .own 80], aX 64 3 v11, aX 80 3 v20], 112⟩) (fun vv hm => ?_) ?_))
 ·refine Ok_block (lpP hm (fun (v12, v13, v14, v15, v16) => ⟨[(0, .ref 0 0), (6, .ref 32 0), (7, .ref 48 0), (10, dV v12)], [bX 0 [dV v13, dV v14, kV .u64 v15], bX 32 [dV ByteArray.empty, .dat (.sc (.slice none 0 0)), .dat (.sc (.slice none 0 0))], bX 48 [dV name, .own 64, .own 80], aX 64 3 v11, aX 80 3 v16], 112⟩) (Wk_J G.hL ⟨[(0, []), (6, []), (7, []), (10, [])], [(0, 0, []), (32, 32, []), (48, 48, [.k, .k, .o 80]), (64, 64, [])], [(80, 3, 1, [])], 112⟩ (by kernel_rfl)) ?_)
  rintro ⟨v12, v13, v14, v15, v16⟩ r0 hb1 hm
  rw [s_l1Cur_line_f_L2] at hm
  refine Ok_seq (rs G (hN 3 v11 h0) ?_)
  refine cd hm (fun hm => ?_) (fun hm => ?_)
  ·refine X_skip (thN (Ok_seq (Ok_block ?_)))
   obtain ⟨r5, h14, hm⟩ := obind hm
   obtain ⟨u7, h15, hm⟩ := obind hm
   refine de G [(3, [0]), (6, [80, 272]), (8, [48, 288])] (hC 3 (s_l1Cur_pick_c h14) (hA 6 8 h15 h0)) ?_
   exact ibN (thN (rh G (wL G hm)))
  ·exact Ok_exit (thE (thE (ibE (wD G hm hb1))))
 rintro ⟨v17, v18, v19, v20⟩ hm s1 hw1
 refine thN (Ok_weak hw1 ?_)
 refine rg G ?_
 cases hm
 exact rt [] []
noncomputable def s_l1Cur_one_M : MS (l1Cur × Int) (Bool × l1Cur) := ⟨.x .b .r, fun x => s_l1Cur_one x.1 x.2, fun y => dV y.1, fun _ => [], fun _ y => [bxO y.2]⟩
theorem s_l1Cur_one_c {c n y} (hm : s_l1Cur_one c n = some y) : s_l1Cur_one_M.C (c, n) y := s_l1Cur_one_M.c (c, n) hm
theorem s_l1Cur_one_ok : FnOK Try.prog 104 s_l1Cur_one_M.S := by
 refine fm tt s_l1Cur_one_M [fo s_l1Cur_pick_ok] Try.call104 Try.func104 rfl Try.results104 Try.ntmps104 ?_
 rintro ⟨c, n⟩ y cx G hm
 have hm : s_l1Cur_one c n = some y := hm
 unfold s_l1Cur_one at hm
 refine rg G ?_
 obtain ⟨r, h, hm⟩ := obind hm
 refine rs G (hC 2 (s_l1Cur_pick_c h) h0) ?_
 cases hm
 exact rt [] []
noncomputable def s_l2Back_f_M : MS ((List Int)) ((List Int)) := ⟨.r, s_l2Back_f, fun y => dV y, fun _ => [], fun _ _ => []⟩
theorem s_l2Back_f_c {list y} (hm : s_l2Back_f list = some y) : s_l2Back_f_M.C list y := s_l2Back_f_M.c list hm
theorem s_l2Back_f_ok : FnOK Try.prog 167 s_l2Back_f_M.S := by
 refine fm tt s_l2Back_f_M [] Try.call167 Try.func167 rfl Try.results167 Try.ntmps167 ?_
 rintro list y cx G hm
 have hm : s_l2Back_f list = some y := hm
 unfold s_l2Back_f at hm
 refine rg G (rg G (Ok_seq (rs G (hN 1 list h0) ?_)))
 refine tl hm (fun i1 => ⟨[(3, .own 16)], [aX 16 3 i1], 48⟩) (fun i1 hm => ?_) ?_
 ·refine Ok_block (lp G hm (fun (v, i) => ⟨[(0, dV list), (3, .own 16), (4, dV v)], [aX 16 3 i], 48⟩) ?_)
  rintro ⟨v, i⟩ r0 hb hm
  rw [s_l2Back_f_L1] at hm
  refine Ok_seq (rg G (cd hm (fun hm => ?_) (fun hm => ?_)))
  ·refine X_skip (thN (Ok_seq (Ok_block ?_)))
   obtain ⟨e, h, hm⟩ := obind hm
   obtain ⟨u, h1, hm⟩ := obind hm
   refine re G (hD 3 h (hA 6 8 h1 h0)) ?_
   exact ibN (thN (rh G (wL G hm)))
  ·exact Ok_exit (thE (thE (ibE (wD G hm hb))))
 rintro i1 hm s hw
 refine thN (Ok_weak hw ?_)
 refine rg G ?_
 cases hm
 exact rt [] []
noncomputable def s_l1Own_M : MS ((List Int)) ((List Int)) := ⟨.r, s_l1Own, fun _ => .own 0, fun y => [arO 3 y], fun _ _ => []⟩
theorem s_l1Own_c {l y} (hm : s_l1Own l = some y) : s_l1Own_M.C l y := s_l1Own_M.c l hm
theorem s_l1Own_ok : FnOK Try.prog 187 s_l1Own_M.S := by
 refine fm tt s_l1Own_M [] Try.call187 Try.func187 rfl Try.results187 Try.ntmps187 ?_
 rintro l y cx G hm
 have hm : s_l1Own l = some y := hm
 unfold s_l1Own at hm
 refine rg G ?_
 obtain ⟨u, h, hm⟩ := obind hm
 refine rs G (hA 2 8 h h0) ?_
 cases hm
 exact rt [64] []
noncomputable def s_l1Own_f_M : MS ((List Int)) ((List Int)) := ⟨.r, s_l1Own_f, fun y => dV y, fun _ => [], fun _ _ => []⟩
theorem s_l1Own_f_c {l y} (hm : s_l1Own_f l = some y) : s_l1Own_f_M.C l y := s_l1Own_f_M.c l hm
theorem s_l1Own_f_ok : FnOK Try.prog 187 s_l1Own_f_M.S := by
 refine fm tt s_l1Own_f_M [] Try.call187 Try.func187 rfl Try.results187 Try.ntmps187 ?_
 rintro l y cx G hm
 have hm : s_l1Own_f l = some y := hm
 unfold s_l1Own_f at hm
 refine rg G ?_
 obtain ⟨u, h, hm⟩ := obind hm
 refine rs G (hA 2 8 h h0) ?_
 cases hm
 exact rt [] []
noncomputable def s_l2Own_M : MS Network Network := ⟨.r, s_l2Own, fun _ => .aggv [.own 0, .own 1], fun y => [arO 9 y.Stops, arO 80 y.Lines], fun _ _ => []⟩
theorem s_l2Own_c {n y} (hm : s_l2Own n = some y) : s_l2Own_M.C n y := s_l2Own_M.c n hm
theorem s_l2Own_ok : FnOK Try.prog 168 s_l2Own_M.S := by
 refine fm tt s_l2Own_M [fo s_l1Own_f_ok] Try.call168 Try.func168 rfl Try.results168 Try.ntmps168 ?_
 rintro n y cx G hm
 have hm : s_l2Own n = some y := hm
 unfold s_l2Own at hm
 refine rg G ?_
 obtain ⟨u, h, hm⟩ := obind hm
 refine rs G (hA 3 16 h h0) ?_
 refine Ok_seq (rg G (tl hm (fun v2 => ⟨[(2, .ref 16 0), (3, .ref 32 0)], [bX 16 [.dat (.sc (.slice none 0 0)), .dat (.sc (.slice none 0 0))], bX 32 [.own 48, .own 64], aX 48 9 (([] : List ByteArray) ++ n.Stops), aX 64 80 v2], 96⟩) (fun v2 hm => ?_) ?_))
 ·refine Ok_block (lpP hm (fun (v, v1) => ⟨[(1, .ref 16 0), (2, .ref 32 0), (3, .ref 48 0), (4, dV v)], [bX 16 [dV n.Stops, dV n.Lines], bX 32 [.dat (.sc (.slice none 0 0)), .dat (.sc (.slice none 0 0))], bX 48 [.own 64, .own 80], aX 64 9 (([] : List ByteArray) ++ n.Stops), aX 80 80 v1], 112⟩) (Wk_J G.hL ⟨[(1, []), (2, []), (3, []), (4, [])], [(16, 16, []), (32, 32, []), (48, 128, [.k, .o 80]), (64, 96, [])], [(80, 80, 3, [])], 112⟩ (by kernel_rfl)) ?_)
  rintro ⟨v, v1⟩ r0 hb hm
  rw [s_l2Own_L1] at hm
  refine Ok_seq (rs G (hN 3 n.Lines h0) ?_)
  refine cd hm (fun hm => ?_) (fun hm => ?_)
  ·refine X_skip (thN (Ok_seq (Ok_block ?_)))
   obtain ⟨e3, h7, hm⟩ := obind hm
   obtain ⟨e4, h8, hm⟩ := obind hm
   obtain ⟨r2, h9, hm⟩ := obind hm
   obtain ⟨e5, h10, hm⟩ := obind hm
   obtain ⟨r3, h11, hm⟩ := obind hm
   obtain ⟨u2, h12, hm⟩ := obind hm
   refine de G [(23, []), (24, [80, 560]), (26, [48, 576])] (hD 5 h7 (hD 11 h8 (hC 14 (s_l1Own_f_c h9) (hD 18 h10 (hC 21 (s_l1Own_f_c h11) (hA 24 64 h12 h0)))))) ?_
   exact ibN (thN (rh G (wL G hm)))
  ·exact Ok_exit (thE (thE (ibE (wD G hm hb))))
 rintro v2 hm s hw
 refine thN (Ok_weak hw ?_)
 refine rg G ?_
 cases hm
 exact rt [48, 64] []
noncomputable def s_l1Cur_network_M : MS l1Cur (Network × l1Cur) := ⟨.b, s_l1Cur_network, fun _ => .aggv [.own 0, .own 1], fun y => [arO 9 y.1.Stops, arO 80 y.1.Lines], fun _ y => [bxO y.2]⟩
theorem s_l1Cur_network_c {c y} (hm : s_l1Cur_network c = some y) : s_l1Cur_network_M.C c y := s_l1Cur_network_M.c c hm
theorem s_l1Cur_network_ok : FnOK Try.prog 146 s_l1Cur_network_M.S := by
 refine fm tt s_l1Cur_network_M [fo s_l1Cur_pick_ok, fo s_l1Num_ok, fo s_l1Cur_line_f_ok, fo s_l1Cur_one_ok, fo s_l2Back_f_ok, fo s_l2Own_ok] Try.call146 Try.func146 rfl Try.results146 Try.ntmps146 ?_
 rintro c y cx G hm
 have hm : s_l1Cur_network c = some y := hm
 unfold s_l1Cur_network at hm
 refine rg G ?_
 obtain ⟨r, h, hm⟩ := obind hm
 refine rs G (hC 1 (s_l1Cur_pick_c h) h0) ?_
 obtain ⟨u, h1, hm⟩ := obind hm
 refine rs G (hO 2 (.fz [96] [] []) (hU 2 h1 h0)) ?_
 refine Ok_seq ?_
 obtain ⟨r1, h2, hm⟩ := obind hm
 refine rs G (hC 1 (s_l1Cur_pick_c h2) h0) ?_
 refine tl hm (fun (v4, v5, v6, v7) => ⟨[(0, .ref 0 0), (2, .ref 32 0), (4, .ref 48 0)], [bX 0 [dV v4, dV v5, kV .u64 v6], bX 32 [.dat (.sc (.slice none 0 0)), .dat (.sc (.slice none 0 0))], bX 48 [dV ((([(str [112, 111, 114, 116]), (str [109, 105, 108, 108]), (str [112, 97, 114, 107]), (str [104, 97, 108, 108]), (str [100, 111, 99, 107]), (str [102, 97, 105, 114])] : List ByteArray).take (w64 (2 + r.1)).toNat).drop (0 : Int).toNat), .own 64], aX 64 80 v7], 96⟩) (fun vv1 hm => ?_) ?_
 ·refine Ok_block (lpP hm (fun (x, v, v1, v2, v3) => ⟨[(0, .ref 0 0), (2, .ref 32 0), (3, dV (w64 (2 + r.1))), (4, .ref 48 0), (5, dV x)], [bX 0 [dV v, dV v1, kV .u64 v2], bX 32 [.dat (.sc (.slice none 0 0)), .dat (.sc (.slice none 0 0))], bX 48 [dV ((([(str [112, 111, 114, 116]), (str [109, 105, 108, 108]), (str [112, 97, 114, 107]), (str [104, 97, 108, 108]), (str [100, 111, 99, 107]), (str [102, 97, 105, 114])] : List ByteArray).take (w64 (2 + r.1)).toNat).drop (0 : Int).toNat), .own 64], aX 64 80 v3], 96⟩) (Wk_J G.hL ⟨[(0, []), (2, []), (3, []), (4, []), (5, [])], [(0, 0, []), (32, 16, []), (48, 160, [.k, .o 64])], [(64, 80, 3, [])], 96⟩ (by kernel_rfl)) ?_)
  rintro ⟨x, v, v1, v2, v3⟩ r0 hb hm
  rw [s_l1Cur_network_L1] at hm
  refine Ok_seq (rg G (cd hm (fun hm => ?_) (fun hm => ?_)))
  ·refine X_skip (thN (Ok_seq (Ok_block ?_)))
   obtain ⟨r4, h7, hm⟩ := obind hm
   obtain ⟨u3, h8, hm⟩ := obind hm
   obtain ⟨r5, h9, hm⟩ := obind hm
   obtain ⟨u4, h10, hm⟩ := obind hm
   refine de G [(7, [0]), (8, []), (9, [64, 256]), (11, [48, 272])] (hC 4 (s_l1Num_c h7) (hP (cat_p (chk_t h8)) (hC 7 (s_l1Cur_line_f_c h9) (hA 9 64 h10 h0)))) ?_
   exact ibN (thN (rh G (wL G hm)))
  ·exact Ok_exit (thE (thE (ibE (wD G hm hb))))
 rintro ⟨v4, v5, v6, v7⟩ hm s hw
 refine thN (Ok_weak hw ?_)
 refine jn hm (fun (v8, v9, v10, v11) => ⟨[(0, .ref 0 0), (2, .ref 32 0), (4, .ref 48 0)], [bX 0 [dV v8, dV v9, kV .u64 v10], bX 32 [.dat (.sc (.slice none 0 0)), .dat (.sc (.slice none 0 0))], bX 48 [dV ((([(str [112, 111, 114, 116]), (str [109, 105, 108, 108]), (str [112, 97, 114, 107]), (str [104, 97, 108, 108]), (str [100, 111, 99, 107]), (str [102, 97, 105, 114])] : List ByteArray).take (w64 (2 + r.1)).toNat).drop (0 : Int).toNat), .own 64], aX 64 80 v11], 96⟩) (fun vv hm => ?_) ?_
 ·obtain ⟨r6, h11, hm⟩ := obind hm
  refine rs G (hC 1 (s_l1Cur_one_c h11) h0) ?_
  refine cd hm (fun hm => ?_) (fun hm => ?_)
  ·obtain ⟨e, h12, hm⟩ := obind hm
   refine rs G (hD 2 h12 (hE 3 h12 h0)) ?_
   obtain ⟨r9, h16, hm⟩ := obind hm
   obtain ⟨r10, h17, hm⟩ := obind hm
   obtain ⟨u6, h18, hm⟩ := obind hm
   refine de G [(9, []), (10, [64, 368]), (12, [48, 384])] (hC 4 (s_l2Back_f_c h16) (hC 7 (s_l2Back_f_c h17) (hA 10 64 h18 h0))) ?_
   exact wJ G hm
  ·exact X_skip (wJ G hm)
 rintro ⟨v8, v9, v10, v11⟩ hm
 obtain ⟨r11, h19, hm⟩ := obind hm
 refine rs G (hO 1 (.fz [64] [] []) (hC 1 (s_l2Own_c h19) h0)) ?_
 cases hm
 exact rt [112, 113] []
noncomputable def s_l1Cur_timetable_M : MS l1Cur (Timetable × l1Cur) := ⟨.b, s_l1Cur_timetable, fun _ => .aggv [.own 0, .own 1, .own 2], fun y => [arO 9 y.1.Network.Stops, arO 80 y.1.Network.Lines, arO 107 y.1.Trips], fun _ y => [bxO y.2]⟩
theorem s_l1Cur_timetable_c {c y} (hm : s_l1Cur_timetable c = some y) : s_l1Cur_timetable_M.C c y := s_l1Cur_timetable_M.c c hm
theorem s_l1Cur_timetable_ok : FnOK Try.prog 115 s_l1Cur_timetable_M.S := by
 refine fm tt s_l1Cur_timetable_M [fo s_l1Cur_network_ok, fo s_l1Cur_pick_ok] Try.call115 Try.func115 rfl Try.results115 Try.ntmps115 ?_
 rintro c y cx G hm
 have hm : s_l1Cur_timetable c = some y := hm
 unfold s_l1Cur_timetable at hm
 refine rg G ?_
 obtain ⟨r, h, hm⟩ := obind hm
 refine rs G (hC 1 (s_l1Cur_network_c h) h0) ?_
 refine rg G (Ok_seq ?_)
 obtain ⟨r1, h1, hm⟩ := obind hm
 refine rs G (hC 1 (s_l1Cur_pick_c h1) h0) ?_
 refine tl hm (fun (v5, v6, v7, v8) => ⟨[(0, .ref 0 0), (2, .ref 32 0), (3, .ref 48 0)], [bX 0 [dV v5, dV v6, kV .u64 v7], bX 32 [.dat (.sc (.slice none 0 0)), .dat (.sc (.slice none 0 0)), .dat (.sc (.slice none 0 0))], bX 48 [.own 64, .own 80, .own 96], aX 64 9 r.1.Stops, aX 80 80 r.1.Lines, aX 96 107 v8], 128⟩) (fun vv hm => ?_) ?_
 ·refine Ok_block (lpP hm (fun (n, v, v1, v2, v3, v4) => ⟨[(0, .ref 0 0), (2, .ref 32 0), (3, .ref 48 0), (4, dV n), (5, dV v)], [bX 0 [dV v1, dV v2, kV .u64 v3], bX 32 [.dat (.sc (.slice none 0 0)), .dat (.sc (.slice none 0 0)), .dat (.sc (.slice none 0 0))], bX 48 [.own 64, .own 80, .own 96], aX 64 9 r.1.Stops, aX 80 80 r.1.Lines, aX 96 107 v4], 128⟩) (Wk_J G.hL ⟨[(0, []), (2, []), (3, []), (4, []), (5, [])], [(0, 0, []), (32, 16, []), (48, 80, [.k, .k, .o 96]), (64, 48, []), (80, 49, [])], [(96, 107, 3, [])], 128⟩ (by kernel_rfl)) ?_)
  rintro ⟨n, v, v1, v2, v3, v4⟩ r0 hb hm
  rw [s_l1Cur_timetable_L1] at hm
  refine Ok_seq (rg G (cd hm (fun hm => ?_) (fun hm => ?_)))
  ·refine X_skip (thN (Ok_seq (Ok_block ?_)))
   obtain ⟨r2, h2, hm⟩ := obind hm
   refine rs G (hC 3 (s_l1Cur_pick_c h2) h0) ?_
   obtain ⟨r5, h6, hm⟩ := obind hm
   obtain ⟨r6, h7, hm⟩ := obind hm
   obtain ⟨u1, h8, hm⟩ := obind hm
   refine de G [(8, [0]), (10, [0]), (15, [96, 480]), (17, [48, 496])] (hN 7 r.1.Lines (hC 8 (s_l1Cur_pick_c h6) (hC 10 (s_l1Cur_pick_c h7) (hA 15 24 h8 h0)))) ?_
   exact ibN (thN (rh G (wL G hm)))
  ·exact Ok_exit (thE (thE (ibE (wD G hm hb))))
 rintro ⟨v5, v6, v7, v8⟩ hm s hw
 refine thN (Ok_weak hw ?_)
 refine rg G ?_
 cases hm
 exact rt [64, 80, 96] []
noncomputable def s_l1Cur_among_M : MS (l1Cur × (List Int)) (Int × l1Cur) := ⟨.x .b .r, fun x => s_l1Cur_among x.1 x.2, fun y => dV y.1, fun _ => [], fun _ y => [bxO y.2]⟩
theorem s_l1Cur_among_c {c list y} (hm : s_l1Cur_among c list = some y) : s_l1Cur_among_M.C (c, list) y := s_l1Cur_among_M.c (c, list) hm
theorem s_l1Cur_among_ok : FnOK Try.prog 48 s_l1Cur_among_M.S := by
 refine fm tt s_l1Cur_among_M [fo s_l1Cur_pick_ok] Try.call48 Try.func48 rfl Try.results48 Try.ntmps48 ?_
 rintro ⟨c, list⟩ y cx G hm
 have hm : s_l1Cur_among c list = some y := hm
 unfold s_l1Cur_among at hm
 refine rg G ?_
 obtain ⟨r, h, hm⟩ := obind hm
 obtain ⟨e, h1, hm⟩ := obind hm
 refine rs G (hN 3 list (hC 4 (s_l1Cur_pick_c h) (hD 5 h1 h0))) ?_
 cases hm
 exact rt [] []
noncomputable def s_l1Cur_of_w_M : MS (l1Cur × (List ByteArray)) (ByteArray × l1Cur) := ⟨.x .b (.s 9), fun x => s_l1Cur_of_w x.1 x.2, fun y => dV y.1, fun _ => [], fun x y => [bxO y.2, arO 9 x.2]⟩
theorem s_l1Cur_of_w_c {c list y} (hm : s_l1Cur_of_w c list = some y) : s_l1Cur_of_w_M.C (c, list) y := s_l1Cur_of_w_M.c (c, list) hm
theorem s_l1Cur_of_w_ok : FnOK Try.prog 147 s_l1Cur_of_w_M.S := by
 refine fm tt s_l1Cur_of_w_M [fo s_l1Cur_pick_ok] Try.call147 Try.func147 rfl Try.results147 Try.ntmps147 ?_
 rintro ⟨c, list⟩ y cx G hm
 have hm : s_l1Cur_of_w c list = some y := hm
 unfold s_l1Cur_of_w at hm
 refine rg G ?_
 obtain ⟨r, h, hm⟩ := obind hm
 obtain ⟨e, h1, hm⟩ := obind hm
 refine rs G (hN 3 list (hC 4 (s_l1Cur_pick_c h) (hD 5 h1 (hE 6 h1 h0)))) ?_
 cases hm
 exact rt [] []
noncomputable def s_l2Own_t_M : MS Network Network := ⟨.r, s_l2Own_t, fun _ => .aggv [.own 0, .own 1], fun y => [arO 9 y.Stops, taO 80 [none, some 3, some 3] y.Lines], fun _ _ => []⟩
theorem s_l2Own_t_c {n y} (hm : s_l2Own_t n = some y) : s_l2Own_t_M.C n y := s_l2Own_t_M.c n hm
theorem s_l2Own_t_ok : FnOK Try.prog 168 s_l2Own_t_M.S := by
 refine fm tt s_l2Own_t_M [fo s_l1Own_ok] Try.call168 Try.func168 rfl Try.results168 Try.ntmps168 ?_
 rintro n y cx G hm
 have hm : s_l2Own_t n = some y := hm
 unfold s_l2Own_t at hm
 refine rg G ?_
 obtain ⟨u, h, hm⟩ := obind hm
 refine rs G (hA 3 16 h h0) ?_
 refine Ok_seq (rg G (tl hm (fun v2 => ⟨[(2, .ref 16 0), (3, .ref 32 0)], [bX 16 [.dat (.sc (.slice none 0 0)), .dat (.sc (.slice none 0 0))], bX 32 [.own 48, .own 64], aX 48 9 (([] : List ByteArray) ++ n.Stops), tX 64 80 [none, some 3, some 3] v2 64 none], 96⟩) (fun v2 hm => ?_) ?_))
 ·refine Ok_block (lpP hm (fun (v, v1) => ⟨[(1, .ref 16 0), (2, .ref 32 0), (3, .ref 48 0), (4, dV v)], [bX 16 [dV n.Stops, dV n.Lines], bX 32 [.dat (.sc (.slice none 0 0)), .dat (.sc (.slice none 0 0))], bX 48 [.own 64, .own 80], aX 64 9 (([] : List ByteArray) ++ n.Stops), tX 80 80 [none, some 3, some 3] v1 80 none], 112⟩) (Wk_J G.hL ⟨[(1, []), (2, []), (3, []), (4, [])], [(16, 16, []), (32, 32, []), (48, 128, [.k, .o 80]), (64, 96, [])], [(80, 80, 3, [none, some 3, some 3])], 112⟩ (by kernel_rfl)) ?_)
  rintro ⟨v, v1⟩ r0 hb hm
  rw [s_l2Own_t_L1] at hm
  refine Ok_seq (rs G (hN 3 n.Lines h0) ?_)
  refine cd hm (fun hm => ?_) (fun hm => ?_)
  ·refine X_skip (thN (Ok_seq (Ok_block ?_)))
   obtain ⟨e3, h7, hm⟩ := obind hm
   obtain ⟨e4, h8, hm⟩ := obind hm
   obtain ⟨r2, h9, hm⟩ := obind hm
   obtain ⟨e5, h10, hm⟩ := obind hm
   obtain ⟨r3, h11, hm⟩ := obind hm
   obtain ⟨u2, h12, hm⟩ := obind hm
   refine de G [(23, [416, 528]), (24, [80, 560]), (26, [48, 576])] (hD 5 h7 (hD 11 h8 (hC 14 (s_l1Own_c h9) (hD 18 h10 (hC 21 (s_l1Own_c h11) (hP (nodupB_ok (l := [416, 528]) rfl) (hA 24 64 h12 h0))))))) ?_
   exact ibN (thN (rh G (wL G hm)))
  ·exact Ok_exit (thE (thE (ibE (wD G hm hb))))
 rintro v2 hm s hw
 refine thN (Ok_weak hw ?_)
 refine rg G ?_
 cases hm
 exact rt [48, 64] []
noncomputable def s_l1Cur_network_t_M : MS l1Cur (Network × l1Cur) := ⟨.b, s_l1Cur_network_t, fun _ => .aggv [.own 0, .own 1], fun y => [arO 9 y.1.Stops, taO 80 [none, some 3, some 3] y.1.Lines], fun _ y => [bxO y.2]⟩
theorem s_l1Cur_network_t_c {c y} (hm : s_l1Cur_network_t c = some y) : s_l1Cur_network_t_M.C c y := s_l1Cur_network_t_M.c c hm
theorem s_l1Cur_network_t_ok : FnOK Try.prog 146 s_l1Cur_network_t_M.S := by
 refine fm tt s_l1Cur_network_t_M [fo s_l1Cur_pick_ok, fo s_l1Num_ok, fo s_l1Cur_line_f_ok, fo s_l1Cur_one_ok, fo s_l2Back_f_ok, fo s_l2Own_t_ok] Try.call146 Try.func146 rfl Try.results146 Try.ntmps146 ?_
 rintro c y cx G hm
 have hm : s_l1Cur_network_t c = some y := hm
 unfold s_l1Cur_network_t at hm
 refine rg G ?_
 obtain ⟨r, h, hm⟩ := obind hm
 refine rs G (hC 1 (s_l1Cur_pick_c h) h0) ?_
 obtain ⟨u, h1, hm⟩ := obind hm
 refine rs G (hO 2 (.fz [96] [] []) (hU 2 h1 h0)) ?_
 refine Ok_seq ?_
 obtain ⟨r1, h2, hm⟩ := obind hm
 refine rs G (hC 1 (s_l1Cur_pick_c h2) h0) ?_
 refine tl hm (fun (v4, v5, v6, v7) => ⟨[(0, .ref 0 0), (2, .ref 32 0), (4, .ref 48 0)], [bX 0 [dV v4, dV v5, kV .u64 v6], bX 32 [.dat (.sc (.slice none 0 0)), .dat (.sc (.slice none 0 0))], bX 48 [dV ((([(str [112, 111, 114, 116]), (str [109, 105, 108, 108]), (str [112, 97, 114, 107]), (str [104, 97, 108, 108]), (str [100, 111, 99, 107]), (str [102, 97, 105, 114])] : List ByteArray).take (w64 (2 + r.1)).toNat).drop (0 : Int).toNat), .own 64], aX 64 80 v7], 96⟩) (fun vv1 hm => ?_) ?_
 ·refine Ok_block (lpP hm (fun (x, v, v1, v2, v3) => ⟨[(0, .ref 0 0), (2, .ref 32 0), (3, dV (w64 (2 + r.1))), (4, .ref 48 0), (5, dV x)], [bX 0 [dV v, dV v1, kV .u64 v2], bX 32 [.dat (.sc (.slice none 0 0)), .dat (.sc (.slice none 0 0))], bX 48 [dV ((([(str [112, 111, 114, 116]), (str [109, 105, 108, 108]), (str [112, 97, 114, 107]), (str [104, 97, 108, 108]), (str [100, 111, 99, 107]), (str [102, 97, 105, 114])] : List ByteArray).take (w64 (2 + r.1)).toNat).drop (0 : Int).toNat), .own 64], aX 64 80 v3], 96⟩) (Wk_J G.hL ⟨[(0, []), (2, []), (3, []), (4, []), (5, [])], [(0, 0, []), (32, 16, []), (48, 160, [.k, .o 64])], [(64, 80, 3, [])], 96⟩ (by kernel_rfl)) ?_)
  rintro ⟨x, v, v1, v2, v3⟩ r0 hb hm
  rw [s_l1Cur_network_t_L1] at hm
  refine Ok_seq (rg G (cd hm (fun hm => ?_) (fun hm => ?_)))
  ·refine X_skip (thN (Ok_seq (Ok_block ?_)))
   obtain ⟨r4, h7, hm⟩ := obind hm
   obtain ⟨u3, h8, hm⟩ := obind hm
   obtain ⟨r5, h9, hm⟩ := obind hm
   obtain ⟨u4, h10, hm⟩ := obind hm
   refine de G [(7, [0]), (8, []), (9, [64, 256]), (11, [48, 272])] (hC 4 (s_l1Num_c h7) (hP (cat_p (chk_t h8)) (hC 7 (s_l1Cur_line_f_c h9) (hA 9 64 h10 h0)))) ?_
   exact ibN (thN (rh G (wL G hm)))
  ·exact Ok_exit (thE (thE (ibE (wD G hm hb))))
 rintro ⟨v4, v5, v6, v7⟩ hm s hw
 refine thN (Ok_weak hw ?_)
 refine jn hm (fun (v8, v9, v10, v11) => ⟨[(0, .ref 0 0), (2, .ref 32 0), (4, .ref 48 0)], [bX 0 [dV v8, dV v9, kV .u64 v10], bX 32 [.dat (.sc (.slice none 0 0)), .dat (.sc (.slice none 0 0))], bX 48 [dV ((([(str [112, 111, 114, 116]), (str [109, 105, 108, 108]), (str [112, 97, 114, 107]), (str [104, 97, 108, 108]), (str [100, 111, 99, 107]), (str [102, 97, 105, 114])] : List ByteArray).take (w64 (2 + r.1)).toNat).drop (0 : Int).toNat), .own 64], aX 64 80 v11], 96⟩) (fun vv hm => ?_) ?_
 ·obtain ⟨r6, h11, hm⟩ := obind hm
  refine rs G (hC 1 (s_l1Cur_one_c h11) h0) ?_
  refine cd hm (fun hm => ?_) (fun hm => ?_)
  ·obtain ⟨e, h12, hm⟩ := obind hm
   refine rs G (hD 2 h12 (hE 3 h12 h0)) ?_
   obtain ⟨r9, h16, hm⟩ := obind hm
   obtain ⟨r10, h17, hm⟩ := obind hm
   obtain ⟨u6, h18, hm⟩ := obind hm
   refine de G [(9, []), (10, [64, 368]), (12, [48, 384])] (hC 4 (s_l2Back_f_c h16) (hC 7 (s_l2Back_f_c h17) (hA 10 64 h18 h0))) ?_
   exact wJ G hm
  ·exact X_skip (wJ G hm)
 rintro ⟨v8, v9, v10, v11⟩ hm
 obtain ⟨r11, h19, hm⟩ := obind hm
 refine rs G (hO 1 (.fz [64] [] []) (hC 1 (s_l2Own_t_c h19) h0)) ?_
 cases hm
 exact rt [112, 113] []
noncomputable def s_l1Cur_among_w_M : MS (l1Cur × (List Int)) (Int × l1Cur) := ⟨.x .b (.s 3), fun x => s_l1Cur_among_w x.1 x.2, fun y => dV y.1, fun _ => [], fun x y => [bxO y.2, arO 3 x.2]⟩
theorem s_l1Cur_among_w_c {c list y} (hm : s_l1Cur_among_w c list = some y) : s_l1Cur_among_w_M.C (c, list) y := s_l1Cur_among_w_M.c (c, list) hm
theorem s_l1Cur_among_w_ok : FnOK Try.prog 48 s_l1Cur_among_w_M.S := by
 refine fm tt s_l1Cur_among_w_M [fo s_l1Cur_pick_ok] Try.call48 Try.func48 rfl Try.results48 Try.ntmps48 ?_
 rintro ⟨c, list⟩ y cx G hm
 have hm : s_l1Cur_among_w c list = some y := hm
 unfold s_l1Cur_among_w at hm
 refine rg G ?_
 obtain ⟨r, h, hm⟩ := obind hm
 obtain ⟨e, h1, hm⟩ := obind hm
 refine rs G (hN 3 list (hC 4 (s_l1Cur_pick_c h) (hD 5 h1 (hE 6 h1 h0)))) ?_
 cases hm
 exact rt [] []
noncomputable def s_l1Cur_anyNetwork_M : MS l1Cur (Network × l1Cur) := ⟨.b, s_l1Cur_anyNetwork, fun y => .aggv [.own 0, dV y.1.Lines], fun y => [arO 9 y.1.Stops], fun _ y => [bxO y.2]⟩
theorem s_l1Cur_anyNetwork_c {c y} (hm : s_l1Cur_anyNetwork c = some y) : s_l1Cur_anyNetwork_M.C c y := s_l1Cur_anyNetwork_M.c c hm
theorem s_l1Cur_anyNetwork_ok : FnOK Try.prog 116 s_l1Cur_anyNetwork_M.S := by
 refine fm tt s_l1Cur_anyNetwork_M [fo s_l1Cur_network_t_ok, fo s_l1Cur_pick_ok, fo s_l1Cur_of_w_ok, fo s_l1Cur_among_w_ok, fo s_l1Num_ok, fo s_l1Cur_line_ok] Try.call116 Try.func116 rfl Try.results116 Try.ntmps116 ?_
 rintro c y cx G hm
 have hm : s_l1Cur_anyNetwork c = some y := hm
 unfold s_l1Cur_anyNetwork at hm
 refine rg G ?_
 obtain ⟨r, h, hm⟩ := obind hm
 refine rs G (hC 1 (s_l1Cur_network_t_c h) h0) ?_
 obtain ⟨r1, h1, hm⟩ := obind hm
 refine rs G (hN 3 r.1.Lines (hC 4 (s_l1Cur_pick_c h1) h0)) ?_
 obtain ⟨e, h2, hm⟩ := obind hm
 refine rs G (hD 3 h2 (hE 4 h2 h0)) ?_
 refine jF hm (fun (v, v1, v2, v3, v4, v5, v6) => ⟨[(0, .ref 0 0), (2, .ref 32 0), (3, .ref 48 0), (4, dV r1.1), (5, .ref 64 0)], [bX 0 [dV v, dV v1, kV .u64 v2], bX 32 [.dat (.sc (.slice none 0 0)), .dat (.sc (.slice none 0 0))], bX 48 [.own 80, .own 96], bX 64 [dV v3, .row 96 96 r1.1.toNat 1, .own 112], aX 80 9 v4, tX 96 80 [none, some 3, some 3] v5 96 (some (r1.1.toNat, 2)), aX 112 3 v6], 144⟩) (fun v17 hr hm => ?_) ?_
 ·obtain ⟨r2, h3, hm⟩ := obind hm
  refine rs G (hC 1 (s_l1Cur_pick_c h3) h0) ?_
  refine Ok_block (rg G (cd hm (fun hm => ?_) (fun hm => ?_)))
  ·obtain ⟨r4, h6, hm⟩ := obind hm
   obtain ⟨e2, h7, hm⟩ := obind hm
   refine de G [(4, [0, 416]), (6, [48])] (hC 4 (s_l1Cur_of_w_c h6) (hD 5 h7 (hS 6 h7 r4.1 h0))) ?_
   exact ibN (wFp hm (Wk.trans (Wk_S (.c 272 2) (Enc.e e) (.cons (idx_m2 (f := Enc.e) (l := r.1.Lines) (i := r1.1) h2) .nil) (by kernel_rfl)) (Wk_J G.hL ⟨[(0, []), (2, []), (3, []), (4, []), (5, [])], [(0, 0, []), (32, 16, []), (48, 64, []), (64, 272, []), (80, 48, []), (96, 49, []), (112, 480, [])], [], 144⟩ (by kernel_rfl))))
  ·refine rg G (cd hm (fun hm => ?_) (fun hm => ?_))
   ·obtain ⟨r5, h8, hm⟩ := obind hm
    refine re G (hC 2 (s_l1Cur_of_w_c h8) h0) ?_
    exact ibN (wFp hm (Wk.trans (Wk_S (.c 272 2) (Enc.e e) (.cons (idx_m2 (f := Enc.e) (l := r.1.Lines) (i := r1.1) h2) .nil) (by kernel_rfl)) (Wk_J G.hL ⟨[(0, []), (2, []), (3, []), (4, []), (5, [])], [(0, 0, []), (32, 16, []), (48, 64, []), (64, 272, []), (80, 48, []), (96, 49, []), (112, 480, [])], [], 144⟩ (by kernel_rfl))))
   ·refine rg G (cd hm (fun hm => ?_) (fun hm => ?_))
    ·obtain ⟨r8, h12, hm⟩ := obind hm
     obtain ⟨r9, h13, hm⟩ := obind hm
     obtain ⟨e4, h14, hm⟩ := obind hm
     refine de G [(6, [0]), (8, [0]), (11, [49])] (hO 5 (.dn (Enc.e e) (e.Stops.length : Int)) (hP (idx_m2 (f := Enc.e) h2) (hP (len_m Enc.e e.Stops) (hC 6 (s_l1Cur_pick_c h12) (hC 8 (s_l1Cur_pick_c h13) (hE 10 h2 (hP (idx_b (f := Enc.e) h14) (hO 11 (.sd2 (Enc.e e) (Enc.e e4) (List.map Enc.e (e.Stops.set r8.1.toNat (w64 (r9.1 - 1)))) (List.map Enc.e (r.1.Lines.set r1.1.toNat (⟨e.Name, (e.Stops.set r8.1.toNat (w64 (r9.1 - 1))), e.Runs⟩ : Line)))) (hP (idx_m2 (f := Enc.e) h2) (hP (idx_m2 (f := Enc.e) h14) (hP (set_m Enc.e e.Stops r8.1.toNat (w64 (r9.1 - 1))) (hP (set_m Enc.e r.1.Lines r1.1.toNat (⟨e.Name, (e.Stops.set r8.1.toNat (w64 (r9.1 - 1))), e.Runs⟩ : Line)) h0)))))))))))) ?_
     exact ibN (wFp hm (Wk.trans (Wk_S (.c 272 2) (Enc.e (⟨e.Name, (e.Stops.set r8.1.toNat (w64 (r9.1 - 1))), e.Runs⟩ : Line)) (.cons (idx_m2 (f := Enc.e) (l := (r.1.Lines.set r1.1.toNat (⟨e.Name, (e.Stops.set r8.1.toNat (w64 (r9.1 - 1))), e.Runs⟩ : Line))) (i := r1.1) (idx_set (y := (⟨e.Name, (e.Stops.set r8.1.toNat (w64 (r9.1 - 1))), e.Runs⟩ : Line)) h2)) .nil) (by kernel_rfl)) (Wk_J G.hL ⟨[(0, []), (2, []), (3, []), (4, []), (5, [])], [(0, 0, []), (32, 16, []), (48, 64, []), (64, 272, []), (80, 48, []), (96, 49, []), (112, 624, [])], [], 144⟩ (by kernel_rfl))))
    ·refine rg G (cd hm (fun hm => ?_) (fun hm => ?_))
     ·obtain ⟨r12, h18, hm⟩ := obind hm
      obtain ⟨r13, h19, hm⟩ := obind hm
      obtain ⟨e6, h20, hm⟩ := obind hm
      refine de G [(6, [0]), (9, [0, 592]), (11, [49])] (hO 5 (.dn (Enc.e e) (e.Runs.length : Int)) (hP (idx_m2 (f := Enc.e) h2) (hP (len_m Enc.e e.Runs) (hC 6 (s_l1Cur_pick_c h18) (hC 9 (s_l1Cur_among_w_c h19) (hE 10 h2 (hP (idx_b (f := Enc.e) h20) (hO 11 (.sd2 (Enc.e e) (Enc.e e6) (List.map Enc.e (e.Runs.set r12.1.toNat r13.1)) (List.map Enc.e (r.1.Lines.set r1.1.toNat (⟨e.Name, e.Stops, (e.Runs.set r12.1.toNat r13.1)⟩ : Line)))) (hP (idx_m2 (f := Enc.e) h2) (hP (idx_m2 (f := Enc.e) h20) (hP (set_m Enc.e e.Runs r12.1.toNat r13.1) (hP (set_m Enc.e r.1.Lines r1.1.toNat (⟨e.Name, e.Stops, (e.Runs.set r12.1.toNat r13.1)⟩ : Line)) h0)))))))))))) ?_
      exact ibN (wFp hm (Wk.trans (Wk_S (.c 272 2) (Enc.e (⟨e.Name, e.Stops, (e.Runs.set r12.1.toNat r13.1)⟩ : Line)) (.cons (idx_m2 (f := Enc.e) (l := (r.1.Lines.set r1.1.toNat (⟨e.Name, e.Stops, (e.Runs.set r12.1.toNat r13.1)⟩ : Line))) (i := r1.1) (idx_set (y := (⟨e.Name, e.Stops, (e.Runs.set r12.1.toNat r13.1)⟩ : Line)) h2)) .nil) (by kernel_rfl)) (Wk_J G.hL ⟨[(0, []), (2, []), (3, []), (4, []), (5, [])], [(0, 0, []), (32, 16, []), (48, 64, []), (64, 272, []), (80, 48, []), (96, 49, []), (112, 656, [])], [], 144⟩ (by kernel_rfl))))
     ·refine rg G (cd hm (fun hm => ?_) (fun hm => ?_))
      ·obtain ⟨u, h21, hm⟩ := obind hm
       refine re G (hO 3 (.sd (Enc.e e) (List.map Enc.e (e.Runs ++ ([3] : List Int)))) (hP (idx_m2 (f := Enc.e) h2) (hP (app_p (f := Enc.e) (g := Enc.e) (l := e.Runs) (r := ([3] : List Int)) (b := 8) (chk_t h21) rfl) (hP (app_m Enc.e e.Runs ([3] : List Int)) h0)))) ?_
       exact ibN (wF G hm)
      ·refine rg G (cd hm (fun hm => ?_) (fun hm => ?_))
       ·refine rg G (rg G ?_)
        have hm := eR hm hr
        cases hm
        exact rt [48] []
       ·refine rg G (cd hm (fun hm => ?_) (fun hm => ?_))
        ·refine Ok_seq (rg G (tl hm (fun (v13, v14, v15, v16) => ⟨[(0, .ref 0 0), (2, .ref 32 0), (3, .ref 48 0)], [bX 0 [dV v13, dV v14, kV .u64 v15], bX 32 [.dat (.sc (.slice none 0 0)), .dat (.sc (.slice none 0 0))], bX 48 [.own 64, .own 80], aX 64 9 r.1.Stops, tX 80 80 [none, some 3, some 3] v16 80 none], 112⟩) (fun vv hm => ?_) ?_))
         ·refine Ok_block (lp G hm (fun (v7, v8, v9, v10, v11) => ⟨[(0, .ref 0 0), (2, .ref 32 0), (3, .ref 48 0), (6, dV v7)], [bX 0 [dV v8, dV v9, kV .u64 v10], bX 32 [.dat (.sc (.slice none 0 0)), .dat (.sc (.slice none 0 0))], bX 48 [.own 64, .own 80], aX 64 9 r.1.Stops, tX 80 80 [none, some 3, some 3] v11 80 none], 112⟩) ?_)
          rintro ⟨v7, v8, v9, v10, v11⟩ r0 hb hm
          rw [s_l1Cur_anyNetwork_L1] at hm
          refine Ok_seq ?_
          obtain ⟨r16, h23, hm⟩ := obind hm
          refine jn hm (fun v12 => ⟨[(0, .ref 0 0), (2, .ref 32 0), (3, .ref 48 0), (6, dV v7), (85, dV v12)], [bX 0 [dV r16.2.code_, dV r16.2.at_, kV .u64 r16.2.seed_.v], bX 32 [.dat (.sc (.slice none 0 0)), .dat (.sc (.slice none 0 0))], bX 48 [.own 64, .own 80], aX 64 9 r.1.Stops, tX 80 80 [none, some 3, some 3] v11 80 none], 112⟩) (fun v12 hm => ?_) ?_
          ·rcases bf hm with ⟨hb1, hm⟩ | ⟨hb1, hm⟩
           ·refine de G [(4, [0])] (hN 2 v11 (hC 4 (s_l1Cur_pick_c h23) (hO 7 (.b true) (hP hb1 h0)))) ?_
            exact wJ G hm
           ·refine de G [(4, [0])] (hN 2 v11 (hC 4 (s_l1Cur_pick_c h23) (hO 7 (.b false) (hP hb1 h0)))) ?_
            exact wJ G hm
          rintro v12 hm
          refine cd hm (fun hm => ?_) (fun hm => ?_)
          ·refine X_skip (thN (Ok_seq (Ok_block ?_)))
           obtain ⟨r19, h28, hm⟩ := obind hm
           obtain ⟨u3, h29, hm⟩ := obind hm
           obtain ⟨r20, h30, hm⟩ := obind hm
           obtain ⟨u4, h31, hm⟩ := obind hm
           refine de G [(9, [0]), (10, [256, 257]), (11, [80, 272]), (13, [48, 288])] (hC 4 (s_l1Num_c h28) (hP (cat_p (chk_t h29)) (hN 8 r.1.Stops (hC 9 (s_l1Cur_line_c h30) (hP (nodupB_ok (l := [256, 257]) rfl) (hA 11 64 h31 h0)))))) ?_
           exact ibN (thN (rh G (wL G hm)))
          ·exact Ok_exit (thE (thE (ibE (wD G hm hb))))
         rintro ⟨v13, v14, v15, v16⟩ hm s hw
         refine thN (Ok_weak hw ?_)
         refine rg G ?_
         have hm := eR hm hr
         cases hm
         exact rt [64] []
        ·exact X_skip (ibN (wFp hm (Wk.trans (Wk_S (.c 272 2) (Enc.e e) (.cons (idx_m2 (f := Enc.e) (l := r.1.Lines) (i := r1.1) h2) .nil) (by kernel_rfl)) (Wk_J G.hL ⟨[(0, []), (2, []), (3, []), (4, []), (5, [])], [(0, 0, []), (32, 16, []), (48, 64, []), (64, 272, []), (80, 48, []), (96, 49, []), (112, 560, [])], [], 144⟩ (by kernel_rfl)))))
 rintro ⟨v, v1, v2, v3, v4, v5, v6⟩ hm
 obtain ⟨e9, h32, hm⟩ := obind hm
 refine rs G (hD 4 h32 (hS 5 h32 (⟨v3, e9.Stops, v6⟩ : Line) (hP (Eq.refl r1.1.toNat) (hP (Eq.refl r1.1.toNat) h0)))) ?_
 refine rg G ?_
 cases hm
 exact rt [80] []
noncomputable def s_l1Cur_anyTimetable_M : MS l1Cur (Timetable × l1Cur) := ⟨.b, s_l1Cur_anyTimetable, fun y => .aggv [.own 0, dV y.1.Network.Lines, .own 1], fun y => [arO 9 y.1.Network.Stops, arO 107 y.1.Trips], fun _ y => [bxO y.2]⟩
theorem s_l1Cur_anyTimetable_c {c y} (hm : s_l1Cur_anyTimetable c = some y) : s_l1Cur_anyTimetable_M.C c y := s_l1Cur_anyTimetable_M.c c hm
theorem s_l1Cur_anyTimetable_ok : FnOK Try.prog 45 s_l1Cur_anyTimetable_M.S := by
 refine fm tt s_l1Cur_anyTimetable_M [fo s_l1Cur_timetable_ok, fo s_l1Cur_pick_ok, fo s_l1Cur_among_ok, fo s_l1Cur_anyNetwork_ok] Try.call45 Try.func45 rfl Try.results45 Try.ntmps45 ?_
 rintro c y cx G hm
 have hm : s_l1Cur_anyTimetable c = some y := hm
 unfold s_l1Cur_anyTimetable at hm
 refine rg G ?_
 obtain ⟨r, h, hm⟩ := obind hm
 refine rs G (hC 1 (s_l1Cur_timetable_c h) h0) ?_
 refine Ok_seq (rs G (hN 2 r.1.Trips h0) ?_)
 refine cd hm (fun hm => ?_) (fun hm => ?_)
 ·refine rg G ?_
  cases hm
  exact rt [48, 50] []
 ·refine X_skip (thN ?_)
  obtain ⟨r1, h1, hm⟩ := obind hm
  refine rs G (hN 3 r.1.Trips (hC 4 (s_l1Cur_pick_c h1) h0)) ?_
  obtain ⟨e, h2, hm⟩ := obind hm
  refine rs G (hD 3 h2 (hE 4 h2 h0)) ?_
  refine jF hm (fun (v, v1, v2, v3, v4, v5, v6, v7) => ⟨[(0, .ref 0 0), (2, .ref 32 0), (3, .ref 48 0), (4, dV r1.1), (5, .ref 64 0)], [bX 0 [dV v, dV v1, kV .u64 v2], bX 32 [.dat (.sc (.slice none 0 0)), .dat (.sc (.slice none 0 0)), .dat (.sc (.slice none 0 0))], bX 48 [.own 80, dV v3, .own 96], bX 64 [dV v4, dV v5, dV v6], aX 80 9 v7, aX 96 107 r.1.Trips], 128⟩) (fun v18 hr hm => ?_) ?_
  ·obtain ⟨r2, h3, hm⟩ := obind hm
   refine rs G (hC 1 (s_l1Cur_pick_c h3) h0) ?_
   refine Ok_block (rg G (cd hm (fun hm => ?_) (fun hm => ?_)))
   ·obtain ⟨r3, h4, hm⟩ := obind hm
    refine re G (hO 2 (.fz [448] [] []) (hC 2 (s_l1Cur_among_c h4) h0)) ?_
    exact ibN (wF G hm)
   ·refine rg G (cd hm (fun hm => ?_) (fun hm => ?_))
    ·obtain ⟨r4, h5, hm⟩ := obind hm
     refine re G (hC 1 (s_l1Cur_pick_c h5) h0) ?_
     exact ibN (wF G hm)
    ·refine rg G (cd hm (fun hm => ?_) (fun hm => ?_))
     ·obtain ⟨r5, h6, hm⟩ := obind hm
      refine re G (hO 2 (.fz [512] [] []) (hC 2 (s_l1Cur_among_c h6) h0)) ?_
      exact ibN (wF G hm)
     ·refine rg G (cd hm (fun hm => ?_) (fun hm => ?_))
      ·obtain ⟨r6, h7, hm⟩ := obind hm
       refine re G (hC 1 (s_l1Cur_anyNetwork_c h7) h0) ?_
       exact ibN (wF G hm)
      ·refine rg G (cd hm (fun hm => ?_) (fun hm => ?_))
       ·refine Ok_seq (rg G (tl hm (fun (v14, v15, v16, v17) => ⟨[(0, .ref 0 0), (2, .ref 32 0), (3, .ref 48 0)], [bX 0 [dV v14, dV v15, kV .u64 v16], bX 32 [.dat (.sc (.slice none 0 0)), .dat (.sc (.slice none 0 0)), .dat (.sc (.slice none 0 0))], bX 48 [.own 64, .own 80, .own 96], aX 64 9 r.1.Network.Stops, aX 80 80 r.1.Network.Lines, aX 96 107 v17], 128⟩) (fun vv hm => ?_) ?_))
        ·refine Ok_block (lp G hm (fun (v8, v9, v10, v11, v12) => ⟨[(0, .ref 0 0), (2, .ref 32 0), (3, .ref 48 0), (6, dV v8)], [bX 0 [dV v9, dV v10, kV .u64 v11], bX 32 [.dat (.sc (.slice none 0 0)), .dat (.sc (.slice none 0 0)), .dat (.sc (.slice none 0 0))], bX 48 [.own 64, .own 80, .own 96], aX 64 9 r.1.Network.Stops, aX 80 80 r.1.Network.Lines, aX 96 107 v12], 128⟩) ?_)
         rintro ⟨v8, v9, v10, v11, v12⟩ r0 hb hm
         rw [s_l1Cur_anyTimetable_L1] at hm
         refine Ok_seq ?_
         obtain ⟨r8, h9, hm⟩ := obind hm
         refine jn hm (fun v13 => ⟨[(0, .ref 0 0), (2, .ref 32 0), (3, .ref 48 0), (6, dV v8), (61, dV v13)], [bX 0 [dV r8.2.code_, dV r8.2.at_, kV .u64 r8.2.seed_.v], bX 32 [.dat (.sc (.slice none 0 0)), .dat (.sc (.slice none 0 0)), .dat (.sc (.slice none 0 0))], bX 48 [.own 64, .own 80, .own 96], aX 64 9 r.1.Network.Stops, aX 80 80 r.1.Network.Lines, aX 96 107 v12], 128⟩) (fun v13 hm => ?_) ?_
         ·rcases bf hm with ⟨hb1, hm⟩ | ⟨hb1, hm⟩
          ·refine de G [(4, [0])] (hN 2 v12 (hC 4 (s_l1Cur_pick_c h9) (hO 7 (.b true) (hP hb1 h0)))) ?_
           exact wJ G hm
          ·refine de G [(4, [0])] (hN 2 v12 (hC 4 (s_l1Cur_pick_c h9) (hO 7 (.b false) (hP hb1 h0)))) ?_
           exact wJ G hm
         rintro v13 hm
         refine cd hm (fun hm => ?_) (fun hm => ?_)
         ·refine X_skip (thN (Ok_seq (Ok_block ?_)))
          obtain ⟨u, h10, hm⟩ := obind hm
          refine re G (hA 8 24 h10 h0) ?_
          exact ibN (thN (rh G (wL G hm)))
         ·exact Ok_exit (thE (thE (ibE (wD G hm hb))))
        rintro ⟨v14, v15, v16, v17⟩ hm s hw
        refine thN (Ok_weak hw ?_)
        refine rg G ?_
        have hm := eR hm hr
        cases hm
        exact rt [64, 96] []
       ·exact X_skip (ibN (wF G hm))
  rintro ⟨v, v1, v2, v3, v4, v5, v6, v7⟩ hm
  obtain ⟨e2, h11, hm⟩ := obind hm
  refine rs G (hD 4 h11 (hS 5 h11 (⟨v4, v5, v6⟩ : Trip) h0)) ?_
  refine rg G ?_
  cases hm
  exact rt [80, 96] []
noncomputable def s_l1Cur_time_M : MS l1Cur (Int × l1Cur) := ⟨.b, s_l1Cur_time, fun y => dV y.1, fun _ => [], fun _ y => [bxO y.2]⟩
theorem s_l1Cur_time_c {c y} (hm : s_l1Cur_time c = some y) : s_l1Cur_time_M.C c y := s_l1Cur_time_M.c c hm
theorem s_l1Cur_time_ok : FnOK Try.prog 121 s_l1Cur_time_M.S := by
 refine fm tt s_l1Cur_time_M [fo s_l1Cur_one_ok, fo s_l1Cur_among_ok, fo s_l1Cur_pick_ok] Try.call121 Try.func121 rfl Try.results121 Try.ntmps121 ?_
 rintro c y cx G hm
 have hm : s_l1Cur_time c = some y := hm
 unfold s_l1Cur_time at hm
 refine rg G (Ok_seq ?_)
 obtain ⟨r, h, hm⟩ := obind hm
 refine rs G (hC 1 (s_l1Cur_one_c h) h0) ?_
 refine cd hm (fun hm => ?_) (fun hm => ?_)
 ·obtain ⟨r1, h1, hm⟩ := obind hm
  refine rs G (hO 2 (.fz [80] [] []) (hC 2 (s_l1Cur_among_c h1) h0)) ?_
  cases hm
  exact rt [] []
 ·refine X_skip (thN ?_)
  obtain ⟨r2, h2, hm⟩ := obind hm
  refine rs G (hC 1 (s_l1Cur_pick_c h2) h0) ?_
  cases hm
  exact rt [] []
noncomputable def s_l1Cur_now23_M : MS (l1Cur × Timetable) (Int × l1Cur) := ⟨.x .b .r, fun x => s_l1Cur_now23 x.1 x.2, fun y => dV y.1, fun _ => [], fun _ y => [bxO y.2]⟩
theorem s_l1Cur_now23_c {c t y} (hm : s_l1Cur_now23 c t = some y) : s_l1Cur_now23_M.C (c, t) y := s_l1Cur_now23_M.c (c, t) hm
theorem s_l1Cur_now23_ok : FnOK Try.prog 64 s_l1Cur_now23_M.S := by
 refine fm tt s_l1Cur_now23_M [fo s_l1Cur_one_ok, fo s_l1Cur_pick_ok, fo s_l1Cur_time_ok] Try.call64 Try.func64 rfl Try.results64 Try.ntmps64 ?_
 rintro ⟨c, t⟩ y cx G hm
 have hm : s_l1Cur_now23 c t = some y := hm
 unfold s_l1Cur_now23 at hm
 refine rg G (Ok_seq (jn hm (fun (v, v1, v2, v3) => ⟨[(0, .ref 0 0), (3, .ref 32 0), (13, dV v)], [bX 0 [dV v1, dV v2, kV .u64 v3], bX 32 [dV t.Network.Stops, dV t.Network.Lines, dV t.Trips]], 64⟩) (fun vv hm => ?_) ?_))
 ·rcases bf hm with ⟨hb, hm⟩ | ⟨hb, hm⟩
  ·obtain ⟨r, h, hm⟩ := obind hm
   refine re G (hN 2 t.Trips (hO 4 (.b true) (hP hb (hC 6 (s_l1Cur_one_c h) h0)))) ?_
   exact wJ G hm
  ·refine re G (hN 2 t.Trips (hO 4 (.b false) (hP hb h0))) ?_
   exact wJ G hm
 rintro ⟨v, v1, v2, v3⟩ hm
 refine cd hm (fun hm => ?_) (fun hm => ?_)
 ·obtain ⟨r3, h4, hm⟩ := obind hm
  obtain ⟨e1, h5, hm⟩ := obind hm
  obtain ⟨r4, h6, hm⟩ := obind hm
  refine ds G [(6, [0]), (11, [0])] (hN 5 t.Trips (hC 6 (s_l1Cur_pick_c h4) (hD 7 h5 (hC 11 (s_l1Cur_pick_c h6) h0)))) ?_
  cases hm
  exact rt [] []
 ·refine X_skip (thN ?_)
  obtain ⟨r5, h7, hm⟩ := obind hm
  refine rs G (hC 1 (s_l1Cur_time_c h7) h0) ?_
  cases hm
  exact rt [] []
noncomputable def s_l1In_M : MS (Int × Int × Int) Bool := ⟨.x .r (.x .r .r), fun x => s_l1In x.1 x.2.1 x.2.2, fun y => dV y, fun _ => [], fun _ _ => []⟩
theorem s_l1In_c {x a b y} (hm : s_l1In x a b = some y) : s_l1In_M.C (x, a, b) y := s_l1In_M.c (x, a, b) hm
theorem s_l1In_ok : FnOK Try.prog 57 s_l1In_M.S := by
 refine fm tt s_l1In_M [] Try.call57 Try.func57 rfl Try.results57 Try.ntmps57 ?_
 rintro ⟨x, a, b⟩ y cx G hm
 have hm : s_l1In x a b = some y := hm
 unfold s_l1In at hm
 refine rg G (jn hm (fun v => ⟨[(6, dV v)], [], 32⟩) (fun v hm => ?_) ?_)
 ·rcases bf hm with ⟨hb, hm⟩ | ⟨hb, hm⟩
  ·refine re G (hO 3 (.b true) (hP hb h0)) ?_
   exact wJ G hm
  ·refine re G (hO 3 (.b false) (hP hb h0)) ?_
   exact wJ G hm
 rintro v hm
 cases hm
 exact rt [] []
noncomputable def s_l2Name_M : MS ByteArray Bool := ⟨.r, s_l2Name, fun y => dV y, fun _ => [], fun _ _ => []⟩
theorem s_l2Name_c {s y} (hm : s_l2Name s = some y) : s_l2Name_M.C s y := s_l2Name_M.c s hm
theorem s_l2Name_ok : FnOK Try.prog 139 s_l2Name_M.S := by
 refine fm tt s_l2Name_M [fo s_l1In_ok] Try.call139 Try.func139 rfl Try.results139 Try.ntmps139 ?_
 rintro s y cx G hm
 have hm : s_l2Name s = some y := hm
 unfold s_l2Name at hm
 refine rg G (Ok_seq ?_)
 obtain ⟨r, h, hm⟩ := obind hm
 refine jn hm (fun v => ⟨[(0, dV s), (17, dV v)], [], 32⟩) (fun v hm => ?_) ?_
 ·rcases bf hm with ⟨hb, hm⟩ | ⟨hb, hm⟩
  ·refine re G (hC 2 (s_l1In_c h) (hO 4 (.b true) (hP hb h0))) ?_
   exact wJ G hm
  ·obtain ⟨u, h1, hm⟩ := obind hm
   rcases bf hm with ⟨hb1, hm⟩ | ⟨hb1, hm⟩
   ·refine re G (hC 2 (s_l1In_c h) (hO 4 (.b false) (hP hb (hK h1 (hO 9 (.b true) (hP hb1 h0)))))) ?_
    exact wJ G hm
   ·obtain ⟨u1, h2, hm⟩ := obind hm
    refine re G (hC 2 (s_l1In_c h) (hO 4 (.b false) (hP hb (hK h1 (hO 9 (.b false) (hP hb1 (hK h2 h0))))))) ?_
    exact wJ G hm
 rintro v hm
 refine cd hm (fun hm => ?_) (fun hm => ?_)
 ·refine rg G ?_
  cases hm
  exact rt [] []
 ·refine X_skip (thN (Ok_seq (rg G (tF hm (fun _ => ⟨[], [], 32⟩) (fun v3 hr hm => ?_) ?_))))
  ·refine Ok_block (lp G hm (fun v1 => ⟨[(0, dV s), (3, dV v1)], [], 32⟩) ?_)
   rintro v1 r0 hb2 hm
   rw [s_l2Name_L1] at hm
   refine Ok_seq (rg G (cd hm (fun hm => ?_) (fun hm => ?_)))
   ·refine X_skip (thN (Ok_seq (Ok_block ?_)))
    obtain ⟨u2, h3, hm⟩ := obind hm
    refine jn hm (fun v2 => ⟨[(0, dV s), (3, dV v1), (45, dV v2)], [], 32⟩) (fun v2 hm => ?_) ?_
    ·rcases bf hm with ⟨hb3, hm⟩ | ⟨hb3, hm⟩
     ·obtain ⟨u3, h4, hm⟩ := obind hm
      rcases bf hm with ⟨hb4, hm⟩ | ⟨hb4, hm⟩
      ·refine re G (hK h3 (hO 4 (.b true) (hP hb3 (hK h4 (hO 15 (.b true) (hP hb4 h0)))))) ?_
       exact wJ G hm
      ·obtain ⟨u4, h5, hm⟩ := obind hm
       refine re G (hK h3 (hO 4 (.b true) (hP hb3 (hK h4 (hO 15 (.b false) (hP hb4 (hK h5 h0))))))) ?_
       exact wJ G hm
     ·obtain ⟨u5, h6, hm⟩ := obind hm
      rcases bf hm with ⟨hb5, hm⟩ | ⟨hb5, hm⟩
      ·obtain ⟨u6, h7, hm⟩ := obind hm
       rcases bf hm with ⟨hb6, hm⟩ | ⟨hb6, hm⟩
       ·refine re G (hK h3 (hO 4 (.b false) (hP hb3 (hK h6 (hO 10 (.b true) (hP hb5 (hK h7 (hO 15 (.b true) (hP hb6 h0))))))))) ?_
        exact wJ G hm
       ·obtain ⟨u7, h8, hm⟩ := obind hm
        refine re G (hK h3 (hO 4 (.b false) (hP hb3 (hK h6 (hO 10 (.b true) (hP hb5 (hK h7 (hO 15 (.b false) (hP hb6 (hK h8 h0)))))))))) ?_
        exact wJ G hm
      ·refine re G (hK h3 (hO 4 (.b false) (hP hb3 (hK h6 (hO 10 (.b false) (hP hb5 h0)))))) ?_
       exact wJ G hm
    rintro v2 hm
    refine cd hm (fun hm => ?_) (fun hm => ?_)
    ·refine rg G ?_
     have hm := eL hm hb2 hr
     cases hm
     exact rt [] []
    ·exact X_skip (ibN (thN (rh G (wL G hm))))
   ·exact Ok_exit (thE (thE (ibE (wE G hm hb2))))
  rintro ⟨⟩ hm s1 hw
  refine thN (Ok_weak hw ?_)
  refine rg G ?_
  cases hm
  exact rt [] []
noncomputable def s_l2Find_M : MS ((List ByteArray) × ByteArray) Int := ⟨.x .r .r, fun x => s_l2Find x.1 x.2, fun y => dV y, fun _ => [], fun _ _ => []⟩
theorem s_l2Find_c {list name y} (hm : s_l2Find list name = some y) : s_l2Find_M.C (list, name) y := s_l2Find_M.c (list, name) hm
theorem s_l2Find_ok : FnOK Try.prog 140 s_l2Find_M.S := by
 refine fm tt s_l2Find_M [] Try.call140 Try.func140 rfl Try.results140 Try.ntmps140 ?_
 rintro ⟨list, name⟩ y cx G hm
 have hm : s_l2Find list name = some y := hm
 unfold s_l2Find at hm
 refine rg G (Ok_seq (rg G (tF hm (fun _ => ⟨[], [], 32⟩) (fun v1 hr hm => ?_) ?_)))
 ·refine Ok_block (lp G hm (fun v => ⟨[(0, dV list), (1, dV name), (5, dV v)], [], 32⟩) ?_)
  rintro v r0 hb hm
  rw [s_l2Find_L1] at hm
  refine Ok_seq (rs G (hN 2 list h0) ?_)
  refine cd hm (fun hm => ?_) (fun hm => ?_)
  ·refine X_skip (thN (Ok_seq (Ok_block ?_)))
   obtain ⟨e, h, hm⟩ := obind hm
   refine rs G (hD 2 h h0) ?_
   refine cd hm (fun hm => ?_) (fun hm => ?_)
   ·refine rg G ?_
    have hm := eL hm hb hr
    cases hm
    exact rt [] []
   ·exact X_skip (ibN (thN (rh G (wL G hm))))
  ·exact Ok_exit (thE (thE (ibE (wE G hm hb))))
 rintro ⟨⟩ hm s hw
 refine thN (Ok_weak hw ?_)
 refine rg G ?_
 cases hm
 exact rt [] []
noncomputable def s_l2Line_M : MS (Line × Int) Bool := ⟨.x .r .r, fun x => s_l2Line x.1 x.2, fun y => dV y, fun _ => [], fun _ _ => []⟩
theorem s_l2Line_c {x stops y} (hm : s_l2Line x stops = some y) : s_l2Line_M.C (x, stops) y := s_l2Line_M.c (x, stops) hm
theorem s_l2Line_ok : FnOK Try.prog 141 s_l2Line_M.S := by
 refine fm tt s_l2Line_M [fo s_l2Name_ok, fo s_l1In_ok, fo s_l2Place_ok] Try.call141 Try.func141 rfl Try.results141 Try.ntmps141 ?_
 rintro ⟨x, stops⟩ y cx G hm
 have hm : s_l2Line x stops = some y := hm
 unfold s_l2Line at hm
 refine rg G (Ok_seq ?_)
 obtain ⟨r, h, hm⟩ := obind hm
 refine jn hm (fun v => ⟨[(1, dV stops), (2, .ref 16 0), (27, dV v)], [bX 16 [dV x.Name, dV x.Stops, dV x.Runs]], 48⟩) (fun v hm => ?_) ?_
 ·rcases bf hm with ⟨hb, hm⟩ | ⟨hb, hm⟩
  ·refine re G (hC 2 (s_l2Name_c h) (hO 4 (.b true) (hP hb h0))) ?_
   exact wJ G hm
  ·obtain ⟨r1, h1, hm⟩ := obind hm
   rcases bf hm with ⟨hb1, hm⟩ | ⟨hb1, hm⟩
   ·refine re G (hC 2 (s_l2Name_c h) (hO 4 (.b false) (hP hb (hN 7 x.Stops (hC 8 (s_l1In_c h1) (hO 11 (.b true) (hP hb1 h0))))))) ?_
    exact wJ G hm
   ·refine re G (hC 2 (s_l2Name_c h) (hO 4 (.b false) (hP hb (hN 7 x.Stops (hC 8 (s_l1In_c h1) (hO 11 (.b false) (hP hb1 (hN 14 x.Runs (hN 17 x.Stops h0))))))))) ?_
    exact wJ G hm
 rintro v hm
 refine cd hm (fun hm => ?_) (fun hm => ?_)
 ·refine rg G ?_
  cases hm
  exact rt [] []
 ·refine X_skip (thN (Ok_seq (rg G (tF hm (fun _ => ⟨[(2, .ref 16 0)], [bX 16 [dV x.Name, dV x.Stops, dV x.Runs]], 48⟩) (fun v5 hr hm => ?_) ?_))))
  ·refine Ok_block (lp G hm (fun v1 => ⟨[(1, dV stops), (2, .ref 16 0), (5, dV v1)], [bX 16 [dV x.Name, dV x.Stops, dV x.Runs]], 48⟩) ?_)
   rintro v1 r0 hb2 hm
   rw [s_l2Line_L1] at hm
   refine Ok_seq (rs G (hN 3 x.Stops h0) ?_)
   refine cd hm (fun hm => ?_) (fun hm => ?_)
   ·refine X_skip (thN (Ok_seq (Ok_block ?_)))
    obtain ⟨e2, h6, hm⟩ := obind hm
    obtain ⟨r4, h7, hm⟩ := obind hm
    refine jn hm (fun v2 => ⟨[(1, dV stops), (2, .ref 16 0), (5, dV v1), (54, dV v2)], [bX 16 [dV x.Name, dV x.Stops, dV x.Runs]], 48⟩) (fun v2 hm => ?_) ?_
    ·rcases bf hm with ⟨hb3, hm⟩ | ⟨hb3, hm⟩
     ·refine de G [] (hD 3 h6 (hC 7 (s_l1In_c h7) (hO 9 (.b true) (hP hb3 h0)))) ?_
      exact wJ G hm
     ·obtain ⟨e3, h8, hm⟩ := obind hm
      obtain ⟨r5, h9, hm⟩ := obind hm
      refine de G [] (hD 3 h6 (hC 7 (s_l1In_c h7) (hO 9 (.b false) (hP hb3 (hD 14 h8 (hC 16 (s_l2Place_c h9) h0)))))) ?_
      exact wJ G hm
    rintro v2 hm
    refine cd hm (fun hm => ?_) (fun hm => ?_)
    ·refine rg G ?_
     have hm := eL hm hb2 hr
     cases hm
     exact rt [] []
    ·exact X_skip (ibN (thN (rh G (wL G hm))))
   ·exact Ok_exit (thE (thE (ibE (wE G hm hb2))))
  rintro ⟨⟩ hm s hw
  refine thN (Ok_weak hw ?_)
  refine Ok_seq (rg G (tF hm (fun _ => ⟨[], [], 32⟩) (fun v4 hr1 hm => ?_) ?_))
  ·refine Ok_block (lp G hm (fun v3 => ⟨[(2, .ref 16 0), (6, dV v3)], [bX 16 [dV x.Name, dV x.Stops, dV x.Runs]], 48⟩) ?_)
   rintro v3 r0 hb4 hm
   rw [s_l2Line_L2] at hm
   refine Ok_seq (rs G (hN 3 x.Runs h0) ?_)
   refine cd hm (fun hm => ?_) (fun hm => ?_)
   ·refine X_skip (thN (Ok_seq (Ok_block ?_)))
    obtain ⟨e5, h10, hm⟩ := obind hm
    obtain ⟨r7, h11, hm⟩ := obind hm
    refine rs G (hD 3 h10 (hC 5 (s_l1In_c h11) h0)) ?_
    refine cd hm (fun hm => ?_) (fun hm => ?_)
    ·refine rg G ?_
     have hm := eL hm hb4 hr1
     cases hm
     exact rt [] []
    ·exact X_skip (ibN (thN (rh G (wL G hm))))
   ·exact Ok_exit (thE (thE (ibE (wE G hm hb4))))
  rintro ⟨⟩ hm s1 hw1
  refine thN (Ok_weak hw1 ?_)
  refine rg G ?_
  cases hm
  exact rt [] []
noncomputable def s_l2LineNamed_M : MS (Network × ByteArray) Int := ⟨.x .r .r, fun x => s_l2LineNamed x.1 x.2, fun y => dV y, fun _ => [], fun _ _ => []⟩
theorem s_l2LineNamed_c {n name y} (hm : s_l2LineNamed n name = some y) : s_l2LineNamed_M.C (n, name) y := s_l2LineNamed_M.c (n, name) hm
theorem s_l2LineNamed_ok : FnOK Try.prog 142 s_l2LineNamed_M.S := by
 refine fm tt s_l2LineNamed_M [] Try.call142 Try.func142 rfl Try.results142 Try.ntmps142 ?_
 rintro ⟨n, name⟩ y cx G hm
 have hm : s_l2LineNamed n name = some y := hm
 unfold s_l2LineNamed at hm
 refine rg G (Ok_seq (rg G (tF hm (fun _ => ⟨[], [], 32⟩) (fun v1 hr hm => ?_) ?_)))
 ·refine Ok_block (lp G hm (fun v => ⟨[(1, dV name), (2, .ref 16 0), (5, dV v)], [bX 16 [dV n.Stops, dV n.Lines]], 48⟩) ?_)
  rintro v r0 hb hm
  rw [s_l2LineNamed_L1] at hm
  refine Ok_seq (rs G (hN 3 n.Lines h0) ?_)
  refine cd hm (fun hm => ?_) (fun hm => ?_)
  ·refine X_skip (thN (Ok_seq (Ok_block ?_)))
   obtain ⟨e, h, hm⟩ := obind hm
   refine rs G (hD 3 h h0) ?_
   refine cd hm (fun hm => ?_) (fun hm => ?_)
   ·refine rg G ?_
    have hm := eL hm hb hr
    cases hm
    exact rt [] []
   ·exact X_skip (ibN (thN (rh G (wL G hm))))
  ·exact Ok_exit (thE (thE (ibE (wE G hm hb))))
 rintro ⟨⟩ hm s hw
 refine thN (Ok_weak hw ?_)
 refine rg G ?_
 cases hm
 exact rt [] []
noncomputable def s_l2Good_M : MS Network Bool := ⟨.r, s_l2Good, fun y => dV y, fun _ => [], fun _ _ => []⟩
theorem s_l2Good_c {n y} (hm : s_l2Good n = some y) : s_l2Good_M.C n y := s_l2Good_M.c n hm
theorem s_l2Good_ok : FnOK Try.prog 107 s_l2Good_M.S := by
 refine fm tt s_l2Good_M [fo s_l1In_ok, fo s_l2Name_ok, fo s_l2Find_ok, fo s_l2Line_ok, fo s_l2LineNamed_ok] Try.call107 Try.func107 rfl Try.results107 Try.ntmps107 ?_
 rintro n y cx G hm
 have hm : s_l2Good n = some y := hm
 unfold s_l2Good at hm
 refine rg G (Ok_seq ?_)
 obtain ⟨r, h, hm⟩ := obind hm
 refine jn hm (fun v => ⟨[(1, .ref 16 0), (16, dV v)], [bX 16 [dV n.Stops, dV n.Lines]], 48⟩) (fun v hm => ?_) ?_
 ·rcases bf hm with ⟨hb, hm⟩ | ⟨hb, hm⟩
  ·refine re G (hN 2 n.Stops (hC 3 (s_l1In_c h) (hO 5 (.b true) (hP hb h0)))) ?_
   exact wJ G hm
  ·obtain ⟨r1, h1, hm⟩ := obind hm
   refine re G (hN 2 n.Stops (hC 3 (s_l1In_c h) (hO 5 (.b false) (hP hb (hN 8 n.Lines (hC 9 (s_l1In_c h1) h0)))))) ?_
   exact wJ G hm
 rintro v hm
 refine cd hm (fun hm => ?_) (fun hm => ?_)
 ·refine rg G ?_
  cases hm
  exact rt [] []
 ·refine X_skip (thN (Ok_seq (rg G (tF hm (fun _ => ⟨[(1, .ref 16 0)], [bX 16 [dV n.Stops, dV n.Lines]], 48⟩) (fun v5 hr hm => ?_) ?_))))
  ·refine Ok_block (lp G hm (fun i => ⟨[(1, .ref 16 0), (3, dV i)], [bX 16 [dV n.Stops, dV n.Lines]], 48⟩) ?_)
   rintro i r0 hb1 hm
   rw [s_l2Good_L1] at hm
   refine Ok_seq (rs G (hN 3 n.Stops h0) ?_)
   refine cd hm (fun hm => ?_) (fun hm => ?_)
   ·refine X_skip (thN (Ok_seq (Ok_block ?_)))
    obtain ⟨e2, h6, hm⟩ := obind hm
    obtain ⟨r4, h7, hm⟩ := obind hm
    refine jn hm (fun v1 => ⟨[(1, .ref 16 0), (3, dV i), (42, dV v1)], [bX 16 [dV n.Stops, dV n.Lines]], 48⟩) (fun v1 hm => ?_) ?_
    ·rcases bf hm with ⟨hb2, hm⟩ | ⟨hb2, hm⟩
     ·refine de G [] (hD 3 h6 (hC 5 (s_l2Name_c h7) (hO 7 (.b true) (hP hb2 h0)))) ?_
      exact wJ G hm
     ·obtain ⟨e3, h8, hm⟩ := obind hm
      obtain ⟨r5, h9, hm⟩ := obind hm
      refine de G [] (hD 3 h6 (hC 5 (s_l2Name_c h7) (hO 7 (.b false) (hP hb2 (hD 13 h8 (hC 15 (s_l2Find_c h9) h0)))))) ?_
      exact wJ G hm
    rintro v1 hm
    refine cd hm (fun hm => ?_) (fun hm => ?_)
    ·refine rg G ?_
     have hm := eL hm hb1 hr
     cases hm
     exact rt [] []
    ·exact X_skip (ibN (thN (rh G (wL G hm))))
   ·exact Ok_exit (thE (thE (ibE (wE G hm hb1))))
  rintro ⟨⟩ hm s hw
  refine thN (Ok_weak hw ?_)
  refine Ok_seq (rg G (tF hm (fun _ => ⟨[], [], 32⟩) (fun v4 hr1 hm => ?_) ?_))
  ·refine Ok_block (lp G hm (fun v2 => ⟨[(1, .ref 16 0), (4, dV v2)], [bX 16 [dV n.Stops, dV n.Lines]], 48⟩) ?_)
   rintro v2 r0 hb3 hm
   rw [s_l2Good_L2] at hm
   refine Ok_seq (rs G (hN 3 n.Lines h0) ?_)
   refine cd hm (fun hm => ?_) (fun hm => ?_)
   ·refine X_skip (thN (Ok_seq (Ok_block ?_)))
    obtain ⟨e7, h14, hm⟩ := obind hm
    obtain ⟨r9, h15, hm⟩ := obind hm
    refine jn hm (fun v3 => ⟨[(1, .ref 16 0), (4, dV v2), (71, dV v3)], [bX 16 [dV n.Stops, dV n.Lines]], 48⟩) (fun v3 hm => ?_) ?_
    ·rcases bf hm with ⟨hb4, hm⟩ | ⟨hb4, hm⟩
     ·refine de G [] (hD 3 h14 (hN 7 n.Stops (hC 8 (s_l2Line_c h15) (hO 10 (.b true) (hP hb4 h0))))) ?_
      exact wJ G hm
     ·obtain ⟨e8, h16, hm⟩ := obind hm
      obtain ⟨r10, h17, hm⟩ := obind hm
      refine de G [] (hD 3 h14 (hN 7 n.Stops (hC 8 (s_l2Line_c h15) (hO 10 (.b false) (hP hb4 (hD 15 h16 (hC 18 (s_l2LineNamed_c h17) h0))))))) ?_
      exact wJ G hm
    rintro v3 hm
    refine cd hm (fun hm => ?_) (fun hm => ?_)
    ·refine rg G ?_
     have hm := eL hm hb3 hr1
     cases hm
     exact rt [] []
    ·exact X_skip (ibN (thN (rh G (wL G hm))))
   ·exact Ok_exit (thE (thE (ibE (wE G hm hb3))))
  rintro ⟨⟩ hm s1 hw1
  refine thN (Ok_weak hw1 ?_)
  refine rg G ?_
  cases hm
  exact rt [] []
noncomputable def s_l4Time_M : MS Int Bool := ⟨.r, s_l4Time, fun y => dV y, fun _ => [], fun _ _ => []⟩
theorem s_l4Time_c {t y} (hm : s_l4Time t = some y) : s_l4Time_M.C t y := s_l4Time_M.c t hm
theorem s_l4Time_ok : FnOK Try.prog 72 s_l4Time_M.S := by
 refine fm tt s_l4Time_M [fo s_l1In_ok] Try.call72 Try.func72 rfl Try.results72 Try.ntmps72 ?_
 rintro t y cx G hm
 have hm : s_l4Time t = some y := hm
 unfold s_l4Time at hm
 refine rg G ?_
 obtain ⟨r, h, hm⟩ := obind hm
 refine rs G (hC 1 (s_l1In_c h) h0) ?_
 cases hm
 exact rt [] []
noncomputable def s_l5Line_M : MS (Timetable × Int) Line := ⟨.x .r .r, fun x => s_l5Line x.1 x.2, fun y => dV y, fun _ => [], fun _ _ => []⟩
theorem s_l5Line_c {t i y} (hm : s_l5Line t i = some y) : s_l5Line_M.C (t, i) y := s_l5Line_M.c (t, i) hm
theorem s_l5Line_ok : FnOK Try.prog 74 s_l5Line_M.S := by
 refine fm tt s_l5Line_M [] Try.call74 Try.func74 rfl Try.results74 Try.ntmps74 ?_
 rintro ⟨t, i⟩ y cx G hm
 have hm : s_l5Line t i = some y := hm
 unfold s_l5Line at hm
 refine rg G ?_
 obtain ⟨e2, h2, hm⟩ := obind hm
 obtain ⟨e3, h3, hm⟩ := obind hm
 refine ds G [(11, [32])] (hD 6 h2 (hD 9 h3 h0)) ?_
 cases hm
 exact rt [] []
noncomputable def s_l5Stops_M : MS (Timetable × Int) ((List Int)) := ⟨.x .r .r, fun x => s_l5Stops x.1 x.2, fun y => dV y, fun _ => [], fun _ _ => []⟩
theorem s_l5Stops_c {t i y} (hm : s_l5Stops t i = some y) : s_l5Stops_M.C (t, i) y := s_l5Stops_M.c (t, i) hm
theorem s_l5Stops_ok : FnOK Try.prog 120 s_l5Stops_M.S := by
 refine fm tt s_l5Stops_M [fo s_l5Line_ok] Try.call120 Try.func120 rfl Try.results120 Try.ntmps120 ?_
 rintro ⟨t, i⟩ y cx G hm
 have hm : s_l5Stops t i = some y := hm
 unfold s_l5Stops at hm
 refine rg G ?_
 obtain ⟨r, h, hm⟩ := obind hm
 refine rs G (hC 2 (s_l5Line_c h) h0) ?_
 cases hm
 exact rt [] []
noncomputable def s_l2Run_M : MS (Line × Int × Int) Int := ⟨.x .r (.x .r .r), fun x => s_l2Run x.1 x.2.1 x.2.2, fun y => dV y, fun _ => [], fun _ _ => []⟩
theorem s_l2Run_c {x from_ to y} (hm : s_l2Run x from_ to = some y) : s_l2Run_M.C (x, from_, to) y := s_l2Run_M.c (x, from_, to) hm
theorem s_l2Run_ok : FnOK Try.prog 100 s_l2Run_M.S := by
 refine fm tt s_l2Run_M [] Try.call100 Try.func100 rfl Try.results100 Try.ntmps100 ?_
 rintro ⟨x, from_, to⟩ y cx G hm
 have hm : s_l2Run x from_ to = some y := hm
 unfold s_l2Run at hm
 refine rg G (rg G (Ok_seq (rg G (tl hm (fun v2 => ⟨[(7, dV v2)], [], 32⟩) (fun v2 hm => ?_) ?_))))
 ·refine Ok_block (lp G hm (fun (v, v1) => ⟨[(2, dV to), (3, .ref 16 0), (7, dV v), (8, dV v1)], [bX 16 [dV x.Name, dV x.Stops, dV x.Runs]], 48⟩) ?_)
  rintro ⟨v, v1⟩ r0 hb hm
  rw [s_l2Run_L1] at hm
  refine Ok_seq (rg G (cd hm (fun hm => ?_) (fun hm => ?_)))
  ·refine X_skip (thN (Ok_seq (Ok_block ?_)))
   obtain ⟨e, h, hm⟩ := obind hm
   refine re G (hD 4 h h0) ?_
   exact ibN (thN (rh G (wL G hm)))
  ·exact Ok_exit (thE (thE (ibE (wD G hm hb))))
 rintro v2 hm s hw
 refine thN (Ok_weak hw ?_)
 refine rg G ?_
 cases hm
 exact rt [] []
noncomputable def s_l5At_M : MS (Timetable × Int × Int) Int := ⟨.x .r (.x .r .r), fun x => s_l5At x.1 x.2.1 x.2.2, fun y => dV y, fun _ => [], fun _ _ => []⟩
theorem s_l5At_c {t i k y} (hm : s_l5At t i k = some y) : s_l5At_M.C (t, i, k) y := s_l5At_M.c (t, i, k) hm
theorem s_l5At_ok : FnOK Try.prog 75 s_l5At_M.S := by
 refine fm tt s_l5At_M [fo s_l5Line_ok, fo s_l2Run_ok] Try.call75 Try.func75 rfl Try.results75 Try.ntmps75 ?_
 rintro ⟨t, i, k⟩ y cx G hm
 have hm : s_l5At t i k = some y := hm
 unfold s_l5At at hm
 refine rg G ?_
 obtain ⟨e1, h3, hm⟩ := obind hm
 obtain ⟨r2, h4, hm⟩ := obind hm
 obtain ⟨r3, h5, hm⟩ := obind hm
 refine ds G [] (hD 3 h3 (hC 8 (s_l5Line_c h4) (hC 10 (s_l2Run_c h5) h0))) ?_
 cases hm
 exact rt [] []
noncomputable def s_l5End_M : MS (Timetable × Int) Int := ⟨.x .r .r, fun x => s_l5End x.1 x.2, fun y => dV y, fun _ => [], fun _ _ => []⟩
theorem s_l5End_c {t i y} (hm : s_l5End t i = some y) : s_l5End_M.C (t, i) y := s_l5End_M.c (t, i) hm
theorem s_l5End_ok : FnOK Try.prog 138 s_l5End_M.S := by
 refine fm tt s_l5End_M [fo s_l5Stops_ok, fo s_l5At_ok] Try.call138 Try.func138 rfl Try.results138 Try.ntmps138 ?_
 rintro ⟨t, i⟩ y cx G hm
 have hm : s_l5End t i = some y := hm
 unfold s_l5End at hm
 refine rg G ?_
 obtain ⟨r2, h2, hm⟩ := obind hm
 obtain ⟨r3, h3, hm⟩ := obind hm
 refine ds G [] (hC 4 (s_l5Stops_c h2) (hN 5 r2 (hC 7 (s_l5At_c h3) h0))) ?_
 cases hm
 exact rt [] []
noncomputable def s_l5Good_M : MS Timetable Bool := ⟨.r, s_l5Good, fun y => dV y, fun _ => [], fun _ _ => []⟩
theorem s_l5Good_c {t y} (hm : s_l5Good t = some y) : s_l5Good_M.C t y := s_l5Good_M.c t hm
theorem s_l5Good_ok : FnOK Try.prog 103 s_l5Good_M.S := by
 refine fm tt s_l5Good_M [fo s_l2Good_ok, fo s_l1In_ok, fo s_l4Time_ok, fo s_l5End_ok] Try.call103 Try.func103 rfl Try.results103 Try.ntmps103 ?_
 rintro t y cx G hm
 have hm : s_l5Good t = some y := hm
 unfold s_l5Good at hm
 refine rg G (Ok_seq ?_)
 obtain ⟨r, h, hm⟩ := obind hm
 refine jn hm (fun v => ⟨[(1, .ref 16 0), (14, dV v)], [bX 16 [dV t.Network.Stops, dV t.Network.Lines, dV t.Trips]], 48⟩) (fun v hm => ?_) ?_
 ·rcases bf hm with ⟨hb, hm⟩ | ⟨hb, hm⟩
  ·refine re G (hC 2 (s_l2Good_c h) (hO 4 (.b true) (hP hb h0))) ?_
   exact wJ G hm
  ·refine re G (hC 2 (s_l2Good_c h) (hO 4 (.b false) (hP hb (hN 7 t.Trips h0)))) ?_
   exact wJ G hm
 rintro v hm
 refine cd hm (fun hm => ?_) (fun hm => ?_)
 ·refine rg G ?_
  cases hm
  exact rt [] []
 ·refine X_skip (thN (Ok_seq (rg G (tF hm (fun _ => ⟨[], [], 32⟩) (fun v2 hr hm => ?_) ?_))))
  ·refine Ok_block (lp G hm (fun x => ⟨[(1, .ref 16 0), (3, dV x)], [bX 16 [dV t.Network.Stops, dV t.Network.Lines, dV t.Trips]], 48⟩) ?_)
   rintro x r0 hb1 hm
   rw [s_l5Good_L1] at hm
   refine Ok_seq (rs G (hN 3 t.Trips h0) ?_)
   refine cd hm (fun hm => ?_) (fun hm => ?_)
   ·refine X_skip (thN (Ok_seq (Ok_block ?_)))
    obtain ⟨e, h1, hm⟩ := obind hm
    refine rs G (hD 3 h1 h0) ?_
    obtain ⟨r6, h8, hm⟩ := obind hm
    refine jn hm (fun v1 => ⟨[(1, .ref 16 0), (3, dV x), (70, dV v1)], [bX 16 [dV t.Network.Stops, dV t.Network.Lines, dV t.Trips]], 48⟩) (fun v1 hm => ?_) ?_
    ·rcases bf hm with ⟨hb2, hm⟩ | ⟨hb2, hm⟩
     ·refine de G [] (hC 2 (s_l1In_c h8) (hO 4 (.b true) (hP hb2 h0))) ?_
      exact wJ G hm
     ·obtain ⟨r7, h9, hm⟩ := obind hm
      rcases bf hm with ⟨hb3, hm⟩ | ⟨hb3, hm⟩
      ·refine de G [] (hC 2 (s_l1In_c h8) (hO 4 (.b false) (hP hb2 (hN 10 t.Network.Lines (hC 12 (s_l1In_c h9) (hO 15 (.b true) (hP hb3 h0))))))) ?_
       exact wJ G hm
      ·obtain ⟨r8, h10, hm⟩ := obind hm
       rcases bf hm with ⟨hb4, hm⟩ | ⟨hb4, hm⟩
       ·refine de G [] (hC 2 (s_l1In_c h8) (hO 4 (.b false) (hP hb2 (hN 10 t.Network.Lines (hC 12 (s_l1In_c h9) (hO 15 (.b false) (hP hb3 (hC 18 (s_l4Time_c h10) (hO 21 (.b true) (hP hb4 h0)))))))))) ?_
        exact wJ G hm
       ·obtain ⟨r9, h11, hm⟩ := obind hm
        obtain ⟨r10, h12, hm⟩ := obind hm
        rcases bf hm with ⟨hb5, hm⟩ | ⟨hb5, hm⟩
        ·refine de G [] (hC 2 (s_l1In_c h8) (hO 4 (.b false) (hP hb2 (hN 10 t.Network.Lines (hC 12 (s_l1In_c h9) (hO 15 (.b false) (hP hb3 (hC 18 (s_l4Time_c h10) (hO 21 (.b false) (hP hb4 (hC 24 (s_l5End_c h11) (hC 25 (s_l4Time_c h12) (hO 28 (.b true) (hP hb5 h0)))))))))))))) ?_
         exact wJ G hm
        ·rcases bf hm with ⟨hb6, hm⟩ | ⟨hb6, hm⟩
         ·obtain ⟨e2, h13, hm⟩ := obind hm
          refine de G [] (hC 2 (s_l1In_c h8) (hO 4 (.b false) (hP hb2 (hN 10 t.Network.Lines (hC 12 (s_l1In_c h9) (hO 15 (.b false) (hP hb3 (hC 18 (s_l4Time_c h10) (hO 21 (.b false) (hP hb4 (hC 24 (s_l5End_c h11) (hC 25 (s_l4Time_c h12) (hO 28 (.b false) (hP hb5 (hO 31 (.b true) (hP hb6 (hD 36 h13 h0))))))))))))))))) ?_
          exact wJ G hm
         ·refine de G [] (hC 2 (s_l1In_c h8) (hO 4 (.b false) (hP hb2 (hN 10 t.Network.Lines (hC 12 (s_l1In_c h9) (hO 15 (.b false) (hP hb3 (hC 18 (s_l4Time_c h10) (hO 21 (.b false) (hP hb4 (hC 24 (s_l5End_c h11) (hC 25 (s_l4Time_c h12) (hO 28 (.b false) (hP hb5 (hO 31 (.b false) (hP hb6 h0)))))))))))))))) ?_
          exact wJ G hm
    rintro v1 hm
    refine cd hm (fun hm => ?_) (fun hm => ?_)
    ·refine rg G ?_
     have hm := eL hm hb1 hr
     cases hm
     exact rt [] []
    ·exact X_skip (ibN (thN (rh G (wL G hm))))
   ·exact Ok_exit (thE (thE (ibE (wE G hm hb1))))
  rintro ⟨⟩ hm s hw
  refine thN (Ok_weak hw ?_)
  refine rg G ?_
  cases hm
  exact rt [] []
noncomputable def s_l25Long_M : MS Line Int := ⟨.r, s_l25Long, fun y => dV y, fun _ => [], fun _ _ => []⟩
theorem s_l25Long_c {x y} (hm : s_l25Long x = some y) : s_l25Long_M.C x y := s_l25Long_M.c x hm
theorem s_l25Long_ok : FnOK Try.prog 105 s_l25Long_M.S := by
 refine fm tt s_l25Long_M [fo s_l2Run_ok] Try.call105 Try.func105 rfl Try.results105 Try.ntmps105 ?_
 rintro x y cx G hm
 have hm : s_l25Long x = some y := hm
 unfold s_l25Long at hm
 refine rg G ?_
 obtain ⟨r, h, hm⟩ := obind hm
 refine rs G (hN 3 x.Stops (hC 5 (s_l2Run_c h) h0)) ?_
 cases hm
 exact rt [] []
noncomputable def s_l1Cur_report_M : MS (l1Cur × Timetable × Int × Int) (Report × l1Cur) := ⟨.x .b (.x .r (.x .r .r)), fun x => s_l1Cur_report x.1 x.2.1 x.2.2.1 x.2.2.2, fun y => dV y.1, fun _ => [], fun _ y => [bxO y.2]⟩
theorem s_l1Cur_report_c {c t vehicle time y} (hm : s_l1Cur_report c t vehicle time = some y) : s_l1Cur_report_M.C (c, t, vehicle, time) y := s_l1Cur_report_M.c (c, t, vehicle, time) hm
theorem s_l1Cur_report_ok : FnOK Try.prog 96 s_l1Cur_report_M.S := by
 refine fm tt s_l1Cur_report_M [fo s_l1Cur_pick_ok, fo s_l5Good_ok, fo s_l1Cur_one_ok, fo s_l2Good_ok, fo s_l25Long_ok] Try.call96 Try.func96 rfl Try.results96 Try.ntmps96 ?_
 rintro ⟨c, t, vehicle, time⟩ y cx G hm
 have hm : s_l1Cur_report c t vehicle time = some y := hm
 unfold s_l1Cur_report at hm
 refine rg G (rg G (Ok_seq (rs G (hN 3 t.Network.Lines h0) ?_)))
 refine cd hm (fun hm => ?_) (fun hm => ?_)
 ·refine rg G ?_
  cases hm
  exact rt [] []
 ·refine X_skip (thN ?_)
  obtain ⟨r, h, hm⟩ := obind hm
  refine rs G (hN 4 t.Network.Lines (hC 5 (s_l1Cur_pick_c h) h0)) ?_
  refine jn hm (fun (v, v1, v2, v3) => ⟨[(0, .ref 0 0), (5, .ref 32 0), (8, .ref 48 0), (9, .ref 64 0)], [bX 0 [dV v, dV v1, kV .u64 v2], bX 32 [dV t.Network.Stops, dV t.Network.Lines, dV t.Trips], bX 48 [kV .i64 0, kV .i64 0, kV .i64 0, kV .i64 0], bX 64 [dV vehicle, dV time, dV v3, kV .i64 0]], 96⟩) (fun vv2 hm => ?_) ?_
  ·refine jn hm (fun (v4, v5, v6, v7) => ⟨[(0, .ref 0 0), (5, .ref 32 0), (8, .ref 48 0), (9, .ref 64 0), (38, dV v4)], [bX 0 [dV v5, dV v6, kV .u64 v7], bX 32 [dV t.Network.Stops, dV t.Network.Lines, dV t.Trips], bX 48 [kV .i64 0, kV .i64 0, kV .i64 0, kV .i64 0], bX 64 [dV vehicle, dV time, dV r.1, kV .i64 0]], 96⟩) (fun vv hm => ?_) ?_
   ·rcases bf hm with ⟨hb, hm⟩ | ⟨hb, hm⟩
    ·obtain ⟨r1, h1, hm⟩ := obind hm
     rcases bf hm with ⟨hb1, hm⟩ | ⟨hb1, hm⟩
     ·obtain ⟨r2, h2, hm⟩ := obind hm
      refine re G (hN 2 t.Trips (hO 4 (.b true) (hP hb (hC 6 (s_l5Good_c h1) (hO 8 (.b true) (hP hb1 (hC 10 (s_l1Cur_one_c h2) h0))))))) ?_
      exact wJ G hm
     ·refine re G (hN 2 t.Trips (hO 4 (.b true) (hP hb (hC 6 (s_l5Good_c h1) (hO 8 (.b false) (hP hb1 h0)))))) ?_
      exact wJ G hm
    ·refine re G (hN 2 t.Trips (hO 4 (.b false) (hP hb h0))) ?_
     exact wJ G hm
   rintro ⟨v4, v5, v6, v7⟩ hm
   refine cd hm (fun hm => ?_) (fun hm => ?_)
   ·obtain ⟨r4, h5, hm⟩ := obind hm
    obtain ⟨e1, h6, hm⟩ := obind hm
    refine de G [(6, [0]), (11, [64])] (hN 5 t.Trips (hC 6 (s_l1Cur_pick_c h5) (hD 7 h6 h0))) ?_
    exact wJ G hm
   ·exact X_skip (wJ G hm)
  rintro ⟨v, v1, v2, v3⟩ hm
  refine jn hm (fun (v8, v9, v10, v11) => ⟨[(0, .ref 0 0), (8, .ref 32 0), (9, .ref 48 0)], [bX 0 [dV v8, dV v9, kV .u64 v10], bX 32 [kV .i64 0, kV .i64 0, kV .i64 0, kV .i64 0], bX 48 [dV vehicle, dV time, dV v3, dV v11]], 80⟩) (fun vv1 hm => ?_) ?_
  ·obtain ⟨r5, h7, hm⟩ := obind hm
   refine rs G (hC 2 (s_l2Good_c h7) h0) ?_
   refine cd hm (fun hm => ?_) (fun hm => ?_)
   ·obtain ⟨e2, h8, hm⟩ := obind hm
    obtain ⟨r6, h9, hm⟩ := obind hm
    obtain ⟨r7, h10, hm⟩ := obind hm
    refine re G (hD 6 h8 (hC 8 (s_l25Long_c h9) (hC 10 (s_l1Cur_pick_c h10) h0))) ?_
    exact wJ G hm
   ·exact X_skip (wJ G hm)
  rintro ⟨v8, v9, v10, v11⟩ hm
  refine rg G ?_
  cases hm
  exact rt [] []
noncomputable def s_DrawPlaceOf_M : MS ((List UInt8)) (Timetable × Report) := ⟨.r, s_DrawPlaceOf, fun y => .tup [dV y.1, dV y.2], fun _ => [], fun _ _ => []⟩
theorem s_DrawPlaceOf_c {code y} (hm : s_DrawPlaceOf code = some y) : s_DrawPlaceOf_M.C code y := s_DrawPlaceOf_M.c code hm
theorem s_DrawPlaceOf_ok : FnOK Try.prog 31 s_DrawPlaceOf_M.S := by
 refine fm tt s_DrawPlaceOf_M [fo s_l1Cur_anyTimetable_ok, fo s_l1Cur_among_w_ok, fo s_l1Cur_now23_ok, fo s_l1Cur_report_ok] Try.call31 Try.func31 rfl Try.results31 Try.ntmps31 ?_
 rintro code y cx G hm
 have hm : s_DrawPlaceOf code = some y := hm
 unfold s_DrawPlaceOf at hm
 refine rg G (rg G ?_)
 obtain ⟨r, h, hm⟩ := obind hm
 refine rs G (hC 1 (s_l1Cur_anyTimetable_c h) h0) ?_
 refine Ok_weak (Wk_J (x' := (⟨[(2, .ref 16 0), (3, .ref 32 0), (4, .ref 48 0), (5, .ref 64 0)], [bX 16 [.dat (.sc (.slice none 0 0)), .dat (.sc (.slice none 0 0)), .dat (.sc (.slice none 0 0))], bX 32 [kV .i64 0, kV .i64 0, kV .i64 0, kV .i64 0], bX 48 [dV r.2.code_, dV r.2.at_, kV .u64 r.2.seed_.v], bX 64 [dV r.1.Network.Stops, dV r.1.Network.Lines, dV r.1.Trips]], 96⟩ : X)) G.hL ⟨[(2, []), (3, []), (4, []), (5, [])], [(16, 16, []), (32, 32, []), (48, 80, []), (64, 144, [])], [], 96⟩ (by kernel_rfl)) ?_
 obtain ⟨r4, h4, hm⟩ := obind hm
 obtain ⟨r5, h5, hm⟩ := obind hm
 obtain ⟨r6, h6, hm⟩ := obind hm
 refine ds G [(5, [48, 160]), (8, [48]), (9, [48]), (10, [16]), (11, [32])] (hC 5 (s_l1Cur_among_w_c h4) (hC 8 (s_l1Cur_now23_c h5) (hC 9 (s_l1Cur_report_c h6) h0))) ?_
 cases hm
 exact rt [] []
noncomputable def i_within_M : MS (Int × Int × Int) Bool := ⟨.x .r (.x .r .r), fun x => i_within x.1 x.2.1 x.2.2, fun y => dV y, fun _ => [], fun _ _ => []⟩
theorem i_within_c {n lo hi y} (hm : i_within n lo hi = some y) : i_within_M.C (n, lo, hi) y := i_within_M.c (n, lo, hi) hm
theorem i_within_ok : FnOK Try.prog 52 i_within_M.S := by
 refine fm tt i_within_M [] Try.call52 Try.func52 rfl Try.results52 Try.ntmps52 ?_
 rintro ⟨n, lo, hi⟩ y cx G hm
 have hm : i_within n lo hi = some y := hm
 unfold i_within at hm
 refine rg G (jn hm (fun v => ⟨[(6, dV v)], [], 32⟩) (fun v hm => ?_) ?_)
 ·rcases bf hm with ⟨hb, hm⟩ | ⟨hb, hm⟩
  ·refine re G (hO 3 (.b true) (hP hb h0)) ?_
   exact wJ G hm
  ·refine re G (hO 3 (.b false) (hP hb h0)) ?_
   exact wJ G hm
 rintro v hm
 cases hm
 exact rt [] []
noncomputable def i_isName_M : MS ByteArray Bool := ⟨.r, i_isName, fun y => dV y, fun _ => [], fun _ _ => []⟩
theorem i_isName_c {s y} (hm : i_isName s = some y) : i_isName_M.C s y := i_isName_M.c s hm
theorem i_isName_ok : FnOK Try.prog 183 i_isName_M.S := by
 refine fm tt i_isName_M [] Try.call183 Try.func183 rfl Try.results183 Try.ntmps183 ?_
 rintro s y cx G hm
 have hm : i_isName s = some y := hm
 unfold i_isName at hm
 refine rg G (Ok_seq (jn hm (fun v => ⟨[(0, dV s), (12, dV v)], [], 32⟩) (fun v hm => ?_) ?_))
 ·rcases bf hm with ⟨hb, hm⟩ | ⟨hb, hm⟩
  ·refine re G (hO 3 (.b true) (hP hb h0)) ?_
   exact wJ G hm
  ·refine re G (hO 3 (.b false) (hP hb h0)) ?_
   exact wJ G hm
 rintro v hm
 refine cd hm (fun hm => ?_) (fun hm => ?_)
 ·refine rg G ?_
  cases hm
  exact rt [] []
 ·refine X_skip (thN (Ok_seq (rg G (tF hm (fun _ => ⟨[], [], 32⟩) (fun v4 hr hm => ?_) ?_))))
  ·refine Ok_block (lp G hm (fun v1 => ⟨[(0, dV s), (14, dV (s.size : Int)), (15, dV v1)], [], 32⟩) ?_)
   rintro v1 r0 hb1 hm
   rw [i_isName_L1] at hm
   refine rg G (Ok_seq (cd hm (fun hm => ?_) (fun hm => ?_)))
   ·refine X_skip (thN (Ok_seq (Ok_block (rg G ?_))))
    obtain ⟨u, h, hm⟩ := obind hm
    refine jn hm (fun v2 => ⟨[(0, dV s), (3, dV v1), (4, dV v2), (14, dV (s.size : Int)), (15, dV v1)], [], 32⟩) (fun v2 hm => ?_) ?_
    ·rcases bf hm with ⟨hb2, hm⟩ | ⟨hb2, hm⟩
     ·obtain ⟨u1, h1, hm⟩ := obind hm
      refine re G (hK h (hO 4 (.b true) (hP hb2 (hK h1 h0)))) ?_
      exact wJ G hm
     ·refine re G (hK h (hO 4 (.b false) (hP hb2 h0))) ?_
      exact wJ G hm
    rintro v2 hm
    refine jn hm (fun v3 => ⟨[(0, dV s), (14, dV (s.size : Int)), (15, dV v1), (45, dV v3)], [], 32⟩) (fun v3 hm => ?_) ?_
    ·rcases bf hm with ⟨hb3, hm⟩ | ⟨hb3, hm⟩
     ·rcases bf hm with ⟨hb4, hm⟩ | ⟨hb4, hm⟩
      ·refine re G (hO 2 (.b true) (hP hb3 (hO 5 (.b true) (hP hb4 h0)))) ?_
       exact wJ G hm
      ·obtain ⟨u2, h2, hm⟩ := obind hm
       rcases bf hm with ⟨hb5, hm⟩ | ⟨hb5, hm⟩
       ·refine re G (hO 2 (.b true) (hP hb3 (hO 5 (.b false) (hP hb4 (hK h2 (hO 11 (.b true) (hP hb5 h0))))))) ?_
        exact wJ G hm
       ·obtain ⟨u3, h3, hm⟩ := obind hm
        refine re G (hO 2 (.b true) (hP hb3 (hO 5 (.b false) (hP hb4 (hK h2 (hO 11 (.b false) (hP hb5 (hK h3 h0)))))))) ?_
        exact wJ G hm
     ·refine re G (hO 2 (.b false) (hP hb3 h0)) ?_
      exact wJ G hm
    rintro v3 hm
    refine cd hm (fun hm => ?_) (fun hm => ?_)
    ·refine rg G ?_
     have hm := eL hm hb1 hr
     cases hm
     exact rt [] []
    ·exact X_skip (ibN (thN (rh G (wL G hm))))
   ·exact Ok_exit (thE (thE (ibE (wE G hm hb1))))
  rintro ⟨⟩ hm s1 hw
  refine thN (Ok_weak hw ?_)
  refine rg G ?_
  cases hm
  exact rt [] []
noncomputable def slices_Index_string_M : MS ((List ByteArray) × ByteArray) Int := ⟨.x .r .r, fun x => slices_Index_string x.1 x.2, fun y => dV y, fun _ => [], fun _ _ => []⟩
theorem slices_Index_string_c {s v y} (hm : slices_Index_string s v = some y) : slices_Index_string_M.C (s, v) y := slices_Index_string_M.c (s, v) hm
theorem slices_Index_string_ok : FnOK Try.prog 184 slices_Index_string_M.S := by
 refine fm tt slices_Index_string_M [] Try.call184 Try.func184 rfl Try.results184 Try.ntmps184 ?_
 rintro ⟨s, v⟩ y cx G hm
 have hm : slices_Index_string s v = some y := hm
 unfold slices_Index_string at hm
 refine rg G (Ok_seq (rs G (hN 1 s h0) ?_))
 refine tF hm (fun _ => ⟨[], [], 32⟩) (fun v2 hr hm => ?_) ?_
 ·refine Ok_block (lp G hm (fun v1 => ⟨[(0, dV s), (1, dV v), (7, dV (s.length : Int)), (8, dV v1)], [], 32⟩) ?_)
  rintro v1 r0 hb hm
  rw [slices_Index_string_L1] at hm
  refine rg G (Ok_seq (cd hm (fun hm => ?_) (fun hm => ?_)))
  ·refine X_skip (thN (Ok_seq (Ok_block (rg G ?_))))
   obtain ⟨e, h, hm⟩ := obind hm
   refine rs G (hD 3 h h0) ?_
   refine cd hm (fun hm => ?_) (fun hm => ?_)
   ·refine rg G ?_
    have hm := eL hm hb hr
    cases hm
    exact rt [] []
   ·exact X_skip (ibN (thN (rh G (wL G hm))))
  ·exact Ok_exit (thE (thE (ibE (wE G hm hb))))
 rintro ⟨⟩ hm s1 hw
 refine thN (Ok_weak hw ?_)
 refine rg G ?_
 cases hm
 exact rt [] []
noncomputable def i_areNames_M : MS ((List ByteArray)) Bool := ⟨.r, i_areNames, fun y => dV y, fun _ => [], fun _ _ => []⟩
theorem i_areNames_c {names y} (hm : i_areNames names = some y) : i_areNames_M.C names y := i_areNames_M.c names hm
theorem i_areNames_ok : FnOK Try.prog 162 i_areNames_M.S := by
 refine fm tt i_areNames_M [fo i_isName_ok, fo slices_Index_string_ok] Try.call162 Try.func162 rfl Try.results162 Try.ntmps162 ?_
 rintro names y cx G hm
 have hm : i_areNames names = some y := hm
 unfold i_areNames at hm
 refine rg G (Ok_seq (rs G (hN 1 names h0) ?_))
 refine tF hm (fun _ => ⟨[], [], 32⟩) (fun v2 hr hm => ?_) ?_
 ·refine Ok_block (lp G hm (fun v => ⟨[(0, dV names), (5, dV names), (6, dV (names.length : Int)), (7, dV v)], [], 32⟩) ?_)
  rintro v r0 hb hm
  rw [i_areNames_L1] at hm
  refine rg G (Ok_seq (cd hm (fun hm => ?_) (fun hm => ?_)))
  ·refine X_skip (thN (Ok_seq (Ok_block ?_)))
   obtain ⟨e, h, hm⟩ := obind hm
   refine rs G (hD 1 h h0) ?_
   obtain ⟨r, h1, hm⟩ := obind hm
   refine jn hm (fun v1 => ⟨[(0, dV names), (5, dV names), (6, dV (names.length : Int)), (7, dV v), (21, dV v1)], [], 32⟩) (fun v1 hm => ?_) ?_
   ·rcases bf hm with ⟨hb1, hm⟩ | ⟨hb1, hm⟩
    ·refine re G (hC 1 (i_isName_c h1) (hO 3 (.b true) (hP hb1 h0))) ?_
     exact wJ G hm
    ·obtain ⟨r1, h2, hm⟩ := obind hm
     refine re G (hC 1 (i_isName_c h1) (hO 3 (.b false) (hP hb1 (hC 6 (slices_Index_string_c h2) h0)))) ?_
     exact wJ G hm
   rintro v1 hm
   refine cd hm (fun hm => ?_) (fun hm => ?_)
   ·refine rg G ?_
    have hm := eL hm hb hr
    cases hm
    exact rt [] []
   ·exact X_skip (ibN (thN (rh G (wL G hm))))
  ·exact Ok_exit (thE (thE (ibE (wE G hm hb))))
 rintro ⟨⟩ hm s hw
 refine thN (Ok_weak hw ?_)
 refine rg G ?_
 cases hm
 exact rt [] []
noncomputable def i_lineNames_M : MS Network ((List ByteArray)) := ⟨.r, i_lineNames, fun _ => .own 0, fun y => [arO 9 y], fun _ _ => []⟩
theorem i_lineNames_c {n y} (hm : i_lineNames n = some y) : i_lineNames_M.C n y := i_lineNames_M.c n hm
theorem i_lineNames_ok : FnOK Try.prog 163 i_lineNames_M.S := by
 refine fm tt i_lineNames_M [] Try.call163 Try.func163 rfl Try.results163 Try.ntmps163 ?_
 rintro n y cx G hm
 have hm : i_lineNames n = some y := hm
 unfold i_lineNames at hm
 refine rg G ?_
 obtain ⟨u, h, hm⟩ := obind hm
 refine rs G (hN 2 n.Lines (hO 3 (.l (List.map Enc.e (List.replicate (n.Lines.length : Int).toNat (ByteArray.empty : ByteArray)))) (hP (mk_p (b := 16) (chk_t h) rfl) (hP (rep_m Enc.e (n.Lines.length : Int).toNat (ByteArray.empty : ByteArray)) h0)))) ?_
 refine Ok_seq (rs G (hN 2 n.Lines h0) ?_)
 refine tl hm (fun i1 => ⟨[(3, .own 16)], [aX 16 9 i1], 48⟩) (fun i1 hm => ?_) ?_
 ·refine Ok_block (lp G hm (fun (v, i) => ⟨[(3, .own 16), (11, dV n.Lines), (12, dV (n.Lines.length : Int)), (13, dV v)], [aX 16 9 i], 48⟩) ?_)
  rintro ⟨v, i⟩ r0 hb hm
  rw [i_lineNames_L1] at hm
  refine rg G (Ok_seq (cd hm (fun hm => ?_) (fun hm => ?_)))
  ·refine X_skip (thN (Ok_seq (Ok_block ?_)))
   obtain ⟨e, h1, hm⟩ := obind hm
   refine rs G (hD 1 h1 h0) ?_
   obtain ⟨e1, h2, hm⟩ := obind hm
   refine re G (hD 4 h2 (hS 5 h2 e.Name h0)) ?_
   exact ibN (thN (rh G (wL G hm)))
  ·exact Ok_exit (thE (thE (ibE (wD G hm hb))))
 rintro i1 hm s hw
 refine thN (Ok_weak hw ?_)
 refine rg G ?_
 cases hm
 exact rt [16] []
noncomputable def i_isStop_M : MS (Network × Int) Bool := ⟨.x .r .r, fun x => i_isStop x.1 x.2, fun y => dV y, fun _ => [], fun _ _ => []⟩
theorem i_isStop_c {n stop y} (hm : i_isStop n stop = some y) : i_isStop_M.C (n, stop) y := i_isStop_M.c (n, stop) hm
theorem i_isStop_ok : FnOK Try.prog 119 i_isStop_M.S := by
 refine fm tt i_isStop_M [] Try.call119 Try.func119 rfl Try.results119 Try.ntmps119 ?_
 rintro ⟨n, stop⟩ y cx G hm
 have hm : i_isStop n stop = some y := hm
 unfold i_isStop at hm
 refine rg G (jn hm (fun v => ⟨[(4, dV v)], [], 32⟩) (fun v hm => ?_) ?_)
 ·rcases bf hm with ⟨hb, hm⟩ | ⟨hb, hm⟩
  ·refine re G (hO 2 (.b true) (hP hb (hN 6 n.Stops h0))) ?_
   exact wJ G hm
  ·refine re G (hO 2 (.b false) (hP hb h0)) ?_
   exact wJ G hm
 rintro v hm
 cases hm
 exact rt [] []
noncomputable def slices_Index_int_M : MS ((List Int) × Int) Int := ⟨.x .r .r, fun x => slices_Index_int x.1 x.2, fun y => dV y, fun _ => [], fun _ _ => []⟩
theorem slices_Index_int_c {s v y} (hm : slices_Index_int s v = some y) : slices_Index_int_M.C (s, v) y := slices_Index_int_M.c (s, v) hm
theorem slices_Index_int_ok : FnOK Try.prog 66 slices_Index_int_M.S := by
 refine fm tt slices_Index_int_M [] Try.call66 Try.func66 rfl Try.results66 Try.ntmps66 ?_
 rintro ⟨s, v⟩ y cx G hm
 have hm : slices_Index_int s v = some y := hm
 unfold slices_Index_int at hm
 refine rg G (Ok_seq (rs G (hN 1 s h0) ?_))
 refine tF hm (fun _ => ⟨[], [], 32⟩) (fun v2 hr hm => ?_) ?_
 ·refine Ok_block (lp G hm (fun v1 => ⟨[(0, dV s), (1, dV v), (7, dV (s.length : Int)), (8, dV v1)], [], 32⟩) ?_)
  rintro v1 r0 hb hm
  rw [slices_Index_int_L1] at hm
  refine rg G (Ok_seq (cd hm (fun hm => ?_) (fun hm => ?_)))
  ·refine X_skip (thN (Ok_seq (Ok_block (rg G ?_))))
   obtain ⟨e, h, hm⟩ := obind hm
   refine rs G (hD 3 h h0) ?_
   refine cd hm (fun hm => ?_) (fun hm => ?_)
   ·refine rg G ?_
    have hm := eL hm hb hr
    cases hm
    exact rt [] []
   ·exact X_skip (ibN (thN (rh G (wL G hm))))
  ·exact Ok_exit (thE (thE (ibE (wE G hm hb))))
 rintro ⟨⟩ hm s1 hw
 refine thN (Ok_weak hw ?_)
 refine rg G ?_
 cases hm
 exact rt [] []
noncomputable def i_isValidLine_M : MS (Network × Line) Bool := ⟨.x .r .r, fun x => i_isValidLine x.1 x.2, fun y => dV y, fun _ => [], fun _ _ => []⟩
theorem i_isValidLine_c {n l y} (hm : i_isValidLine n l = some y) : i_isValidLine_M.C (n, l) y := i_isValidLine_M.c (n, l) hm
theorem i_isValidLine_ok : FnOK Try.prog 164 i_isValidLine_M.S := by
 refine fm tt i_isValidLine_M [fo i_within_ok, fo i_isStop_ok, fo slices_Index_int_ok] Try.call164 Try.func164 rfl Try.results164 Try.ntmps164 ?_
 rintro ⟨n, l⟩ y cx G hm
 have hm : i_isValidLine n l = some y := hm
 unfold i_isValidLine at hm
 refine rg G (Ok_seq ?_)
 obtain ⟨r, h, hm⟩ := obind hm
 refine jn hm (fun v => ⟨[(2, .ref 16 0), (3, .ref 32 0), (23, dV v)], [bX 16 [dV n.Stops, dV n.Lines], bX 32 [dV l.Name, dV l.Stops, dV l.Runs]], 64⟩) (fun v hm => ?_) ?_
 ·rcases bf hm with ⟨hb, hm⟩ | ⟨hb, hm⟩
  ·refine re G (hN 2 l.Stops (hC 3 (i_within_c h) (hO 5 (.b true) (hP hb h0)))) ?_
   exact wJ G hm
  ·refine re G (hN 2 l.Stops (hC 3 (i_within_c h) (hO 5 (.b false) (hP hb (hN 8 l.Runs (hN 11 l.Stops h0)))))) ?_
   exact wJ G hm
 rintro v hm
 refine cd hm (fun hm => ?_) (fun hm => ?_)
 ·refine rg G ?_
  cases hm
  exact rt [] []
 ·refine X_skip (thN (Ok_seq (rs G (hN 2 l.Stops h0) ?_)))
  refine tF hm (fun _ => ⟨[(3, .ref 16 0)], [bX 16 [dV l.Name, dV l.Stops, dV l.Runs]], 48⟩) (fun v5 hr hm => ?_) ?_
  ·refine Ok_block (lp G hm (fun v1 => ⟨[(2, .ref 16 0), (3, .ref 32 0), (25, dV l.Stops), (26, dV (l.Stops.length : Int)), (27, dV v1)], [bX 16 [dV n.Stops, dV n.Lines], bX 32 [dV l.Name, dV l.Stops, dV l.Runs]], 64⟩) ?_)
   rintro v1 r0 hb1 hm
   rw [i_isValidLine_L1] at hm
   refine rg G (Ok_seq (cd hm (fun hm => ?_) (fun hm => ?_)))
   ·refine X_skip (thN (Ok_seq (Ok_block ?_)))
    obtain ⟨e, h1, hm⟩ := obind hm
    refine rs G (hD 1 h1 h0) ?_
    obtain ⟨r1, h2, hm⟩ := obind hm
    refine jn hm (fun v2 => ⟨[(2, .ref 16 0), (3, .ref 32 0), (25, dV l.Stops), (26, dV (l.Stops.length : Int)), (27, dV v1), (43, dV v2)], [bX 16 [dV n.Stops, dV n.Lines], bX 32 [dV l.Name, dV l.Stops, dV l.Runs]], 64⟩) (fun v2 hm => ?_) ?_
    ·rcases bf hm with ⟨hb2, hm⟩ | ⟨hb2, hm⟩
     ·refine re G (hC 2 (i_isStop_c h2) (hO 4 (.b true) (hP hb2 h0))) ?_
      exact wJ G hm
     ·obtain ⟨r2, h3, hm⟩ := obind hm
      refine re G (hC 2 (i_isStop_c h2) (hO 4 (.b false) (hP hb2 (hC 8 (slices_Index_int_c h3) h0)))) ?_
      exact wJ G hm
    rintro v2 hm
    refine cd hm (fun hm => ?_) (fun hm => ?_)
    ·refine rg G ?_
     have hm := eL hm hb1 hr
     cases hm
     exact rt [] []
    ·exact X_skip (ibN (thN (rh G (wL G hm))))
   ·exact Ok_exit (thE (thE (ibE (wE G hm hb1))))
  rintro ⟨⟩ hm s hw
  refine thN (Ok_weak hw ?_)
  refine Ok_seq (rs G (hN 2 l.Runs h0) ?_)
  refine tF hm (fun _ => ⟨[], [], 32⟩) (fun v4 hr1 hm => ?_) ?_
  ·refine Ok_block (lp G hm (fun v3 => ⟨[(46, dV l.Runs), (47, dV (l.Runs.length : Int)), (48, dV v3)], [], 32⟩) ?_)
   rintro v3 r0 hb3 hm
   rw [i_isValidLine_L2] at hm
   refine rg G (Ok_seq (cd hm (fun hm => ?_) (fun hm => ?_)))
   ·refine X_skip (thN (Ok_seq (Ok_block ?_)))
    obtain ⟨e2, h4, hm⟩ := obind hm
    refine rs G (hD 0 h4 h0) ?_
    obtain ⟨r4, h5, hm⟩ := obind hm
    refine rs G (hC 1 (i_within_c h5) h0) ?_
    refine cd hm (fun hm => ?_) (fun hm => ?_)
    ·refine rg G ?_
     have hm := eL hm hb3 hr1
     cases hm
     exact rt [] []
    ·exact X_skip (ibN (thN (rh G (wL G hm))))
   ·exact Ok_exit (thE (thE (ibE (wE G hm hb3))))
  rintro ⟨⟩ hm s1 hw1
  refine thN (Ok_weak hw1 ?_)
  refine rg G ?_
  cases hm
  exact rt [] []
noncomputable def i_IsValidNetwork_M : MS Network Bool := ⟨.r, i_IsValidNetwork, fun y => dV y, fun _ => [], fun _ _ => []⟩
theorem i_IsValidNetwork_c {n y} (hm : i_IsValidNetwork n = some y) : i_IsValidNetwork_M.C n y := i_IsValidNetwork_M.c n hm
theorem i_IsValidNetwork_ok : FnOK Try.prog 129 i_IsValidNetwork_M.S := by
 refine fm tt i_IsValidNetwork_M [fo i_within_ok, fo i_areNames_ok, fo i_lineNames_ok, fo i_isValidLine_ok] Try.call129 Try.func129 rfl Try.results129 Try.ntmps129 ?_
 rintro n y cx G hm
 have hm : i_IsValidNetwork n = some y := hm
 unfold i_IsValidNetwork at hm
 refine rg G (Ok_seq ?_)
 obtain ⟨r, h, hm⟩ := obind hm
 refine jn hm (fun v => ⟨[(1, .ref 16 0), (28, dV v)], [bX 16 [dV n.Stops, dV n.Lines]], 48⟩) (fun v hm => ?_) ?_
 ·rcases bf hm with ⟨hb, hm⟩ | ⟨hb, hm⟩
  ·refine re G (hN 2 n.Stops (hC 3 (i_within_c h) (hO 5 (.b true) (hP hb h0)))) ?_
   exact wJ G hm
  ·obtain ⟨r1, h1, hm⟩ := obind hm
   rcases bf hm with ⟨hb1, hm⟩ | ⟨hb1, hm⟩
   ·refine re G (hN 2 n.Stops (hC 3 (i_within_c h) (hO 5 (.b false) (hP hb (hN 8 n.Lines (hC 9 (i_within_c h1) (hO 12 (.b true) (hP hb1 h0)))))))) ?_
    exact wJ G hm
   ·obtain ⟨r2, h2, hm⟩ := obind hm
    rcases bf hm with ⟨hb2, hm⟩ | ⟨hb2, hm⟩
    ·refine re G (hN 2 n.Stops (hC 3 (i_within_c h) (hO 5 (.b false) (hP hb (hN 8 n.Lines (hC 9 (i_within_c h1) (hO 12 (.b false) (hP hb1 (hC 15 (i_areNames_c h2) (hO 18 (.b true) (hP hb2 h0))))))))))) ?_
     exact wJ G hm
    ·obtain ⟨r3, h3, hm⟩ := obind hm
     obtain ⟨r4, h4, hm⟩ := obind hm
     refine re G (hN 2 n.Stops (hC 3 (i_within_c h) (hO 5 (.b false) (hP hb (hN 8 n.Lines (hC 9 (i_within_c h1) (hO 12 (.b false) (hP hb1 (hC 15 (i_areNames_c h2) (hO 18 (.b false) (hP hb2 (hC 20 (i_lineNames_c h3) (hC 21 (i_areNames_c h4) h0))))))))))))) ?_
     exact wJ G hm
 rintro v hm
 refine cd hm (fun hm => ?_) (fun hm => ?_)
 ·refine rg G ?_
  cases hm
  exact rt [] []
 ·refine X_skip (thN (Ok_seq (rs G (hN 2 n.Lines h0) ?_)))
  refine tF hm (fun _ => ⟨[], [], 32⟩) (fun v2 hr hm => ?_) ?_
  ·refine Ok_block (lp G hm (fun v1 => ⟨[(1, .ref 16 0), (30, dV n.Lines), (31, dV (n.Lines.length : Int)), (32, dV v1)], [bX 16 [dV n.Stops, dV n.Lines]], 48⟩) ?_)
   rintro v1 r0 hb3 hm
   rw [i_IsValidNetwork_L1] at hm
   refine rg G (Ok_seq (cd hm (fun hm => ?_) (fun hm => ?_)))
   ·refine X_skip (thN (Ok_seq (Ok_block ?_)))
    obtain ⟨e, h5, hm⟩ := obind hm
    refine rs G (hD 0 h5 h0) ?_
    obtain ⟨r5, h6, hm⟩ := obind hm
    refine rs G (hC 2 (i_isValidLine_c h6) h0) ?_
    refine cd hm (fun hm => ?_) (fun hm => ?_)
    ·refine rg G ?_
     have hm := eL hm hb3 hr
     cases hm
     exact rt [] []
    ·exact X_skip (ibN (thN (rh G (wL G hm))))
   ·exact Ok_exit (thE (thE (ibE (wE G hm hb3))))
  rintro ⟨⟩ hm s hw
  refine thN (Ok_weak hw ?_)
  refine rg G ?_
  cases hm
  exact rt [] []
noncomputable def i_isLine_M : MS (Network × Int) Bool := ⟨.x .r .r, fun x => i_isLine x.1 x.2, fun y => dV y, fun _ => [], fun _ _ => []⟩
theorem i_isLine_c {n line y} (hm : i_isLine n line = some y) : i_isLine_M.C (n, line) y := i_isLine_M.c (n, line) hm
theorem i_isLine_ok : FnOK Try.prog 130 i_isLine_M.S := by
 refine fm tt i_isLine_M [] Try.call130 Try.func130 rfl Try.results130 Try.ntmps130 ?_
 rintro ⟨n, line⟩ y cx G hm
 have hm : i_isLine n line = some y := hm
 unfold i_isLine at hm
 refine rg G (jn hm (fun v => ⟨[(4, dV v)], [], 32⟩) (fun v hm => ?_) ?_)
 ·rcases bf hm with ⟨hb, hm⟩ | ⟨hb, hm⟩
  ·refine re G (hO 2 (.b true) (hP hb (hN 6 n.Lines h0))) ?_
   exact wJ G hm
  ·refine re G (hO 2 (.b false) (hP hb h0)) ?_
   exact wJ G hm
 rintro v hm
 cases hm
 exact rt [] []
noncomputable def i_IsValidTime_M : MS Int Bool := ⟨.r, i_IsValidTime, fun y => dV y, fun _ => [], fun _ _ => []⟩
theorem i_IsValidTime_c {t y} (hm : i_IsValidTime t = some y) : i_IsValidTime_M.C t y := i_IsValidTime_M.c t hm
theorem i_IsValidTime_ok : FnOK Try.prog 65 i_IsValidTime_M.S := by
 refine fm tt i_IsValidTime_M [fo i_within_ok] Try.call65 Try.func65 rfl Try.results65 Try.ntmps65 ?_
 rintro t y cx G hm
 have hm : i_IsValidTime t = some y := hm
 unfold i_IsValidTime at hm
 refine rg G ?_
 obtain ⟨r, h, hm⟩ := obind hm
 refine rs G (hC 1 (i_within_c h) h0) ?_
 cases hm
 exact rt [] []
noncomputable def i_total_M : MS ((List Int)) Int := ⟨.r, i_total, fun y => dV y, fun _ => [], fun _ _ => []⟩
theorem i_total_c {list y} (hm : i_total list = some y) : i_total_M.C list y := i_total_M.c list hm
theorem i_total_ok : FnOK Try.prog 106 i_total_M.S := by
 refine fm tt i_total_M [] Try.call106 Try.func106 rfl Try.results106 Try.ntmps106 ?_
 rintro list y cx G hm
 have hm : i_total list = some y := hm
 unfold i_total at hm
 refine rg G (rg G (Ok_seq (rs G (hN 1 list h0) ?_)))
 refine tl hm (fun v2 => ⟨[(3, dV v2)], [], 32⟩) (fun v2 hm => ?_) ?_
 ·refine Ok_block (lp G hm (fun (v, v1) => ⟨[(3, dV v), (6, dV list), (7, dV (list.length : Int)), (8, dV v1)], [], 32⟩) ?_)
  rintro ⟨v, v1⟩ r0 hb hm
  rw [i_total_L1] at hm
  refine rg G (Ok_seq (cd hm (fun hm => ?_) (fun hm => ?_)))
  ·refine X_skip (thN (Ok_seq (Ok_block ?_)))
   obtain ⟨e, h, hm⟩ := obind hm
   refine rs G (hD 0 h h0) ?_
   exact rh G (ibN (thN (rh G (wL G hm))))
  ·exact Ok_exit (thE (thE (ibE (wD G hm hb))))
 rintro v2 hm s hw
 refine thN (Ok_weak hw ?_)
 refine rg G ?_
 cases hm
 exact rt [] []
noncomputable def i_endOf_M : MS (Timetable × Trip) Int := ⟨.x .r .r, fun x => i_endOf x.1 x.2, fun y => dV y, fun _ => [], fun _ _ => []⟩
theorem i_endOf_c {t x y} (hm : i_endOf t x = some y) : i_endOf_M.C (t, x) y := i_endOf_M.c (t, x) hm
theorem i_endOf_ok : FnOK Try.prog 165 i_endOf_M.S := by
 refine fm tt i_endOf_M [fo i_total_ok] Try.call165 Try.func165 rfl Try.results165 Try.ntmps165 ?_
 rintro ⟨t, x⟩ y cx G hm
 have hm : i_endOf t x = some y := hm
 unfold i_endOf at hm
 refine rg G ?_
 obtain ⟨e1, h2, hm⟩ := obind hm
 obtain ⟨r1, h3, hm⟩ := obind hm
 refine ds G [] (hD 7 h2 (hC 10 (i_total_c h3) h0)) ?_
 cases hm
 exact rt [] []
noncomputable def i_areTrips_M : MS Timetable Bool := ⟨.r, i_areTrips, fun y => dV y, fun _ => [], fun _ _ => []⟩
theorem i_areTrips_c {t y} (hm : i_areTrips t = some y) : i_areTrips_M.C t y := i_areTrips_M.c t hm
theorem i_areTrips_ok : FnOK Try.prog 131 i_areTrips_M.S := by
 refine fm tt i_areTrips_M [fo i_isLine_ok, fo i_IsValidTime_ok, fo i_endOf_ok] Try.call131 Try.func131 rfl Try.results131 Try.ntmps131 ?_
 rintro t y cx G hm
 have hm : i_areTrips t = some y := hm
 unfold i_areTrips at hm
 refine rg G (Ok_seq (rs G (hN 2 t.Trips h0) ?_))
 refine cd hm (fun hm => ?_) (fun hm => ?_)
 ·refine rg G ?_
  cases hm
  exact rt [] []
 ·refine X_skip (thN (rg G (Ok_seq (rs G (hN 2 t.Trips h0) ?_))))
  refine tF hm (fun _ => ⟨[], [], 32⟩) (fun v3 hr hm => ?_) ?_
  ·refine Ok_block (lp G hm (fun (v, v1) => ⟨[(1, .ref 16 0), (3, dV v), (11, dV t.Trips), (12, dV (t.Trips.length : Int)), (13, dV v1)], [bX 16 [dV t.Network.Stops, dV t.Network.Lines, dV t.Trips]], 48⟩) ?_)
   rintro ⟨v, v1⟩ r0 hb hm
   rw [i_areTrips_L1] at hm
   refine rg G (Ok_seq (cd hm (fun hm => ?_) (fun hm => ?_)))
   ·refine X_skip (thN (Ok_seq (Ok_block ?_)))
    obtain ⟨e, h, hm⟩ := obind hm
    refine rs G (hD 0 h h0) ?_
    refine Ok_seq (jn hm (fun v2 => ⟨[(1, .ref 16 0), (5, .ref 32 0), (11, dV t.Trips), (12, dV (t.Trips.length : Int)), (13, dV v1), (46, dV v2)], [bX 16 [dV t.Network.Stops, dV t.Network.Lines, dV t.Trips], bX 32 [dV e.Id, dV e.Line, dV e.Start]], 64⟩) (fun v2 hm => ?_) ?_)
    ·rcases bf hm with ⟨hb1, hm⟩ | ⟨hb1, hm⟩
     ·refine re G (hO 4 (.b true) (hP hb1 h0)) ?_
      exact wJ G hm
     ·rcases bf hm with ⟨hb2, hm⟩ | ⟨hb2, hm⟩
      ·refine re G (hO 4 (.b false) (hP hb1 (hO 9 (.b true) (hP hb2 h0)))) ?_
       exact wJ G hm
      ·obtain ⟨r, h1, hm⟩ := obind hm
       rcases bf hm with ⟨hb3, hm⟩ | ⟨hb3, hm⟩
       ·refine re G (hO 4 (.b false) (hP hb1 (hO 9 (.b false) (hP hb2 (hC 14 (i_isLine_c h1) (hO 17 (.b true) (hP hb3 h0))))))) ?_
        exact wJ G hm
       ·obtain ⟨r1, h2, hm⟩ := obind hm
        rcases bf hm with ⟨hb4, hm⟩ | ⟨hb4, hm⟩
        ·refine re G (hO 4 (.b false) (hP hb1 (hO 9 (.b false) (hP hb2 (hC 14 (i_isLine_c h1) (hO 17 (.b false) (hP hb3 (hC 20 (i_IsValidTime_c h2) (hO 23 (.b true) (hP hb4 h0)))))))))) ?_
         exact wJ G hm
        ·obtain ⟨r2, h3, hm⟩ := obind hm
         obtain ⟨r3, h4, hm⟩ := obind hm
         refine re G (hO 4 (.b false) (hP hb1 (hO 9 (.b false) (hP hb2 (hC 14 (i_isLine_c h1) (hO 17 (.b false) (hP hb3 (hC 20 (i_IsValidTime_c h2) (hO 23 (.b false) (hP hb4 (hC 26 (i_endOf_c h3) (hC 27 (i_IsValidTime_c h4) h0)))))))))))) ?_
         exact wJ G hm
    rintro v2 hm
    refine cd hm (fun hm => ?_) (fun hm => ?_)
    ·refine rg G ?_
     have hm := eL hm hb hr
     cases hm
     exact rt [] []
    ·exact X_skip (thN (rh G (ibN (thN (rh G (wL G hm))))))
   ·exact Ok_exit (thE (thE (ibE (wE G hm hb))))
  rintro ⟨⟩ hm s hw
  refine thN (Ok_weak hw ?_)
  refine rg G ?_
  cases hm
  exact rt [] []
noncomputable def i_IsValidTimetable_M : MS Timetable Bool := ⟨.r, i_IsValidTimetable, fun y => dV y, fun _ => [], fun _ _ => []⟩
theorem i_IsValidTimetable_c {t y} (hm : i_IsValidTimetable t = some y) : i_IsValidTimetable_M.C t y := i_IsValidTimetable_M.c t hm
theorem i_IsValidTimetable_ok : FnOK Try.prog 97 i_IsValidTimetable_M.S := by
 refine fm tt i_IsValidTimetable_M [fo i_IsValidNetwork_ok, fo i_areTrips_ok] Try.call97 Try.func97 rfl Try.results97 Try.ntmps97 ?_
 rintro t y cx G hm
 have hm : i_IsValidTimetable t = some y := hm
 unfold i_IsValidTimetable at hm
 refine rg G ?_
 obtain ⟨r, h, hm⟩ := obind hm
 refine jn hm (fun v => ⟨[(2, dV v)], [], 32⟩) (fun v hm => ?_) ?_
 ·rcases bf hm with ⟨hb, hm⟩ | ⟨hb, hm⟩
  ·obtain ⟨r1, h1, hm⟩ := obind hm
   refine re G (hC 2 (i_IsValidNetwork_c h) (hO 3 (.b true) (hP hb (hC 5 (i_areTrips_c h1) h0)))) ?_
   exact wJ G hm
  ·refine re G (hC 2 (i_IsValidNetwork_c h) (hO 3 (.b false) (hP hb h0))) ?_
   exact wJ G hm
 rintro v hm
 cases hm
 exact rt [] []
noncomputable def i_isReport_M : MS (Timetable × Report) Bool := ⟨.x .r .r, fun x => i_isReport x.1 x.2, fun y => dV y, fun _ => [], fun _ _ => []⟩
theorem i_isReport_c {t r y} (hm : i_isReport t r = some y) : i_isReport_M.C (t, r) y := i_isReport_M.c (t, r) hm
theorem i_isReport_ok : FnOK Try.prog 98 i_isReport_M.S := by
 refine fm tt i_isReport_M [fo i_within_ok, fo i_IsValidTime_ok, fo i_isLine_ok, fo i_total_ok] Try.call98 Try.func98 rfl Try.results98 Try.ntmps98 ?_
 rintro ⟨t, r⟩ y cx G hm
 have hm : i_isReport t r = some y := hm
 unfold i_isReport at hm
 refine rg G ?_
 obtain ⟨r6, h6, hm⟩ := obind hm
 refine jn hm (fun v => ⟨[(4, dV v)], [], 32⟩) (fun v hm => ?_) ?_
 ·rcases bf hm with ⟨hb, hm⟩ | ⟨hb, hm⟩
  ·obtain ⟨r7, h7, hm⟩ := obind hm
   rcases bf hm with ⟨hb1, hm⟩ | ⟨hb1, hm⟩
   ·obtain ⟨r8, h8, hm⟩ := obind hm
    rcases bf hm with ⟨hb2, hm⟩ | ⟨hb2, hm⟩
    ·obtain ⟨e1, h9, hm⟩ := obind hm
     obtain ⟨r9, h10, hm⟩ := obind hm
     obtain ⟨r10, h11, hm⟩ := obind hm
     refine de G [] (hC 2 (i_within_c h6) (hO 3 (.b true) (hP hb (hC 6 (i_IsValidTime_c h7) (hO 8 (.b true) (hP hb1 (hC 13 (i_isLine_c h8) (hO 15 (.b true) (hP hb2 (hD 23 h9 (hC 26 (i_total_c h10) (hC 27 (i_within_c h11) h0)))))))))))) ?_
     exact wJ G hm
    ·refine de G [] (hC 2 (i_within_c h6) (hO 3 (.b true) (hP hb (hC 6 (i_IsValidTime_c h7) (hO 8 (.b true) (hP hb1 (hC 13 (i_isLine_c h8) (hO 15 (.b false) (hP hb2 h0))))))))) ?_
     exact wJ G hm
   ·refine de G [] (hC 2 (i_within_c h6) (hO 3 (.b true) (hP hb (hC 6 (i_IsValidTime_c h7) (hO 8 (.b false) (hP hb1 h0)))))) ?_
    exact wJ G hm
  ·refine de G [] (hC 2 (i_within_c h6) (hO 3 (.b false) (hP hb h0))) ?_
   exact wJ G hm
 rintro v hm
 cases hm
 exact rt [] []
noncomputable def i_PlaceOf_M : MS (Timetable × Report) (Int × Int × Bool) := ⟨.x .r .r, fun x => i_PlaceOf x.1 x.2, fun y => .tup [dV y.1, dV y.2.1, dV y.2.2], fun _ => [], fun _ _ => []⟩
theorem i_PlaceOf_c {t r y} (hm : i_PlaceOf t r = some y) : i_PlaceOf_M.C (t, r) y := i_PlaceOf_M.c (t, r) hm
theorem i_PlaceOf_ok : FnOK Try.prog 32 i_PlaceOf_M.S := by
 refine fm tt i_PlaceOf_M [fo i_IsValidTimetable_ok, fo i_isReport_ok] Try.call32 Try.func32 rfl Try.results32 Try.ntmps32 ?_
 rintro ⟨t, r⟩ y cx G hm
 have hm : i_PlaceOf t r = some y := hm
 unfold i_PlaceOf at hm
 refine rg G (Ok_seq ?_)
 obtain ⟨r1, h, hm⟩ := obind hm
 refine jn hm (fun v => ⟨[(2, .ref 16 0), (3, .ref 32 0), (19, dV v)], [bX 16 [dV t.Network.Stops, dV t.Network.Lines, dV t.Trips], bX 32 [dV r.Vehicle, dV r.Time, dV r.Line, dV r.Done]], 64⟩) (fun v hm => ?_) ?_
 ·rcases bf hm with ⟨hb, hm⟩ | ⟨hb, hm⟩
  ·refine re G (hC 1 (i_IsValidTimetable_c h) (hO 3 (.b true) (hP hb h0))) ?_
   exact wJ G hm
  ·obtain ⟨r2, h1, hm⟩ := obind hm
   refine re G (hC 1 (i_IsValidTimetable_c h) (hO 3 (.b false) (hP hb (hC 6 (i_isReport_c h1) h0)))) ?_
   exact wJ G hm
 rintro v hm
 refine cd hm (fun hm => ?_) (fun hm => ?_)
 ·refine rg G ?_
  cases hm
  exact rt [] []
 ·refine X_skip (thN (ds G [] h0 ?_))
  refine jn hm (fun (v1, run) => ⟨[(7, dV v1), (8, dV run)], [], 32⟩) (fun vv1 hm => ?_) ?_
  ·obtain ⟨e, h2, hm⟩ := obind hm
   refine rs G (hD 5 h2 (hN 8 e.Runs h0)) ?_
   refine tl hm (fun (v4, run2) => ⟨[(7, dV v4), (8, dV run2)], [], 32⟩) (fun vv hm => ?_) ?_
   ·refine Ok_block (lp G hm (fun (v2, run1, v3) => ⟨[(7, dV v2), (8, dV run1), (29, dV e.Runs), (30, dV (e.Runs.length : Int)), (31, dV v3)], [], 32⟩) ?_)
    rintro ⟨v2, run1, v3⟩ r0 hb1 hm
    rw [i_PlaceOf_L1] at hm
    refine rg G (Ok_seq (cd hm (fun hm => ?_) (fun hm => ?_)))
    ·refine X_skip (thN (Ok_seq (Ok_block ?_)))
     obtain ⟨e1, h3, hm⟩ := obind hm
     refine rs G (hD 0 h3 h0) ?_
     refine Ok_seq (rg G (cd hm (fun hm => ?_) (fun hm => ?_)))
     ·exact Ok_exit (thE (ibX rfl (thE (thE (ibE (wD G hm hb1))))))
     ·exact X_skip (thN (rg G (rh G (ibN (thN (rh G (wL G hm)))))))
    ·exact Ok_exit (thE (thE (ibE (wD G hm hb1))))
   rintro ⟨v4, run2⟩ hm s hw
   exact wJp hm (Wk.trans hw (Wk_J G.hL ⟨[(7, []), (8, [])], [], [], 32⟩ (by kernel_rfl)))
  rintro ⟨v1, run⟩ hm
  refine rg G ?_
  cases hm
  exact rt [] []
noncomputable def s_l25Report_M : MS (Timetable × Report) Bool := ⟨.x .r .r, fun x => s_l25Report x.1 x.2, fun y => dV y, fun _ => [], fun _ _ => []⟩
theorem s_l25Report_c {t r y} (hm : s_l25Report t r = some y) : s_l25Report_M.C (t, r) y := s_l25Report_M.c (t, r) hm
theorem s_l25Report_ok : FnOK Try.prog 132 s_l25Report_M.S := by
 refine fm tt s_l25Report_M [fo s_l1In_ok, fo s_l4Time_ok, fo s_l25Long_ok] Try.call132 Try.func132 rfl Try.results132 Try.ntmps132 ?_
 rintro ⟨t, r⟩ y cx G hm
 have hm : s_l25Report t r = some y := hm
 unfold s_l25Report at hm
 refine rg G ?_
 obtain ⟨r6, h6, hm⟩ := obind hm
 refine jn hm (fun v => ⟨[(4, dV v)], [], 32⟩) (fun v hm => ?_) ?_
 ·rcases bf hm with ⟨hb, hm⟩ | ⟨hb, hm⟩
  ·obtain ⟨r7, h7, hm⟩ := obind hm
   rcases bf hm with ⟨hb1, hm⟩ | ⟨hb1, hm⟩
   ·obtain ⟨r8, h8, hm⟩ := obind hm
    rcases bf hm with ⟨hb2, hm⟩ | ⟨hb2, hm⟩
    ·obtain ⟨e1, h9, hm⟩ := obind hm
     obtain ⟨r9, h10, hm⟩ := obind hm
     obtain ⟨r10, h11, hm⟩ := obind hm
     refine de G [] (hC 2 (s_l1In_c h6) (hO 3 (.b true) (hP hb (hC 6 (s_l4Time_c h7) (hO 8 (.b true) (hP hb1 (hN 14 t.Network.Lines (hC 16 (s_l1In_c h8) (hO 18 (.b true) (hP hb2 (hD 26 h9 (hC 28 (s_l25Long_c h10) (hC 29 (s_l1In_c h11) h0))))))))))))) ?_
     exact wJ G hm
    ·refine de G [] (hC 2 (s_l1In_c h6) (hO 3 (.b true) (hP hb (hC 6 (s_l4Time_c h7) (hO 8 (.b true) (hP hb1 (hN 14 t.Network.Lines (hC 16 (s_l1In_c h8) (hO 18 (.b false) (hP hb2 h0)))))))))) ?_
     exact wJ G hm
   ·refine de G [] (hC 2 (s_l1In_c h6) (hO 3 (.b true) (hP hb (hC 6 (s_l4Time_c h7) (hO 8 (.b false) (hP hb1 h0)))))) ?_
    exact wJ G hm
  ·refine de G [] (hC 2 (s_l1In_c h6) (hO 3 (.b false) (hP hb h0))) ?_
   exact wJ G hm
 rintro v hm
 cases hm
 exact rt [] []
noncomputable def s_l25Good_M : MS (Timetable × (List Report)) Bool := ⟨.x .r .r, fun x => s_l25Good x.1 x.2, fun y => dV y, fun _ => [], fun _ _ => []⟩
theorem s_l25Good_c {t list y} (hm : s_l25Good t list = some y) : s_l25Good_M.C (t, list) y := s_l25Good_M.c (t, list) hm
theorem s_l25Good_ok : FnOK Try.prog 99 s_l25Good_M.S := by
 refine fm tt s_l25Good_M [fo s_l5Good_ok, fo s_l25Report_ok] Try.call99 Try.func99 rfl Try.results99 Try.ntmps99 ?_
 rintro ⟨t, list⟩ y cx G hm
 have hm : s_l25Good t list = some y := hm
 unfold s_l25Good at hm
 refine rg G (Ok_seq ?_)
 obtain ⟨r, h, hm⟩ := obind hm
 refine jn hm (fun v => ⟨[(1, dV list), (2, .ref 16 0), (13, dV v)], [bX 16 [dV t.Network.Stops, dV t.Network.Lines, dV t.Trips]], 48⟩) (fun v hm => ?_) ?_
 ·rcases bf hm with ⟨hb, hm⟩ | ⟨hb, hm⟩
  ·refine re G (hC 1 (s_l5Good_c h) (hO 3 (.b true) (hP hb h0))) ?_
   exact wJ G hm
  ·refine re G (hC 1 (s_l5Good_c h) (hO 3 (.b false) (hP hb (hN 5 list h0)))) ?_
   exact wJ G hm
 rintro v hm
 refine cd hm (fun hm => ?_) (fun hm => ?_)
 ·refine rg G ?_
  cases hm
  exact rt [] []
 ·refine X_skip (thN (Ok_seq (rg G (tF hm (fun _ => ⟨[], [], 32⟩) (fun v3 hr hm => ?_) ?_))))
  ·refine Ok_block (lp G hm (fun v1 => ⟨[(1, dV list), (2, .ref 16 0), (5, dV v1)], [bX 16 [dV t.Network.Stops, dV t.Network.Lines, dV t.Trips]], 48⟩) ?_)
   rintro v1 r0 hb1 hm
   rw [s_l25Good_L1] at hm
   refine Ok_seq (rs G (hN 2 list h0) ?_)
   refine cd hm (fun hm => ?_) (fun hm => ?_)
   ·refine X_skip (thN (Ok_seq (Ok_block (Ok_seq ?_))))
    obtain ⟨e1, h3, hm⟩ := obind hm
    obtain ⟨r2, h4, hm⟩ := obind hm
    refine ds G [] (hD 3 h3 (hC 5 (s_l25Report_c h4) h0)) ?_
    refine cd hm (fun hm => ?_) (fun hm => ?_)
    ·refine rg G ?_
     have hm := eL hm hb1 hr
     cases hm
     exact rt [] []
    ·refine X_skip (thN (jn hm (fun v2 => ⟨[(1, dV list), (2, .ref 16 0), (5, dV v1), (70, dV v2)], [bX 16 [dV t.Network.Stops, dV t.Network.Lines, dV t.Trips]], 48⟩) (fun v2 hm => ?_) ?_))
     ·rcases bf hm with ⟨hb2, hm⟩ | ⟨hb2, hm⟩
      ·obtain ⟨e9, h11, hm⟩ := obind hm
       obtain ⟨e10, h12, hm⟩ := obind hm
       rcases bf hm with ⟨hb3, hm⟩ | ⟨hb3, hm⟩
       ·refine de G [] (hO 2 (.b true) (hP hb2 (hD 6 h11 (hD 11 h12 (hO 15 (.b true) (hP hb3 h0)))))) ?_
        exact wJ G hm
       ·obtain ⟨e11, h13, hm⟩ := obind hm
        obtain ⟨e12, h14, hm⟩ := obind hm
        rcases bf hm with ⟨hb4, hm⟩ | ⟨hb4, hm⟩
        ·obtain ⟨e13, h15, hm⟩ := obind hm
         obtain ⟨e14, h16, hm⟩ := obind hm
         refine de G [] (hO 2 (.b true) (hP hb2 (hD 6 h11 (hD 11 h12 (hO 15 (.b false) (hP hb3 (hD 19 h13 (hD 24 h14 (hO 28 (.b true) (hP hb4 (hD 32 h15 (hD 37 h16 h0)))))))))))) ?_
         exact wJ G hm
        ·refine de G [] (hO 2 (.b true) (hP hb2 (hD 6 h11 (hD 11 h12 (hO 15 (.b false) (hP hb3 (hD 19 h13 (hD 24 h14 (hO 28 (.b false) (hP hb4 h0)))))))))) ?_
         exact wJ G hm
      ·refine de G [] (hO 2 (.b false) (hP hb2 h0)) ?_
       exact wJ G hm
     rintro v2 hm
     refine cd hm (fun hm => ?_) (fun hm => ?_)
     ·refine rg G ?_
      have hm := eL hm hb1 hr
      cases hm
      exact rt [] []
     ·exact X_skip (ibN (thN (rh G (wL G hm))))
   ·exact Ok_exit (thE (thE (ibE (wE G hm hb1))))
  rintro ⟨⟩ hm s hw
  refine thN (Ok_weak hw ?_)
  refine rg G ?_
  cases hm
  exact rt [] []
noncomputable def s_PlaceOf_M : MS (Timetable × Report) (Int × Int × Bool) := ⟨.x .r .r, fun x => s_PlaceOf x.1 x.2, fun y => .tup [dV y.1, dV y.2.1, dV y.2.2], fun _ => [], fun _ _ => []⟩
theorem s_PlaceOf_c {t r y} (hm : s_PlaceOf t r = some y) : s_PlaceOf_M.C (t, r) y := s_PlaceOf_M.c (t, r) hm
theorem s_PlaceOf_ok : FnOK Try.prog 33 s_PlaceOf_M.S := by
 refine fm tt s_PlaceOf_M [fo s_l25Good_ok, fo s_l2Run_ok] Try.call33 Try.func33 rfl Try.results33 Try.ntmps33 ?_
 rintro ⟨t, r⟩ y cx G hm
 have hm : s_PlaceOf t r = some y := hm
 unfold s_PlaceOf at hm
 refine rg G (Ok_seq ?_)
 obtain ⟨r1, h, hm⟩ := obind hm
 refine rs G (hC 3 (s_l25Good_c h) h0) ?_
 refine cd hm (fun hm => ?_) (fun hm => ?_)
 ·refine rg G ?_
  cases hm
  exact rt [] []
 ·refine X_skip (thN ?_)
  obtain ⟨e, h1, hm⟩ := obind hm
  refine rs G (hD 5 h1 h0) ?_
  refine rg G (jn hm (fun v2 => ⟨[(3, .ref 16 0), (7, .ref 32 0), (8, dV v2)], [bX 16 [dV r.Vehicle, dV r.Time, dV r.Line, dV r.Done], bX 32 [dV e.Name, dV e.Stops, dV e.Runs]], 64⟩) (fun v2 hm => ?_) ?_)
  ·refine Ok_block (lp G hm (fun v => ⟨[(3, .ref 16 0), (7, .ref 32 0), (8, dV v)], [bX 16 [dV r.Vehicle, dV r.Time, dV r.Line, dV r.Done], bX 32 [dV e.Name, dV e.Stops, dV e.Runs]], 64⟩) ?_)
   rintro v r0 hb hm
   rw [s_PlaceOf_L1] at hm
   refine Ok_seq (jn hm (fun v1 => ⟨[(3, .ref 16 0), (7, .ref 32 0), (8, dV v), (35, dV v1)], [bX 16 [dV r.Vehicle, dV r.Time, dV r.Line, dV r.Done], bX 32 [dV e.Name, dV e.Stops, dV e.Runs]], 64⟩) (fun v1 hm => ?_) ?_)
   ·rcases bf hm with ⟨hb1, hm⟩ | ⟨hb1, hm⟩
    ·obtain ⟨r3, h3, hm⟩ := obind hm
     refine de G [] (hN 4 e.Stops (hO 6 (.b true) (hP hb1 (hC 10 (s_l2Run_c h3) h0)))) ?_
     exact wJ G hm
    ·refine de G [] (hN 4 e.Stops (hO 6 (.b false) (hP hb1 h0))) ?_
     exact wJ G hm
   rintro v1 hm
   refine cd hm (fun hm => ?_) (fun hm => ?_)
   ·exact X_skip (thN (Ok_block (rh G (ibN (wL G hm)))))
   ·exact Ok_exit (thE (thE (ibE (wD G hm hb))))
  rintro v2 hm
  obtain ⟨r5, h5, hm⟩ := obind hm
  refine ds G [] (hC 5 (s_l2Run_c h5) h0) ?_
  cases hm
  exact rt [] []
noncomputable def i_absolute_M : MS Int Int := ⟨.r, i_absolute, fun y => dV y, fun _ => [], fun _ _ => []⟩
theorem i_absolute_c {n y} (hm : i_absolute n = some y) : i_absolute_M.C n y := i_absolute_M.c n hm
theorem i_absolute_ok : FnOK Try.prog 136 i_absolute_M.S := by
 refine fm tt i_absolute_M [] Try.call136 Try.func136 rfl Try.results136 Try.ntmps136 ?_
 rintro n y cx G hm
 have hm : i_absolute n = some y := hm
 unfold i_absolute at hm
 refine rg G (rg G ?_)
 cases hm
 exact rt [] []
noncomputable def cmp_isNaN_int_M : MS Int Bool := ⟨.r, cmp_isNaN_int, fun y => dV y, fun _ => [], fun _ _ => []⟩
theorem cmp_isNaN_int_c {x y} (hm : cmp_isNaN_int x = some y) : cmp_isNaN_int_M.C x y := cmp_isNaN_int_M.c x hm
theorem cmp_isNaN_int_ok : FnOK Try.prog 160 cmp_isNaN_int_M.S := by
 refine fm tt cmp_isNaN_int_M [] Try.call160 Try.func160 rfl Try.results160 Try.ntmps160 ?_
 rintro x y cx G hm
 have hm : cmp_isNaN_int x = some y := hm
 unfold cmp_isNaN_int at hm
 refine rg G (rg G ?_)
 cases hm
 exact rt [] []
noncomputable def cmp_Compare_int_M : MS (Int × Int) Int := ⟨.x .r .r, fun x => cmp_Compare_int x.1 x.2, fun y => dV y, fun _ => [], fun _ _ => []⟩
theorem cmp_Compare_int_c {x y_ y} (hm : cmp_Compare_int x y_ = some y) : cmp_Compare_int_M.C (x, y_) y := cmp_Compare_int_M.c (x, y_) hm
theorem cmp_Compare_int_ok : FnOK Try.prog 124 cmp_Compare_int_M.S := by
 refine fm tt cmp_Compare_int_M [fo cmp_isNaN_int_ok] Try.call124 Try.func124 rfl Try.results124 Try.ntmps124 ?_
 rintro ⟨x, y_⟩ y cx G hm
 have hm : cmp_Compare_int x y_ = some y := hm
 unfold cmp_Compare_int at hm
 refine rg G ?_
 obtain ⟨r, h, hm⟩ := obind hm
 refine rs G (hC 1 (cmp_isNaN_int_c h) h0) ?_
 obtain ⟨r1, h1, hm⟩ := obind hm
 refine rs G (hC 1 (cmp_isNaN_int_c h1) h0) ?_
 refine Ok_seq (rg G (cd hm (fun hm => ?_) (fun hm => ?_)))
 ·refine Ok_seq (rg G (cd hm (fun hm => ?_) (fun hm => ?_)))
  ·refine rg G ?_
   cases hm
   exact rt [] []
  ·refine X_skip (thN (rg G ?_))
   cases hm
   exact rt [] []
 ·refine X_skip (thN (Ok_seq (rg G (cd hm (fun hm => ?_) (fun hm => ?_)))))
  ·refine rg G ?_
   cases hm
   exact rt [] []
  ·refine X_skip (thN (Ok_seq (rg G (cd hm (fun hm => ?_) (fun hm => ?_)))))
   ·refine rg G ?_
    cases hm
    exact rt [] []
   ·refine X_skip (thN (Ok_seq (rg G (cd hm (fun hm => ?_) (fun hm => ?_)))))
    ·refine rg G ?_
     cases hm
     exact rt [] []
    ·refine X_skip (thN (rg G ?_))
     cases hm
     exact rt [] []
noncomputable def cmp_Or_int_M : MS ((List Int)) Int := ⟨.r, cmp_Or_int, fun y => dV y, fun _ => [], fun _ _ => []⟩
theorem cmp_Or_int_c {vals y} (hm : cmp_Or_int vals = some y) : cmp_Or_int_M.C vals y := cmp_Or_int_M.c vals hm
theorem cmp_Or_int_ok : FnOK Try.prog 135 cmp_Or_int_M.S := by
 refine fm tt cmp_Or_int_M [] Try.call135 Try.func135 rfl Try.results135 Try.ntmps135 ?_
 rintro vals y cx G hm
 have hm : cmp_Or_int vals = some y := hm
 unfold cmp_Or_int at hm
 refine rg G (rg G (Ok_seq (rs G (hN 1 vals h0) ?_)))
 refine tF hm (fun _ => ⟨[(3, kV .i64 0)], [], 32⟩) (fun v1 hr hm => ?_) ?_
 ·refine Ok_block (lp G hm (fun v => ⟨[(3, kV .i64 0), (6, dV vals), (7, dV (vals.length : Int)), (8, dV v)], [], 32⟩) ?_)
  rintro v r0 hb hm
  rw [cmp_Or_int_L1] at hm
  refine rg G (Ok_seq (cd hm (fun hm => ?_) (fun hm => ?_)))
  ·refine X_skip (thN (Ok_seq (Ok_block ?_)))
   obtain ⟨e, h, hm⟩ := obind hm
   refine rs G (hD 0 h h0) ?_
   refine rg G (cd hm (fun hm => ?_) (fun hm => ?_))
   ·refine rg G ?_
    have hm := eL hm hb hr
    cases hm
    exact rt [] []
   ·exact X_skip (ibN (thN (rh G (wL G hm))))
  ·exact Ok_exit (thE (thE (ibE (wE G hm hb))))
 rintro ⟨⟩ hm s hw
 refine thN (Ok_weak hw ?_)
 refine rg G ?_
 cases hm
 exact rt [] []
noncomputable def i_fittingTrips_1_M : MS (Match × Match) Int := ⟨.x .r .r, fun x => i_fittingTrips_1 x.1 x.2, fun y => dV y, fun _ => [], fun _ _ => []⟩
theorem i_fittingTrips_1_c {a b y} (hm : i_fittingTrips_1 a b = some y) : i_fittingTrips_1_M.C (a, b) y := i_fittingTrips_1_M.c (a, b) hm
theorem i_fittingTrips_1_ok : FnOK Try.prog 134 i_fittingTrips_1_M.S := by
 refine fm tt i_fittingTrips_1_M [fo i_absolute_ok, fo cmp_Compare_int_ok, fo cmp_Or_int_ok] Try.call134 Try.func134 rfl Try.results134 Try.ntmps134 ?_
 rintro ⟨a, b⟩ y cx G hm
 have hm : i_fittingTrips_1 a b = some y := hm
 unfold i_fittingTrips_1 at hm
 refine rg G ?_
 obtain ⟨r5, h5, hm⟩ := obind hm
 obtain ⟨r6, h6, hm⟩ := obind hm
 obtain ⟨r7, h7, hm⟩ := obind hm
 obtain ⟨r8, h8, hm⟩ := obind hm
 obtain ⟨r9, h9, hm⟩ := obind hm
 refine ds G [] (hC 2 (i_absolute_c h5) (hC 5 (i_absolute_c h6) (hC 6 (cmp_Compare_int_c h7) (hC 11 (cmp_Compare_int_c h8) (hC 13 (cmp_Or_int_c h9) h0))))) ?_
 cases hm
 exact rt [] []
noncomputable def slices_insertionSortCmpFunc_Match_w__i_fittingTrips_1_M : MS ((List Match) × Int × Int) ((List Match)) := ⟨⟨[.sl, .rd, .rd, .fn 134 []], fun x => [.sc undef, Enc.e x.2.1, Enc.e x.2.2, .agg []], fun x => [arO 78 x.1], 1, 1, fun _ => rfl, fun _ => rfl, rfl, (by
  rintro ⟨a0, a1, a2⟩ ⟨b0, b1, b2⟩ h hO
  have q0 : a0 = b0 := Enc.inj _ _ (congrArg (fun l => D.sl 3 (obL l 0)) hO)
  have q1 : a1 = b1 := qI 1 h
  have q2 : a2 = b2 := qI 2 h
  subst q0; subst q1; subst q2; rfl)⟩, fun x => slices_insertionSortCmpFunc_Match_w__i_fittingTrips_1 x.1 x.2.1 x.2.2, fun _ => .tup [], fun _ => [], fun _ y => [arO 78 y]⟩
theorem slices_insertionSortCmpFunc_Match_w__i_fittingTrips_1_c {data a b y} (hm : slices_insertionSortCmpFunc_Match_w__i_fittingTrips_1 data a b = some y) : slices_insertionSortCmpFunc_Match_w__i_fittingTrips_1_M.C (data, a, b) y := slices_insertionSortCmpFunc_Match_w__i_fittingTrips_1_M.c (data, a, b) hm
theorem slices_insertionSortCmpFunc_Match_w__i_fittingTrips_1_ok : FnOK Try.prog 185 slices_insertionSortCmpFunc_Match_w__i_fittingTrips_1_M.S := by
 refine fm tt slices_insertionSortCmpFunc_Match_w__i_fittingTrips_1_M [fo i_fittingTrips_1_ok] Try.call185 Try.func185 rfl Try.results185 Try.ntmps185 ?_
 rintro ⟨data, a, b⟩ y cx G hm
 have hm : slices_insertionSortCmpFunc_Match_w__i_fittingTrips_1 data a b = some y := hm
 obtain ⟨cmp, hf_cmp⟩ : ∃ q, (fun (z0 : Match) (z1 : Match) => i_fittingTrips_1 z0 z1) = q := ⟨_, rfl⟩
 have hm : slices_insertionSortCmpFunc_Match_w data a b cmp = some y := by rw [← hf_cmp]; exact hm
 unfold slices_insertionSortCmpFunc_Match_w at hm
 refine rg G (Ok_block (lp G hm (fun (v, data1) => ⟨[(0, .own 0), (1, dV a), (2, dV b), (3, .fn 134 []), (8, dV v)], [aX 0 78 data1], 48⟩) ?_))
 rintro ⟨v, data1⟩ r0 hb hm
 rw [slices_insertionSortCmpFunc_Match_w_L2] at hm
 refine Ok_seq (rg G (cd hm (fun hm => ?_) (fun hm => ?_)))
 ·refine X_skip (thN (Ok_seq (Ok_block (rg G (tl hm (fun data3 => ⟨[(0, .own 0), (1, dV a), (2, dV b), (3, .fn 134 []), (8, dV v)], [aX 0 78 data3], 48⟩) (fun data3 hm => ?_) ?_)))))
  ·refine Ok_block (lp G hm (fun (v1, data2) => ⟨[(0, .own 0), (1, dV a), (2, dV b), (3, .fn 134 []), (8, dV v), (9, dV v1)], [aX 0 78 data2], 48⟩) ?_)
   rintro ⟨v1, data2⟩ r0 hb1 hm
   rw [slices_insertionSortCmpFunc_Match_w_L1] at hm
   refine Ok_seq (jn hm (fun v2 => ⟨[(0, .own 0), (1, dV a), (2, dV b), (3, .fn 134 []), (8, dV v), (9, dV v1), (34, dV v2)], [aX 0 78 data2], 48⟩) (fun v2 hm => ?_) ?_)
   ·rcases bf hm with ⟨hb2, hm⟩ | ⟨hb2, hm⟩
    ·obtain ⟨e2, h3, hm⟩ := obind hm
     obtain ⟨e3, h4, hm⟩ := obind hm
     obtain ⟨r1, h5, hm⟩ := obind hm
     have h5 : i_fittingTrips_1 e2 e3 = some r1 := by rw [← hf_cmp] at h5; exact h5
     refine de G [(14, [])] (hO 3 (.b true) (hP hb2 (hD 7 h3 (hE 8 h3 (hD 12 h4 (hE 13 h4 (hC 14 (i_fittingTrips_1_c h5) h0))))))) ?_
     exact wJ G hm
    ·refine de G [(14, [])] (hO 3 (.b false) (hP hb2 h0)) ?_
     exact wJ G hm
   rintro v2 hm
   refine cd hm (fun hm => ?_) (fun hm => ?_)
   ·refine X_skip (thN (Ok_seq (Ok_block ?_)))
    obtain ⟨e8, h10, hm⟩ := obind hm
    obtain ⟨e9, h11, hm⟩ := obind hm
    obtain ⟨e10, h12, hm⟩ := obind hm
    obtain ⟨e11, h13, hm⟩ := obind hm
    refine de G [(15, [0]), (17, [0])] (hD 8 h10 (hE 9 h10 (hD 12 h11 (hE 13 h11 (hD 14 h12 (hS 15 h12 e8 (hD 16 h13 (hS 17 h13 e9 h0)))))))) ?_
    exact ibN (thN (rh G (wL G hm)))
   ·exact Ok_exit (thE (thE (ibE (wD G hm hb1))))
  rintro data3 hm s hw
  refine ibN (thN (Ok_weak hw ?_))
  exact rh G (wL G hm)
 ·have hm := eD hm hb
  refine Ok_exit (thE (thE (ibE ?_)))
  cases hm
  exact fN [] []
noncomputable def slices_swapRangeCmpFunc_Match_w__i_fittingTrips_1_M : MS ((List Match) × Int × Int × Int) ((List Match)) := ⟨⟨[.sl, .rd, .rd, .rd, .fn 134 []], fun x => [.sc undef, Enc.e x.2.1, Enc.e x.2.2.1, Enc.e x.2.2.2, .agg []], fun x => [arO 78 x.1], 1, 1, fun _ => rfl, fun _ => rfl, rfl, (by
  rintro ⟨a0, a1, a2, a3⟩ ⟨b0, b1, b2, b3⟩ h hO
  have q0 : a0 = b0 := Enc.inj _ _ (congrArg (fun l => D.sl 3 (obL l 0)) hO)
  have q1 : a1 = b1 := qI 1 h
  have q2 : a2 = b2 := qI 2 h
  have q3 : a3 = b3 := qI 3 h
  subst q0; subst q1; subst q2; subst q3; rfl)⟩, fun x => slices_swapRangeCmpFunc_Match_w__i_fittingTrips_1 x.1 x.2.1 x.2.2.1 x.2.2.2, fun _ => .tup [], fun _ => [], fun _ y => [arO 78 y]⟩
theorem slices_swapRangeCmpFunc_Match_w__i_fittingTrips_1_c {data a b n y} (hm : slices_swapRangeCmpFunc_Match_w__i_fittingTrips_1 data a b n = some y) : slices_swapRangeCmpFunc_Match_w__i_fittingTrips_1_M.C (data, a, b, n) y := slices_swapRangeCmpFunc_Match_w__i_fittingTrips_1_M.c (data, a, b, n) hm
theorem slices_swapRangeCmpFunc_Match_w__i_fittingTrips_1_ok : FnOK Try.prog 194 slices_swapRangeCmpFunc_Match_w__i_fittingTrips_1_M.S := by
 refine fm tt slices_swapRangeCmpFunc_Match_w__i_fittingTrips_1_M [] Try.call194 Try.func194 rfl Try.results194 Try.ntmps194 ?_
 rintro ⟨data, a, b, n⟩ y cx G hm
 have hm : slices_swapRangeCmpFunc_Match_w__i_fittingTrips_1 data a b n = some y := hm
 obtain ⟨cmp, hf_cmp⟩ : ∃ q, (fun (z0 : Match) (z1 : Match) => i_fittingTrips_1 z0 z1) = q := ⟨_, rfl⟩
 have hm : slices_swapRangeCmpFunc_Match_w data a b n cmp = some y := by rw [← hf_cmp]; exact hm
 unfold slices_swapRangeCmpFunc_Match_w at hm
 refine rg G (Ok_block (lp G hm (fun (v, data1) => ⟨[(0, .own 0), (1, dV a), (2, dV b), (3, dV n), (4, .fn 134 []), (10, dV v)], [aX 0 78 data1], 48⟩) ?_))
 rintro ⟨v, data1⟩ r0 hb hm
 rw [slices_swapRangeCmpFunc_Match_w_L1] at hm
 refine Ok_seq (rg G (cd hm (fun hm => ?_) (fun hm => ?_)))
 ·refine X_skip (thN (Ok_seq (Ok_block ?_)))
  obtain ⟨e4, h4, hm⟩ := obind hm
  obtain ⟨e5, h5, hm⟩ := obind hm
  obtain ⟨e6, h6, hm⟩ := obind hm
  obtain ⟨e7, h7, hm⟩ := obind hm
  refine de G [(21, [0]), (23, [0])] (hD 12 h4 (hE 13 h4 (hD 18 h5 (hE 19 h5 (hD 20 h6 (hS 21 h6 e4 (hD 22 h7 (hS 23 h7 e5 h0)))))))) ?_
  exact ibN (thN (rh G (wL G hm)))
 ·have hm := eD hm hb
  refine Ok_exit (thE (thE (ibE ?_)))
  cases hm
  exact fN [] []
noncomputable def slices_rotateCmpFunc_Match_w__i_fittingTrips_1_M : MS ((List Match) × Int × Int × Int) ((List Match)) := ⟨⟨[.sl, .rd, .rd, .rd, .fn 134 []], fun x => [.sc undef, Enc.e x.2.1, Enc.e x.2.2.1, Enc.e x.2.2.2, .agg []], fun x => [arO 78 x.1], 1, 1, fun _ => rfl, fun _ => rfl, rfl, (by
  rintro ⟨a0, a1, a2, a3⟩ ⟨b0, b1, b2, b3⟩ h hO
  have q0 : a0 = b0 := Enc.inj _ _ (congrArg (fun l => D.sl 3 (obL l 0)) hO)
  have q1 : a1 = b1 := qI 1 h
  have q2 : a2 = b2 := qI 2 h
  have q3 : a3 = b3 := qI 3 h
  subst q0; subst q1; subst q2; subst q3; rfl)⟩, fun x => slices_rotateCmpFunc_Match_w__i_fittingTrips_1 x.1 x.2.1 x.2.2.1 x.2.2.2, fun _ => .tup [], fun _ => [], fun _ y => [arO 78 y]⟩
theorem slices_rotateCmpFunc_Match_w__i_fittingTrips_1_c {data a m b y} (hm : slices_rotateCmpFunc_Match_w__i_fittingTrips_1 data a m b = some y) : slices_rotateCmpFunc_Match_w__i_fittingTrips_1_M.C (data, a, m, b) y := slices_rotateCmpFunc_Match_w__i_fittingTrips_1_M.c (data, a, m, b) hm
theorem slices_rotateCmpFunc_Match_w__i_fittingTrips_1_ok : FnOK Try.prog 192 slices_rotateCmpFunc_Match_w__i_fittingTrips_1_M.S := by
 refine fm tt slices_rotateCmpFunc_Match_w__i_fittingTrips_1_M [fo slices_swapRangeCmpFunc_Match_w__i_fittingTrips_1_ok] Try.call192 Try.func192 rfl Try.results192 Try.ntmps192 ?_
 rintro ⟨data, a, m, b⟩ y cx G hm
 have hm : slices_rotateCmpFunc_Match_w__i_fittingTrips_1 data a m b = some y := hm
 obtain ⟨cmp, hf_cmp⟩ : ∃ q, (fun (z0 : Match) (z1 : Match) => i_fittingTrips_1 z0 z1) = q := ⟨_, rfl⟩
 have hm : slices_rotateCmpFunc_Match_w data a m b cmp = some y := by rw [← hf_cmp]; exact hm
 unfold slices_rotateCmpFunc_Match_w at hm
 refine rg G (rg G (jn hm (fun (v2, data2) => ⟨[(0, .own 0), (2, dV m), (4, .fn 134 []), (10, dV v2)], [aX 0 78 data2], 48⟩) (fun vv hm => ?_) ?_))
 ·refine Ok_block (lp G hm (fun (v, v1, data1) => ⟨[(0, .own 0), (2, dV m), (4, .fn 134 []), (10, dV v), (11, dV v1)], [aX 0 78 data1], 48⟩) ?_)
  rintro ⟨v, v1, data1⟩ r0 hb hm
  rw [slices_rotateCmpFunc_Match_w_L1] at hm
  refine Ok_seq (rg G (cd hm (fun hm => ?_) (fun hm => ?_)))
  ·refine X_skip (thN (Ok_block (rg G (cd hm (fun hm => ?_) (fun hm => ?_)))))
   ·obtain ⟨r, h, hm⟩ := obind hm
    have h : slices_swapRangeCmpFunc_Match_w__i_fittingTrips_1 data1 (w64 (m - v)) m v1 = some r := by rw [← hf_cmp] at h; exact h
    refine rs G (hC 7 (slices_swapRangeCmpFunc_Match_w__i_fittingTrips_1_c h) h0) ?_
    exact rh G (ibN (wL G hm))
   ·obtain ⟨r1, h1, hm⟩ := obind hm
    have h1 : slices_swapRangeCmpFunc_Match_w__i_fittingTrips_1 data1 (w64 (m - v)) (w64 ((w64 (m + v1)) - v)) v = some r1 := by rw [← hf_cmp] at h1; exact h1
    refine rs G (hC 11 (slices_swapRangeCmpFunc_Match_w__i_fittingTrips_1_c h1) h0) ?_
    exact rh G (ibN (wL G hm))
  ·exact Ok_exit (thE (thE (ibE (wD G hm hb))))
 rintro ⟨v2, data2⟩ hm
 obtain ⟨r2, h2, hm⟩ := obind hm
 have h2 : slices_swapRangeCmpFunc_Match_w__i_fittingTrips_1 data2 (w64 (m - v2)) m v2 = some r2 := by rw [← hf_cmp] at h2; exact h2
 refine re G (hC 7 (slices_swapRangeCmpFunc_Match_w__i_fittingTrips_1_c h2) h0) ?_
 cases hm
 exact fN [] []
noncomputable def slices_symMergeCmpFunc_Match_w__i_fittingTrips_1_MR (rec_ : (List Match) → Int → Int → Int → Option ((List Match))) : MS ((List Match) × Int × Int × Int) ((List Match)) := ⟨⟨[.sl, .rd, .rd, .rd, .fn 134 []], fun x => [.sc undef, Enc.e x.2.1, Enc.e x.2.2.1, Enc.e x.2.2.2, .agg []], fun x => [arO 78 x.1], 1, 1, fun _ => rfl, fun _ => rfl, rfl, (by
  rintro ⟨a0, a1, a2, a3⟩ ⟨b0, b1, b2, b3⟩ h hO
  have q0 : a0 = b0 := Enc.inj _ _ (congrArg (fun l => D.sl 3 (obL l 0)) hO)
  have q1 : a1 = b1 := qI 1 h
  have q2 : a2 = b2 := qI 2 h
  have q3 : a3 = b3 := qI 3 h
  subst q0; subst q1; subst q2; subst q3; rfl)⟩, fun x => rec_ x.1 x.2.1 x.2.2.1 x.2.2.2, fun _ => .tup [], fun _ => [], fun _ y => [arO 78 y]⟩
noncomputable def slices_symMergeCmpFunc_Match_w__i_fittingTrips_1_M : MS ((List Match) × Int × Int × Int) ((List Match)) := slices_symMergeCmpFunc_Match_w__i_fittingTrips_1_MR slices_symMergeCmpFunc_Match_w__i_fittingTrips_1
theorem slices_symMergeCmpFunc_Match_w__i_fittingTrips_1_c {data a m b y} (hm : slices_symMergeCmpFunc_Match_w__i_fittingTrips_1 data a m b = some y) : slices_symMergeCmpFunc_Match_w__i_fittingTrips_1_M.C (data, a, m, b) y := slices_symMergeCmpFunc_Match_w__i_fittingTrips_1_M.c (data, a, m, b) hm
theorem slices_symMergeCmpFunc_Match_w__i_fittingTrips_1_cR {rec_ : (List Match) → Int → Int → Int → Option ((List Match))} {data a m b y} (hm : rec_ data a m b = some y) : (slices_symMergeCmpFunc_Match_w__i_fittingTrips_1_MR rec_).C (data, a, m, b) y := (slices_symMergeCmpFunc_Match_w__i_fittingTrips_1_MR rec_).c (data, a, m, b) hm
theorem slices_symMergeCmpFunc_Match_w__i_fittingTrips_1_okF {rec_ : (List Match) → Int → Int → Int → Option ((List Match))} (hrec : FnOK Try.prog 186 (slices_symMergeCmpFunc_Match_w__i_fittingTrips_1_MR rec_).S) : FnOK Try.prog 186 (slices_symMergeCmpFunc_Match_w__i_fittingTrips_1_MR (slices_symMergeCmpFunc_Match_w__i_fittingTrips_1_F rec_)).S := by
 refine fm tt (slices_symMergeCmpFunc_Match_w__i_fittingTrips_1_MR (slices_symMergeCmpFunc_Match_w__i_fittingTrips_1_F rec_)) [fo hrec, fo i_fittingTrips_1_ok, fo slices_rotateCmpFunc_Match_w__i_fittingTrips_1_ok] Try.call186 Try.func186 rfl Try.results186 Try.ntmps186 ?_
 rintro ⟨data, a, m, b⟩ y cx G hm
 have hm : slices_symMergeCmpFunc_Match_w__i_fittingTrips_1_F rec_ data a m b = some y := hm
 unfold slices_symMergeCmpFunc_Match_w__i_fittingTrips_1_F at hm
 refine Ok_seq (rg G (cd hm (fun hm => ?_) (fun hm => ?_)))
 ·refine rg G (rg G (jn hm (fun j1 => ⟨[(0, .own 0), (1, dV a), (4, .fn 134 []), (10, dV j1)], [aX 0 78 data], 48⟩) (fun j1 hm => ?_) ?_))
  ·refine Ok_block (lp G hm (fun (j, h) => ⟨[(0, .own 0), (1, dV a), (4, .fn 134 []), (10, dV j), (11, dV h)], [aX 0 78 data], 48⟩) ?_)
   rintro ⟨j, h⟩ r0 hb hm
   rw [slices_symMergeCmpFunc_Match_w__i_fittingTrips_1_L1] at hm
   refine Ok_seq (rg G (cd hm (fun hm => ?_) (fun hm => ?_)))
   ·refine X_skip (thN (Ok_block ?_))
    obtain ⟨u, h1, hm⟩ := obind hm
    refine rs G (hK h1 h0) ?_
    obtain ⟨e2, h5, hm⟩ := obind hm
    obtain ⟨e3, h6, hm⟩ := obind hm
    obtain ⟨r1, h7, hm⟩ := obind hm
    refine ds G [(9, [])] (hD 3 h5 (hE 4 h5 (hD 7 h6 (hE 8 h6 (hC 9 (i_fittingTrips_1_c h7) h0))))) ?_
    refine cd hm (fun hm => ?_) (fun hm => ?_)
    ·exact rh G (ibN (wL G hm))
    ·exact rh G (ibN (wL G hm))
   ·exact Ok_exit (thE (thE (ibE (wD G hm hb))))
  rintro j1 hm
  refine Ok_seq (rg G (tl hm (fun data2 => ⟨[(0, .own 0), (4, .fn 134 [])], [aX 0 78 data2], 48⟩) (fun data2 hm => ?_) ?_))
  ·refine Ok_block (lp G hm (fun (mid, data1) => ⟨[(0, .own 0), (4, .fn 134 []), (10, dV j1), (13, dV mid)], [aX 0 78 data1], 48⟩) ?_)
   rintro ⟨mid, data1⟩ r0 hb1 hm
   rw [slices_symMergeCmpFunc_Match_w__i_fittingTrips_1_L2] at hm
   refine Ok_seq (rg G (cd hm (fun hm => ?_) (fun hm => ?_)))
   ·refine X_skip (thN (Ok_seq (Ok_block ?_)))
    obtain ⟨e8, h12, hm⟩ := obind hm
    obtain ⟨e9, h13, hm⟩ := obind hm
    obtain ⟨e10, h14, hm⟩ := obind hm
    obtain ⟨e11, h15, hm⟩ := obind hm
    refine de G [(15, [0]), (17, [0])] (hD 8 h12 (hE 9 h12 (hD 12 h13 (hE 13 h13 (hD 14 h14 (hS 15 h14 e8 (hD 16 h15 (hS 17 h15 e9 h0)))))))) ?_
    exact ibN (thN (rh G (wL G hm)))
   ·exact Ok_exit (thE (thE (ibE (wD G hm hb1))))
  rintro data2 hm s hw
  refine thN (Ok_weak hw ?_)
  cases hm
  exact rt [] []
 ·refine X_skip (thN (Ok_seq (rg G (cd hm (fun hm => ?_) (fun hm => ?_)))))
  ·refine rg G (rg G (jn hm (fun n1 => ⟨[(0, .own 0), (2, dV m), (4, .fn 134 []), (14, dV n1)], [aX 0 78 data], 48⟩) (fun n1 hm => ?_) ?_))
   ·refine Ok_block (lp G hm (fun (n, start) => ⟨[(0, .own 0), (2, dV m), (4, .fn 134 []), (14, dV n), (15, dV start)], [aX 0 78 data], 48⟩) ?_)
    rintro ⟨n, start⟩ r0 hb2 hm
    rw [slices_symMergeCmpFunc_Match_w__i_fittingTrips_1_L3] at hm
    refine Ok_seq (rg G (cd hm (fun hm => ?_) (fun hm => ?_)))
    ·refine X_skip (thN (Ok_block ?_))
     obtain ⟨u1, h16, hm⟩ := obind hm
     refine rs G (hK h16 h0) ?_
     obtain ⟨e14, h20, hm⟩ := obind hm
     obtain ⟨e15, h21, hm⟩ := obind hm
     obtain ⟨r3, h22, hm⟩ := obind hm
     refine ds G [(9, [])] (hD 3 h20 (hE 4 h20 (hD 7 h21 (hE 8 h21 (hC 9 (i_fittingTrips_1_c h22) h0))))) ?_
     refine cd hm (fun hm => ?_) (fun hm => ?_)
     ·exact rh G (ibN (wL G hm))
     ·exact rh G (ibN (wL G hm))
    ·exact Ok_exit (thE (thE (ibE (wD G hm hb2))))
   rintro n1 hm
   refine Ok_seq (rg G (tl hm (fun data4 => ⟨[(0, .own 0), (4, .fn 134 [])], [aX 0 78 data4], 48⟩) (fun data4 hm => ?_) ?_))
   ·refine Ok_block (lp G hm (fun (p, data3) => ⟨[(0, .own 0), (4, .fn 134 []), (14, dV n1), (17, dV p)], [aX 0 78 data3], 48⟩) ?_)
    rintro ⟨p, data3⟩ r0 hb3 hm
    rw [slices_symMergeCmpFunc_Match_w__i_fittingTrips_1_L4] at hm
    refine Ok_seq (rg G (cd hm (fun hm => ?_) (fun hm => ?_)))
    ·refine X_skip (thN (Ok_seq (Ok_block ?_)))
     obtain ⟨e20, h27, hm⟩ := obind hm
     obtain ⟨e21, h28, hm⟩ := obind hm
     obtain ⟨e22, h29, hm⟩ := obind hm
     obtain ⟨e23, h30, hm⟩ := obind hm
     refine de G [(15, [0]), (17, [0])] (hD 8 h27 (hE 9 h27 (hD 12 h28 (hE 13 h28 (hD 14 h29 (hS 15 h29 e20 (hD 16 h30 (hS 17 h30 e21 h0)))))))) ?_
     exact ibN (thN (rh G (wL G hm)))
    ·exact Ok_exit (thE (thE (ibE (wD G hm hb3))))
   rintro data4 hm s1 hw1
   refine thN (Ok_weak hw1 ?_)
   cases hm
   exact rt [] []
  ·refine X_skip (thN ?_)
   obtain ⟨u2, h31, hm⟩ := obind hm
   refine rs G (hK h31 h0) ?_
   refine rg G (rg G (jn hm (fun (v, v1) => ⟨[(0, .own 0), (1, dV a), (2, dV m), (3, dV b), (4, .fn 134 []), (18, dV (w64 (((IntKind.u64.wrap ((w64 (a + b)))).fdiv (2 ^ (min (1 : Int).toNat (IntKind.u64).bits)))))), (19, dV (w64 ((w64 (((IntKind.u64.wrap ((w64 (a + b)))).fdiv (2 ^ (min (1 : Int).toNat (IntKind.u64).bits))))) + m))), (20, dV v), (21, dV v1)], [aX 0 78 data], 48⟩) (fun vv hm => ?_) ?_))
   ·refine rg G (cd hm (fun hm => ?_) (fun hm => ?_))
    ·exact rg G (rh G (wJ G hm))
    ·exact rg G (rh G (wJ G hm))
   rintro ⟨v, v1⟩ hm
   refine rg G (jn hm (fun v4 => ⟨[(0, .own 0), (1, dV a), (2, dV m), (3, dV b), (4, .fn 134 []), (18, dV (w64 (((IntKind.u64.wrap ((w64 (a + b)))).fdiv (2 ^ (min (1 : Int).toNat (IntKind.u64).bits)))))), (19, dV (w64 ((w64 (((IntKind.u64.wrap ((w64 (a + b)))).fdiv (2 ^ (min (1 : Int).toNat (IntKind.u64).bits))))) + m))), (20, dV v4)], [aX 0 78 data], 48⟩) (fun v4 hm => ?_) ?_)
   ·refine Ok_block (lp G hm (fun (v2, v3) => ⟨[(0, .own 0), (1, dV a), (2, dV m), (3, dV b), (4, .fn 134 []), (18, dV (w64 (((IntKind.u64.wrap ((w64 (a + b)))).fdiv (2 ^ (min (1 : Int).toNat (IntKind.u64).bits)))))), (19, dV (w64 ((w64 (((IntKind.u64.wrap ((w64 (a + b)))).fdiv (2 ^ (min (1 : Int).toNat (IntKind.u64).bits))))) + m))), (20, dV v2), (21, dV v3), (22, dV (w64 ((w64 ((w64 (((IntKind.u64.wrap ((w64 (a + b)))).fdiv (2 ^ (min (1 : Int).toNat (IntKind.u64).bits))))) + m)) - 1)))], [aX 0 78 data], 48⟩) ?_)
    rintro ⟨v2, v3⟩ r0 hb4 hm
    rw [slices_symMergeCmpFunc_Match_w__i_fittingTrips_1_L5] at hm
    refine Ok_seq (rg G (cd hm (fun hm => ?_) (fun hm => ?_)))
    ·refine X_skip (thN (Ok_block ?_))
     obtain ⟨u3, h32, hm⟩ := obind hm
     refine rs G (hK h32 h0) ?_
     obtain ⟨e26, h36, hm⟩ := obind hm
     obtain ⟨e27, h37, hm⟩ := obind hm
     obtain ⟨r5, h38, hm⟩ := obind hm
     refine ds G [(11, [])] (hD 5 h36 (hE 6 h36 (hD 9 h37 (hE 10 h37 (hC 11 (i_fittingTrips_1_c h38) h0))))) ?_
     refine cd hm (fun hm => ?_) (fun hm => ?_)
     ·exact rh G (ibN (wL G hm))
     ·exact rh G (ibN (wL G hm))
    ·exact Ok_exit (thE (thE (ibE (wD G hm hb4))))
   rintro v4 hm
   refine rg G (jn hm (fun data5 => ⟨[(0, .own 0), (1, dV a), (3, dV b), (4, .fn 134 []), (18, dV (w64 (((IntKind.u64.wrap ((w64 (a + b)))).fdiv (2 ^ (min (1 : Int).toNat (IntKind.u64).bits)))))), (20, dV v4), (24, dV (w64 ((w64 ((w64 (((IntKind.u64.wrap ((w64 (a + b)))).fdiv (2 ^ (min (1 : Int).toNat (IntKind.u64).bits))))) + m)) - v4)))], [aX 0 78 data5], 48⟩) (fun data5 hm => ?_) ?_)
   ·refine jn hm (fun v5 => ⟨[(0, .own 0), (1, dV a), (2, dV m), (3, dV b), (4, .fn 134 []), (18, dV (w64 (((IntKind.u64.wrap ((w64 (a + b)))).fdiv (2 ^ (min (1 : Int).toNat (IntKind.u64).bits)))))), (20, dV v4), (24, dV (w64 ((w64 ((w64 (((IntKind.u64.wrap ((w64 (a + b)))).fdiv (2 ^ (min (1 : Int).toNat (IntKind.u64).bits))))) + m)) - v4))), (185, dV v5)], [aX 0 78 data], 48⟩) (fun v5 hm => ?_) ?_
    ·rcases bf hm with ⟨hb5, hm⟩ | ⟨hb5, hm⟩
     ·refine re G (hO 3 (.b true) (hP hb5 h0)) ?_
      exact wJ G hm
     ·refine re G (hO 3 (.b false) (hP hb5 h0)) ?_
      exact wJ G hm
    rintro v5 hm
    refine cd hm (fun hm => ?_) (fun hm => ?_)
    ·obtain ⟨r6, h39, hm⟩ := obind hm
     refine re G (hC 5 (slices_rotateCmpFunc_Match_w__i_fittingTrips_1_c h39) h0) ?_
     exact wJ G hm
    ·exact X_skip (wJ G hm)
   rintro data5 hm
   refine jn hm (fun data6 => ⟨[(0, .own 0), (3, dV b), (4, .fn 134 []), (18, dV (w64 (((IntKind.u64.wrap ((w64 (a + b)))).fdiv (2 ^ (min (1 : Int).toNat (IntKind.u64).bits)))))), (24, dV (w64 ((w64 ((w64 (((IntKind.u64.wrap ((w64 (a + b)))).fdiv (2 ^ (min (1 : Int).toNat (IntKind.u64).bits))))) + m)) - v4)))], [aX 0 78 data6], 48⟩) (fun data6 hm => ?_) ?_
   ·refine jn hm (fun v6 => ⟨[(0, .own 0), (1, dV a), (3, dV b), (4, .fn 134 []), (18, dV (w64 (((IntKind.u64.wrap ((w64 (a + b)))).fdiv (2 ^ (min (1 : Int).toNat (IntKind.u64).bits)))))), (20, dV v4), (24, dV (w64 ((w64 ((w64 (((IntKind.u64.wrap ((w64 (a + b)))).fdiv (2 ^ (min (1 : Int).toNat (IntKind.u64).bits))))) + m)) - v4))), (199, dV v6)], [aX 0 78 data5], 48⟩) (fun v6 hm => ?_) ?_
    ·rcases bf hm with ⟨hb6, hm⟩ | ⟨hb6, hm⟩
     ·refine re G (hO 3 (.b true) (hP hb6 h0)) ?_
      exact wJ G hm
     ·refine re G (hO 3 (.b false) (hP hb6 h0)) ?_
      exact wJ G hm
    rintro v6 hm
    refine cd hm (fun hm => ?_) (fun hm => ?_)
    ·obtain ⟨r7, h40, hm⟩ := obind hm
     refine re G (hC 5 (slices_symMergeCmpFunc_Match_w__i_fittingTrips_1_cR h40) h0) ?_
     exact wJ G hm
    ·exact X_skip (wJ G hm)
   rintro data6 hm
   refine jn hm (fun v7 => ⟨[(0, .own 0), (3, dV b), (4, .fn 134 []), (18, dV (w64 (((IntKind.u64.wrap ((w64 (a + b)))).fdiv (2 ^ (min (1 : Int).toNat (IntKind.u64).bits)))))), (24, dV (w64 ((w64 ((w64 (((IntKind.u64.wrap ((w64 (a + b)))).fdiv (2 ^ (min (1 : Int).toNat (IntKind.u64).bits))))) + m)) - v4))), (213, dV v7)], [aX 0 78 data6], 48⟩) (fun v7 hm => ?_) ?_
   ·rcases bf hm with ⟨hb7, hm⟩ | ⟨hb7, hm⟩
    ·refine re G (hO 3 (.b true) (hP hb7 h0)) ?_
     exact wJ G hm
    ·refine re G (hO 3 (.b false) (hP hb7 h0)) ?_
     exact wJ G hm
   rintro v7 hm
   refine cd hm (fun hm => ?_) (fun hm => ?_)
   ·obtain ⟨r8, h41, hm⟩ := obind hm
    refine re G (hC 5 (slices_symMergeCmpFunc_Match_w__i_fittingTrips_1_cR h41) h0) ?_
    cases hm
    exact fN [] []
   ·refine X_skip ?_
    cases hm
    exact fN [] []
theorem slices_symMergeCmpFunc_Match_w__i_fittingTrips_1_okn : ∀ k, FnOK Try.prog 186 (slices_symMergeCmpFunc_Match_w__i_fittingTrips_1_MR (slices_symMergeCmpFunc_Match_w__i_fittingTrips_1_k k)).S
 | 0 => ⟨fun args w => Try.call186 args w, fun vs w F ds obs κ hp => by obtain ⟨x, y, _, _, h⟩ := hp; cases h⟩
 | k + 1 => slices_symMergeCmpFunc_Match_w__i_fittingTrips_1_okF (slices_symMergeCmpFunc_Match_w__i_fittingTrips_1_okn k)
theorem slices_symMergeCmpFunc_Match_w__i_fittingTrips_1_ok : FnOK Try.prog 186 slices_symMergeCmpFunc_Match_w__i_fittingTrips_1_M.S := slices_symMergeCmpFunc_Match_w__i_fittingTrips_1_okn 4294967296
noncomputable def slices_stableCmpFunc_Match_w__i_fittingTrips_1_M : MS ((List Match) × Int) ((List Match)) := ⟨⟨[.sl, .rd, .fn 134 []], fun x => [.sc undef, Enc.e x.2, .agg []], fun x => [arO 78 x.1], 1, 1, fun _ => rfl, fun _ => rfl, rfl, (by
  rintro ⟨a0, a1⟩ ⟨b0, b1⟩ h hO
  have q0 : a0 = b0 := Enc.inj _ _ (congrArg (fun l => D.sl 3 (obL l 0)) hO)
  have q1 : a1 = b1 := qI 1 h
  subst q0; subst q1; rfl)⟩, fun x => slices_stableCmpFunc_Match_w__i_fittingTrips_1 x.1 x.2, fun _ => .tup [], fun _ => [], fun _ y => [arO 78 y]⟩
theorem slices_stableCmpFunc_Match_w__i_fittingTrips_1_c {data n y} (hm : slices_stableCmpFunc_Match_w__i_fittingTrips_1 data n = some y) : slices_stableCmpFunc_Match_w__i_fittingTrips_1_M.C (data, n) y := slices_stableCmpFunc_Match_w__i_fittingTrips_1_M.c (data, n) hm
theorem slices_stableCmpFunc_Match_w__i_fittingTrips_1_ok : FnOK Try.prog 166 slices_stableCmpFunc_Match_w__i_fittingTrips_1_M.S := by
 refine fm tt slices_stableCmpFunc_Match_w__i_fittingTrips_1_M [fo slices_insertionSortCmpFunc_Match_w__i_fittingTrips_1_ok, fo slices_symMergeCmpFunc_Match_w__i_fittingTrips_1_ok] Try.call166 Try.func166 rfl Try.results166 Try.ntmps166 ?_
 rintro ⟨data, n⟩ y cx G hm
 have hm : slices_stableCmpFunc_Match_w__i_fittingTrips_1 data n = some y := hm
 unfold slices_stableCmpFunc_Match_w__i_fittingTrips_1 at hm
 refine rg G (rg G (jn hm (fun (v2, data2) => ⟨[(0, .own 0), (1, dV n), (2, .fn 134 []), (6, kV .i64 20), (7, dV v2)], [aX 0 78 data2], 48⟩) (fun vv1 hm => ?_) ?_))
 ·refine Ok_block (lp G hm (fun (v, v1, data1) => ⟨[(0, .own 0), (1, dV n), (2, .fn 134 []), (6, kV .i64 20), (7, dV v), (8, dV v1)], [aX 0 78 data1], 48⟩) ?_)
  rintro ⟨v, v1, data1⟩ r0 hb hm
  rw [slices_stableCmpFunc_Match_w__i_fittingTrips_1_L1] at hm
  refine Ok_seq (rg G (cd hm (fun hm => ?_) (fun hm => ?_)))
  ·refine X_skip (thN (Ok_block ?_))
   obtain ⟨r, h, hm⟩ := obind hm
   refine rs G (hC 4 (slices_insertionSortCmpFunc_Match_w__i_fittingTrips_1_c h) h0) ?_
   exact rg G (rh G (ibN (wL G hm)))
  ·exact Ok_exit (thE (thE (ibE (wD G hm hb))))
 rintro ⟨v2, data2⟩ hm
 obtain ⟨r1, h1, hm⟩ := obind hm
 refine rs G (hC 4 (slices_insertionSortCmpFunc_Match_w__i_fittingTrips_1_c h1) h0) ?_
 refine Ok_block (lp G hm (fun (m, data3) => ⟨[(0, .own 0), (1, dV n), (2, .fn 134 []), (6, dV m)], [aX 0 78 data3], 48⟩) ?_)
 rintro ⟨m, data3⟩ r0 hb1 hm
 rw [slices_stableCmpFunc_Match_w__i_fittingTrips_1_L3] at hm
 refine Ok_seq (rg G (cd hm (fun hm => ?_) (fun hm => ?_)))
 ·refine X_skip (thN (Ok_block (rg G (jn hm (fun (v5, data5) => ⟨[(0, .own 0), (1, dV n), (2, .fn 134 []), (6, dV m), (7, dV v5)], [aX 0 78 data5], 48⟩) (fun vv hm => ?_) ?_))))
  ·refine Ok_block (lp G hm (fun (v3, v4, data4) => ⟨[(0, .own 0), (1, dV n), (2, .fn 134 []), (6, dV m), (7, dV v3), (8, dV v4)], [aX 0 78 data4], 48⟩) ?_)
   rintro ⟨v3, v4, data4⟩ r0 hb2 hm
   rw [slices_stableCmpFunc_Match_w__i_fittingTrips_1_L2] at hm
   refine Ok_seq (rg G (cd hm (fun hm => ?_) (fun hm => ?_)))
   ·refine X_skip (thN (Ok_block ?_))
    obtain ⟨r2, h2, hm⟩ := obind hm
    refine rs G (hC 7 (slices_symMergeCmpFunc_Match_w__i_fittingTrips_1_c h2) h0) ?_
    exact rg G (rh G (ibN (wL G hm)))
   ·exact Ok_exit (thE (thE (ibE (wD G hm hb2))))
  rintro ⟨v5, data5⟩ hm
  refine jn hm (fun data6 => ⟨[(0, .own 0), (1, dV n), (2, .fn 134 []), (6, dV m)], [aX 0 78 data6], 48⟩) (fun data6 hm => ?_) ?_
  ·refine rg G (rg G (cd hm (fun hm => ?_) (fun hm => ?_)))
   ·obtain ⟨r3, h3, hm⟩ := obind hm
    refine re G (hC 5 (slices_symMergeCmpFunc_Match_w__i_fittingTrips_1_c h3) h0) ?_
    exact wJ G hm
   ·exact X_skip (wJ G hm)
  rintro data6 hm
  exact rh G (ibN (wL G hm))
 ·have hm := eD hm hb1
  refine Ok_exit (thE (thE (ibE ?_)))
  cases hm
  exact fN [] []
noncomputable def slices_SortStableFunc_Match_w__i_fittingTrips_1_M : MS ((List Match)) ((List Match)) := ⟨⟨[.sl, .fn 134 []], fun x => [.sc undef, .agg []], fun x => [arO 78 x], 1, 1, fun _ => rfl, fun _ => rfl, rfl, (by
  rintro a0 b0 h hO
  have q0 : a0 = b0 := Enc.inj _ _ (congrArg (fun l => D.sl 3 (obL l 0)) hO)
  subst q0; rfl)⟩, slices_SortStableFunc_Match_w__i_fittingTrips_1, fun _ => .tup [], fun _ => [], fun _ y => [arO 78 y]⟩
theorem slices_SortStableFunc_Match_w__i_fittingTrips_1_c {x y} (hm : slices_SortStableFunc_Match_w__i_fittingTrips_1 x = some y) : slices_SortStableFunc_Match_w__i_fittingTrips_1_M.C x y := slices_SortStableFunc_Match_w__i_fittingTrips_1_M.c x hm
theorem slices_SortStableFunc_Match_w__i_fittingTrips_1_ok : FnOK Try.prog 133 slices_SortStableFunc_Match_w__i_fittingTrips_1_M.S := by
 refine fm tt slices_SortStableFunc_Match_w__i_fittingTrips_1_M [fo slices_stableCmpFunc_Match_w__i_fittingTrips_1_ok] Try.call133 Try.func133 rfl Try.results133 Try.ntmps133 ?_
 rintro x y cx G hm
 have hm : slices_SortStableFunc_Match_w__i_fittingTrips_1 x = some y := hm
 unfold slices_SortStableFunc_Match_w__i_fittingTrips_1 at hm
 obtain ⟨r, h, hm⟩ := obind hm
 refine re G (hN 2 x (hC 4 (slices_stableCmpFunc_Match_w__i_fittingTrips_1_c h) h0)) ?_
 cases hm
 exact fN [] []
noncomputable def i_fittingTrips_M : MS (Timetable × Report) ((List Match)) := ⟨.x .r .r, fun x => i_fittingTrips x.1 x.2, fun _ => .own 0, fun y => [arO 78 y], fun _ _ => []⟩
theorem i_fittingTrips_c {t r y} (hm : i_fittingTrips t r = some y) : i_fittingTrips_M.C (t, r) y := i_fittingTrips_M.c (t, r) hm
theorem i_fittingTrips_ok : FnOK Try.prog 101 i_fittingTrips_M.S := by
 refine fm tt i_fittingTrips_M [fo slices_SortStableFunc_Match_w__i_fittingTrips_1_ok] Try.call101 Try.func101 rfl Try.results101 Try.ntmps101 ?_
 rintro ⟨t, r⟩ y cx G hm
 have hm : i_fittingTrips t r = some y := hm
 unfold i_fittingTrips at hm
 refine rg G (rg G (Ok_seq (rs G (hN 2 t.Trips h0) ?_)))
 refine tl hm (fun x2 => ⟨[(5, .own 16)], [aX 16 78 x2], 48⟩) (fun x2 hm => ?_) ?_
 ·refine Ok_block (lpP hm (fun (v, x) => ⟨[(3, .ref 16 0), (5, .own 32), (9, dV t.Trips), (10, dV (t.Trips.length : Int)), (11, dV v)], [bX 16 [dV r.Vehicle, dV r.Time, dV r.Line, dV r.Done], aX 32 78 x], 64⟩) (Wk_J G.hL ⟨[(3, []), (5, [.o 32]), (9, []), (10, []), (11, [])], [(16, 32, [])], [(32, 78, 3, [])], 64⟩ (by kernel_rfl)) ?_)
  rintro ⟨v, x⟩ r0 hb hm
  rw [i_fittingTrips_L1] at hm
  refine rg G (Ok_seq (cd hm (fun hm => ?_) (fun hm => ?_)))
  ·refine X_skip (thN (jn hm (fun x1 => ⟨[(3, .ref 16 0), (5, .own 32), (9, dV t.Trips), (10, dV (t.Trips.length : Int)), (11, dV v)], [bX 16 [dV r.Vehicle, dV r.Time, dV r.Line, dV r.Done], aX 32 78 x1], 64⟩) (fun x1 hm => ?_) ?_))
   ·refine Ok_block ?_
    obtain ⟨e, h, hm⟩ := obind hm
    refine rs G (hD 0 h h0) ?_
    refine rg G (cd hm (fun hm => ?_) (fun hm => ?_))
    ·obtain ⟨u, h1, hm⟩ := obind hm
     refine re G (hA 15 24 h1 h0) ?_
     exact ibN (wJ G hm)
    ·exact X_skip (ibN (wJ G hm))
   rintro x1 hm
   exact rh G (wL G hm)
  ·exact Ok_exit (thE (thE (ibE (wD G hm hb))))
 rintro x2 hm s hw
 refine thN (Ok_weak hw ?_)
 obtain ⟨r1, h2, hm⟩ := obind hm
 refine rs G (hC 1 (slices_SortStableFunc_Match_w__i_fittingTrips_1_c h2) h0) ?_
 refine rg G ?_
 cases hm
 exact rt [16] []
noncomputable def i_FittingTrips_M : MS (Timetable × Report) ((List Match) × Bool) := ⟨.x .r .r, fun x => i_FittingTrips x.1 x.2, fun y => .tup [dV y.1, dV y.2], fun _ => [], fun _ _ => []⟩
theorem i_FittingTrips_c {t r y} (hm : i_FittingTrips t r = some y) : i_FittingTrips_M.C (t, r) y := i_FittingTrips_M.c (t, r) hm
theorem i_FittingTrips_ok : FnOK Try.prog 34 i_FittingTrips_M.S := by
 refine fm tt i_FittingTrips_M [fo i_IsValidTimetable_ok, fo i_isReport_ok, fo i_fittingTrips_ok] Try.call34 Try.func34 rfl Try.results34 Try.ntmps34 ?_
 rintro ⟨t, r⟩ y cx G hm
 have hm : i_FittingTrips t r = some y := hm
 unfold i_FittingTrips at hm
 refine rg G (Ok_seq ?_)
 obtain ⟨r1, h, hm⟩ := obind hm
 refine jn hm (fun v => ⟨[(2, .ref 16 0), (3, .ref 32 0), (14, dV v)], [bX 16 [dV t.Network.Stops, dV t.Network.Lines, dV t.Trips], bX 32 [dV r.Vehicle, dV r.Time, dV r.Line, dV r.Done]], 64⟩) (fun v hm => ?_) ?_
 ·rcases bf hm with ⟨hb, hm⟩ | ⟨hb, hm⟩
  ·refine re G (hC 1 (i_IsValidTimetable_c h) (hO 3 (.b true) (hP hb h0))) ?_
   exact wJ G hm
  ·obtain ⟨r2, h1, hm⟩ := obind hm
   refine re G (hC 1 (i_IsValidTimetable_c h) (hO 3 (.b false) (hP hb (hC 6 (i_isReport_c h1) h0)))) ?_
   exact wJ G hm
 rintro v hm
 refine cd hm (fun hm => ?_) (fun hm => ?_)
 ·refine rg G ?_
  cases hm
  exact rt [] [[.z 3]]
 ·refine X_skip (thN ?_)
  obtain ⟨r3, h2, hm⟩ := obind hm
  refine rs G (hC 2 (i_fittingTrips_c h2) h0) ?_
  cases hm
  exact rt [] []
noncomputable def s_l1Most_M : MS (Int × Int) Int := ⟨.x .r .r, fun x => s_l1Most x.1 x.2, fun y => dV y, fun _ => [], fun _ _ => []⟩
theorem s_l1Most_c {a b y} (hm : s_l1Most a b = some y) : s_l1Most_M.C (a, b) y := s_l1Most_M.c (a, b) hm
theorem s_l1Most_ok : FnOK Try.prog 88 s_l1Most_M.S := by
 refine fm tt s_l1Most_M [] Try.call88 Try.func88 rfl Try.results88 Try.ntmps88 ?_
 rintro ⟨a, b⟩ y cx G hm
 have hm : s_l1Most a b = some y := hm
 unfold s_l1Most at hm
 refine rg G (Ok_seq (rg G (cd hm (fun hm => ?_) (fun hm => ?_))))
 ·refine rg G ?_
  cases hm
  exact rt [] []
 ·refine X_skip (thN (rg G ?_))
  cases hm
  exact rt [] []
noncomputable def s_l25Abs_M : MS Int Int := ⟨.r, s_l25Abs, fun y => dV y, fun _ => [], fun _ _ => []⟩
theorem s_l25Abs_c {x y} (hm : s_l25Abs x = some y) : s_l25Abs_M.C x y := s_l25Abs_M.c x hm
theorem s_l25Abs_ok : FnOK Try.prog 137 s_l25Abs_M.S := by
 refine fm tt s_l25Abs_M [fo s_l1Most_ok] Try.call137 Try.func137 rfl Try.results137 Try.ntmps137 ?_
 rintro x y cx G hm
 have hm : s_l25Abs x = some y := hm
 unfold s_l25Abs at hm
 refine rg G ?_
 obtain ⟨r, h, hm⟩ := obind hm
 refine rs G (hC 3 (s_l1Most_c h) h0) ?_
 cases hm
 exact rt [] []
noncomputable def s_l25Fitting_M : MS (Timetable × Report) ((List Match)) := ⟨.x .r .r, fun x => s_l25Fitting x.1 x.2, fun _ => .own 0, fun y => [arO 78 y], fun _ _ => []⟩
theorem s_l25Fitting_c {t r y} (hm : s_l25Fitting t r = some y) : s_l25Fitting_M.C (t, r) y := s_l25Fitting_M.c (t, r) hm
theorem s_l25Fitting_ok : FnOK Try.prog 102 s_l25Fitting_M.S := by
 refine fm tt s_l25Fitting_M [fo s_l25Abs_ok] Try.call102 Try.func102 rfl Try.results102 Try.ntmps102 ?_
 rintro ⟨t, r⟩ y cx G hm
 have hm : s_l25Fitting t r = some y := hm
 unfold s_l25Fitting at hm
 refine rg G (rg G (Ok_seq (rg G (tl hm (fun m2 => ⟨[(5, .own 16)], [aX 16 78 m2], 48⟩) (fun m2 hm => ?_) ?_))))
 ·refine Ok_block (lp G hm (fun (k, m) => ⟨[(2, .ref 16 0), (3, .ref 32 0), (5, .own 48), (6, dV k)], [bX 16 [dV t.Network.Stops, dV t.Network.Lines, dV t.Trips], bX 32 [dV r.Vehicle, dV r.Time, dV r.Line, dV r.Done], aX 48 78 m], 80⟩) ?_)
  rintro ⟨k, m⟩ r0 hb hm
  rw [s_l25Fitting_L2] at hm
  refine Ok_seq (rs G (hN 3 t.Trips h0) ?_)
  refine cd hm (fun hm => ?_) (fun hm => ?_)
  ·refine X_skip (thN (jn hm (fun m1 => ⟨[(2, .ref 16 0), (3, .ref 32 0), (5, .own 48), (6, dV k)], [bX 16 [dV t.Network.Stops, dV t.Network.Lines, dV t.Trips], bX 32 [dV r.Vehicle, dV r.Time, dV r.Line, dV r.Done], aX 48 78 m1], 80⟩) (fun m1 hm => ?_) ?_))
   ·refine Ok_block (Ok_seq ?_)
    obtain ⟨e1, h1, hm⟩ := obind hm
    refine ds G [] (hD 3 h1 h0) ?_
    refine cd hm (fun hm => ?_) (fun hm => ?_)
    ·exact Ok_exit (thE (ibE (wJ G hm)))
    ·refine X_skip (thN ?_)
     obtain ⟨e4, h4, hm⟩ := obind hm
     obtain ⟨e5, h5, hm⟩ := obind hm
     refine ds G [(22, [640])] (hD 5 h4 (hD 13 h5 h0)) ?_
     refine rs G (hN 1 m h0) ?_
     refine jn hm (fun v2 => ⟨[(2, .ref 16 0), (3, .ref 32 0), (5, .own 48), (6, dV k), (7, .ref 64 0), (8, dV v2)], [bX 16 [dV t.Network.Stops, dV t.Network.Lines, dV t.Trips], bX 32 [dV r.Vehicle, dV r.Time, dV r.Line, dV r.Done], aX 48 78 m, bX 64 [dV r.Vehicle, dV e4.Id, dV (w64 ((w64 (r.Time - e5.Start)) - r.Done))]], 96⟩) (fun v2 hm => ?_) ?_
     ·refine Ok_block (lp G hm (fun v => ⟨[(2, .ref 16 0), (3, .ref 32 0), (5, .own 48), (6, dV k), (7, .ref 64 0), (8, dV v)], [bX 16 [dV t.Network.Stops, dV t.Network.Lines, dV t.Trips], bX 32 [dV r.Vehicle, dV r.Time, dV r.Line, dV r.Done], aX 48 78 m, bX 64 [dV r.Vehicle, dV e4.Id, dV (w64 ((w64 (r.Time - e5.Start)) - r.Done))]], 96⟩) ?_)
      rintro v r0 hb1 hm
      rw [s_l25Fitting_L1] at hm
      refine Ok_seq (jn hm (fun v1 => ⟨[(2, .ref 16 0), (3, .ref 32 0), (5, .own 48), (6, dV k), (7, .ref 64 0), (8, dV v), (87, dV v1)], [bX 16 [dV t.Network.Stops, dV t.Network.Lines, dV t.Trips], bX 32 [dV r.Vehicle, dV r.Time, dV r.Line, dV r.Done], aX 48 78 m, bX 64 [dV r.Vehicle, dV e4.Id, dV (w64 ((w64 (r.Time - e5.Start)) - r.Done))]], 96⟩) (fun v1 hm => ?_) ?_)
      ·rcases bf hm with ⟨hb2, hm⟩ | ⟨hb2, hm⟩
       ·obtain ⟨e9, h13, hm⟩ := obind hm
        obtain ⟨r5, h14, hm⟩ := obind hm
        obtain ⟨r6, h15, hm⟩ := obind hm
        rcases bf hm with ⟨hb3, hm⟩ | ⟨hb3, hm⟩
        ·refine de G [] (hO 2 (.b true) (hP hb2 (hD 6 h13 (hE 8 h13 (hC 9 (s_l25Abs_c h14) (hC 12 (s_l25Abs_c h15) (hO 14 (.b true) (hP hb3 h0)))))))) ?_
         exact wJ G hm
        ·obtain ⟨e10, h16, hm⟩ := obind hm
         obtain ⟨r7, h17, hm⟩ := obind hm
         obtain ⟨r8, h18, hm⟩ := obind hm
         rcases bf hm with ⟨hb4, hm⟩ | ⟨hb4, hm⟩
         ·obtain ⟨e11, h19, hm⟩ := obind hm
          refine de G [] (hO 2 (.b true) (hP hb2 (hD 6 h13 (hE 8 h13 (hC 9 (s_l25Abs_c h14) (hC 12 (s_l25Abs_c h15) (hO 14 (.b false) (hP hb3 (hD 18 h16 (hE 20 h16 (hC 21 (s_l25Abs_c h17) (hC 24 (s_l25Abs_c h18) (hO 26 (.b true) (hP hb4 (hD 30 h19 (hE 32 h19 h0)))))))))))))))) ?_
          exact wJ G hm
         ·refine de G [] (hO 2 (.b true) (hP hb2 (hD 6 h13 (hE 8 h13 (hC 9 (s_l25Abs_c h14) (hC 12 (s_l25Abs_c h15) (hO 14 (.b false) (hP hb3 (hD 18 h16 (hE 20 h16 (hC 21 (s_l25Abs_c h17) (hC 24 (s_l25Abs_c h18) (hO 26 (.b false) (hP hb4 h0)))))))))))))) ?_
          exact wJ G hm
       ·refine de G [] (hO 2 (.b false) (hP hb2 h0)) ?_
        exact wJ G hm
      rintro v1 hm
      refine cd hm (fun hm => ?_) (fun hm => ?_)
      ·exact X_skip (thN (Ok_block (rh G (ibN (wL G hm)))))
      ·exact Ok_exit (thE (thE (ibE (wD G hm hb1))))
     rintro v2 hm
     refine Ok_weak (Wk_J (x' := (⟨[(2, .ref 16 0), (3, .ref 32 0), (5, dV m), (6, dV k), (7, .ref 48 0), (8, dV v2)], [bX 16 [dV t.Network.Stops, dV t.Network.Lines, dV t.Trips], bX 32 [dV r.Vehicle, dV r.Time, dV r.Line, dV r.Done], bX 48 [dV r.Vehicle, dV e4.Id, dV (w64 ((w64 (r.Time - e5.Start)) - r.Done))]], 80⟩ : X)) G.hL ⟨[(2, []), (3, []), (5, []), (6, []), (7, []), (8, [])], [(16, 16, []), (32, 32, []), (48, 64, [])], [], 80⟩ (by kernel_rfl)) ?_
     obtain ⟨u5, h25, hm⟩ := obind hm
     obtain ⟨u6, h26, hm⟩ := obind hm
     obtain ⟨u7, h27, hm⟩ := obind hm
     obtain ⟨u8, h28, hm⟩ := obind hm
     obtain ⟨u9, h29, hm⟩ := obind hm
     refine de G [(3, []), (4, [80]), (7, [144, 176]), (10, []), (11, [192])] (hU 3 h25 (hA 4 24 h26 (hA 7 24 h27 (hV 10 h28 (hA 11 24 h29 h0))))) ?_
     exact ibN (wJ G hm)
   rintro m1 hm
   exact rh G (wL G hm)
  ·exact Ok_exit (thE (thE (ibE (wD G hm hb))))
 rintro m2 hm s hw
 refine thN (Ok_weak hw ?_)
 refine rg G ?_
 cases hm
 exact rt [16] []
noncomputable def s_FittingTrips_M : MS (Timetable × Report) ((List Match) × Bool) := ⟨.x .r .r, fun x => s_FittingTrips x.1 x.2, fun y => .tup [.own 0, dV y.2], fun y => [arO 78 y.1], fun _ _ => []⟩
theorem s_FittingTrips_c {t r y} (hm : s_FittingTrips t r = some y) : s_FittingTrips_M.C (t, r) y := s_FittingTrips_M.c (t, r) hm
theorem s_FittingTrips_ok : FnOK Try.prog 35 s_FittingTrips_M.S := by
 refine fm tt s_FittingTrips_M [fo s_l25Good_ok, fo s_l25Fitting_ok] Try.call35 Try.func35 rfl Try.results35 Try.ntmps35 ?_
 rintro ⟨t, r⟩ y cx G hm
 have hm : s_FittingTrips t r = some y := hm
 unfold s_FittingTrips at hm
 refine rg G (Ok_seq ?_)
 obtain ⟨r1, h, hm⟩ := obind hm
 refine rs G (hC 3 (s_l25Good_c h) h0) ?_
 refine cd hm (fun hm => ?_) (fun hm => ?_)
 ·refine rg G ?_
  cases hm
  exact rt [160] []
 ·refine X_skip (thN ?_)
  obtain ⟨r2, h1, hm⟩ := obind hm
  refine rs G (hC 2 (s_l25Fitting_c h1) h0) ?_
  cases hm
  exact rt [192] []
noncomputable def s_l1Cur_idOf_M : MS (l1Cur × Timetable) (Int × l1Cur) := ⟨.x .b .r, fun x => s_l1Cur_idOf x.1 x.2, fun y => dV y.1, fun _ => [], fun _ y => [bxO y.2]⟩
theorem s_l1Cur_idOf_c {c t y} (hm : s_l1Cur_idOf c t = some y) : s_l1Cur_idOf_M.C (c, t) y := s_l1Cur_idOf_M.c (c, t) hm
theorem s_l1Cur_idOf_ok : FnOK Try.prog 47 s_l1Cur_idOf_M.S := by
 refine fm tt s_l1Cur_idOf_M [fo s_l1Cur_one_ok, fo s_l1Cur_pick_ok] Try.call47 Try.func47 rfl Try.results47 Try.ntmps47 ?_
 rintro ⟨c, t⟩ y cx G hm
 have hm : s_l1Cur_idOf c t = some y := hm
 unfold s_l1Cur_idOf at hm
 refine rg G (Ok_seq (jn hm (fun (v, v1, v2, v3) => ⟨[(0, .ref 0 0), (3, .ref 32 0), (12, dV v)], [bX 0 [dV v1, dV v2, kV .u64 v3], bX 32 [dV t.Network.Stops, dV t.Network.Lines, dV t.Trips]], 64⟩) (fun vv hm => ?_) ?_))
 ·rcases bf hm with ⟨hb, hm⟩ | ⟨hb, hm⟩
  ·refine re G (hN 2 t.Trips (hO 4 (.b true) (hP hb h0))) ?_
   exact wJ G hm
  ·obtain ⟨r, h, hm⟩ := obind hm
   refine re G (hN 2 t.Trips (hO 4 (.b false) (hP hb (hC 6 (s_l1Cur_one_c h) h0)))) ?_
   exact wJ G hm
 rintro ⟨v, v1, v2, v3⟩ hm
 refine cd hm (fun hm => ?_) (fun hm => ?_)
 ·obtain ⟨r1, h1, hm⟩ := obind hm
  refine rs G (hC 1 (s_l1Cur_pick_c h1) h0) ?_
  cases hm
  exact rt [] []
 ·refine X_skip (thN ?_)
  obtain ⟨r3, h4, hm⟩ := obind hm
  obtain ⟨e1, h5, hm⟩ := obind hm
  refine ds G [(6, [0])] (hN 5 t.Trips (hC 6 (s_l1Cur_pick_c h4) (hD 7 h5 h0))) ?_
  cases hm
  exact rt [] []
noncomputable def s_l5Find_M : MS (Timetable × Int) Int := ⟨.x .r .r, fun x => s_l5Find x.1 x.2, fun y => dV y, fun _ => [], fun _ _ => []⟩
theorem s_l5Find_c {t id y} (hm : s_l5Find t id = some y) : s_l5Find_M.C (t, id) y := s_l5Find_M.c (t, id) hm
theorem s_l5Find_ok : FnOK Try.prog 56 s_l5Find_M.S := by
 refine fm tt s_l5Find_M [] Try.call56 Try.func56 rfl Try.results56 Try.ntmps56 ?_
 rintro ⟨t, id⟩ y cx G hm
 have hm : s_l5Find t id = some y := hm
 unfold s_l5Find at hm
 refine rg G (Ok_seq (rg G (tF hm (fun _ => ⟨[], [], 32⟩) (fun v1 hr hm => ?_) ?_)))
 ·refine Ok_block (lp G hm (fun v => ⟨[(1, dV id), (2, .ref 16 0), (5, dV v)], [bX 16 [dV t.Network.Stops, dV t.Network.Lines, dV t.Trips]], 48⟩) ?_)
  rintro v r0 hb hm
  rw [s_l5Find_L1] at hm
  refine Ok_seq (rs G (hN 3 t.Trips h0) ?_)
  refine cd hm (fun hm => ?_) (fun hm => ?_)
  ·refine X_skip (thN (Ok_seq (Ok_block ?_)))
   obtain ⟨e, h, hm⟩ := obind hm
   refine rs G (hD 3 h h0) ?_
   refine cd hm (fun hm => ?_) (fun hm => ?_)
   ·refine rg G ?_
    have hm := eL hm hb hr
    cases hm
    exact rt [] []
   ·exact X_skip (ibN (thN (rh G (wL G hm))))
  ·exact Ok_exit (thE (thE (ibE (wE G hm hb))))
 rintro ⟨⟩ hm s hw
 refine thN (Ok_weak hw ?_)
 refine rg G ?_
 cases hm
 exact rt [] []
noncomputable def s_DrawPredictArrivals_M : MS ((List UInt8)) (Timetable × Match × Int) := ⟨.r, s_DrawPredictArrivals, fun y => .tup [dV y.1, dV y.2.1, dV y.2.2], fun _ => [], fun _ _ => []⟩
theorem s_DrawPredictArrivals_c {code y} (hm : s_DrawPredictArrivals code = some y) : s_DrawPredictArrivals_M.C code y := s_DrawPredictArrivals_M.c code hm
theorem s_DrawPredictArrivals_ok : FnOK Try.prog 36 s_DrawPredictArrivals_M.S := by
 refine fm tt s_DrawPredictArrivals_M [fo s_l1Cur_anyTimetable_ok, fo s_l1Cur_among_w_ok, fo s_l1Cur_idOf_ok, fo s_l1Cur_pick_ok, fo s_l5Find_ok, fo s_l5Good_ok, fo s_l1Cur_one_ok, fo s_l5Line_ok, fo s_l25Long_ok] Try.call36 Try.func36 rfl Try.results36 Try.ntmps36 ?_
 rintro code y cx G hm
 have hm : s_DrawPredictArrivals code = some y := hm
 unfold s_DrawPredictArrivals at hm
 refine rg G (rg G ?_)
 obtain ⟨r, h, hm⟩ := obind hm
 refine rs G (hC 1 (s_l1Cur_anyTimetable_c h) h0) ?_
 refine Ok_weak (Wk_J (x' := (⟨[(2, .ref 16 0), (3, .ref 32 0), (5, .ref 48 0), (6, .ref 64 0)], [bX 16 [.dat (.sc (.slice none 0 0)), .dat (.sc (.slice none 0 0)), .dat (.sc (.slice none 0 0))], bX 32 [kV .i64 0, kV .i64 0, kV .i64 0], bX 48 [dV r.2.code_, dV r.2.at_, kV .u64 r.2.seed_.v], bX 64 [dV r.1.Network.Stops, dV r.1.Network.Lines, dV r.1.Trips]], 96⟩ : X)) G.hL ⟨[(2, []), (3, []), (5, []), (6, [])], [(16, 16, []), (32, 32, []), (48, 96, []), (64, 160, [])], [], 96⟩ (by kernel_rfl)) ?_
 obtain ⟨r4, h4, hm⟩ := obind hm
 obtain ⟨r5, h5, hm⟩ := obind hm
 obtain ⟨r6, h6, hm⟩ := obind hm
 refine ds G [(2, [48, 112]), (5, [48]), (8, [48, 208]), (11, [256])] (hC 2 (s_l1Cur_among_w_c h4) (hC 5 (s_l1Cur_idOf_c h5) (hC 8 (s_l1Cur_among_w_c h6) h0))) ?_
 obtain ⟨r7, h7, hm⟩ := obind hm
 refine rs G (hC 1 (s_l1Cur_pick_c h7) h0) ?_
 refine jn hm (fun i => ⟨[(2, .ref 16 0), (3, .ref 32 0), (6, .ref 48 0), (7, .ref 64 0), (8, dV i)], [bX 16 [.dat (.sc (.slice none 0 0)), .dat (.sc (.slice none 0 0)), .dat (.sc (.slice none 0 0))], bX 32 [kV .i64 0, kV .i64 0, kV .i64 0], bX 48 [dV r.1.Network.Stops, dV r.1.Network.Lines, dV r.1.Trips], bX 64 [dV r4.1, dV r5.1, dV r6.1]], 96⟩) (fun i hm => ?_) ?_
 ·obtain ⟨r8, h8, hm⟩ := obind hm
  refine rs G (hC 3 (s_l5Find_c h8) h0) ?_
  refine jn hm (fun (v, v1, v2, v3) => ⟨[(2, .ref 16 0), (3, .ref 32 0), (5, .ref 48 0), (6, .ref 64 0), (7, .ref 80 0), (8, dV r7.1), (9, dV r8), (41, dV v)], [bX 16 [.dat (.sc (.slice none 0 0)), .dat (.sc (.slice none 0 0)), .dat (.sc (.slice none 0 0))], bX 32 [kV .i64 0, kV .i64 0, kV .i64 0], bX 48 [dV v1, dV v2, kV .u64 v3], bX 64 [dV r.1.Network.Stops, dV r.1.Network.Lines, dV r.1.Trips], bX 80 [dV r4.1, dV r5.1, dV r6.1]], 112⟩) (fun vv hm => ?_) ?_
  ·rcases bf hm with ⟨hb, hm⟩ | ⟨hb, hm⟩
   ·obtain ⟨r9, h9, hm⟩ := obind hm
    rcases bf hm with ⟨hb1, hm⟩ | ⟨hb1, hm⟩
    ·obtain ⟨r10, h10, hm⟩ := obind hm
     refine re G (hO 2 (.b true) (hP hb (hC 4 (s_l5Good_c h9) (hO 6 (.b true) (hP hb1 (hC 8 (s_l1Cur_one_c h10) h0)))))) ?_
     exact wJ G hm
    ·refine re G (hO 2 (.b true) (hP hb (hC 4 (s_l5Good_c h9) (hO 6 (.b false) (hP hb1 h0))))) ?_
     exact wJ G hm
   ·refine re G (hO 2 (.b false) (hP hb h0)) ?_
    exact wJ G hm
  rintro ⟨v, v1, v2, v3⟩ hm
  refine cd hm (fun hm => ?_) (fun hm => ?_)
  ·obtain ⟨r11, h11, hm⟩ := obind hm
   obtain ⟨r12, h12, hm⟩ := obind hm
   obtain ⟨r13, h13, hm⟩ := obind hm
   refine re G (hC 3 (s_l5Line_c h11) (hC 4 (s_l25Long_c h12) (hC 6 (s_l1Cur_pick_c h13) h0))) ?_
   exact wJ G hm
  ·exact X_skip (wJ G hm)
 rintro i hm
 refine ds G [(3, [16]), (4, [32])] h0 ?_
 cases hm
 exact rt [] []
noncomputable def i_tripIndex_1_M : MS (Trip × Int) Bool := ⟨.x .r .b, fun x => i_tripIndex_1 x.1 x.2, fun y => dV y, fun _ => [], fun x _ => [bxO x.2]⟩
theorem i_tripIndex_1_c {x c1 y} (hm : i_tripIndex_1 x c1 = some y) : i_tripIndex_1_M.C (x, c1) y := i_tripIndex_1_M.c (x, c1) hm
theorem i_tripIndex_1_ok : FnOK Try.prog 118 i_tripIndex_1_M.S := by
 refine fm tt i_tripIndex_1_M [] Try.call118 Try.func118 rfl Try.results118 Try.ntmps118 ?_
 rintro ⟨x, c1⟩ y cx G hm
 have hm : i_tripIndex_1 x c1 = some y := hm
 unfold i_tripIndex_1 at hm
 refine rg G (rg G ?_)
 cases hm
 exact rt [] []
noncomputable def slices_IndexFunc_Trip__i_tripIndex_1_M : MS ((List Trip) × Int) Int := ⟨⟨[.rd, .fn 118 [.bx]], fun x => [Enc.e x.1, .agg [.sc undef]], fun x => [bxO x.2], 1, 1, fun _ => rfl, fun _ => rfl, rfl, (by
  rintro ⟨a0, a1⟩ ⟨b0, b1⟩ h hO
  have q0 : a0 = b0 := qI 0 h
  have q1 : a1 = b1 := Enc.inj _ _ (congrArg (fun l => (obD l 0).getD 0 (.sc undef)) hO)
  subst q0; subst q1; rfl)⟩, fun x => slices_IndexFunc_Trip__i_tripIndex_1 x.1 x.2, fun y => dV y, fun _ => [], fun x _ => [bxO x.2]⟩
theorem slices_IndexFunc_Trip__i_tripIndex_1_c {s c1 y} (hm : slices_IndexFunc_Trip__i_tripIndex_1 s c1 = some y) : slices_IndexFunc_Trip__i_tripIndex_1_M.C (s, c1) y := slices_IndexFunc_Trip__i_tripIndex_1_M.c (s, c1) hm
theorem slices_IndexFunc_Trip__i_tripIndex_1_ok : FnOK Try.prog 117 slices_IndexFunc_Trip__i_tripIndex_1_M.S := by
 refine fm tt slices_IndexFunc_Trip__i_tripIndex_1_M [fo i_tripIndex_1_ok] Try.call117 Try.func117 rfl Try.results117 Try.ntmps117 ?_
 rintro ⟨s, c1⟩ y cx G hm
 have hm : slices_IndexFunc_Trip__i_tripIndex_1 s c1 = some y := hm
 obtain ⟨f, hf_f⟩ : ∃ q, (fun (z0 : Trip) => i_tripIndex_1 z0 c1) = q := ⟨_, rfl⟩
 have hm : slices_IndexFunc_Trip s f = some y := by rw [← hf_f]; exact hm
 unfold slices_IndexFunc_Trip at hm
 refine rg G (Ok_seq (rs G (hN 1 s h0) ?_))
 refine tF hm (fun _ => ⟨[(1, .fn 118 [.ref 0 0])], [bX 0 [dV c1]], 48⟩) (fun v1 hr hm => ?_) ?_
 ·refine Ok_block (lp G hm (fun v => ⟨[(0, dV s), (1, .fn 118 [.ref 0 0]), (7, dV (s.length : Int)), (8, dV v)], [bX 0 [dV c1]], 48⟩) ?_)
  rintro v r0 hb hm
  rw [slices_IndexFunc_Trip_L1] at hm
  refine rg G (Ok_seq (cd hm (fun hm => ?_) (fun hm => ?_)))
  ·refine X_skip (thN (Ok_seq (Ok_block (rg G ?_))))
   obtain ⟨e, h, hm⟩ := obind hm
   obtain ⟨r, h1, hm⟩ := obind hm
   have h1 : i_tripIndex_1 e c1 = some r := by rw [← hf_f] at h1; exact h1
   refine rs G (hD 3 h (hC 5 (i_tripIndex_1_c h1) h0)) ?_
   refine cd hm (fun hm => ?_) (fun hm => ?_)
   ·refine rg G ?_
    have hm := eL hm hb hr
    cases hm
    exact rt [] []
   ·exact X_skip (ibN (thN (rh G (wL G hm))))
  ·exact Ok_exit (thE (thE (ibE (wE G hm hb))))
 rintro ⟨⟩ hm s1 hw
 refine thN (Ok_weak hw ?_)
 refine rg G ?_
 cases hm
 exact rt [] []
noncomputable def i_tripIndex_M : MS (Timetable × Int) Int := ⟨.x .r .r, fun x => i_tripIndex x.1 x.2, fun y => dV y, fun _ => [], fun _ _ => []⟩
theorem i_tripIndex_c {t id y} (hm : i_tripIndex t id = some y) : i_tripIndex_M.C (t, id) y := i_tripIndex_M.c (t, id) hm
theorem i_tripIndex_ok : FnOK Try.prog 51 i_tripIndex_M.S := by
 refine fm tt i_tripIndex_M [fo slices_IndexFunc_Trip__i_tripIndex_1_ok] Try.call51 Try.func51 rfl Try.results51 Try.ntmps51 ?_
 rintro ⟨t, id⟩ y cx G hm
 have hm : i_tripIndex t id = some y := hm
 unfold i_tripIndex at hm
 refine rg G ?_
 obtain ⟨r, h, hm⟩ := obind hm
 refine rs G (hC 3 (slices_IndexFunc_Trip__i_tripIndex_1_c h) h0) ?_
 cases hm
 exact rt [] []
noncomputable def i_lineOf_M : MS (Timetable × Trip) Line := ⟨.x .r .r, fun x => i_lineOf x.1 x.2, fun y => dV y, fun _ => [], fun _ _ => []⟩
theorem i_lineOf_c {t x y} (hm : i_lineOf t x = some y) : i_lineOf_M.C (t, x) y := i_lineOf_M.c (t, x) hm
theorem i_lineOf_ok : FnOK Try.prog 67 i_lineOf_M.S := by
 refine fm tt i_lineOf_M [] Try.call67 Try.func67 rfl Try.results67 Try.ntmps67 ?_
 rintro ⟨t, x⟩ y cx G hm
 have hm : i_lineOf t x = some y := hm
 unfold i_lineOf at hm
 refine rg G ?_
 obtain ⟨e, h, hm⟩ := obind hm
 refine rs G (hD 5 h h0) ?_
 cases hm
 exact rt [] []
noncomputable def i_stopTimes_M : MS (Timetable × Trip) ((List Int)) := ⟨.x .r .r, fun x => i_stopTimes x.1 x.2, fun _ => .own 0, fun y => [arO 3 y], fun _ _ => []⟩
theorem i_stopTimes_c {t x y} (hm : i_stopTimes t x = some y) : i_stopTimes_M.C (t, x) y := i_stopTimes_M.c (t, x) hm
theorem i_stopTimes_ok : FnOK Try.prog 68 i_stopTimes_M.S := by
 refine fm tt i_stopTimes_M [fo i_lineOf_ok] Try.call68 Try.func68 rfl Try.results68 Try.ntmps68 ?_
 rintro ⟨t, x⟩ y cx G hm
 have hm : i_stopTimes t x = some y := hm
 unfold i_stopTimes at hm
 refine rg G (rg G (Ok_seq ?_))
 obtain ⟨r, h, hm⟩ := obind hm
 refine rs G (hC 2 (i_lineOf_c h) (hN 4 r.Runs h0)) ?_
 refine tl hm (fun r2 => ⟨[(5, .own 16)], [aX 16 3 r2], 48⟩) (fun r2 hm => ?_) ?_
 ·refine Ok_block (lp G hm (fun (v, r1) => ⟨[(5, .own 16), (14, dV r.Runs), (15, dV (r.Runs.length : Int)), (16, dV v)], [aX 16 3 r1], 48⟩) ?_)
  rintro ⟨v, r1⟩ r0 hb hm
  rw [i_stopTimes_L1] at hm
  refine rg G (Ok_seq (cd hm (fun hm => ?_) (fun hm => ?_)))
  ·refine X_skip (thN (Ok_seq (Ok_block ?_)))
   obtain ⟨e, h1, hm⟩ := obind hm
   refine rs G (hD 1 h1 h0) ?_
   obtain ⟨e1, h2, hm⟩ := obind hm
   obtain ⟨u, h3, hm⟩ := obind hm
   refine re G (hD 3 h2 (hE 4 h2 (hA 8 8 h3 h0))) ?_
   exact ibN (thN (rh G (wL G hm)))
  ·exact Ok_exit (thE (thE (ibE (wD G hm hb))))
 rintro r2 hm s hw
 refine thN (Ok_weak hw ?_)
 refine rg G ?_
 cases hm
 exact rt [16] []
noncomputable def i_PredictArrivals_M : MS (Timetable × Match × Int) ((List Int) × Bool) := ⟨.x .r (.x .r .r), fun x => i_PredictArrivals x.1 x.2.1 x.2.2, fun y => .tup [dV y.1, dV y.2], fun _ => [], fun _ _ => []⟩
theorem i_PredictArrivals_c {t m done y} (hm : i_PredictArrivals t m done = some y) : i_PredictArrivals_M.C (t, m, done) y := i_PredictArrivals_M.c (t, m, done) hm
theorem i_PredictArrivals_ok : FnOK Try.prog 37 i_PredictArrivals_M.S := by
 refine fm tt i_PredictArrivals_M [fo i_IsValidTimetable_ok, fo i_within_ok, fo i_tripIndex_ok, fo i_lineOf_ok, fo i_total_ok, fo i_stopTimes_ok] Try.call37 Try.func37 rfl Try.results37 Try.ntmps37 ?_
 rintro ⟨t, m, done⟩ y cx G hm
 have hm : i_PredictArrivals t m done = some y := hm
 unfold i_PredictArrivals at hm
 refine rg G (Ok_seq ?_)
 obtain ⟨r, h, hm⟩ := obind hm
 refine jn hm (fun v => ⟨[(2, dV done), (3, .ref 16 0), (4, .ref 32 0), (27, dV v)], [bX 16 [dV t.Network.Stops, dV t.Network.Lines, dV t.Trips], bX 32 [dV m.Vehicle, dV m.Id, dV m.Delay]], 64⟩) (fun v hm => ?_) ?_
 ·rcases bf hm with ⟨hb, hm⟩ | ⟨hb, hm⟩
  ·refine re G (hC 1 (i_IsValidTimetable_c h) (hO 3 (.b true) (hP hb h0))) ?_
   exact wJ G hm
  ·obtain ⟨r1, h1, hm⟩ := obind hm
   rcases bf hm with ⟨hb1, hm⟩ | ⟨hb1, hm⟩
   ·refine re G (hC 1 (i_IsValidTimetable_c h) (hO 3 (.b false) (hP hb (hC 6 (i_within_c h1) (hO 9 (.b true) (hP hb1 h0)))))) ?_
    exact wJ G hm
   ·obtain ⟨r2, h2, hm⟩ := obind hm
    refine re G (hC 1 (i_IsValidTimetable_c h) (hO 3 (.b false) (hP hb (hC 6 (i_within_c h1) (hO 9 (.b false) (hP hb1 (hC 12 (i_within_c h2) h0))))))) ?_
    exact wJ G hm
 rintro v hm
 refine cd hm (fun hm => ?_) (fun hm => ?_)
 ·refine rg G ?_
  cases hm
  exact rt [] [[.z 1]]
 ·refine X_skip (thN ?_)
  obtain ⟨r3, h3, hm⟩ := obind hm
  refine rs G (hC 3 (i_tripIndex_c h3) h0) ?_
  refine Ok_seq (jn hm (fun v1 => ⟨[(2, dV done), (3, .ref 16 0), (4, .ref 32 0), (8, dV r3), (47, dV v1)], [bX 16 [dV t.Network.Stops, dV t.Network.Lines, dV t.Trips], bX 32 [dV m.Vehicle, dV m.Id, dV m.Delay]], 64⟩) (fun v1 hm => ?_) ?_)
  ·rcases bf hm with ⟨hb2, hm⟩ | ⟨hb2, hm⟩
   ·refine de G [] (hO 2 (.b true) (hP hb2 h0)) ?_
    exact wJ G hm
   ·obtain ⟨e1, h8, hm⟩ := obind hm
    obtain ⟨r7, h9, hm⟩ := obind hm
    obtain ⟨r8, h10, hm⟩ := obind hm
    obtain ⟨r9, h11, hm⟩ := obind hm
    refine de G [] (hO 2 (.b false) (hP hb2 (hD 8 h8 (hC 10 (i_lineOf_c h9) (hC 12 (i_total_c h10) (hC 13 (i_within_c h11) h0)))))) ?_
    exact wJ G hm
  rintro v1 hm
  refine cd hm (fun hm => ?_) (fun hm => ?_)
  ·refine rg G ?_
   cases hm
   exact rt [] [[.z 1]]
  ·refine X_skip (thN ?_)
   obtain ⟨e2, h12, hm⟩ := obind hm
   refine rs G (hD 3 h12 h0) ?_
   refine rg G (Ok_seq ?_)
   obtain ⟨r10, h13, hm⟩ := obind hm
   refine rs G (hC 2 (i_stopTimes_c h13) (hN 3 r10 h0)) ?_
   refine tl hm (fun v5 => ⟨[(10, .own 16)], [aX 16 3 v5], 48⟩) (fun v5 hm => ?_) ?_
   ·refine Ok_block (lpP hm (fun (v2, v3) => ⟨[(2, dV done), (4, .ref 16 0), (9, .ref 32 0), (10, .own 48), (55, .own 64), (56, dV (r10.length : Int)), (57, dV v2)], [bX 16 [dV m.Vehicle, dV m.Id, dV m.Delay], bX 32 [dV e2.Id, dV e2.Line, dV e2.Start], aX 48 3 v3, aX 64 3 r10], 96⟩) (Wk_J G.hL ⟨[(2, []), (4, []), (9, []), (10, [.o 48]), (55, []), (56, []), (57, [])], [(16, 32, []), (32, 144, []), (64, 224, [])], [(48, 3, 1, [])], 96⟩ (by kernel_rfl)) ?_)
    rintro ⟨v2, v3⟩ r0 hb3 hm
    rw [i_PredictArrivals_L1] at hm
    refine rg G (Ok_seq (cd hm (fun hm => ?_) (fun hm => ?_)))
    ·refine X_skip (thN (jn hm (fun v4 => ⟨[(2, dV done), (4, .ref 16 0), (9, .ref 32 0), (10, .own 48), (55, .own 64), (56, dV (r10.length : Int)), (57, dV v2)], [bX 16 [dV m.Vehicle, dV m.Id, dV m.Delay], bX 32 [dV e2.Id, dV e2.Line, dV e2.Start], aX 48 3 v4, aX 64 3 r10], 96⟩) (fun v4 hm => ?_) ?_))
     ·refine Ok_block ?_
      obtain ⟨e3, h14, hm⟩ := obind hm
      refine rs G (hD 0 h14 (hE 1 h14 h0)) ?_
      refine rg G (cd hm (fun hm => ?_) (fun hm => ?_))
      ·obtain ⟨u, h15, hm⟩ := obind hm
       refine re G (hA 7 8 h15 h0) ?_
       exact ibN (wJ G hm)
      ·exact X_skip (ibN (wJ G hm))
     rintro v4 hm
     exact rh G (wL G hm)
    ·exact Ok_exit (thE (thE (ibE (wD G hm hb3))))
   rintro v5 hm s hw
   refine thN (Ok_weak hw ?_)
   refine rg G ?_
   cases hm
   exact rt [] []
noncomputable def s_PredictArrivals_M : MS (Timetable × Match × Int) ((List Int) × Bool) := ⟨.x .r (.x .r .r), fun x => s_PredictArrivals x.1 x.2.1 x.2.2, fun y => .tup [.own 0, dV y.2], fun y => [arO 3 y.1], fun _ _ => []⟩
theorem s_PredictArrivals_c {t m done y} (hm : s_PredictArrivals t m done = some y) : s_PredictArrivals_M.C (t, m, done) y := s_PredictArrivals_M.c (t, m, done) hm
theorem s_PredictArrivals_ok : FnOK Try.prog 38 s_PredictArrivals_M.S := by
 refine fm tt s_PredictArrivals_M [fo s_l5Good_ok, fo s_l5Find_ok, fo s_l1In_ok, fo s_l5Line_ok, fo s_l25Long_ok, fo s_l2Run_ok, fo s_l5At_ok, fo s_l1Most_ok] Try.call38 Try.func38 rfl Try.results38 Try.ntmps38 ?_
 rintro ⟨t, m, done⟩ y cx G hm
 have hm : s_PredictArrivals t m done = some y := hm
 unfold s_PredictArrivals at hm
 refine rg G (rg G (Ok_seq ?_))
 obtain ⟨r, h, hm⟩ := obind hm
 refine jn hm (fun v => ⟨[(2, dV done), (3, .ref 16 0), (4, .ref 32 0), (8, .own 48), (34, dV v)], [bX 16 [dV t.Network.Stops, dV t.Network.Lines, dV t.Trips], bX 32 [dV m.Vehicle, dV m.Id, dV m.Delay], aX 48 3 ([] : List Int)], 80⟩) (fun v hm => ?_) ?_
 ·rcases bf hm with ⟨hb, hm⟩ | ⟨hb, hm⟩
  ·refine re G (hC 1 (s_l5Good_c h) (hO 3 (.b true) (hP hb h0))) ?_
   exact wJ G hm
  ·obtain ⟨r1, h1, hm⟩ := obind hm
   rcases bf hm with ⟨hb1, hm⟩ | ⟨hb1, hm⟩
   ·refine re G (hC 1 (s_l5Good_c h) (hO 3 (.b false) (hP hb (hC 7 (s_l5Find_c h1) (hO 10 (.b true) (hP hb1 h0)))))) ?_
    exact wJ G hm
   ·obtain ⟨r2, h2, hm⟩ := obind hm
    rcases bf hm with ⟨hb2, hm⟩ | ⟨hb2, hm⟩
    ·refine re G (hC 1 (s_l5Good_c h) (hO 3 (.b false) (hP hb (hC 7 (s_l5Find_c h1) (hO 10 (.b false) (hP hb1 (hC 13 (s_l1In_c h2) (hO 16 (.b true) (hP hb2 h0))))))))) ?_
     exact wJ G hm
    ·obtain ⟨r3, h3, hm⟩ := obind hm
     refine re G (hC 1 (s_l5Good_c h) (hO 3 (.b false) (hP hb (hC 7 (s_l5Find_c h1) (hO 10 (.b false) (hP hb1 (hC 13 (s_l1In_c h2) (hO 16 (.b false) (hP hb2 (hC 19 (s_l1In_c h3) h0)))))))))) ?_
     exact wJ G hm
 rintro v hm
 refine cd hm (fun hm => ?_) (fun hm => ?_)
 ·refine rg G ?_
  cases hm
  exact rt [48] []
 ·refine X_skip (thN ?_)
  obtain ⟨r4, h4, hm⟩ := obind hm
  refine rs G (hC 3 (s_l5Find_c h4) h0) ?_
  obtain ⟨r5, h5, hm⟩ := obind hm
  refine rs G (hC 2 (s_l5Line_c h5) h0) ?_
  refine Ok_seq ?_
  obtain ⟨r6, h6, hm⟩ := obind hm
  obtain ⟨r7, h7, hm⟩ := obind hm
  refine rs G (hC 2 (s_l25Long_c h6) (hC 3 (s_l1In_c h7) h0)) ?_
  refine cd hm (fun hm => ?_) (fun hm => ?_)
  ·refine rg G ?_
   cases hm
   exact rt [48] []
  ·refine X_skip (thN (Ok_seq (rg G (tl hm (fun k2 => ⟨[(8, .own 16)], [aX 16 3 k2], 48⟩) (fun k2 hm => ?_) ?_))))
   ·refine Ok_block (lp G hm (fun (v1, k) => ⟨[(2, dV done), (3, .ref 16 0), (4, .ref 32 0), (8, .own 48), (9, dV r4), (10, .ref 64 0), (11, dV v1)], [bX 16 [dV t.Network.Stops, dV t.Network.Lines, dV t.Trips], bX 32 [dV m.Vehicle, dV m.Id, dV m.Delay], aX 48 3 k, bX 64 [dV r5.Name, dV r5.Stops, dV r5.Runs]], 96⟩) ?_)
    rintro ⟨v1, k⟩ r0 hb3 hm
    rw [s_PredictArrivals_L1] at hm
    refine Ok_seq (rs G (hN 3 r5.Stops h0) ?_)
    refine cd hm (fun hm => ?_) (fun hm => ?_)
    ·refine X_skip (thN (jn hm (fun k1 => ⟨[(2, dV done), (3, .ref 16 0), (4, .ref 32 0), (8, .own 48), (9, dV r4), (10, .ref 64 0), (11, dV v1)], [bX 16 [dV t.Network.Stops, dV t.Network.Lines, dV t.Trips], bX 32 [dV m.Vehicle, dV m.Id, dV m.Delay], aX 48 3 k1, bX 64 [dV r5.Name, dV r5.Stops, dV r5.Runs]], 96⟩) (fun k1 hm => ?_) ?_))
     ·refine Ok_block ?_
      obtain ⟨r8, h8, hm⟩ := obind hm
      refine rs G (hC 2 (s_l2Run_c h8) h0) ?_
      refine cd hm (fun hm => ?_) (fun hm => ?_)
      ·obtain ⟨r11, h12, hm⟩ := obind hm
       obtain ⟨r12, h13, hm⟩ := obind hm
       obtain ⟨u1, h14, hm⟩ := obind hm
       refine de G [(10, [48, 400])] (hC 4 (s_l5At_c h12) (hC 7 (s_l1Most_c h13) (hA 10 8 h14 h0))) ?_
       exact ibN (wJ G hm)
      ·exact X_skip (ibN (wJ G hm))
     rintro k1 hm
     exact rh G (wL G hm)
    ·exact Ok_exit (thE (thE (ibE (wD G hm hb3))))
   rintro k2 hm s hw
   refine thN (Ok_weak hw ?_)
   refine rg G ?_
   cases hm
   exact rt [16] []
noncomputable def v_rInts_M : MS ((List Int) × (List Int)) Bool := ⟨.x .r .r, fun x => v_rInts x.1 x.2, fun y => dV y, fun _ => [], fun _ _ => []⟩
theorem v_rInts_c {a b y} (hm : v_rInts a b = some y) : v_rInts_M.C (a, b) y := v_rInts_M.c (a, b) hm
theorem v_rInts_ok : FnOK Try.prog 17 v_rInts_M.S := by
 refine fm tt v_rInts_M [] Try.call17 Try.func17 rfl Try.results17 Try.ntmps17 ?_
 rintro ⟨a, b⟩ y cx G hm
 have hm : v_rInts a b = some y := hm
 unfold v_rInts at hm
 refine rg G (Ok_seq (rs G (hN 1 a (hN 3 b h0)) ?_))
 refine cd hm (fun hm => ?_) (fun hm => ?_)
 ·refine rg G ?_
  cases hm
  exact rt [] []
 ·refine X_skip (thN (Ok_seq (rg G (tF hm (fun _ => ⟨[], [], 32⟩) (fun v1 hr hm => ?_) ?_))))
  ·refine Ok_block (lp G hm (fun v => ⟨[(0, dV a), (1, dV b), (5, dV v)], [], 32⟩) ?_)
   rintro v r0 hb hm
   rw [v_rInts_L1] at hm
   refine Ok_seq (rs G (hN 2 a h0) ?_)
   refine cd hm (fun hm => ?_) (fun hm => ?_)
   ·refine X_skip (thN (Ok_seq (Ok_block ?_)))
    obtain ⟨e2, h2, hm⟩ := obind hm
    obtain ⟨e3, h3, hm⟩ := obind hm
    refine ds G [] (hD 2 h2 (hD 6 h3 h0)) ?_
    refine cd hm (fun hm => ?_) (fun hm => ?_)
    ·refine rg G ?_
     have hm := eL hm hb hr
     cases hm
     exact rt [] []
    ·exact X_skip (ibN (thN (rh G (wL G hm))))
   ·exact Ok_exit (thE (thE (ibE (wE G hm hb))))
  rintro ⟨⟩ hm s hw
  refine thN (Ok_weak hw ?_)
  refine rg G ?_
  cases hm
  exact rt [] []
noncomputable def s_l1Least_M : MS (Int × Int) Int := ⟨.x .r .r, fun x => s_l1Least x.1 x.2, fun y => dV y, fun _ => [], fun _ _ => []⟩
theorem s_l1Least_c {a b y} (hm : s_l1Least a b = some y) : s_l1Least_M.C (a, b) y := s_l1Least_M.c (a, b) hm
theorem s_l1Least_ok : FnOK Try.prog 108 s_l1Least_M.S := by
 refine fm tt s_l1Least_M [] Try.call108 Try.func108 rfl Try.results108 Try.ntmps108 ?_
 rintro ⟨a, b⟩ y cx G hm
 have hm : s_l1Least a b = some y := hm
 unfold s_l1Least at hm
 refine rg G (Ok_seq (rg G (cd hm (fun hm => ?_) (fun hm => ?_))))
 ·refine rg G ?_
  cases hm
  exact rt [] []
 ·refine X_skip (thN (rg G ?_))
  cases hm
  exact rt [] []
noncomputable def s_DrawSpeedOf_M : MS ((List UInt8)) (Timetable × (List Report) × Int) := ⟨.r, s_DrawSpeedOf, fun y => .tup [dV y.1, .own 0, dV y.2.2], fun y => [arO 70 y.2.1], fun _ _ => []⟩
theorem s_DrawSpeedOf_c {code y} (hm : s_DrawSpeedOf code = some y) : s_DrawSpeedOf_M.C code y := s_DrawSpeedOf_M.c code hm
theorem s_DrawSpeedOf_ok : FnOK Try.prog 39 s_DrawSpeedOf_M.S := by
 refine fm tt s_DrawSpeedOf_M [fo s_l1Cur_anyTimetable_ok, fo s_l1Cur_now23_ok, fo s_l1Cur_report_ok, fo s_l1Cur_pick_ok, fo s_l4Time_ok, fo s_l2Good_ok, fo s_l25Long_ok, fo s_l1Least_ok, fo s_l1Cur_among_w_ok] Try.call39 Try.func39 rfl Try.results39 Try.ntmps39 ?_
 rintro code y cx G hm
 have hm : s_DrawSpeedOf code = some y := hm
 unfold s_DrawSpeedOf at hm
 refine rg G (rg G ?_)
 obtain ⟨r, h, hm⟩ := obind hm
 refine rs G (hC 1 (s_l1Cur_anyTimetable_c h) h0) ?_
 refine rg G ?_
 obtain ⟨r1, h1, hm⟩ := obind hm
 refine rs G (hO 2 (.fz [144, 145] [] []) (hC 2 (s_l1Cur_now23_c h1) h0)) ?_
 obtain ⟨r2, h2, hm⟩ := obind hm
 refine rs G (hC 3 (s_l1Cur_report_c h2) h0) ?_
 refine Ok_seq ?_
 obtain ⟨r3, h3, hm⟩ := obind hm
 refine rs G (hC 1 (s_l1Cur_pick_c h3) h0) ?_
 refine tl hm (fun (v12, v13, v14, time1) => ⟨[(2, .ref 16 0), (5, .ref 32 0), (6, .ref 48 0), (7, .own 64)], [bX 16 [.dat (.sc (.slice none 0 0)), .dat (.sc (.slice none 0 0)), .dat (.sc (.slice none 0 0))], bX 32 [dV v12, dV v13, kV .u64 v14], bX 48 [dV r.1.Network.Stops, dV r.1.Network.Lines, dV r.1.Trips], aX 64 70 time1], 96⟩) (fun vv1 hm => ?_) ?_
 ·refine Ok_block (lp G hm (fun (v, v1, v2, v3, time, v4, v5) => ⟨[(2, .ref 16 0), (5, .ref 32 0), (6, .ref 48 0), (7, .own 64), (9, .ref 80 0), (10, dV v)], [bX 16 [.dat (.sc (.slice none 0 0)), .dat (.sc (.slice none 0 0)), .dat (.sc (.slice none 0 0))], bX 32 [dV v1, dV v2, kV .u64 v3], bX 48 [dV r.1.Network.Stops, dV r.1.Network.Lines, dV r.1.Trips], aX 64 70 time, bX 80 [dV r2.1.Vehicle, dV v4, dV r2.1.Line, dV v5]], 112⟩) ?_)
  rintro ⟨v, v1, v2, v3, time, v4, v5⟩ r0 hb hm
  rw [s_DrawSpeedOf_L1] at hm
  refine Ok_seq (jn hm (fun v6 => ⟨[(2, .ref 16 0), (5, .ref 32 0), (6, .ref 48 0), (7, .own 64), (9, .ref 80 0), (10, dV v), (32, dV v6)], [bX 16 [.dat (.sc (.slice none 0 0)), .dat (.sc (.slice none 0 0)), .dat (.sc (.slice none 0 0))], bX 32 [dV v1, dV v2, kV .u64 v3], bX 48 [dV r.1.Network.Stops, dV r.1.Network.Lines, dV r.1.Trips], aX 64 70 time, bX 80 [dV r2.1.Vehicle, dV v4, dV r2.1.Line, dV v5]], 112⟩) (fun v6 hm => ?_) ?_)
  ·rcases bf hm with ⟨hb1, hm⟩ | ⟨hb1, hm⟩
   ·obtain ⟨r4, h4, hm⟩ := obind hm
    refine re G (hO 2 (.b true) (hP hb1 (hC 5 (s_l4Time_c h4) h0))) ?_
    exact wJ G hm
   ·refine re G (hO 2 (.b false) (hP hb1 h0)) ?_
    exact wJ G hm
  rintro v6 hm
  refine cd hm (fun hm => ?_) (fun hm => ?_)
  ·refine X_skip (thN (jn hm (fun (v7, v8, v9, v10, v11) => ⟨[(2, .ref 16 0), (5, .ref 32 0), (6, .ref 48 0), (7, .own 64), (9, .ref 80 0), (10, dV v)], [bX 16 [.dat (.sc (.slice none 0 0)), .dat (.sc (.slice none 0 0)), .dat (.sc (.slice none 0 0))], bX 32 [dV v7, dV v8, kV .u64 v9], bX 48 [dV r.1.Network.Stops, dV r.1.Network.Lines, dV r.1.Trips], aX 64 70 (time ++ ([(⟨r2.1.Vehicle, v4, r2.1.Line, v5⟩ : Report)] : List Report)), bX 80 [dV r2.1.Vehicle, dV v10, dV r2.1.Line, dV v11]], 112⟩) (fun vv hm => ?_) ?_))
   ·refine Ok_block ?_
    obtain ⟨u, h5, hm⟩ := obind hm
    refine rs G (hA 3 32 h5 h0) ?_
    obtain ⟨r6, h7, hm⟩ := obind hm
    refine ds G [(4, [32]), (7, [80])] (hC 4 (s_l1Cur_pick_c h7) h0) ?_
    obtain ⟨r7, h8, hm⟩ := obind hm
    refine rs G (hC 2 (s_l2Good_c h8) h0) ?_
    refine cd hm (fun hm => ?_) (fun hm => ?_)
    ·obtain ⟨r12, h15, hm⟩ := obind hm
     obtain ⟨r13, h16, hm⟩ := obind hm
     obtain ⟨u2, h17, hm⟩ := obind hm
     obtain ⟨e1, h18, hm⟩ := obind hm
     obtain ⟨r14, h19, hm⟩ := obind hm
     obtain ⟨r15, h20, hm⟩ := obind hm
     refine de G [(3, [32]), (6, [32]), (19, [80])] (hC 3 (s_l1Cur_pick_c h15) (hC 6 (s_l1Cur_pick_c h16) (hK h17 (hD 14 h18 (hC 16 (s_l25Long_c h19) (hC 17 (s_l1Least_c h20) h0)))))) ?_
     exact ibN (wJ G hm)
    ·exact X_skip (ibN (wJ G hm))
   rintro ⟨v7, v8, v9, v10, v11⟩ hm
   exact rh G (wL G hm)
  ·exact Ok_exit (thE (thE (ibE (wD G hm hb))))
 rintro ⟨v12, v13, v14, time1⟩ hm s hw
 refine thN (Ok_weak hw ?_)
 obtain ⟨r17, h22, hm⟩ := obind hm
 refine ds G [(4, [32, 144]), (5, [16])] (hC 4 (s_l1Cur_among_w_c h22) h0) ?_
 cases hm
 exact rt [64] []
noncomputable def i_areReports_M : MS (Timetable × (List Report)) Bool := ⟨.x .r .r, fun x => i_areReports x.1 x.2, fun y => dV y, fun _ => [], fun _ _ => []⟩
theorem i_areReports_c {t list y} (hm : i_areReports t list = some y) : i_areReports_M.C (t, list) y := i_areReports_M.c (t, list) hm
theorem i_areReports_ok : FnOK Try.prog 143 i_areReports_M.S := by
 refine fm tt i_areReports_M [fo i_isReport_ok, fo cmp_Compare_int_ok, fo cmp_Or_int_ok] Try.call143 Try.func143 rfl Try.results143 Try.ntmps143 ?_
 rintro ⟨t, list⟩ y cx G hm
 have hm : i_areReports t list = some y := hm
 unfold i_areReports at hm
 refine rg G (Ok_seq (rs G (hN 1 list h0) ?_))
 refine cd hm (fun hm => ?_) (fun hm => ?_)
 ·refine rg G ?_
  cases hm
  exact rt [] []
 ·refine X_skip (thN (Ok_seq (rs G (hN 1 list h0) ?_)))
  refine tF hm (fun _ => ⟨[], [], 32⟩) (fun v2 hr hm => ?_) ?_
  ·refine Ok_block (lp G hm (fun v => ⟨[(1, dV list), (2, .ref 16 0), (10, dV list), (11, dV (list.length : Int)), (12, dV v)], [bX 16 [dV t.Network.Stops, dV t.Network.Lines, dV t.Trips]], 48⟩) ?_)
   rintro v r0 hb hm
   rw [i_areReports_L1] at hm
   refine rg G (Ok_seq (cd hm (fun hm => ?_) (fun hm => ?_)))
   ·refine X_skip (thN (Ok_seq (Ok_block ?_)))
    obtain ⟨e, h, hm⟩ := obind hm
    refine rs G (hD 1 h h0) ?_
    obtain ⟨r4, h7, hm⟩ := obind hm
    refine jn hm (fun v1 => ⟨[(1, dV list), (2, .ref 16 0), (10, dV list), (11, dV (list.length : Int)), (12, dV v), (47, dV v1)], [bX 16 [dV t.Network.Stops, dV t.Network.Lines, dV t.Trips]], 48⟩) (fun v1 hm => ?_) ?_
    ·rcases bf hm with ⟨hb1, hm⟩ | ⟨hb1, hm⟩
     ·refine de G [] (hC 2 (i_isReport_c h7) (hO 4 (.b true) (hP hb1 h0))) ?_
      exact wJ G hm
     ·rcases bf hm with ⟨hb2, hm⟩ | ⟨hb2, hm⟩
      ·obtain ⟨e3, h8, hm⟩ := obind hm
       obtain ⟨r5, h9, hm⟩ := obind hm
       obtain ⟨e4, h10, hm⟩ := obind hm
       obtain ⟨r6, h11, hm⟩ := obind hm
       obtain ⟨r7, h12, hm⟩ := obind hm
       refine de G [] (hC 2 (i_isReport_c h7) (hO 4 (.b false) (hP hb1 (hO 7 (.b true) (hP hb2 (hD 11 h8 (hC 16 (cmp_Compare_int_c h9) (hD 20 h10 (hC 25 (cmp_Compare_int_c h11) (hC 27 (cmp_Or_int_c h12) h0)))))))))) ?_
       exact wJ G hm
      ·refine de G [] (hC 2 (i_isReport_c h7) (hO 4 (.b false) (hP hb1 (hO 7 (.b false) (hP hb2 h0))))) ?_
       exact wJ G hm
    rintro v1 hm
    refine cd hm (fun hm => ?_) (fun hm => ?_)
    ·refine rg G ?_
     have hm := eL hm hb hr
     cases hm
     exact rt [] []
    ·exact X_skip (ibN (thN (rh G (wL G hm))))
   ·exact Ok_exit (thE (thE (ibE (wE G hm hb))))
  rintro ⟨⟩ hm s hw
  refine thN (Ok_weak hw ?_)
  refine rg G ?_
  cases hm
  exact rt [] []
noncomputable def i_IsValidReports_M : MS (Timetable × (List Report)) Bool := ⟨.x .r .r, fun x => i_IsValidReports x.1 x.2, fun y => dV y, fun _ => [], fun _ _ => []⟩
theorem i_IsValidReports_c {t list y} (hm : i_IsValidReports t list = some y) : i_IsValidReports_M.C (t, list) y := i_IsValidReports_M.c (t, list) hm
theorem i_IsValidReports_ok : FnOK Try.prog 109 i_IsValidReports_M.S := by
 refine fm tt i_IsValidReports_M [fo i_IsValidTimetable_ok, fo i_areReports_ok] Try.call109 Try.func109 rfl Try.results109 Try.ntmps109 ?_
 rintro ⟨t, list⟩ y cx G hm
 have hm : i_IsValidReports t list = some y := hm
 unfold i_IsValidReports at hm
 refine rg G ?_
 obtain ⟨r, h, hm⟩ := obind hm
 refine jn hm (fun v => ⟨[(4, dV v)], [], 32⟩) (fun v hm => ?_) ?_
 ·rcases bf hm with ⟨hb, hm⟩ | ⟨hb, hm⟩
  ·obtain ⟨r1, h1, hm⟩ := obind hm
   refine re G (hC 1 (i_IsValidTimetable_c h) (hO 2 (.b true) (hP hb (hC 5 (i_areReports_c h1) h0)))) ?_
   exact wJ G hm
  ·refine re G (hC 1 (i_IsValidTimetable_c h) (hO 2 (.b false) (hP hb h0))) ?_
   exact wJ G hm
 rintro v hm
 cases hm
 exact rt [] []
end Go.Proofs.Ytjljkjbdkjjdcaa
