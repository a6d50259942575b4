/- Each function computes what its model says. Made by program (dec.py). -/
import Derived.Test.YtfknbpimkleimaaTy
import Derived.Test.YtfknbpimkleimaaAbC
import Derived.Test.YtfknbpimkleimaaWaM
namespace Go.Proofs.Ytfknbpimkleimaa
open Go Go.Ab
set_option maxRecDepth 100000
set_option maxHeartbeats 4000000
set_option linter.unusedVariables false
set_option linter.unusedSimpArgs false
theorem tt : TT Try.prog ty := ⟨by kernel_rfl, ty_ok⟩
noncomputable def v_rBig_M : MS ((List UInt8)) Bool := ⟨.r, v_rBig, fun y => dV y, fun _ => [], fun _ _ => []⟩
theorem v_rBig_c {code y} (hm : v_rBig code = some y) : v_rBig_M.C code y := v_rBig_M.c code hm
theorem v_rBig_ok : FnOK Try.prog 12 v_rBig_M.S := by
 refine fm tt v_rBig_M [] Try.call12 Try.func12 rfl Try.results12 Try.ntmps12 ?_
 rintro code y cx G hm
 have hm : v_rBig code = some y := hm
 unfold v_rBig at hm
 refine rg G (rs G (hN 1 code h0) ?_)
 cases hm
 exact rt [] []
noncomputable def s_l1Cur_next_M : MS l1Cur (Int × l1Cur) := ⟨.b, s_l1Cur_next, fun y => dV y.1, fun _ => [], fun _ y => [bxO y.2]⟩
theorem s_l1Cur_next_c {c y} (hm : s_l1Cur_next c = some y) : s_l1Cur_next_M.C c y := s_l1Cur_next_M.c c hm
theorem s_l1Cur_next_ok : FnOK Try.prog 232 s_l1Cur_next_M.S := by
 refine fm tt s_l1Cur_next_M [] Try.call232 Try.func232 rfl Try.results232 Try.ntmps232 ?_
 rintro c y cx G hm
 have hm : s_l1Cur_next c = some y := hm
 unfold s_l1Cur_next at hm
 refine rg G (rg G (jn hm (fun v => ⟨[(0, .ref 0 0), (3, dV v)], [bX 0 [dV c.code_, dV c.at_, kV .u64 c.seed_.v]], 48⟩) (fun v hm => ?_) ?_))
 ·refine ds G [] (hN 8 c.code_ h0) ?_
  refine cd hm (fun hm => ?_) (fun hm => ?_)
  ·obtain ⟨e1, h1, hm⟩ := obind hm
   refine de G [] (hD 8 h1 h0) ?_
   exact wJ G hm
  ·exact X_skip (wJ G hm)
 rintro v hm
 refine rg G (rg G (Ok_seq (ds G [] (hN 8 c.code_ h0) ?_)))
 refine cd hm (fun hm => ?_) (fun hm => ?_)
 ·refine rg G ?_
  cases hm
  exact rt [] []
 ·refine X_skip (thN ?_)
  obtain ⟨u, h2, hm⟩ := obind hm
  refine rs G (hK h2 h0) ?_
  cases hm
  exact rt [] []
noncomputable def s_l1Cur_pick_M : MS (l1Cur × Int) (Int × l1Cur) := ⟨.x .b .r, fun x => s_l1Cur_pick x.1 x.2, fun y => dV y.1, fun _ => [], fun _ y => [bxO y.2]⟩
theorem s_l1Cur_pick_c {c n y} (hm : s_l1Cur_pick c n = some y) : s_l1Cur_pick_M.C (c, n) y := s_l1Cur_pick_M.c (c, n) hm
theorem s_l1Cur_pick_ok : FnOK Try.prog 106 s_l1Cur_pick_M.S := by
 refine fm tt s_l1Cur_pick_M [fo s_l1Cur_next_ok] Try.call106 Try.func106 rfl Try.results106 Try.ntmps106 ?_
 rintro ⟨c, n⟩ y cx G hm
 have hm : s_l1Cur_pick c n = some y := hm
 unfold s_l1Cur_pick at hm
 refine rg G (Ok_seq (rg G (cd hm (fun hm => ?_) (fun hm => ?_))))
 ·refine rg G ?_
  cases hm
  exact rt [] []
 ·refine X_skip (thN ?_)
  obtain ⟨r, h, hm⟩ := obind hm
  refine rs G (hC 1 (s_l1Cur_next_c h) h0) ?_
  refine jn hm (fun (v, v1, v2, v3) => ⟨[(0, .ref 0 0), (1, dV n), (5, dV v)], [bX 0 [dV v1, dV v2, kV .u64 v3]], 48⟩) (fun vv hm => ?_) ?_
  ·refine rg G (cd hm (fun hm => ?_) (fun hm => ?_))
   ·obtain ⟨r1, h1, hm⟩ := obind hm
    refine re G (hC 3 (s_l1Cur_next_c h1) h0) ?_
    exact wJ G hm
   ·exact X_skip (wJ G hm)
  rintro ⟨v, v1, v2, v3⟩ hm
  obtain ⟨u, h2, hm⟩ := obind hm
  refine rs G (hK h2 h0) ?_
  cases hm
  exact rt [] []
noncomputable def s_l1Num_MR (rec_ : Int → Option (ByteArray)) : MS Int ByteArray := ⟨.r, rec_, fun y => dV y, fun _ => [], fun _ _ => []⟩
noncomputable def s_l1Num_M : MS Int ByteArray := s_l1Num_MR s_l1Num
theorem s_l1Num_c {n y} (hm : s_l1Num n = some y) : s_l1Num_M.C n y := s_l1Num_M.c n hm
theorem s_l1Num_cR {rec_ : Int → Option (ByteArray)} {n y} (hm : rec_ n = some y) : (s_l1Num_MR rec_).C n y := (s_l1Num_MR rec_).c n hm
theorem s_l1Num_okF {rec_ : Int → Option (ByteArray)} (hrec : FnOK Try.prog 300 (s_l1Num_MR rec_).S) : FnOK Try.prog 300 (s_l1Num_MR (s_l1Num_F rec_)).S := by
 refine fm tt (s_l1Num_MR (s_l1Num_F rec_)) [fo hrec] Try.call300 Try.func300 rfl Try.results300 Try.ntmps300 ?_
 rintro n y cx G hm
 have hm : s_l1Num_F rec_ n = some y := hm
 unfold s_l1Num_F at hm
 refine rg G (Ok_seq (rg G (cd hm (fun hm => ?_) (fun hm => ?_))))
 ·obtain ⟨r, h, hm⟩ := obind hm
  obtain ⟨u, h1, hm⟩ := obind hm
  refine rs G (hC 2 (s_l1Num_cR h) (hP (cat_p (chk_t h1)) h0)) ?_
  cases hm
  exact rt [] []
 ·refine X_skip (thN (Ok_seq (rg G (cd hm (fun hm => ?_) (fun hm => ?_)))))
  ·obtain ⟨u1, h2, hm⟩ := obind hm
   refine rs G (hK h2 h0) ?_
   cases hm
   exact rt [] []
  ·refine X_skip (thN ?_)
   obtain ⟨u7, h9, hm⟩ := obind hm
   obtain ⟨r2, h10, hm⟩ := obind hm
   obtain ⟨u8, h11, hm⟩ := obind hm
   obtain ⟨u9, h12, hm⟩ := obind hm
   obtain ⟨u10, h13, hm⟩ := obind hm
   obtain ⟨u11, h14, hm⟩ := obind hm
   refine ds G [] (hK h9 (hC 2 (s_l1Num_cR h10) (hK h11 (hK h12 (hK h13 (hP (cat_p (chk_t h14)) h0)))))) ?_
   cases hm
   exact rt [] []
theorem s_l1Num_okn : ∀ k, FnOK Try.prog 300 (s_l1Num_MR (s_l1Num_k k)).S
 | 0 => ⟨fun args w => Try.call300 args w, fun vs w F ds obs κ hp => by obtain ⟨x, y, _, _, h⟩ := hp; cases h⟩
 | k + 1 => s_l1Num_okF (s_l1Num_okn k)
theorem s_l1Num_ok : FnOK Try.prog 300 s_l1Num_M.S := s_l1Num_okn 4294967296
noncomputable def s_l2Place_M : MS (Line × Int) Int := ⟨.x .r .r, fun x => s_l2Place x.1 x.2, fun y => dV y, fun _ => [], fun _ _ => []⟩
theorem s_l2Place_c {x stop y} (hm : s_l2Place x stop = some y) : s_l2Place_M.C (x, stop) y := s_l2Place_M.c (x, stop) hm
theorem s_l2Place_ok : FnOK Try.prog 310 s_l2Place_M.S := by
 refine fm tt s_l2Place_M [] Try.call310 Try.func310 rfl Try.results310 Try.ntmps310 ?_
 rintro ⟨x, stop⟩ y cx G hm
 have hm : s_l2Place x stop = some y := hm
 unfold s_l2Place at hm
 refine rg G (Ok_seq (rg G (tF hm (fun _ => ⟨[], [], 32⟩) (fun v1 hr hm => ?_) ?_)))
 ·refine Ok_block (lp G hm (fun v => ⟨[(1, dV stop), (2, .ref 16 0), (5, dV v)], [bX 16 [dV x.Name, dV x.Stops, dV x.Runs]], 48⟩) ?_)
  rintro v r0 hb hm
  rw [s_l2Place_L1] at hm
  refine Ok_seq (rs G (hN 3 x.Stops h0) ?_)
  refine cd hm (fun hm => ?_) (fun hm => ?_)
  ·refine X_skip (thN (Ok_seq (Ok_block ?_)))
   obtain ⟨e, h, hm⟩ := obind hm
   refine rs G (hD 3 h h0) ?_
   refine cd hm (fun hm => ?_) (fun hm => ?_)
   ·refine rg G ?_
    have hm := eL hm hb hr
    cases hm
    exact rt [] []
   ·exact X_skip (ibN (thN (rh G (wL G hm))))
  ·exact Ok_exit (thE (thE (ibE (wE G hm hb))))
 rintro ⟨⟩ hm s hw
 refine thN (Ok_weak hw ?_)
 refine rg G ?_
 cases hm
 exact rt [] []
noncomputable def s_l1Cur_line_M : MS (l1Cur × ByteArray × Int) (Line × l1Cur) := ⟨.x .b (.x .r .r), fun x => s_l1Cur_line x.1 x.2.1 x.2.2, fun y => .aggv [dV y.1.Name, .own 0, .own 1], fun y => [arO 3 y.1.Stops, arO 3 y.1.Runs], fun _ y => [bxO y.2]⟩
theorem s_l1Cur_line_c {c name stops y} (hm : s_l1Cur_line c name stops = some y) : s_l1Cur_line_M.C (c, name, stops) y := s_l1Cur_line_M.c (c, name, stops) hm
theorem s_l1Cur_line_ok : FnOK Try.prog 299 s_l1Cur_line_M.S := by
 refine fm tt s_l1Cur_line_M [fo s_l1Cur_pick_ok, fo s_l2Place_ok] Try.call299 Try.func299 rfl Try.results299 Try.ntmps299 ?_
 rintro ⟨c, name, stops⟩ y cx G hm
 have hm : s_l1Cur_line c name stops = some y := hm
 unfold s_l1Cur_line at hm
 refine rg G (rg G ?_)
 obtain ⟨r, h, hm⟩ := obind hm
 refine rs G (hC 2 (s_l1Cur_pick_c h) h0) ?_
 refine Ok_seq ?_
 obtain ⟨r1, h1, hm⟩ := obind hm
 refine rs G (hC 1 (s_l1Cur_pick_c h1) h0) ?_
 refine tl hm (fun (v7, v8, v9, v10) => ⟨[(0, .ref 0 0), (2, dV stops), (6, .ref 32 0), (7, .ref 48 0)], [bX 0 [dV v7, dV v8, kV .u64 v9], bX 32 [dV ByteArray.empty, .dat (.sc (.slice none 0 0)), .dat (.sc (.slice none 0 0))], bX 48 [dV name, .own 64, .dat (.sc (.slice none 0 0))], aX 64 3 v10], 96⟩) (fun vv1 hm => ?_) ?_
 ·refine Ok_block (lpP hm (fun (v, v1, v2, v3, v4, v5) => ⟨[(0, .ref 0 0), (2, dV stops), (6, .ref 32 0), (7, .ref 48 0), (8, dV v), (9, dV v1)], [bX 0 [dV v2, dV v3, kV .u64 v4], bX 32 [dV ByteArray.empty, .dat (.sc (.slice none 0 0)), .dat (.sc (.slice none 0 0))], bX 48 [dV name, .own 64, .dat (.sc (.slice none 0 0))], aX 64 3 v5], 96⟩) (Wk_J G.hL ⟨[(0, []), (2, []), (6, []), (7, []), (8, []), (9, [])], [(0, 0, []), (32, 16, []), (48, 64, [.k, .o 64])], [(64, 3, 1, [])], 96⟩ (by kernel_rfl)) ?_)
  rintro ⟨v, v1, v2, v3, v4, v5⟩ r0 hb hm
  rw [s_l1Cur_line_L1] at hm
  refine Ok_seq (rg G (cd hm (fun hm => ?_) (fun hm => ?_)))
  ·refine X_skip (thN (Ok_seq (Ok_block (jn hm (fun v6 => ⟨[(0, .ref 0 0), (2, dV stops), (6, .ref 32 0), (7, .ref 48 0), (8, dV v), (9, dV v1)], [bX 0 [dV v2, dV v3, kV .u64 v4], bX 32 [dV ByteArray.empty, .dat (.sc (.slice none 0 0)), .dat (.sc (.slice none 0 0))], bX 48 [dV name, .own 64, .dat (.sc (.slice none 0 0))], aX 64 3 v6], 96⟩) (fun v6 hm => ?_) ?_))))
   ·obtain ⟨r2, h2, hm⟩ := obind hm
    refine rs G (hC 2 (s_l2Place_c h2) h0) ?_
    refine cd hm (fun hm => ?_) (fun hm => ?_)
    ·obtain ⟨u, h3, hm⟩ := obind hm
     refine re G (hA 4 8 h3 h0) ?_
     exact wJ G hm
    ·exact X_skip (wJ G hm)
   rintro v6 hm
   obtain ⟨r3, h4, hm⟩ := obind hm
   obtain ⟨u1, h5, hm⟩ := obind hm
   refine re G (hC 3 (s_l1Cur_pick_c h4) (hK h5 h0)) ?_
   exact ibN (thN (rh G (wL G hm)))
  ·exact Ok_exit (thE (thE (ibE (wD G hm hb))))
 rintro ⟨v7, v8, v9, v10⟩ hm s hw
 refine thN (Ok_weak hw ?_)
 refine jn hm (fun v11 => ⟨[(0, .ref 0 0), (6, .ref 32 0), (7, .ref 48 0)], [bX 0 [dV v7, dV v8, kV .u64 v9], bX 32 [dV ByteArray.empty, .dat (.sc (.slice none 0 0)), .dat (.sc (.slice none 0 0))], bX 48 [dV name, .own 64, .dat (.sc (.slice none 0 0))], aX 64 3 v11], 96⟩) (fun v11 hm => ?_) ?_
 ·refine rs G (hN 2 v10 h0) ?_
  refine cd hm (fun hm => ?_) (fun hm => ?_)
  ·obtain ⟨e1, h9, hm⟩ := obind hm
   obtain ⟨u4, h10, hm⟩ := obind hm
   obtain ⟨u5, h11, hm⟩ := obind hm
   refine de G [(10, [64, 304]), (12, [48, 320])] (hD 4 h9 (hE 5 h9 (hK h10 (hA 10 8 h11 h0)))) ?_
   exact wJ G hm
  ·exact X_skip (wJ G hm)
 rintro v11 hm
 refine Ok_seq (rg G (tl hm (fun (v17, v18, v19, v20) => ⟨[(0, .ref 0 0), (6, .ref 32 0), (7, .ref 48 0)], [bX 0 [dV v17, dV v18, kV .u64 v19], bX 32 [dV ByteArray.empty, .dat (.sc (.slice none 0 0)), .dat (.sc (.slice none 0 0))], bX 48 [dV name, .own 64, .own 80], aX 64 3 v11, aX 80 3 v20], 112⟩) (fun vv hm => ?_) ?_))
 ·refine Ok_block (lpP hm (fun (v12, v13, v14, v15, v16) => ⟨[(0, .ref 0 0), (6, .ref 32 0), (7, .ref 48 0), (10, dV v12)], [bX 0 [dV v13, dV v14, kV .u64 v15], bX 32 [dV ByteArray.empty, .dat (.sc (.slice none 0 0)), .dat (.sc (.slice none 0 0))], bX 48 [dV name, .own 64, .own 80], aX 64 3 v11, aX 80 3 v16], 112⟩) (Wk_J G.hL ⟨[(0, []), (6, []), (7, []), (10, [])], [(0, 0, []), (32, 32, []), (48, 48, [.k, .k, .o 80]), (64, 64, [])], [(80, 3, 1, [])], 112⟩ (by kernel_rfl)) ?_)
  rintro ⟨v12, v13, v14, v15, v16⟩ r0 hb1 hm
  rw [s_l1Cur_line_L2] at hm
  refine Ok_seq (rs G (hN 3 v11 h0) ?_)
  refine cd hm (fun hm => ?_) (fun hm => ?_)
  ·refine X_skip (thN (Ok_seq (Ok_block ?_)))
   obtain ⟨r5, h14, hm⟩ := obind hm
   obtain ⟨u7, h15, hm⟩ := obind hm
   refine de G [(3, [0]), (6, [80, 272]), (8, [48, 288])] (hC 3 (s_l1Cur_pick_c h14) (hA 6 8 h15 h0)) ?_
   exact ibN (thN (rh G (wL G hm)))
  ·exact Ok_exit (thE (thE (ibE (wD G hm hb1))))
 rintro ⟨v17, v18, v19, v20⟩ hm s1 hw1
 refine thN (Ok_weak hw1 ?_)
 refine rg G ?_
 cases hm
 exact rt [64, 80] []
noncomputable def s_l1Cur_line_f_M : MS (l1Cur × ByteArray × Int) (Line × l1Cur) := ⟨.x .b (.x .r .r), fun x => s_l1Cur_line_f x.1 x.2.1 x.2.2, fun y => dV y.1, fun _ => [], fun _ y => [bxO y.2]⟩
theorem s_l1Cur_line_f_c {c name stops y} (hm : s_l1Cur_line_f c name stops = some y) : s_l1Cur_line_f_M.C (c, name, stops) y := s_l1Cur_line_f_M.c (c, name, stops) hm
theorem s_l1Cur_line_f_ok : FnOK Try.prog 299 s_l1Cur_line_f_M.S := by
 refine fm tt s_l1Cur_line_f_M [fo s_l1Cur_pick_ok, fo s_l2Place_ok] Try.call299 Try.func299 rfl Try.results299 Try.ntmps299 ?_
 rintro ⟨c, name, stops⟩ y cx G hm
 have hm : s_l1Cur_line_f c name stops = some y := hm
 unfold s_l1Cur_line_f at hm
 refine rg G (rg G ?_)
 obtain ⟨r, h, hm⟩ := obind hm
 refine rs G (hC 2 (s_l1Cur_pick_c h) h0) ?_
 refine Ok_seq ?_
 obtain ⟨r1, h1, hm⟩ := obind hm
 refine rs G (hC 1 (s_l1Cur_pick_c h1) h0) ?_
 refine tl hm (fun (v7, v8, v9, v10) => ⟨[(0, .ref 0 0), (2, dV stops), (6, .ref 32 0), (7, .ref 48 0)], [bX 0 [dV v7, dV v8, kV .u64 v9], bX 32 [dV ByteArray.empty, .dat (.sc (.slice none 0 0)), .dat (.sc (.slice none 0 0))], bX 48 [dV name, .own 64, .dat (.sc (.slice none 0 0))], aX 64 3 v10], 96⟩) (fun vv1 hm => ?_) ?_
 ·refine Ok_block (lpP hm (fun (v, v1, v2, v3, v4, v5) => ⟨[(0, .ref 0 0), (2, dV stops), (6, .ref 32 0), (7, .ref 48 0), (8, dV v), (9, dV v1)], [bX 0 [dV v2, dV v3, kV .u64 v4], bX 32 [dV ByteArray.empty, .dat (.sc (.slice none 0 0)), .dat (.sc (.slice none 0 0))], bX 48 [dV name, .own 64, .dat (.sc (.slice none 0 0))], aX 64 3 v5], 96⟩) (Wk_J G.hL ⟨[(0, []), (2, []), (6, []), (7, []), (8, []), (9, [])], [(0, 0, []), (32, 16, []), (48, 64, [.k, .o 64])], [(64, 3, 1, [])], 96⟩ (by kernel_rfl)) ?_)
  rintro ⟨v, v1, v2, v3, v4, v5⟩ r0 hb hm
  rw [s_l1Cur_line_f_L1] at hm
  refine Ok_seq (rg G (cd hm (fun hm => ?_) (fun hm => ?_)))
  ·refine X_skip (thN (Ok_seq (Ok_block (jn hm (fun v6 => ⟨[(0, .ref 0 0), (2, dV stops), (6, .ref 32 0), (7, .ref 48 0), (8, dV v), (9, dV v1)], [bX 0 [dV v2, dV v3, kV .u64 v4], bX 32 [dV ByteArray.empty, .dat (.sc (.slice none 0 0)), .dat (.sc (.slice none 0 0))], bX 48 [dV name, .own 64, .dat (.sc (.slice none 0 0))], aX 64 3 v6], 96⟩) (fun v6 hm => ?_) ?_))))
   ·obtain ⟨r2, h2, hm⟩ := obind hm
    refine rs G (hC 2 (s_l2Place_c h2) h0) ?_
    refine cd hm (fun hm => ?_) (fun hm => ?_)
    ·obtain ⟨u, h3, hm⟩ := obind hm
     refine re G (hA 4 8 h3 h0) ?_
     exact wJ G hm
    ·exact X_skip (wJ G hm)
   rintro v6 hm
   obtain ⟨r3, h4, hm⟩ := obind hm
   obtain ⟨u1, h5, hm⟩ := obind hm
   refine re G (hC 3 (s_l1Cur_pick_c h4) (hK h5 h0)) ?_
   exact ibN (thN (rh G (wL G hm)))
  ·exact Ok_exit (thE (thE (ibE (wD G hm hb))))
 rintro ⟨v7, v8, v9, v10⟩ hm s hw
 refine thN (Ok_weak hw ?_)
 refine jn hm (fun v11 => ⟨[(0, .ref 0 0), (6, .ref 32 0), (7, .ref 48 0)], [bX 0 [dV v7, dV v8, kV .u64 v9], bX 32 [dV ByteArray.empty, .dat (.sc (.slice none 0 0)), .dat (.sc (.slice none 0 0))], bX 48 [dV name, .own 64, .dat (.sc (.slice none 0 0))], aX 64 3 v11], 96⟩) (fun v11 hm => ?_) ?_
 ·refine rs G (hN 2 v10 h0) ?_
  refine cd hm (fun hm => ?_) (fun hm => ?_)
  ·obtain ⟨e1, h9, hm⟩ := obind hm
   obtain ⟨u4, h10, hm⟩ := obind hm
   obtain ⟨u5, h11, hm⟩ := obind hm
   refine de G [(10, [64, 304]), (12, [48, 320])] (hD 4 h9 (hE 5 h9 (hK h10 (hA 10 8 h11 h0)))) ?_
   exact wJ G hm
  ·exact X_skip (wJ G hm)
 rintro v11 hm
 refine Ok_seq (rg G (tl hm (fun (v17, v18, v19, v20) => ⟨[(0, .ref 0 0), (6, .ref 32 0), (7, .ref 48 0)], [bX 0 [dV v17, dV v18, kV .u64 v19], bX 32 [dV ByteArray.empty, .dat (.sc (.slice none 0 0)), .dat (.sc (.slice none 0 0))], bX 48 [dV name, .own 64, .own 80], aX 64 3 v11, aX 80 3 v20], 112⟩) (fun vv hm => ?_) ?_))
 ·refine Ok_block (lpP hm (fun (v12, v13, v14, v15, v16) => ⟨[(0, .ref 0 0), (6, .ref 32 0), (7, .ref 48 0), (10, dV v12)], [bX 0 [dV v13, dV v14, kV .u64 v15], bX 32 [dV ByteArray.empty, .dat (.sc (.slice none 0 0)), .dat (.sc (.slice none 0 0))], bX 48 [dV name, .own 64, .own 80], aX 64 3 v11, aX 80 3 v16], 112⟩) (Wk_J G.hL ⟨[(0, []), (6, []), (7, []), (10, [])], [(0, 0, []), (32, 32, []), (48, 48, [.k, .k, .o 80]), (64, 64, [])], [(80, 3, 1, [])], 112⟩ (by kernel_rfl)) ?_)
  rintro ⟨v12, v13, v14, v15, v16⟩ r0 hb1 hm
  rw [s_l1Cur_line_f_L2] at hm
  refine Ok_seq (rs G (hN 3 v11 h0) ?_)
  refine cd hm (fun hm => ?_) (fun hm => ?_)
  ·refine X_skip (thN (Ok_seq (Ok_block ?_)))
   obtain ⟨r5, h14, hm⟩ := obind hm
   obtain ⟨u7, h15, hm⟩ := obind hm
   refine de G [(3, [0]), (6, [80, 272]), (8, [48, 288])] (hC 3 (s_l1Cur_pick_c h14) (hA 6 8 h15 h0)) ?_
   exact ibN (thN (rh G (wL G hm)))
  ·exact Ok_exit (thE (thE (ibE (wD G hm hb1))))
 rintro ⟨v17, v18, v19, v20⟩ hm s1 hw1
 refine thN (Ok_weak hw1 ?_)
 refine rg G ?_
 cases hm
 exact rt [] []
noncomputable def s_l1Cur_one_M : MS (l1Cur × Int) (Bool × l1Cur) := ⟨.x .b .r, fun x => s_l1Cur_one x.1 x.2, fun y => dV y.1, fun _ => [], fun _ y => [bxO y.2]⟩
theorem s_l1Cur_one_c {c n y} (hm : s_l1Cur_one c n = some y) : s_l1Cur_one_M.C (c, n) y := s_l1Cur_one_M.c (c, n) hm
theorem s_l1Cur_one_ok : FnOK Try.prog 134 s_l1Cur_one_M.S := by
 refine fm tt s_l1Cur_one_M [fo s_l1Cur_pick_ok] Try.call134 Try.func134 rfl Try.results134 Try.ntmps134 ?_
 rintro ⟨c, n⟩ y cx G hm
 have hm : s_l1Cur_one c n = some y := hm
 unfold s_l1Cur_one at hm
 refine rg G ?_
 obtain ⟨r, h, hm⟩ := obind hm
 refine rs G (hC 2 (s_l1Cur_pick_c h) h0) ?_
 cases hm
 exact rt [] []
noncomputable def s_l2Back_f_M : MS ((List Int)) ((List Int)) := ⟨.r, s_l2Back_f, fun y => dV y, fun _ => [], fun _ _ => []⟩
theorem s_l2Back_f_c {list y} (hm : s_l2Back_f list = some y) : s_l2Back_f_M.C list y := s_l2Back_f_M.c list hm
theorem s_l2Back_f_ok : FnOK Try.prog 321 s_l2Back_f_M.S := by
 refine fm tt s_l2Back_f_M [] Try.call321 Try.func321 rfl Try.results321 Try.ntmps321 ?_
 rintro list y cx G hm
 have hm : s_l2Back_f list = some y := hm
 unfold s_l2Back_f at hm
 refine rg G (rg G (Ok_seq (rs G (hN 1 list h0) ?_)))
 refine tl hm (fun i1 => ⟨[(3, .own 16)], [aX 16 3 i1], 48⟩) (fun i1 hm => ?_) ?_
 ·refine Ok_block (lp G hm (fun (v, i) => ⟨[(0, dV list), (3, .own 16), (4, dV v)], [aX 16 3 i], 48⟩) ?_)
  rintro ⟨v, i⟩ r0 hb hm
  rw [s_l2Back_f_L1] at hm
  refine Ok_seq (rg G (cd hm (fun hm => ?_) (fun hm => ?_)))
  ·refine X_skip (thN (Ok_seq (Ok_block ?_)))
   obtain ⟨e, h, hm⟩ := obind hm
   obtain ⟨u, h1, hm⟩ := obind hm
   refine re G (hD 3 h (hA 6 8 h1 h0)) ?_
   exact ibN (thN (rh G (wL G hm)))
  ·exact Ok_exit (thE (thE (ibE (wD G hm hb))))
 rintro i1 hm s hw
 refine thN (Ok_weak hw ?_)
 refine rg G ?_
 cases hm
 exact rt [] []
noncomputable def s_l1Own_M : MS ((List Int)) ((List Int)) := ⟨.r, s_l1Own, fun _ => .own 0, fun y => [arO 3 y], fun _ _ => []⟩
theorem s_l1Own_c {l y} (hm : s_l1Own l = some y) : s_l1Own_M.C l y := s_l1Own_M.c l hm
theorem s_l1Own_ok : FnOK Try.prog 235 s_l1Own_M.S := by
 refine fm tt s_l1Own_M [] Try.call235 Try.func235 rfl Try.results235 Try.ntmps235 ?_
 rintro l y cx G hm
 have hm : s_l1Own l = some y := hm
 unfold s_l1Own at hm
 refine rg G ?_
 obtain ⟨u, h, hm⟩ := obind hm
 refine rs G (hA 2 8 h h0) ?_
 cases hm
 exact rt [64] []
noncomputable def s_l1Cur_of_w_M : MS (l1Cur × (List ByteArray)) (ByteArray × l1Cur) := ⟨.x .b (.s 9), fun x => s_l1Cur_of_w x.1 x.2, fun y => dV y.1, fun _ => [], fun x y => [bxO y.2, arO 9 x.2]⟩
theorem s_l1Cur_of_w_c {c list y} (hm : s_l1Cur_of_w c list = some y) : s_l1Cur_of_w_M.C (c, list) y := s_l1Cur_of_w_M.c (c, list) hm
theorem s_l1Cur_of_w_ok : FnOK Try.prog 196 s_l1Cur_of_w_M.S := by
 refine fm tt s_l1Cur_of_w_M [fo s_l1Cur_pick_ok] Try.call196 Try.func196 rfl Try.results196 Try.ntmps196 ?_
 rintro ⟨c, list⟩ y cx G hm
 have hm : s_l1Cur_of_w c list = some y := hm
 unfold s_l1Cur_of_w at hm
 refine rg G ?_
 obtain ⟨r, h, hm⟩ := obind hm
 obtain ⟨e, h1, hm⟩ := obind hm
 refine rs G (hN 3 list (hC 4 (s_l1Cur_pick_c h) (hD 5 h1 (hE 6 h1 h0)))) ?_
 cases hm
 exact rt [] []
noncomputable def s_l2Own_t_M : MS Network Network := ⟨.r, s_l2Own_t, fun _ => .aggv [.own 0, .own 1], fun y => [arO 9 y.Stops, taO 236 [none, some 3, some 3] y.Lines], fun _ _ => []⟩
theorem s_l2Own_t_c {n y} (hm : s_l2Own_t n = some y) : s_l2Own_t_M.C n y := s_l2Own_t_M.c n hm
theorem s_l2Own_t_ok : FnOK Try.prog 266 s_l2Own_t_M.S := by
 refine fm tt s_l2Own_t_M [fo s_l1Own_ok] Try.call266 Try.func266 rfl Try.results266 Try.ntmps266 ?_
 rintro n y cx G hm
 have hm : s_l2Own_t n = some y := hm
 unfold s_l2Own_t at hm
 refine rg G ?_
 obtain ⟨u, h, hm⟩ := obind hm
 refine rs G (hA 3 16 h h0) ?_
 refine Ok_seq (rg G (tl hm (fun v2 => ⟨[(2, .ref 16 0), (3, .ref 32 0)], [bX 16 [.dat (.sc (.slice none 0 0)), .dat (.sc (.slice none 0 0))], bX 32 [.own 48, .own 64], aX 48 9 (([] : List ByteArray) ++ n.Stops), tX 64 236 [none, some 3, some 3] v2 64 none], 96⟩) (fun v2 hm => ?_) ?_))
 ·refine Ok_block (lpP hm (fun (v, v1) => ⟨[(1, .ref 16 0), (2, .ref 32 0), (3, .ref 48 0), (4, dV v)], [bX 16 [dV n.Stops, dV n.Lines], bX 32 [.dat (.sc (.slice none 0 0)), .dat (.sc (.slice none 0 0))], bX 48 [.own 64, .own 80], aX 64 9 (([] : List ByteArray) ++ n.Stops), tX 80 236 [none, some 3, some 3] v1 80 none], 112⟩) (Wk_J G.hL ⟨[(1, []), (2, []), (3, []), (4, [])], [(16, 16, []), (32, 32, []), (48, 128, [.k, .o 80]), (64, 96, [])], [(80, 236, 3, [none, some 3, some 3])], 112⟩ (by kernel_rfl)) ?_)
  rintro ⟨v, v1⟩ r0 hb hm
  rw [s_l2Own_t_L1] at hm
  refine Ok_seq (rs G (hN 3 n.Lines h0) ?_)
  refine cd hm (fun hm => ?_) (fun hm => ?_)
  ·refine X_skip (thN (Ok_seq (Ok_block ?_)))
   obtain ⟨e3, h7, hm⟩ := obind hm
   obtain ⟨e4, h8, hm⟩ := obind hm
   obtain ⟨r2, h9, hm⟩ := obind hm
   obtain ⟨e5, h10, hm⟩ := obind hm
   obtain ⟨r3, h11, hm⟩ := obind hm
   obtain ⟨u2, h12, hm⟩ := obind hm
   refine de G [(23, [416, 528]), (24, [80, 560]), (26, [48, 576])] (hD 5 h7 (hD 11 h8 (hC 14 (s_l1Own_c h9) (hD 18 h10 (hC 21 (s_l1Own_c h11) (hP (nodupB_ok (l := [416, 528]) rfl) (hA 24 64 h12 h0))))))) ?_
   exact ibN (thN (rh G (wL G hm)))
  ·exact Ok_exit (thE (thE (ibE (wD G hm hb))))
 rintro v2 hm s hw
 refine thN (Ok_weak hw ?_)
 refine rg G ?_
 cases hm
 exact rt [48, 64] []
noncomputable def s_l1Cur_network_t_M : MS l1Cur (Network × l1Cur) := ⟨.b, s_l1Cur_network_t, fun _ => .aggv [.own 0, .own 1], fun y => [arO 9 y.1.Stops, taO 236 [none, some 3, some 3] y.1.Lines], fun _ y => [bxO y.2]⟩
theorem s_l1Cur_network_t_c {c y} (hm : s_l1Cur_network_t c = some y) : s_l1Cur_network_t_M.C c y := s_l1Cur_network_t_M.c c hm
theorem s_l1Cur_network_t_ok : FnOK Try.prog 279 s_l1Cur_network_t_M.S := by
 refine fm tt s_l1Cur_network_t_M [fo s_l1Cur_pick_ok, fo s_l1Num_ok, fo s_l1Cur_line_f_ok, fo s_l1Cur_one_ok, fo s_l2Back_f_ok, fo s_l2Own_t_ok] Try.call279 Try.func279 rfl Try.results279 Try.ntmps279 ?_
 rintro c y cx G hm
 have hm : s_l1Cur_network_t c = some y := hm
 unfold s_l1Cur_network_t at hm
 refine rg G ?_
 obtain ⟨r, h, hm⟩ := obind hm
 refine rs G (hC 1 (s_l1Cur_pick_c h) h0) ?_
 obtain ⟨u, h1, hm⟩ := obind hm
 refine rs G (hO 2 (.fz [96] [] []) (hU 2 h1 h0)) ?_
 refine Ok_seq ?_
 obtain ⟨r1, h2, hm⟩ := obind hm
 refine rs G (hC 1 (s_l1Cur_pick_c h2) h0) ?_
 refine tl hm (fun (v4, v5, v6, v7) => ⟨[(0, .ref 0 0), (2, .ref 32 0), (4, .ref 48 0)], [bX 0 [dV v4, dV v5, kV .u64 v6], bX 32 [.dat (.sc (.slice none 0 0)), .dat (.sc (.slice none 0 0))], bX 48 [dV ((([(str [112, 111, 114, 116]), (str [109, 105, 108, 108]), (str [112, 97, 114, 107]), (str [104, 97, 108, 108]), (str [100, 111, 99, 107]), (str [102, 97, 105, 114])] : List ByteArray).take (w64 (2 + r.1)).toNat).drop (0 : Int).toNat), .own 64], aX 64 236 v7], 96⟩) (fun vv1 hm => ?_) ?_
 ·refine Ok_block (lpP hm (fun (x, v, v1, v2, v3) => ⟨[(0, .ref 0 0), (2, .ref 32 0), (3, dV (w64 (2 + r.1))), (4, .ref 48 0), (5, dV x)], [bX 0 [dV v, dV v1, kV .u64 v2], bX 32 [.dat (.sc (.slice none 0 0)), .dat (.sc (.slice none 0 0))], bX 48 [dV ((([(str [112, 111, 114, 116]), (str [109, 105, 108, 108]), (str [112, 97, 114, 107]), (str [104, 97, 108, 108]), (str [100, 111, 99, 107]), (str [102, 97, 105, 114])] : List ByteArray).take (w64 (2 + r.1)).toNat).drop (0 : Int).toNat), .own 64], aX 64 236 v3], 96⟩) (Wk_J G.hL ⟨[(0, []), (2, []), (3, []), (4, []), (5, [])], [(0, 0, []), (32, 16, []), (48, 160, [.k, .o 64])], [(64, 236, 3, [])], 96⟩ (by kernel_rfl)) ?_)
  rintro ⟨x, v, v1, v2, v3⟩ r0 hb hm
  rw [s_l1Cur_network_t_L1] at hm
  refine Ok_seq (rg G (cd hm (fun hm => ?_) (fun hm => ?_)))
  ·refine X_skip (thN (Ok_seq (Ok_block ?_)))
   obtain ⟨r4, h7, hm⟩ := obind hm
   obtain ⟨u3, h8, hm⟩ := obind hm
   obtain ⟨r5, h9, hm⟩ := obind hm
   obtain ⟨u4, h10, hm⟩ := obind hm
   refine de G [(7, [0]), (8, []), (9, [64, 256]), (11, [48, 272])] (hC 4 (s_l1Num_c h7) (hP (cat_p (chk_t h8)) (hC 7 (s_l1Cur_line_f_c h9) (hA 9 64 h10 h0)))) ?_
   exact ibN (thN (rh G (wL G hm)))
  ·exact Ok_exit (thE (thE (ibE (wD G hm hb))))
 rintro ⟨v4, v5, v6, v7⟩ hm s hw
 refine thN (Ok_weak hw ?_)
 refine jn hm (fun (v8, v9, v10, v11) => ⟨[(0, .ref 0 0), (2, .ref 32 0), (4, .ref 48 0)], [bX 0 [dV v8, dV v9, kV .u64 v10], bX 32 [.dat (.sc (.slice none 0 0)), .dat (.sc (.slice none 0 0))], bX 48 [dV ((([(str [112, 111, 114, 116]), (str [109, 105, 108, 108]), (str [112, 97, 114, 107]), (str [104, 97, 108, 108]), (str [100, 111, 99, 107]), (str [102, 97, 105, 114])] : List ByteArray).take (w64 (2 + r.1)).toNat).drop (0 : Int).toNat), .own 64], aX 64 236 v11], 96⟩) (fun vv hm => ?_) ?_
 ·obtain ⟨r6, h11, hm⟩ := obind hm
  refine rs G (hC 1 (s_l1Cur_one_c h11) h0) ?_
  refine cd hm (fun hm => ?_) (fun hm => ?_)
  ·obtain ⟨e, h12, hm⟩ := obind hm
   refine rs G (hD 2 h12 (hE 3 h12 h0)) ?_
   obtain ⟨r9, h16, hm⟩ := obind hm
   obtain ⟨r10, h17, hm⟩ := obind hm
   obtain ⟨u6, h18, hm⟩ := obind hm
   refine de G [(9, []), (10, [64, 368]), (12, [48, 384])] (hC 4 (s_l2Back_f_c h16) (hC 7 (s_l2Back_f_c h17) (hA 10 64 h18 h0))) ?_
   exact wJ G hm
  ·exact X_skip (wJ G hm)
 rintro ⟨v8, v9, v10, v11⟩ hm
 obtain ⟨r11, h19, hm⟩ := obind hm
 refine rs G (hO 1 (.fz [64] [] []) (hC 1 (s_l2Own_t_c h19) h0)) ?_
 cases hm
 exact rt [112, 113] []
noncomputable def s_l1Cur_among_w_M : MS (l1Cur × (List Int)) (Int × l1Cur) := ⟨.x .b (.s 3), fun x => s_l1Cur_among_w x.1 x.2, fun y => dV y.1, fun _ => [], fun x y => [bxO y.2, arO 3 x.2]⟩
theorem s_l1Cur_among_w_c {c list y} (hm : s_l1Cur_among_w c list = some y) : s_l1Cur_among_w_M.C (c, list) y := s_l1Cur_among_w_M.c (c, list) hm
theorem s_l1Cur_among_w_ok : FnOK Try.prog 157 s_l1Cur_among_w_M.S := by
 refine fm tt s_l1Cur_among_w_M [fo s_l1Cur_pick_ok] Try.call157 Try.func157 rfl Try.results157 Try.ntmps157 ?_
 rintro ⟨c, list⟩ y cx G hm
 have hm : s_l1Cur_among_w c list = some y := hm
 unfold s_l1Cur_among_w at hm
 refine rg G ?_
 obtain ⟨r, h, hm⟩ := obind hm
 obtain ⟨e, h1, hm⟩ := obind hm
 refine rs G (hN 3 list (hC 4 (s_l1Cur_pick_c h) (hD 5 h1 (hE 6 h1 h0)))) ?_
 cases hm
 exact rt [] []
noncomputable def s_l1Cur_anyNetwork_M : MS l1Cur (Network × l1Cur) := ⟨.b, s_l1Cur_anyNetwork, fun y => .aggv [.own 0, dV y.1.Lines], fun y => [arO 9 y.1.Stops], fun _ y => [bxO y.2]⟩
theorem s_l1Cur_anyNetwork_c {c y} (hm : s_l1Cur_anyNetwork c = some y) : s_l1Cur_anyNetwork_M.C c y := s_l1Cur_anyNetwork_M.c c hm
theorem s_l1Cur_anyNetwork_ok : FnOK Try.prog 230 s_l1Cur_anyNetwork_M.S := by
 refine fm tt s_l1Cur_anyNetwork_M [fo s_l1Cur_network_t_ok, fo s_l1Cur_pick_ok, fo s_l1Cur_of_w_ok, fo s_l1Cur_among_w_ok, fo s_l1Num_ok, fo s_l1Cur_line_ok] Try.call230 Try.func230 rfl Try.results230 Try.ntmps230 ?_
 rintro c y cx G hm
 have hm : s_l1Cur_anyNetwork c = some y := hm
 unfold s_l1Cur_anyNetwork at hm
 refine rg G ?_
 obtain ⟨r, h, hm⟩ := obind hm
 refine rs G (hC 1 (s_l1Cur_network_t_c h) h0) ?_
 obtain ⟨r1, h1, hm⟩ := obind hm
 refine rs G (hN 3 r.1.Lines (hC 4 (s_l1Cur_pick_c h1) h0)) ?_
 obtain ⟨e, h2, hm⟩ := obind hm
 refine rs G (hD 3 h2 (hE 4 h2 h0)) ?_
 refine jF hm (fun (v, v1, v2, v3, v4, v5, v6) => ⟨[(0, .ref 0 0), (2, .ref 32 0), (3, .ref 48 0), (4, dV r1.1), (5, .ref 64 0)], [bX 0 [dV v, dV v1, kV .u64 v2], bX 32 [.dat (.sc (.slice none 0 0)), .dat (.sc (.slice none 0 0))], bX 48 [.own 80, .own 96], bX 64 [dV v3, .row 96 96 r1.1.toNat 1, .own 112], aX 80 9 v4, tX 96 236 [none, some 3, some 3] v5 96 (some (r1.1.toNat, 2)), aX 112 3 v6], 144⟩) (fun v17 hr hm => ?_) ?_
 ·obtain ⟨r2, h3, hm⟩ := obind hm
  refine rs G (hC 1 (s_l1Cur_pick_c h3) h0) ?_
  refine Ok_block (rg G (cd hm (fun hm => ?_) (fun hm => ?_)))
  ·obtain ⟨r4, h6, hm⟩ := obind hm
   obtain ⟨e2, h7, hm⟩ := obind hm
   refine de G [(4, [0, 416]), (6, [48])] (hC 4 (s_l1Cur_of_w_c h6) (hD 5 h7 (hS 6 h7 r4.1 h0))) ?_
   exact ibN (wFp hm (Wk.trans (Wk_S (.c 272 2) (Enc.e e) (.cons (idx_m2 (f := Enc.e) (l := r.1.Lines) (i := r1.1) h2) .nil) (by kernel_rfl)) (Wk_J G.hL ⟨[(0, []), (2, []), (3, []), (4, []), (5, [])], [(0, 0, []), (32, 16, []), (48, 64, []), (64, 272, []), (80, 48, []), (96, 49, []), (112, 480, [])], [], 144⟩ (by kernel_rfl))))
  ·refine rg G (cd hm (fun hm => ?_) (fun hm => ?_))
   ·obtain ⟨r5, h8, hm⟩ := obind hm
    refine re G (hC 2 (s_l1Cur_of_w_c h8) h0) ?_
    exact ibN (wFp hm (Wk.trans (Wk_S (.c 272 2) (Enc.e e) (.cons (idx_m2 (f := Enc.e) (l := r.1.Lines) (i := r1.1) h2) .nil) (by kernel_rfl)) (Wk_J G.hL ⟨[(0, []), (2, []), (3, []), (4, []), (5, [])], [(0, 0, []), (32, 16, []), (48, 64, []), (64, 272, []), (80, 48, []), (96, 49, []), (112, 480, [])], [], 144⟩ (by kernel_rfl))))
   ·refine rg G (cd hm (fun hm => ?_) (fun hm => ?_))
    ·obtain ⟨r8, h12, hm⟩ := obind hm
     obtain ⟨r9, h13, hm⟩ := obind hm
     obtain ⟨e4, h14, hm⟩ := obind hm
     refine de G [(6, [0]), (8, [0]), (11, [49])] (hO 5 (.dn (Enc.e e) (e.Stops.length : Int)) (hP (idx_m2 (f := Enc.e) h2) (hP (len_m Enc.e e.Stops) (hC 6 (s_l1Cur_pick_c h12) (hC 8 (s_l1Cur_pick_c h13) (hE 10 h2 (hP (idx_b (f := Enc.e) h14) (hO 11 (.sd2 (Enc.e e) (Enc.e e4) (List.map Enc.e (e.Stops.set r8.1.toNat (w64 (r9.1 - 1)))) (List.map Enc.e (r.1.Lines.set r1.1.toNat (⟨e.Name, (e.Stops.set r8.1.toNat (w64 (r9.1 - 1))), e.Runs⟩ : Line)))) (hP (idx_m2 (f := Enc.e) h2) (hP (idx_m2 (f := Enc.e) h14) (hP (set_m Enc.e e.Stops r8.1.toNat (w64 (r9.1 - 1))) (hP (set_m Enc.e r.1.Lines r1.1.toNat (⟨e.Name, (e.Stops.set r8.1.toNat (w64 (r9.1 - 1))), e.Runs⟩ : Line)) h0)))))))))))) ?_
     exact ibN (wFp hm (Wk.trans (Wk_S (.c 272 2) (Enc.e (⟨e.Name, (e.Stops.set r8.1.toNat (w64 (r9.1 - 1))), e.Runs⟩ : Line)) (.cons (idx_m2 (f := Enc.e) (l := (r.1.Lines.set r1.1.toNat (⟨e.Name, (e.Stops.set r8.1.toNat (w64 (r9.1 - 1))), e.Runs⟩ : Line))) (i := r1.1) (idx_set (y := (⟨e.Name, (e.Stops.set r8.1.toNat (w64 (r9.1 - 1))), e.Runs⟩ : Line)) h2)) .nil) (by kernel_rfl)) (Wk_J G.hL ⟨[(0, []), (2, []), (3, []), (4, []), (5, [])], [(0, 0, []), (32, 16, []), (48, 64, []), (64, 272, []), (80, 48, []), (96, 49, []), (112, 624, [])], [], 144⟩ (by kernel_rfl))))
    ·refine rg G (cd hm (fun hm => ?_) (fun hm => ?_))
     ·obtain ⟨r12, h18, hm⟩ := obind hm
      obtain ⟨r13, h19, hm⟩ := obind hm
      obtain ⟨e6, h20, hm⟩ := obind hm
      refine de G [(6, [0]), (9, [0, 592]), (11, [49])] (hO 5 (.dn (Enc.e e) (e.Runs.length : Int)) (hP (idx_m2 (f := Enc.e) h2) (hP (len_m Enc.e e.Runs) (hC 6 (s_l1Cur_pick_c h18) (hC 9 (s_l1Cur_among_w_c h19) (hE 10 h2 (hP (idx_b (f := Enc.e) h20) (hO 11 (.sd2 (Enc.e e) (Enc.e e6) (List.map Enc.e (e.Runs.set r12.1.toNat r13.1)) (List.map Enc.e (r.1.Lines.set r1.1.toNat (⟨e.Name, e.Stops, (e.Runs.set r12.1.toNat r13.1)⟩ : Line)))) (hP (idx_m2 (f := Enc.e) h2) (hP (idx_m2 (f := Enc.e) h20) (hP (set_m Enc.e e.Runs r12.1.toNat r13.1) (hP (set_m Enc.e r.1.Lines r1.1.toNat (⟨e.Name, e.Stops, (e.Runs.set r12.1.toNat r13.1)⟩ : Line)) h0)))))))))))) ?_
      exact ibN (wFp hm (Wk.trans (Wk_S (.c 272 2) (Enc.e (⟨e.Name, e.Stops, (e.Runs.set r12.1.toNat r13.1)⟩ : Line)) (.cons (idx_m2 (f := Enc.e) (l := (r.1.Lines.set r1.1.toNat (⟨e.Name, e.Stops, (e.Runs.set r12.1.toNat r13.1)⟩ : Line))) (i := r1.1) (idx_set (y := (⟨e.Name, e.Stops, (e.Runs.set r12.1.toNat r13.1)⟩ : Line)) h2)) .nil) (by kernel_rfl)) (Wk_J G.hL ⟨[(0, []), (2, []), (3, []), (4, []), (5, [])], [(0, 0, []), (32, 16, []), (48, 64, []), (64, 272, []), (80, 48, []), (96, 49, []), (112, 656, [])], [], 144⟩ (by kernel_rfl))))
     ·refine rg G (cd hm (fun hm => ?_) (fun hm => ?_))
      ·obtain ⟨u, h21, hm⟩ := obind hm
       refine re G (hO 3 (.sd (Enc.e e) (List.map Enc.e (e.Runs ++ ([3] : List Int)))) (hP (idx_m2 (f := Enc.e) h2) (hP (app_p (f := Enc.e) (g := Enc.e) (l := e.Runs) (r := ([3] : List Int)) (b := 8) (chk_t h21) rfl) (hP (app_m Enc.e e.Runs ([3] : List Int)) h0)))) ?_
       exact ibN (wF G hm)
      ·refine rg G (cd hm (fun hm => ?_) (fun hm => ?_))
       ·refine rg G (rg G ?_)
        have hm := eR hm hr
        cases hm
        exact rt [48] []
       ·refine rg G (cd hm (fun hm => ?_) (fun hm => ?_))
        ·refine Ok_seq (rg G (tl hm (fun (v13, v14, v15, v16) => ⟨[(0, .ref 0 0), (2, .ref 32 0), (3, .ref 48 0)], [bX 0 [dV v13, dV v14, kV .u64 v15], bX 32 [.dat (.sc (.slice none 0 0)), .dat (.sc (.slice none 0 0))], bX 48 [.own 64, .own 80], aX 64 9 r.1.Stops, tX 80 236 [none, some 3, some 3] v16 80 none], 112⟩) (fun vv hm => ?_) ?_))
         ·refine Ok_block (lp G hm (fun (v7, v8, v9, v10, v11) => ⟨[(0, .ref 0 0), (2, .ref 32 0), (3, .ref 48 0), (6, dV v7)], [bX 0 [dV v8, dV v9, kV .u64 v10], bX 32 [.dat (.sc (.slice none 0 0)), .dat (.sc (.slice none 0 0))], bX 48 [.own 64, .own 80], aX 64 9 r.1.Stops, tX 80 236 [none, some 3, some 3] v11 80 none], 112⟩) ?_)
          rintro ⟨v7, v8, v9, v10, v11⟩ r0 hb hm
          rw [s_l1Cur_anyNetwork_L1] at hm
          refine Ok_seq ?_
          obtain ⟨r16, h23, hm⟩ := obind hm
          refine jn hm (fun v12 => ⟨[(0, .ref 0 0), (2, .ref 32 0), (3, .ref 48 0), (6, dV v7), (85, dV v12)], [bX 0 [dV r16.2.code_, dV r16.2.at_, kV .u64 r16.2.seed_.v], bX 32 [.dat (.sc (.slice none 0 0)), .dat (.sc (.slice none 0 0))], bX 48 [.own 64, .own 80], aX 64 9 r.1.Stops, tX 80 236 [none, some 3, some 3] v11 80 none], 112⟩) (fun v12 hm => ?_) ?_
          ·rcases bf hm with ⟨hb1, hm⟩ | ⟨hb1, hm⟩
           ·refine de G [(4, [0])] (hN 2 v11 (hC 4 (s_l1Cur_pick_c h23) (hO 7 (.b true) (hP hb1 h0)))) ?_
            exact wJ G hm
           ·refine de G [(4, [0])] (hN 2 v11 (hC 4 (s_l1Cur_pick_c h23) (hO 7 (.b false) (hP hb1 h0)))) ?_
            exact wJ G hm
          rintro v12 hm
          refine cd hm (fun hm => ?_) (fun hm => ?_)
          ·refine X_skip (thN (Ok_seq (Ok_block ?_)))
           obtain ⟨r19, h28, hm⟩ := obind hm
           obtain ⟨u3, h29, hm⟩ := obind hm
           obtain ⟨r20, h30, hm⟩ := obind hm
           obtain ⟨u4, h31, hm⟩ := obind hm
           refine de G [(9, [0]), (10, [256, 257]), (11, [80, 272]), (13, [48, 288])] (hC 4 (s_l1Num_c h28) (hP (cat_p (chk_t h29)) (hN 8 r.1.Stops (hC 9 (s_l1Cur_line_c h30) (hP (nodupB_ok (l := [256, 257]) rfl) (hA 11 64 h31 h0)))))) ?_
           exact ibN (thN (rh G (wL G hm)))
          ·exact Ok_exit (thE (thE (ibE (wD G hm hb))))
         rintro ⟨v13, v14, v15, v16⟩ hm s hw
         refine thN (Ok_weak hw ?_)
         refine rg G ?_
         have hm := eR hm hr
         cases hm
         exact rt [64] []
        ·exact X_skip (ibN (wFp hm (Wk.trans (Wk_S (.c 272 2) (Enc.e e) (.cons (idx_m2 (f := Enc.e) (l := r.1.Lines) (i := r1.1) h2) .nil) (by kernel_rfl)) (Wk_J G.hL ⟨[(0, []), (2, []), (3, []), (4, []), (5, [])], [(0, 0, []), (32, 16, []), (48, 64, []), (64, 272, []), (80, 48, []), (96, 49, []), (112, 560, [])], [], 144⟩ (by kernel_rfl)))))
 rintro ⟨v, v1, v2, v3, v4, v5, v6⟩ hm
 obtain ⟨e9, h32, hm⟩ := obind hm
 refine rs G (hD 4 h32 (hS 5 h32 (⟨v3, e9.Stops, v6⟩ : Line) (hP (Eq.refl r1.1.toNat) (hP (Eq.refl r1.1.toNat) h0)))) ?_
 refine rg G ?_
 cases hm
 exact rt [80] []
noncomputable def s_l1Cur_walks_M : MS (l1Cur × Network) ((List Walk) × l1Cur) := ⟨.x .b .r, fun x => s_l1Cur_walks x.1 x.2, fun _ => .own 0, fun y => [arO 39 y.1], fun _ y => [bxO y.2]⟩
theorem s_l1Cur_walks_c {c n y} (hm : s_l1Cur_walks c n = some y) : s_l1Cur_walks_M.C (c, n) y := s_l1Cur_walks_M.c (c, n) hm
theorem s_l1Cur_walks_ok : FnOK Try.prog 231 s_l1Cur_walks_M.S := by
 refine fm tt s_l1Cur_walks_M [fo s_l1Cur_one_ok, fo s_l1Cur_among_w_ok, fo s_l1Cur_pick_ok] Try.call231 Try.func231 rfl Try.results231 Try.ntmps231 ?_
 rintro ⟨c, n⟩ y cx G hm
 have hm : s_l1Cur_walks c n = some y := hm
 unfold s_l1Cur_walks at hm
 refine rg G (rg G (Ok_seq (rg G (tl hm (fun (v15, v16, v17, b4) => ⟨[(0, .ref 0 0), (3, .ref 32 0), (5, .own 48)], [bX 0 [dV v15, dV v16, kV .u64 v17], bX 32 [dV n.Stops, dV n.Lines], aX 48 39 b4], 80⟩) (fun vv3 hm => ?_) ?_))))
 ·refine Ok_block (lp G hm (fun (v, v1, v2, v3, b) => ⟨[(0, .ref 0 0), (3, .ref 32 0), (5, .own 48), (6, dV v)], [bX 0 [dV v1, dV v2, kV .u64 v3], bX 32 [dV n.Stops, dV n.Lines], aX 48 39 b], 80⟩) ?_)
  rintro ⟨v, v1, v2, v3, b⟩ r0 hb hm
  rw [s_l1Cur_walks_L2] at hm
  refine Ok_seq (rs G (hN 3 n.Stops h0) ?_)
  refine cd hm (fun hm => ?_) (fun hm => ?_)
  ·refine X_skip (thN (Ok_seq (Ok_block (rg G (tl hm (fun (v12, v13, v14, b3) => ⟨[(0, .ref 0 0), (3, .ref 32 0), (5, .own 48), (6, dV v)], [bX 0 [dV v12, dV v13, kV .u64 v14], bX 32 [dV n.Stops, dV n.Lines], aX 48 39 b3], 80⟩) (fun vv1 hm => ?_) ?_)))))
   ·refine Ok_block (lp G hm (fun (v4, v5, v6, v7, b1) => ⟨[(0, .ref 0 0), (3, .ref 32 0), (5, .own 48), (6, dV v), (7, dV v4)], [bX 0 [dV v5, dV v6, kV .u64 v7], bX 32 [dV n.Stops, dV n.Lines], aX 48 39 b1], 80⟩) ?_)
    rintro ⟨v4, v5, v6, v7, b1⟩ r0 hb1 hm
    rw [s_l1Cur_walks_L1] at hm
    refine Ok_seq (rs G (hN 3 n.Stops h0) ?_)
    refine cd hm (fun hm => ?_) (fun hm => ?_)
    ·refine X_skip (thN (jn hm (fun (v8, v9, v10, b2) => ⟨[(0, .ref 0 0), (3, .ref 32 0), (5, .own 48), (6, dV v), (7, dV v4)], [bX 0 [dV v8, dV v9, kV .u64 v10], bX 32 [dV n.Stops, dV n.Lines], aX 48 39 b2], 80⟩) (fun vv hm => ?_) ?_))
     ·refine Ok_block ?_
      obtain ⟨r, h, hm⟩ := obind hm
      refine jn hm (fun v11 => ⟨[(0, .ref 0 0), (3, .ref 32 0), (5, .own 48), (6, dV v), (7, dV v4), (31, dV v11)], [bX 0 [dV r.2.code_, dV r.2.at_, kV .u64 r.2.seed_.v], bX 32 [dV n.Stops, dV n.Lines], aX 48 39 b1], 80⟩) (fun v11 hm => ?_) ?_
      ·rcases bf hm with ⟨hb2, hm⟩ | ⟨hb2, hm⟩
       ·refine re G (hC 1 (s_l1Cur_one_c h) (hO 2 (.b true) (hP hb2 (hN 4 b1 h0)))) ?_
        exact wJ G hm
       ·refine re G (hC 1 (s_l1Cur_one_c h) (hO 2 (.b false) (hP hb2 h0))) ?_
        exact wJ G hm
      rintro v11 hm
      refine cd hm (fun hm => ?_) (fun hm => ?_)
      ·obtain ⟨r1, h1, hm⟩ := obind hm
       obtain ⟨u, h2, hm⟩ := obind hm
       refine re G (hC 5 (s_l1Cur_among_w_c h1) (hA 8 24 h2 h0)) ?_
       exact ibN (wJ G hm)
      ·exact X_skip (ibN (wJ G hm))
     rintro ⟨v8, v9, v10, b2⟩ hm
     exact rh G (wL G hm)
    ·exact Ok_exit (thE (thE (ibE (wD G hm hb1))))
   rintro ⟨v12, v13, v14, b3⟩ hm s hw
   refine ibN (thN (Ok_weak hw ?_))
   exact rh G (wL G hm)
  ·exact Ok_exit (thE (thE (ibE (wD G hm hb))))
 rintro ⟨v15, v16, v17, b4⟩ hm s1 hw1
 refine thN (Ok_weak hw1 ?_)
 refine jn hm (fun (v18, v19, v20, b5) => ⟨[(0, .ref 0 0), (5, .own 32)], [bX 0 [dV v18, dV v19, kV .u64 v20], aX 32 39 b5], 64⟩) (fun vv2 hm => ?_) ?_
 ·obtain ⟨r2, h3, hm⟩ := obind hm
  refine rs G (hC 1 (s_l1Cur_pick_c h3) h0) ?_
  refine Ok_block (rg G (cd hm (fun hm => ?_) (fun hm => ?_)))
  ·obtain ⟨r3, h4, hm⟩ := obind hm
   obtain ⟨u1, h5, hm⟩ := obind hm
   refine re G (hC 3 (s_l1Cur_among_w_c h4) (hA 6 24 h5 h0)) ?_
   exact ibN (wJ G hm)
  ·refine rg G (cd hm (fun hm => ?_) (fun hm => ?_))
   ·obtain ⟨r5, h8, hm⟩ := obind hm
    obtain ⟨u3, h9, hm⟩ := obind hm
    refine de G [(11, [0, 336]), (14, [48, 384])] (hN 3 n.Stops (hN 7 n.Stops (hC 11 (s_l1Cur_among_w_c h8) (hA 14 24 h9 h0)))) ?_
    exact ibN (wJ G hm)
   ·exact X_skip (ibN (wJ G hm))
 rintro ⟨v18, v19, v20, b5⟩ hm
 refine rg G ?_
 cases hm
 exact rt [32] []
noncomputable def s_DrawWalkingTimes_M : MS ((List UInt8)) (Network × (List Walk) × Int) := ⟨.r, s_DrawWalkingTimes, fun y => .tup [dV y.1, .own 0, dV y.2.2], fun y => [arO 39 y.2.1], fun _ _ => []⟩
theorem s_DrawWalkingTimes_c {code y} (hm : s_DrawWalkingTimes code = some y) : s_DrawWalkingTimes_M.C code y := s_DrawWalkingTimes_M.c code hm
theorem s_DrawWalkingTimes_ok : FnOK Try.prog 105 s_DrawWalkingTimes_M.S := by
 refine fm tt s_DrawWalkingTimes_M [fo s_l1Cur_anyNetwork_ok, fo s_l1Cur_walks_ok, fo s_l1Cur_pick_ok] Try.call105 Try.func105 rfl Try.results105 Try.ntmps105 ?_
 rintro code y cx G hm
 have hm : s_DrawWalkingTimes code = some y := hm
 unfold s_DrawWalkingTimes at hm
 refine rg G (rg G ?_)
 obtain ⟨r, h, hm⟩ := obind hm
 refine rs G (hC 1 (s_l1Cur_anyNetwork_c h) h0) ?_
 obtain ⟨r1, h1, hm⟩ := obind hm
 refine rs G (hO 2 (.fz [144] [] []) (hC 2 (s_l1Cur_walks_c h1) h0)) ?_
 obtain ⟨r4, h5, hm⟩ := obind hm
 obtain ⟨r5, h6, hm⟩ := obind hm
 obtain ⟨u1, h7, hm⟩ := obind hm
 refine ds G [(7, [96]), (9, [96]), (12, [16])] (hN 5 r.1.Stops (hC 7 (s_l1Cur_pick_c h5) (hC 9 (s_l1Cur_pick_c h6) (hK h7 h0)))) ?_
 cases hm
 exact rt [224] []
noncomputable def s_DrawShortestWalk_M : MS ((List UInt8)) (Network × (List Walk) × Int × Int) := ⟨.r, s_DrawShortestWalk, fun y => .tup [dV y.1, .own 0, dV y.2.2.1, dV y.2.2.2], fun y => [arO 39 y.2.1], fun _ _ => []⟩
theorem s_DrawShortestWalk_c {code y} (hm : s_DrawShortestWalk code = some y) : s_DrawShortestWalk_M.C code y := s_DrawShortestWalk_M.c code hm
theorem s_DrawShortestWalk_ok : FnOK Try.prog 13 s_DrawShortestWalk_M.S := by
 refine fm tt s_DrawShortestWalk_M [fo s_DrawWalkingTimes_ok, fo s_l1Cur_pick_ok] Try.call13 Try.func13 rfl Try.results13 Try.ntmps13 ?_
 rintro code y cx G hm
 have hm : s_DrawShortestWalk code = some y := hm
 unfold s_DrawShortestWalk at hm
 refine rg G (rg G ?_)
 obtain ⟨r, h, hm⟩ := obind hm
 refine rs G (hC 1 (s_DrawWalkingTimes_c h) h0) ?_
 obtain ⟨r3, h4, hm⟩ := obind hm
 obtain ⟨r4, h5, hm⟩ := obind hm
 obtain ⟨u1, h6, hm⟩ := obind hm
 refine ds G [(8, [112]), (10, [112]), (13, [16])] (hN 6 r.1.Stops (hC 8 (s_l1Cur_pick_c h4) (hC 10 (s_l1Cur_pick_c h5) (hK h6 h0)))) ?_
 cases hm
 exact rt [160] []
noncomputable def i_within_M : MS (Int × Int × Int) Bool := ⟨.x .r (.x .r .r), fun x => i_within x.1 x.2.1 x.2.2, fun y => dV y, fun _ => [], fun _ _ => []⟩
theorem i_within_c {n lo hi y} (hm : i_within n lo hi = some y) : i_within_M.C (n, lo, hi) y := i_within_M.c (n, lo, hi) hm
theorem i_within_ok : FnOK Try.prog 169 i_within_M.S := by
 refine fm tt i_within_M [] Try.call169 Try.func169 rfl Try.results169 Try.ntmps169 ?_
 rintro ⟨n, lo, hi⟩ y cx G hm
 have hm : i_within n lo hi = some y := hm
 unfold i_within at hm
 refine rg G (jn hm (fun v => ⟨[(6, dV v)], [], 32⟩) (fun v hm => ?_) ?_)
 ·rcases bf hm with ⟨hb, hm⟩ | ⟨hb, hm⟩
  ·refine re G (hO 3 (.b true) (hP hb h0)) ?_
   exact wJ G hm
  ·refine re G (hO 3 (.b false) (hP hb h0)) ?_
   exact wJ G hm
 rintro v hm
 cases hm
 exact rt [] []
noncomputable def i_isName_M : MS ByteArray Bool := ⟨.r, i_isName, fun y => dV y, fun _ => [], fun _ _ => []⟩
theorem i_isName_c {s y} (hm : i_isName s = some y) : i_isName_M.C s y := i_isName_M.c s hm
theorem i_isName_ok : FnOK Try.prog 197 i_isName_M.S := by
 refine fm tt i_isName_M [] Try.call197 Try.func197 rfl Try.results197 Try.ntmps197 ?_
 rintro s y cx G hm
 have hm : i_isName s = some y := hm
 unfold i_isName at hm
 refine rg G (Ok_seq (jn hm (fun v => ⟨[(0, dV s), (12, dV v)], [], 32⟩) (fun v hm => ?_) ?_))
 ·rcases bf hm with ⟨hb, hm⟩ | ⟨hb, hm⟩
  ·refine re G (hO 3 (.b true) (hP hb h0)) ?_
   exact wJ G hm
  ·refine re G (hO 3 (.b false) (hP hb h0)) ?_
   exact wJ G hm
 rintro v hm
 refine cd hm (fun hm => ?_) (fun hm => ?_)
 ·refine rg G ?_
  cases hm
  exact rt [] []
 ·refine X_skip (thN (Ok_seq (rg G (tF hm (fun _ => ⟨[], [], 32⟩) (fun v4 hr hm => ?_) ?_))))
  ·refine Ok_block (lp G hm (fun v1 => ⟨[(0, dV s), (14, dV (s.size : Int)), (15, dV v1)], [], 32⟩) ?_)
   rintro v1 r0 hb1 hm
   rw [i_isName_L1] at hm
   refine rg G (Ok_seq (cd hm (fun hm => ?_) (fun hm => ?_)))
   ·refine X_skip (thN (Ok_seq (Ok_block (rg G ?_))))
    obtain ⟨u, h, hm⟩ := obind hm
    refine jn hm (fun v2 => ⟨[(0, dV s), (3, dV v1), (4, dV v2), (14, dV (s.size : Int)), (15, dV v1)], [], 32⟩) (fun v2 hm => ?_) ?_
    ·rcases bf hm with ⟨hb2, hm⟩ | ⟨hb2, hm⟩
     ·obtain ⟨u1, h1, hm⟩ := obind hm
      refine re G (hK h (hO 4 (.b true) (hP hb2 (hK h1 h0)))) ?_
      exact wJ G hm
     ·refine re G (hK h (hO 4 (.b false) (hP hb2 h0))) ?_
      exact wJ G hm
    rintro v2 hm
    refine jn hm (fun v3 => ⟨[(0, dV s), (14, dV (s.size : Int)), (15, dV v1), (45, dV v3)], [], 32⟩) (fun v3 hm => ?_) ?_
    ·rcases bf hm with ⟨hb3, hm⟩ | ⟨hb3, hm⟩
     ·rcases bf hm with ⟨hb4, hm⟩ | ⟨hb4, hm⟩
      ·refine re G (hO 2 (.b true) (hP hb3 (hO 5 (.b true) (hP hb4 h0)))) ?_
       exact wJ G hm
      ·obtain ⟨u2, h2, hm⟩ := obind hm
       rcases bf hm with ⟨hb5, hm⟩ | ⟨hb5, hm⟩
       ·refine re G (hO 2 (.b true) (hP hb3 (hO 5 (.b false) (hP hb4 (hK h2 (hO 11 (.b true) (hP hb5 h0))))))) ?_
        exact wJ G hm
       ·obtain ⟨u3, h3, hm⟩ := obind hm
        refine re G (hO 2 (.b true) (hP hb3 (hO 5 (.b false) (hP hb4 (hK h2 (hO 11 (.b false) (hP hb5 (hK h3 h0)))))))) ?_
        exact wJ G hm
     ·refine re G (hO 2 (.b false) (hP hb3 h0)) ?_
      exact wJ G hm
    rintro v3 hm
    refine cd hm (fun hm => ?_) (fun hm => ?_)
    ·refine rg G ?_
     have hm := eL hm hb1 hr
     cases hm
     exact rt [] []
    ·exact X_skip (ibN (thN (rh G (wL G hm))))
   ·exact Ok_exit (thE (thE (ibE (wE G hm hb1))))
  rintro ⟨⟩ hm s1 hw
  refine thN (Ok_weak hw ?_)
  refine rg G ?_
  cases hm
  exact rt [] []
noncomputable def slices_Index_string_M : MS ((List ByteArray) × ByteArray) Int := ⟨.x .r .r, fun x => slices_Index_string x.1 x.2, fun y => dV y, fun _ => [], fun _ _ => []⟩
theorem slices_Index_string_c {s v y} (hm : slices_Index_string s v = some y) : slices_Index_string_M.C (s, v) y := slices_Index_string_M.c (s, v) hm
theorem slices_Index_string_ok : FnOK Try.prog 304 slices_Index_string_M.S := by
 refine fm tt slices_Index_string_M [] Try.call304 Try.func304 rfl Try.results304 Try.ntmps304 ?_
 rintro ⟨s, v⟩ y cx G hm
 have hm : slices_Index_string s v = some y := hm
 unfold slices_Index_string at hm
 refine rg G (Ok_seq (rs G (hN 1 s h0) ?_))
 refine tF hm (fun _ => ⟨[], [], 32⟩) (fun v2 hr hm => ?_) ?_
 ·refine Ok_block (lp G hm (fun v1 => ⟨[(0, dV s), (1, dV v), (7, dV (s.length : Int)), (8, dV v1)], [], 32⟩) ?_)
  rintro v1 r0 hb hm
  rw [slices_Index_string_L1] at hm
  refine rg G (Ok_seq (cd hm (fun hm => ?_) (fun hm => ?_)))
  ·refine X_skip (thN (Ok_seq (Ok_block (rg G ?_))))
   obtain ⟨e, h, hm⟩ := obind hm
   refine rs G (hD 3 h h0) ?_
   refine cd hm (fun hm => ?_) (fun hm => ?_)
   ·refine rg G ?_
    have hm := eL hm hb hr
    cases hm
    exact rt [] []
   ·exact X_skip (ibN (thN (rh G (wL G hm))))
  ·exact Ok_exit (thE (thE (ibE (wE G hm hb))))
 rintro ⟨⟩ hm s1 hw
 refine thN (Ok_weak hw ?_)
 refine rg G ?_
 cases hm
 exact rt [] []
noncomputable def i_areNames_M : MS ((List ByteArray)) Bool := ⟨.r, i_areNames, fun y => dV y, fun _ => [], fun _ _ => []⟩
theorem i_areNames_c {names y} (hm : i_areNames names = some y) : i_areNames_M.C names y := i_areNames_M.c names hm
theorem i_areNames_ok : FnOK Try.prog 237 i_areNames_M.S := by
 refine fm tt i_areNames_M [fo i_isName_ok, fo slices_Index_string_ok] Try.call237 Try.func237 rfl Try.results237 Try.ntmps237 ?_
 rintro names y cx G hm
 have hm : i_areNames names = some y := hm
 unfold i_areNames at hm
 refine rg G (Ok_seq (rs G (hN 1 names h0) ?_))
 refine tF hm (fun _ => ⟨[], [], 32⟩) (fun v2 hr hm => ?_) ?_
 ·refine Ok_block (lp G hm (fun v => ⟨[(0, dV names), (5, dV names), (6, dV (names.length : Int)), (7, dV v)], [], 32⟩) ?_)
  rintro v r0 hb hm
  rw [i_areNames_L1] at hm
  refine rg G (Ok_seq (cd hm (fun hm => ?_) (fun hm => ?_)))
  ·refine X_skip (thN (Ok_seq (Ok_block ?_)))
   obtain ⟨e, h, hm⟩ := obind hm
   refine rs G (hD 1 h h0) ?_
   obtain ⟨r, h1, hm⟩ := obind hm
   refine jn hm (fun v1 => ⟨[(0, dV names), (5, dV names), (6, dV (names.length : Int)), (7, dV v), (21, dV v1)], [], 32⟩) (fun v1 hm => ?_) ?_
   ·rcases bf hm with ⟨hb1, hm⟩ | ⟨hb1, hm⟩
    ·refine re G (hC 1 (i_isName_c h1) (hO 3 (.b true) (hP hb1 h0))) ?_
     exact wJ G hm
    ·obtain ⟨r1, h2, hm⟩ := obind hm
     refine re G (hC 1 (i_isName_c h1) (hO 3 (.b false) (hP hb1 (hC 6 (slices_Index_string_c h2) h0)))) ?_
     exact wJ G hm
   rintro v1 hm
   refine cd hm (fun hm => ?_) (fun hm => ?_)
   ·refine rg G ?_
    have hm := eL hm hb hr
    cases hm
    exact rt [] []
   ·exact X_skip (ibN (thN (rh G (wL G hm))))
  ·exact Ok_exit (thE (thE (ibE (wE G hm hb))))
 rintro ⟨⟩ hm s hw
 refine thN (Ok_weak hw ?_)
 refine rg G ?_
 cases hm
 exact rt [] []
noncomputable def i_lineNames_M : MS Network ((List ByteArray)) := ⟨.r, i_lineNames, fun _ => .own 0, fun y => [arO 9 y], fun _ _ => []⟩
theorem i_lineNames_c {n y} (hm : i_lineNames n = some y) : i_lineNames_M.C n y := i_lineNames_M.c n hm
theorem i_lineNames_ok : FnOK Try.prog 238 i_lineNames_M.S := by
 refine fm tt i_lineNames_M [] Try.call238 Try.func238 rfl Try.results238 Try.ntmps238 ?_
 rintro n y cx G hm
 have hm : i_lineNames n = some y := hm
 unfold i_lineNames at hm
 refine rg G ?_
 obtain ⟨u, h, hm⟩ := obind hm
 refine rs G (hN 2 n.Lines (hO 3 (.l (List.map Enc.e (List.replicate (n.Lines.length : Int).toNat (ByteArray.empty : ByteArray)))) (hP (mk_p (b := 16) (chk_t h) rfl) (hP (rep_m Enc.e (n.Lines.length : Int).toNat (ByteArray.empty : ByteArray)) h0)))) ?_
 refine Ok_seq (rs G (hN 2 n.Lines h0) ?_)
 refine tl hm (fun i1 => ⟨[(3, .own 16)], [aX 16 9 i1], 48⟩) (fun i1 hm => ?_) ?_
 ·refine Ok_block (lp G hm (fun (v, i) => ⟨[(3, .own 16), (11, dV n.Lines), (12, dV (n.Lines.length : Int)), (13, dV v)], [aX 16 9 i], 48⟩) ?_)
  rintro ⟨v, i⟩ r0 hb hm
  rw [i_lineNames_L1] at hm
  refine rg G (Ok_seq (cd hm (fun hm => ?_) (fun hm => ?_)))
  ·refine X_skip (thN (Ok_seq (Ok_block ?_)))
   obtain ⟨e, h1, hm⟩ := obind hm
   refine rs G (hD 1 h1 h0) ?_
   obtain ⟨e1, h2, hm⟩ := obind hm
   refine re G (hD 4 h2 (hS 5 h2 e.Name h0)) ?_
   exact ibN (thN (rh G (wL G hm)))
  ·exact Ok_exit (thE (thE (ibE (wD G hm hb))))
 rintro i1 hm s hw
 refine thN (Ok_weak hw ?_)
 refine rg G ?_
 cases hm
 exact rt [16] []
noncomputable def i_isStop_M : MS (Network × Int) Bool := ⟨.x .r .r, fun x => i_isStop x.1 x.2, fun y => dV y, fun _ => [], fun _ _ => []⟩
theorem i_isStop_c {n stop y} (hm : i_isStop n stop = some y) : i_isStop_M.C (n, stop) y := i_isStop_M.c (n, stop) hm
theorem i_isStop_ok : FnOK Try.prog 107 i_isStop_M.S := by
 refine fm tt i_isStop_M [] Try.call107 Try.func107 rfl Try.results107 Try.ntmps107 ?_
 rintro ⟨n, stop⟩ y cx G hm
 have hm : i_isStop n stop = some y := hm
 unfold i_isStop at hm
 refine rg G (jn hm (fun v => ⟨[(4, dV v)], [], 32⟩) (fun v hm => ?_) ?_)
 ·rcases bf hm with ⟨hb, hm⟩ | ⟨hb, hm⟩
  ·refine re G (hO 2 (.b true) (hP hb (hN 6 n.Stops h0))) ?_
   exact wJ G hm
  ·refine re G (hO 2 (.b false) (hP hb h0)) ?_
   exact wJ G hm
 rintro v hm
 cases hm
 exact rt [] []
noncomputable def slices_Index_int_M : MS ((List Int) × Int) Int := ⟨.x .r .r, fun x => slices_Index_int x.1 x.2, fun y => dV y, fun _ => [], fun _ _ => []⟩
theorem slices_Index_int_c {s v y} (hm : slices_Index_int s v = some y) : slices_Index_int_M.C (s, v) y := slices_Index_int_M.c (s, v) hm
theorem slices_Index_int_ok : FnOK Try.prog 243 slices_Index_int_M.S := by
 refine fm tt slices_Index_int_M [] Try.call243 Try.func243 rfl Try.results243 Try.ntmps243 ?_
 rintro ⟨s, v⟩ y cx G hm
 have hm : slices_Index_int s v = some y := hm
 unfold slices_Index_int at hm
 refine rg G (Ok_seq (rs G (hN 1 s h0) ?_))
 refine tF hm (fun _ => ⟨[], [], 32⟩) (fun v2 hr hm => ?_) ?_
 ·refine Ok_block (lp G hm (fun v1 => ⟨[(0, dV s), (1, dV v), (7, dV (s.length : Int)), (8, dV v1)], [], 32⟩) ?_)
  rintro v1 r0 hb hm
  rw [slices_Index_int_L1] at hm
  refine rg G (Ok_seq (cd hm (fun hm => ?_) (fun hm => ?_)))
  ·refine X_skip (thN (Ok_seq (Ok_block (rg G ?_))))
   obtain ⟨e, h, hm⟩ := obind hm
   refine rs G (hD 3 h h0) ?_
   refine cd hm (fun hm => ?_) (fun hm => ?_)
   ·refine rg G ?_
    have hm := eL hm hb hr
    cases hm
    exact rt [] []
   ·exact X_skip (ibN (thN (rh G (wL G hm))))
  ·exact Ok_exit (thE (thE (ibE (wE G hm hb))))
 rintro ⟨⟩ hm s1 hw
 refine thN (Ok_weak hw ?_)
 refine rg G ?_
 cases hm
 exact rt [] []
noncomputable def i_isValidLine_M : MS (Network × Line) Bool := ⟨.x .r .r, fun x => i_isValidLine x.1 x.2, fun y => dV y, fun _ => [], fun _ _ => []⟩
theorem i_isValidLine_c {n l y} (hm : i_isValidLine n l = some y) : i_isValidLine_M.C (n, l) y := i_isValidLine_M.c (n, l) hm
theorem i_isValidLine_ok : FnOK Try.prog 239 i_isValidLine_M.S := by
 refine fm tt i_isValidLine_M [fo i_within_ok, fo i_isStop_ok, fo slices_Index_int_ok] Try.call239 Try.func239 rfl Try.results239 Try.ntmps239 ?_
 rintro ⟨n, l⟩ y cx G hm
 have hm : i_isValidLine n l = some y := hm
 unfold i_isValidLine at hm
 refine rg G (Ok_seq ?_)
 obtain ⟨r, h, hm⟩ := obind hm
 refine jn hm (fun v => ⟨[(2, .ref 16 0), (3, .ref 32 0), (23, dV v)], [bX 16 [dV n.Stops, dV n.Lines], bX 32 [dV l.Name, dV l.Stops, dV l.Runs]], 64⟩) (fun v hm => ?_) ?_
 ·rcases bf hm with ⟨hb, hm⟩ | ⟨hb, hm⟩
  ·refine re G (hN 2 l.Stops (hC 3 (i_within_c h) (hO 5 (.b true) (hP hb h0)))) ?_
   exact wJ G hm
  ·refine re G (hN 2 l.Stops (hC 3 (i_within_c h) (hO 5 (.b false) (hP hb (hN 8 l.Runs (hN 11 l.Stops h0)))))) ?_
   exact wJ G hm
 rintro v hm
 refine cd hm (fun hm => ?_) (fun hm => ?_)
 ·refine rg G ?_
  cases hm
  exact rt [] []
 ·refine X_skip (thN (Ok_seq (rs G (hN 2 l.Stops h0) ?_)))
  refine tF hm (fun _ => ⟨[(3, .ref 16 0)], [bX 16 [dV l.Name, dV l.Stops, dV l.Runs]], 48⟩) (fun v5 hr hm => ?_) ?_
  ·refine Ok_block (lp G hm (fun v1 => ⟨[(2, .ref 16 0), (3, .ref 32 0), (25, dV l.Stops), (26, dV (l.Stops.length : Int)), (27, dV v1)], [bX 16 [dV n.Stops, dV n.Lines], bX 32 [dV l.Name, dV l.Stops, dV l.Runs]], 64⟩) ?_)
   rintro v1 r0 hb1 hm
   rw [i_isValidLine_L1] at hm
   refine rg G (Ok_seq (cd hm (fun hm => ?_) (fun hm => ?_)))
   ·refine X_skip (thN (Ok_seq (Ok_block ?_)))
    obtain ⟨e, h1, hm⟩ := obind hm
    refine rs G (hD 1 h1 h0) ?_
    obtain ⟨r1, h2, hm⟩ := obind hm
    refine jn hm (fun v2 => ⟨[(2, .ref 16 0), (3, .ref 32 0), (25, dV l.Stops), (26, dV (l.Stops.length : Int)), (27, dV v1), (43, dV v2)], [bX 16 [dV n.Stops, dV n.Lines], bX 32 [dV l.Name, dV l.Stops, dV l.Runs]], 64⟩) (fun v2 hm => ?_) ?_
    ·rcases bf hm with ⟨hb2, hm⟩ | ⟨hb2, hm⟩
     ·refine re G (hC 2 (i_isStop_c h2) (hO 4 (.b true) (hP hb2 h0))) ?_
      exact wJ G hm
     ·obtain ⟨r2, h3, hm⟩ := obind hm
      refine re G (hC 2 (i_isStop_c h2) (hO 4 (.b false) (hP hb2 (hC 8 (slices_Index_int_c h3) h0)))) ?_
      exact wJ G hm
    rintro v2 hm
    refine cd hm (fun hm => ?_) (fun hm => ?_)
    ·refine rg G ?_
     have hm := eL hm hb1 hr
     cases hm
     exact rt [] []
    ·exact X_skip (ibN (thN (rh G (wL G hm))))
   ·exact Ok_exit (thE (thE (ibE (wE G hm hb1))))
  rintro ⟨⟩ hm s hw
  refine thN (Ok_weak hw ?_)
  refine Ok_seq (rs G (hN 2 l.Runs h0) ?_)
  refine tF hm (fun _ => ⟨[], [], 32⟩) (fun v4 hr1 hm => ?_) ?_
  ·refine Ok_block (lp G hm (fun v3 => ⟨[(46, dV l.Runs), (47, dV (l.Runs.length : Int)), (48, dV v3)], [], 32⟩) ?_)
   rintro v3 r0 hb3 hm
   rw [i_isValidLine_L2] at hm
   refine rg G (Ok_seq (cd hm (fun hm => ?_) (fun hm => ?_)))
   ·refine X_skip (thN (Ok_seq (Ok_block ?_)))
    obtain ⟨e2, h4, hm⟩ := obind hm
    refine rs G (hD 0 h4 h0) ?_
    obtain ⟨r4, h5, hm⟩ := obind hm
    refine rs G (hC 1 (i_within_c h5) h0) ?_
    refine cd hm (fun hm => ?_) (fun hm => ?_)
    ·refine rg G ?_
     have hm := eL hm hb3 hr1
     cases hm
     exact rt [] []
    ·exact X_skip (ibN (thN (rh G (wL G hm))))
   ·exact Ok_exit (thE (thE (ibE (wE G hm hb3))))
  rintro ⟨⟩ hm s1 hw1
  refine thN (Ok_weak hw1 ?_)
  refine rg G ?_
  cases hm
  exact rt [] []
noncomputable def i_IsValidNetwork_M : MS Network Bool := ⟨.r, i_IsValidNetwork, fun y => dV y, fun _ => [], fun _ _ => []⟩
theorem i_IsValidNetwork_c {n y} (hm : i_IsValidNetwork n = some y) : i_IsValidNetwork_M.C n y := i_IsValidNetwork_M.c n hm
theorem i_IsValidNetwork_ok : FnOK Try.prog 115 i_IsValidNetwork_M.S := by
 refine fm tt i_IsValidNetwork_M [fo i_within_ok, fo i_areNames_ok, fo i_lineNames_ok, fo i_isValidLine_ok] Try.call115 Try.func115 rfl Try.results115 Try.ntmps115 ?_
 rintro n y cx G hm
 have hm : i_IsValidNetwork n = some y := hm
 unfold i_IsValidNetwork at hm
 refine rg G (Ok_seq ?_)
 obtain ⟨r, h, hm⟩ := obind hm
 refine jn hm (fun v => ⟨[(1, .ref 16 0), (28, dV v)], [bX 16 [dV n.Stops, dV n.Lines]], 48⟩) (fun v hm => ?_) ?_
 ·rcases bf hm with ⟨hb, hm⟩ | ⟨hb, hm⟩
  ·refine re G (hN 2 n.Stops (hC 3 (i_within_c h) (hO 5 (.b true) (hP hb h0)))) ?_
   exact wJ G hm
  ·obtain ⟨r1, h1, hm⟩ := obind hm
   rcases bf hm with ⟨hb1, hm⟩ | ⟨hb1, hm⟩
   ·refine re G (hN 2 n.Stops (hC 3 (i_within_c h) (hO 5 (.b false) (hP hb (hN 8 n.Lines (hC 9 (i_within_c h1) (hO 12 (.b true) (hP hb1 h0)))))))) ?_
    exact wJ G hm
   ·obtain ⟨r2, h2, hm⟩ := obind hm
    rcases bf hm with ⟨hb2, hm⟩ | ⟨hb2, hm⟩
    ·refine re G (hN 2 n.Stops (hC 3 (i_within_c h) (hO 5 (.b false) (hP hb (hN 8 n.Lines (hC 9 (i_within_c h1) (hO 12 (.b false) (hP hb1 (hC 15 (i_areNames_c h2) (hO 18 (.b true) (hP hb2 h0))))))))))) ?_
     exact wJ G hm
    ·obtain ⟨r3, h3, hm⟩ := obind hm
     obtain ⟨r4, h4, hm⟩ := obind hm
     refine re G (hN 2 n.Stops (hC 3 (i_within_c h) (hO 5 (.b false) (hP hb (hN 8 n.Lines (hC 9 (i_within_c h1) (hO 12 (.b false) (hP hb1 (hC 15 (i_areNames_c h2) (hO 18 (.b false) (hP hb2 (hC 20 (i_lineNames_c h3) (hC 21 (i_areNames_c h4) h0))))))))))))) ?_
     exact wJ G hm
 rintro v hm
 refine cd hm (fun hm => ?_) (fun hm => ?_)
 ·refine rg G ?_
  cases hm
  exact rt [] []
 ·refine X_skip (thN (Ok_seq (rs G (hN 2 n.Lines h0) ?_)))
  refine tF hm (fun _ => ⟨[], [], 32⟩) (fun v2 hr hm => ?_) ?_
  ·refine Ok_block (lp G hm (fun v1 => ⟨[(1, .ref 16 0), (30, dV n.Lines), (31, dV (n.Lines.length : Int)), (32, dV v1)], [bX 16 [dV n.Stops, dV n.Lines]], 48⟩) ?_)
   rintro v1 r0 hb3 hm
   rw [i_IsValidNetwork_L1] at hm
   refine rg G (Ok_seq (cd hm (fun hm => ?_) (fun hm => ?_)))
   ·refine X_skip (thN (Ok_seq (Ok_block ?_)))
    obtain ⟨e, h5, hm⟩ := obind hm
    refine rs G (hD 0 h5 h0) ?_
    obtain ⟨r5, h6, hm⟩ := obind hm
    refine rs G (hC 2 (i_isValidLine_c h6) h0) ?_
    refine cd hm (fun hm => ?_) (fun hm => ?_)
    ·refine rg G ?_
     have hm := eL hm hb3 hr
     cases hm
     exact rt [] []
    ·exact X_skip (ibN (thN (rh G (wL G hm))))
   ·exact Ok_exit (thE (thE (ibE (wE G hm hb3))))
  rintro ⟨⟩ hm s hw
  refine thN (Ok_weak hw ?_)
  refine rg G ?_
  cases hm
  exact rt [] []
noncomputable def cmp_isNaN_int_M : MS Int Bool := ⟨.r, cmp_isNaN_int, fun y => dV y, fun _ => [], fun _ _ => []⟩
theorem cmp_isNaN_int_c {x y} (hm : cmp_isNaN_int x = some y) : cmp_isNaN_int_M.C x y := cmp_isNaN_int_M.c x hm
theorem cmp_isNaN_int_ok : FnOK Try.prog 270 cmp_isNaN_int_M.S := by
 refine fm tt cmp_isNaN_int_M [] Try.call270 Try.func270 rfl Try.results270 Try.ntmps270 ?_
 rintro x y cx G hm
 have hm : cmp_isNaN_int x = some y := hm
 unfold cmp_isNaN_int at hm
 refine rg G (rg G ?_)
 cases hm
 exact rt [] []
noncomputable def cmp_Compare_int_M : MS (Int × Int) Int := ⟨.x .r .r, fun x => cmp_Compare_int x.1 x.2, fun y => dV y, fun _ => [], fun _ _ => []⟩
theorem cmp_Compare_int_c {x y_ y} (hm : cmp_Compare_int x y_ = some y) : cmp_Compare_int_M.C (x, y_) y := cmp_Compare_int_M.c (x, y_) hm
theorem cmp_Compare_int_ok : FnOK Try.prog 187 cmp_Compare_int_M.S := by
 refine fm tt cmp_Compare_int_M [fo cmp_isNaN_int_ok] Try.call187 Try.func187 rfl Try.results187 Try.ntmps187 ?_
 rintro ⟨x, y_⟩ y cx G hm
 have hm : cmp_Compare_int x y_ = some y := hm
 unfold cmp_Compare_int at hm
 refine rg G ?_
 obtain ⟨r, h, hm⟩ := obind hm
 refine rs G (hC 1 (cmp_isNaN_int_c h) h0) ?_
 obtain ⟨r1, h1, hm⟩ := obind hm
 refine rs G (hC 1 (cmp_isNaN_int_c h1) h0) ?_
 refine Ok_seq (rg G (cd hm (fun hm => ?_) (fun hm => ?_)))
 ·refine Ok_seq (rg G (cd hm (fun hm => ?_) (fun hm => ?_)))
  ·refine rg G ?_
   cases hm
   exact rt [] []
  ·refine X_skip (thN (rg G ?_))
   cases hm
   exact rt [] []
 ·refine X_skip (thN (Ok_seq (rg G (cd hm (fun hm => ?_) (fun hm => ?_)))))
  ·refine rg G ?_
   cases hm
   exact rt [] []
  ·refine X_skip (thN (Ok_seq (rg G (cd hm (fun hm => ?_) (fun hm => ?_)))))
   ·refine rg G ?_
    cases hm
    exact rt [] []
   ·refine X_skip (thN (Ok_seq (rg G (cd hm (fun hm => ?_) (fun hm => ?_)))))
    ·refine rg G ?_
     cases hm
     exact rt [] []
    ·refine X_skip (thN (rg G ?_))
     cases hm
     exact rt [] []
noncomputable def cmp_Or_int_M : MS ((List Int)) Int := ⟨.r, cmp_Or_int, fun y => dV y, fun _ => [], fun _ _ => []⟩
theorem cmp_Or_int_c {vals y} (hm : cmp_Or_int vals = some y) : cmp_Or_int_M.C vals y := cmp_Or_int_M.c vals hm
theorem cmp_Or_int_ok : FnOK Try.prog 240 cmp_Or_int_M.S := by
 refine fm tt cmp_Or_int_M [] Try.call240 Try.func240 rfl Try.results240 Try.ntmps240 ?_
 rintro vals y cx G hm
 have hm : cmp_Or_int vals = some y := hm
 unfold cmp_Or_int at hm
 refine rg G (rg G (Ok_seq (rs G (hN 1 vals h0) ?_)))
 refine tF hm (fun _ => ⟨[(3, kV .i64 0)], [], 32⟩) (fun v1 hr hm => ?_) ?_
 ·refine Ok_block (lp G hm (fun v => ⟨[(3, kV .i64 0), (6, dV vals), (7, dV (vals.length : Int)), (8, dV v)], [], 32⟩) ?_)
  rintro v r0 hb hm
  rw [cmp_Or_int_L1] at hm
  refine rg G (Ok_seq (cd hm (fun hm => ?_) (fun hm => ?_)))
  ·refine X_skip (thN (Ok_seq (Ok_block ?_)))
   obtain ⟨e, h, hm⟩ := obind hm
   refine rs G (hD 0 h h0) ?_
   refine rg G (cd hm (fun hm => ?_) (fun hm => ?_))
   ·refine rg G ?_
    have hm := eL hm hb hr
    cases hm
    exact rt [] []
   ·exact X_skip (ibN (thN (rh G (wL G hm))))
  ·exact Ok_exit (thE (thE (ibE (wE G hm hb))))
 rintro ⟨⟩ hm s hw
 refine thN (Ok_weak hw ?_)
 refine rg G ?_
 cases hm
 exact rt [] []
noncomputable def i_areWalks_M : MS (Network × (List Walk)) Bool := ⟨.x .r .r, fun x => i_areWalks x.1 x.2, fun y => dV y, fun _ => [], fun _ _ => []⟩
theorem i_areWalks_c {n list y} (hm : i_areWalks n list = some y) : i_areWalks_M.C (n, list) y := i_areWalks_M.c (n, list) hm
theorem i_areWalks_ok : FnOK Try.prog 116 i_areWalks_M.S := by
 refine fm tt i_areWalks_M [fo i_isStop_ok, fo i_within_ok, fo cmp_Compare_int_ok, fo cmp_Or_int_ok] Try.call116 Try.func116 rfl Try.results116 Try.ntmps116 ?_
 rintro ⟨n, list⟩ y cx G hm
 have hm : i_areWalks n list = some y := hm
 unfold i_areWalks at hm
 refine rg G (Ok_seq (rs G (hN 1 list h0) ?_))
 refine cd hm (fun hm => ?_) (fun hm => ?_)
 ·refine rg G ?_
  cases hm
  exact rt [] []
 ·refine X_skip (thN (Ok_seq (rs G (hN 1 list h0) ?_)))
  refine tF hm (fun _ => ⟨[], [], 32⟩) (fun v3 hr hm => ?_) ?_
  ·refine Ok_block (lp G hm (fun v => ⟨[(1, dV list), (2, .ref 16 0), (10, dV list), (11, dV (list.length : Int)), (12, dV v)], [bX 16 [dV n.Stops, dV n.Lines]], 48⟩) ?_)
   rintro v r0 hb hm
   rw [i_areWalks_L1] at hm
   refine rg G (Ok_seq (cd hm (fun hm => ?_) (fun hm => ?_)))
   ·refine X_skip (thN (Ok_seq (Ok_block ?_)))
    obtain ⟨e, h, hm⟩ := obind hm
    refine rs G (hD 1 h h0) ?_
    refine Ok_seq ?_
    obtain ⟨r, h1, hm⟩ := obind hm
    refine jn hm (fun v1 => ⟨[(1, dV list), (2, .ref 16 0), (5, dV v), (6, .ref 32 0), (10, dV list), (11, dV (list.length : Int)), (12, dV v), (41, dV v1)], [bX 16 [dV n.Stops, dV n.Lines], bX 32 [dV e.A, dV e.B, dV e.Minutes]], 64⟩) (fun v1 hm => ?_) ?_
    ·rcases bf hm with ⟨hb1, hm⟩ | ⟨hb1, hm⟩
     ·refine re G (hC 3 (i_isStop_c h1) (hO 5 (.b true) (hP hb1 h0))) ?_
      exact wJ G hm
     ·obtain ⟨r1, h2, hm⟩ := obind hm
      rcases bf hm with ⟨hb2, hm⟩ | ⟨hb2, hm⟩
      ·refine re G (hC 3 (i_isStop_c h1) (hO 5 (.b false) (hP hb1 (hC 9 (i_isStop_c h2) (hO 12 (.b true) (hP hb2 h0)))))) ?_
       exact wJ G hm
      ·rcases bf hm with ⟨hb3, hm⟩ | ⟨hb3, hm⟩
       ·refine re G (hC 3 (i_isStop_c h1) (hO 5 (.b false) (hP hb1 (hC 9 (i_isStop_c h2) (hO 12 (.b false) (hP hb2 (hO 19 (.b true) (hP hb3 h0)))))))) ?_
        exact wJ G hm
       ·obtain ⟨r2, h3, hm⟩ := obind hm
        refine re G (hC 3 (i_isStop_c h1) (hO 5 (.b false) (hP hb1 (hC 9 (i_isStop_c h2) (hO 12 (.b false) (hP hb2 (hO 19 (.b false) (hP hb3 (hC 22 (i_within_c h3) h0))))))))) ?_
        exact wJ G hm
    rintro v1 hm
    refine cd hm (fun hm => ?_) (fun hm => ?_)
    ·refine rg G ?_
     have hm := eL hm hb hr
     cases hm
     exact rt [] []
    ·refine X_skip (thN (jn hm (fun v2 => ⟨[(1, dV list), (2, .ref 16 0), (10, dV list), (11, dV (list.length : Int)), (12, dV v), (66, dV v2)], [bX 16 [dV n.Stops, dV n.Lines]], 48⟩) (fun v2 hm => ?_) ?_))
     ·rcases bf hm with ⟨hb4, hm⟩ | ⟨hb4, hm⟩
      ·obtain ⟨e4, h9, hm⟩ := obind hm
       obtain ⟨r7, h10, hm⟩ := obind hm
       obtain ⟨e5, h11, hm⟩ := obind hm
       obtain ⟨r8, h12, hm⟩ := obind hm
       obtain ⟨r9, h13, hm⟩ := obind hm
       refine de G [] (hO 2 (.b true) (hP hb4 (hD 6 h9 (hC 11 (cmp_Compare_int_c h10) (hD 15 h11 (hC 20 (cmp_Compare_int_c h12) (hC 22 (cmp_Or_int_c h13) h0))))))) ?_
       exact wJ G hm
      ·refine de G [] (hO 2 (.b false) (hP hb4 h0)) ?_
       exact wJ G hm
     rintro v2 hm
     refine cd hm (fun hm => ?_) (fun hm => ?_)
     ·refine rg G ?_
      have hm := eL hm hb hr
      cases hm
      exact rt [] []
     ·exact X_skip (ibN (thN (rh G (wL G hm))))
   ·exact Ok_exit (thE (thE (ibE (wE G hm hb))))
  rintro ⟨⟩ hm s hw
  refine thN (Ok_weak hw ?_)
  refine rg G ?_
  cases hm
  exact rt [] []
noncomputable def i_IsValidWalks_M : MS (Network × (List Walk)) Bool := ⟨.x .r .r, fun x => i_IsValidWalks x.1 x.2, fun y => dV y, fun _ => [], fun _ _ => []⟩
theorem i_IsValidWalks_c {n list y} (hm : i_IsValidWalks n list = some y) : i_IsValidWalks_M.C (n, list) y := i_IsValidWalks_M.c (n, list) hm
theorem i_IsValidWalks_ok : FnOK Try.prog 19 i_IsValidWalks_M.S := by
 refine fm tt i_IsValidWalks_M [fo i_IsValidNetwork_ok, fo i_areWalks_ok] Try.call19 Try.func19 rfl Try.results19 Try.ntmps19 ?_
 rintro ⟨n, list⟩ y cx G hm
 have hm : i_IsValidWalks n list = some y := hm
 unfold i_IsValidWalks at hm
 refine rg G ?_
 obtain ⟨r, h, hm⟩ := obind hm
 refine jn hm (fun v => ⟨[(4, dV v)], [], 32⟩) (fun v hm => ?_) ?_
 ·rcases bf hm with ⟨hb, hm⟩ | ⟨hb, hm⟩
  ·obtain ⟨r1, h1, hm⟩ := obind hm
   refine re G (hC 1 (i_IsValidNetwork_c h) (hO 2 (.b true) (hP hb (hC 5 (i_areWalks_c h1) h0)))) ?_
   exact wJ G hm
  ·refine re G (hC 1 (i_IsValidNetwork_c h) (hO 2 (.b false) (hP hb h0))) ?_
   exact wJ G hm
 rintro v hm
 cases hm
 exact rt [] []
noncomputable def i_walkTable_M : MS (Network × (List Walk)) ((List (List Int))) := ⟨.x .r .r, fun x => i_walkTable x.1 x.2, fun _ => .own 0, fun y => [taO 31 [some 3] y], fun _ _ => []⟩
theorem i_walkTable_c {n list y} (hm : i_walkTable n list = some y) : i_walkTable_M.C (n, list) y := i_walkTable_M.c (n, list) hm
theorem i_walkTable_ok : FnOK Try.prog 108 i_walkTable_M.S := by
 refine fm tt i_walkTable_M [] Try.call108 Try.func108 rfl Try.results108 Try.ntmps108 ?_
 rintro ⟨n, list⟩ y cx G hm
 have hm : i_walkTable n list = some y := hm
 unfold i_walkTable at hm
 refine rg G (rs G (hN 2 n.Stops h0) ?_)
 obtain ⟨u, h, hm⟩ := obind hm
 refine rs G (hO 1 (.l (List.map Enc.e (List.replicate (n.Stops.length : Int).toNat (([] : List Int) : List Int)))) (hP (mk_p (b := 24) (chk_t h) rfl) (hP (rep_m Enc.e (n.Stops.length : Int).toNat (([] : List Int) : List Int)) h0))) ?_
 refine Ok_seq (rs G (hN 1 (List.replicate (n.Stops.length : Int).toNat (([] : List Int) : List Int)) h0) ?_)
 refine tl hm (fun j4 => ⟨[(1, dV list), (5, dV (n.Stops.length : Int)), (6, .own 16)], [tX 16 31 [some 3] j4 16 none], 48⟩) (fun j4 hm => ?_) ?_
 ·refine Ok_block (lp G hm (fun (v, j) => ⟨[(1, dV list), (5, dV (n.Stops.length : Int)), (6, .own 16), (21, dV ((List.replicate (n.Stops.length : Int).toNat (([] : List Int) : List Int)).length : Int)), (22, dV v)], [tX 16 31 [some 3] j 16 none], 48⟩) ?_)
  rintro ⟨v, j⟩ r0 hb hm
  rw [i_walkTable_L2] at hm
  refine rg G (Ok_seq (cd hm (fun hm => ?_) (fun hm => ?_)))
  ·refine X_skip (thN (Ok_seq (Ok_block (rg G ?_))))
   obtain ⟨u1, h1, hm⟩ := obind hm
   obtain ⟨e, h2, hm⟩ := obind hm
   refine rs G (hO 3 (.l (List.map Enc.e (List.replicate (n.Stops.length : Int).toNat (0 : Int)))) (hP (mk_p (b := 8) (chk_t h1) rfl) (hP (rep_m Enc.e (n.Stops.length : Int).toNat (0 : Int)) (hD 4 h2 (hS 5 h2 (List.replicate (n.Stops.length : Int).toNat (0 : Int)) h0))))) ?_
   obtain ⟨e1, h3, hm⟩ := obind hm
   refine rs G (hD 2 h3 (hE 3 (idx_set (y := (List.replicate (n.Stops.length : Int).toNat (0 : Int))) h2) (hO 4 (.dn (Enc.e (List.replicate (n.Stops.length : Int).toNat (0 : Int))) ((List.replicate (n.Stops.length : Int).toNat (0 : Int)).length : Int)) (hP (idx_m2 (f := Enc.e) (idx_set (y := (List.replicate (n.Stops.length : Int).toNat (0 : Int))) h2)) (hP (len_m Enc.e (List.replicate (n.Stops.length : Int).toNat (0 : Int))) h0))))) ?_
   refine tl hm (fun j3 => ⟨[(1, dV list), (5, dV (n.Stops.length : Int)), (6, .own 16), (21, dV ((List.replicate (n.Stops.length : Int).toNat (([] : List Int) : List Int)).length : Int)), (22, dV v)], [tX 16 31 [some 3] j3 16 none], 48⟩) (fun j3 hm => ?_) ?_
   ·refine Ok_block (lp G hm (fun (v1, j1) => ⟨[(1, dV list), (5, dV (n.Stops.length : Int)), (6, .own 16), (7, dV v), (21, dV ((List.replicate (n.Stops.length : Int).toNat (([] : List Int) : List Int)).length : Int)), (22, dV v), (34, dV ((List.replicate (n.Stops.length : Int).toNat (0 : Int)).length : Int)), (35, dV v1)], [tX 16 31 [some 3] j1 16 none], 48⟩) ?_)
    rintro ⟨v1, j1⟩ r0 hb1 hm
    rw [i_walkTable_L1] at hm
    refine rg G (Ok_seq (cd hm (fun hm => ?_) (fun hm => ?_)))
    ·refine X_skip (thN (jn hm (fun j2 => ⟨[(1, dV list), (5, dV (n.Stops.length : Int)), (6, .own 16), (7, dV v), (21, dV ((List.replicate (n.Stops.length : Int).toNat (([] : List Int) : List Int)).length : Int)), (22, dV v), (34, dV ((List.replicate (n.Stops.length : Int).toNat (0 : Int)).length : Int)), (35, dV v1)], [tX 16 31 [some 3] j2 16 none], 48⟩) (fun j2 hm => ?_) ?_))
     ·refine Ok_block (rg G (rg G (cd hm (fun hm => ?_) (fun hm => ?_))))
      ·obtain ⟨e2, h4, hm⟩ := obind hm
       obtain ⟨e3, h5, hm⟩ := obind hm
       refine re G (hD 2 h4 (hE 3 h4 (hE 5 h4 (hP (idx_b (f := Enc.e) h5) (hO 6 (.sd2 (Enc.e e2) (Enc.e e3) (List.map Enc.e (e2.set v1.toNat (-1))) (List.map Enc.e (j1.set v.toNat (e2.set v1.toNat (-1))))) (hP (idx_m2 (f := Enc.e) h4) (hP (idx_m2 (f := Enc.e) h5) (hP (set_m Enc.e e2 v1.toNat (-1)) (hP (set_m Enc.e j1 v.toNat (e2.set v1.toNat (-1))) h0))))))))) ?_
       exact ibN (wJ G hm)
      ·exact X_skip (ibN (wJ G hm))
     rintro j2 hm
     exact rh G (wL G hm)
    ·exact Ok_exit (thE (thE (ibE (wD G hm hb1))))
   rintro j3 hm s hw
   refine ibN (thN (Ok_weak hw ?_))
   exact rh G (wL G hm)
  ·exact Ok_exit (thE (thE (ibE (wD G hm hb))))
 rintro j4 hm s1 hw1
 refine thN (Ok_weak hw1 ?_)
 refine Ok_seq (rs G (hN 1 list h0) ?_)
 refine tl hm (fun j6 => ⟨[(5, dV (n.Stops.length : Int)), (6, .own 16)], [tX 16 31 [some 3] j6 16 none], 48⟩) (fun j6 hm => ?_) ?_
 ·refine Ok_block (lp G hm (fun (v2, j5) => ⟨[(5, dV (n.Stops.length : Int)), (6, .own 16), (49, dV list), (50, dV (list.length : Int)), (51, dV v2)], [tX 16 31 [some 3] j5 16 none], 48⟩) ?_)
  rintro ⟨v2, j5⟩ r0 hb2 hm
  rw [i_walkTable_L3] at hm
  refine rg G (Ok_seq (cd hm (fun hm => ?_) (fun hm => ?_)))
  ·refine X_skip (thN (Ok_seq (Ok_block ?_)))
   obtain ⟨e4, h6, hm⟩ := obind hm
   refine rs G (hD 0 h6 h0) ?_
   obtain ⟨e10, h12, hm⟩ := obind hm
   obtain ⟨e11, h13, hm⟩ := obind hm
   obtain ⟨e12, h14, hm⟩ := obind hm
   obtain ⟨e13, h15, hm⟩ := obind hm
   obtain ⟨e14, h16, hm⟩ := obind hm
   refine de G [(19, [16]), (21, [16])] (hD 3 h12 (hE 4 h12 (hD 10 h13 (hE 11 h13 (hE 18 h12 (hP (idx_b (f := Enc.e) h14) (hO 19 (.sd2 (Enc.e e10) (Enc.e e12) (List.map Enc.e (e10.set e4.B.toNat e4.Minutes)) (List.map Enc.e (j5.set e4.A.toNat (e10.set e4.B.toNat e4.Minutes)))) (hP (idx_m2 (f := Enc.e) h12) (hP (idx_m2 (f := Enc.e) h14) (hP (set_m Enc.e e10 e4.B.toNat e4.Minutes) (hP (set_m Enc.e j5 e4.A.toNat (e10.set e4.B.toNat e4.Minutes)) (hE 20 h15 (hP (idx_b (f := Enc.e) h16) (hO 21 (.sd2 (Enc.e e13) (Enc.e e14) (List.map Enc.e (e13.set e4.A.toNat e4.Minutes)) (List.map Enc.e ((j5.set e4.A.toNat (e10.set e4.B.toNat e4.Minutes)).set e4.B.toNat (e13.set e4.A.toNat e4.Minutes)))) (hP (idx_m2 (f := Enc.e) h15) (hP (idx_m2 (f := Enc.e) h16) (hP (set_m Enc.e e13 e4.A.toNat e4.Minutes) (hP (set_m Enc.e (j5.set e4.A.toNat (e10.set e4.B.toNat e4.Minutes)) e4.B.toNat (e13.set e4.A.toNat e4.Minutes)) h0)))))))))))))))))) ?_
   exact ibN (thN (rh G (wL G hm)))
  ·exact Ok_exit (thE (thE (ibE (wD G hm hb2))))
 rintro j6 hm s2 hw2
 refine thN (Ok_weak hw2 ?_)
 refine Ok_seq (rg G (tl hm (fun j13 => ⟨[(6, .own 16)], [tX 16 31 [some 3] j13 16 none], 48⟩) (fun j13 hm => ?_) ?_))
 ·refine Ok_block (lp G hm (fun (v3, j7) => ⟨[(5, dV (n.Stops.length : Int)), (6, .own 16), (76, dV (n.Stops.length : Int)), (77, dV v3)], [tX 16 31 [some 3] j7 16 none], 48⟩) ?_)
  rintro ⟨v3, j7⟩ r0 hb3 hm
  rw [i_walkTable_L6] at hm
  refine rg G (Ok_seq (cd hm (fun hm => ?_) (fun hm => ?_)))
  ·refine X_skip (thN (Ok_seq (Ok_block (rg G (rg G (tl hm (fun j12 => ⟨[(5, dV (n.Stops.length : Int)), (6, .own 16), (76, dV (n.Stops.length : Int)), (77, dV v3)], [tX 16 31 [some 3] j12 16 none], 48⟩) (fun j12 hm => ?_) ?_))))))
   ·refine Ok_block (lp G hm (fun (v4, j8) => ⟨[(5, dV (n.Stops.length : Int)), (6, .own 16), (11, dV v3), (76, dV (n.Stops.length : Int)), (77, dV v3), (80, dV (n.Stops.length : Int)), (81, dV v4)], [tX 16 31 [some 3] j8 16 none], 48⟩) ?_)
    rintro ⟨v4, j8⟩ r0 hb4 hm
    rw [i_walkTable_L5] at hm
    refine rg G (Ok_seq (cd hm (fun hm => ?_) (fun hm => ?_)))
    ·refine X_skip (thN (Ok_seq (Ok_block (rg G (rg G (tl hm (fun j11 => ⟨[(5, dV (n.Stops.length : Int)), (6, .own 16), (11, dV v3), (76, dV (n.Stops.length : Int)), (77, dV v3), (80, dV (n.Stops.length : Int)), (81, dV v4)], [tX 16 31 [some 3] j11 16 none], 48⟩) (fun j11 hm => ?_) ?_))))))
     ·refine Ok_block (lp G hm (fun (v5, j9) => ⟨[(5, dV (n.Stops.length : Int)), (6, .own 16), (11, dV v3), (12, dV v4), (76, dV (n.Stops.length : Int)), (77, dV v3), (80, dV (n.Stops.length : Int)), (81, dV v4), (84, dV (n.Stops.length : Int)), (85, dV v5)], [tX 16 31 [some 3] j9 16 none], 48⟩) ?_)
      rintro ⟨v5, j9⟩ r0 hb5 hm
      rw [i_walkTable_L4] at hm
      refine rg G (Ok_seq (cd hm (fun hm => ?_) (fun hm => ?_)))
      ·refine X_skip (thN (jn hm (fun j10 => ⟨[(5, dV (n.Stops.length : Int)), (6, .own 16), (11, dV v3), (12, dV v4), (76, dV (n.Stops.length : Int)), (77, dV v3), (80, dV (n.Stops.length : Int)), (81, dV v4), (84, dV (n.Stops.length : Int)), (85, dV v5)], [tX 16 31 [some 3] j10 16 none], 48⟩) (fun j10 hm => ?_) ?_))
       ·refine Ok_block (rg G (Ok_seq ?_))
        obtain ⟨e15, h17, hm⟩ := obind hm
        obtain ⟨e16, h18, hm⟩ := obind hm
        refine jn hm (fun v6 => ⟨[(5, dV (n.Stops.length : Int)), (6, .own 16), (11, dV v3), (12, dV v4), (13, dV v5), (76, dV (n.Stops.length : Int)), (77, dV v3), (80, dV (n.Stops.length : Int)), (81, dV v4), (84, dV (n.Stops.length : Int)), (85, dV v5), (105, dV v6)], [tX 16 31 [some 3] j9 16 none], 48⟩) (fun v6 hm => ?_) ?_
        ·rcases bf hm with ⟨hb6, hm⟩ | ⟨hb6, hm⟩
         ·refine re G (hD 2 h17 (hE 3 h17 (hE 5 h17 (hP (idx_b (f := Enc.e) h18) (hO 6 (.d2 (Enc.e e15) (Enc.e e16)) (hP (idx_m2 (f := Enc.e) h17) (hP (idx_m2 (f := Enc.e) h18) (hO 8 (.b true) (hP hb6 h0))))))))) ?_
          exact wJ G hm
         ·obtain ⟨e17, h19, hm⟩ := obind hm
          obtain ⟨e18, h20, hm⟩ := obind hm
          refine re G (hD 2 h17 (hE 3 h17 (hE 5 h17 (hP (idx_b (f := Enc.e) h18) (hO 6 (.d2 (Enc.e e15) (Enc.e e16)) (hP (idx_m2 (f := Enc.e) h17) (hP (idx_m2 (f := Enc.e) h18) (hO 8 (.b false) (hP hb6 (hD 11 h19 (hE 12 h19 (hE 14 h19 (hP (idx_b (f := Enc.e) h20) (hO 15 (.d2 (Enc.e e17) (Enc.e e18)) (hP (idx_m2 (f := Enc.e) h19) (hP (idx_m2 (f := Enc.e) h20) h0)))))))))))))))) ?_
          exact wJ G hm
        rintro v6 hm
        refine cd hm (fun hm => ?_) (fun hm => ?_)
        ·exact Ok_exit (thE (ibE (wJ G hm)))
        ·refine X_skip (thN ?_)
         obtain ⟨e23, h25, hm⟩ := obind hm
         obtain ⟨e24, h26, hm⟩ := obind hm
         obtain ⟨e25, h27, hm⟩ := obind hm
         obtain ⟨e26, h28, hm⟩ := obind hm
         refine ds G [] (hD 2 h25 (hE 3 h25 (hE 5 h25 (hP (idx_b (f := Enc.e) h26) (hO 6 (.d2 (Enc.e e23) (Enc.e e24)) (hP (idx_m2 (f := Enc.e) h25) (hP (idx_m2 (f := Enc.e) h26) (hD 9 h27 (hE 10 h27 (hE 12 h27 (hP (idx_b (f := Enc.e) h28) (hO 13 (.d2 (Enc.e e25) (Enc.e e26)) (hP (idx_m2 (f := Enc.e) h27) (hP (idx_m2 (f := Enc.e) h28) h0)))))))))))))) ?_
         obtain ⟨e27, h29, hm⟩ := obind hm
         obtain ⟨e28, h30, hm⟩ := obind hm
         refine jn hm (fun v7 => ⟨[(5, dV (n.Stops.length : Int)), (6, .own 16), (11, dV v3), (12, dV v4), (13, dV v5), (14, dV (w64 (e24 + e26))), (76, dV (n.Stops.length : Int)), (77, dV v3), (80, dV (n.Stops.length : Int)), (81, dV v4), (84, dV (n.Stops.length : Int)), (85, dV v5), (139, dV v7)], [tX 16 31 [some 3] j9 16 none], 48⟩) (fun v7 hm => ?_) ?_
         ·rcases bf hm with ⟨hb7, hm⟩ | ⟨hb7, hm⟩
          ·refine re G (hD 2 h29 (hE 3 h25 (hE 5 h25 (hP (idx_b (f := Enc.e) h30) (hO 6 (.d2 (Enc.e e23) (Enc.e e28)) (hP (idx_m2 (f := Enc.e) h25) (hP (idx_m2 (f := Enc.e) h30) (hO 8 (.b true) (hP hb7 h0))))))))) ?_
           exact wJ G hm
          ·obtain ⟨e29, h31, hm⟩ := obind hm
           obtain ⟨e30, h32, hm⟩ := obind hm
           refine re G (hD 2 h29 (hE 3 h25 (hE 5 h25 (hP (idx_b (f := Enc.e) h30) (hO 6 (.d2 (Enc.e e23) (Enc.e e28)) (hP (idx_m2 (f := Enc.e) h25) (hP (idx_m2 (f := Enc.e) h30) (hO 8 (.b false) (hP hb7 (hD 12 h31 (hE 13 h25 (hE 15 h25 (hP (idx_b (f := Enc.e) h32) (hO 16 (.d2 (Enc.e e23) (Enc.e e30)) (hP (idx_m2 (f := Enc.e) h25) (hP (idx_m2 (f := Enc.e) h32) h0)))))))))))))))) ?_
           exact wJ G hm
         rintro v7 hm
         refine cd hm (fun hm => ?_) (fun hm => ?_)
         ·obtain ⟨e31, h33, hm⟩ := obind hm
          obtain ⟨e32, h34, hm⟩ := obind hm
          refine re G (hD 2 h33 (hE 3 h33 (hE 6 h33 (hP (idx_b (f := Enc.e) h34) (hO 7 (.sd2 (Enc.e e31) (Enc.e e32) (List.map Enc.e (e31.set v5.toNat (w64 (e24 + e26)))) (List.map Enc.e (j9.set v4.toNat (e31.set v5.toNat (w64 (e24 + e26)))))) (hP (idx_m2 (f := Enc.e) h33) (hP (idx_m2 (f := Enc.e) h34) (hP (set_m Enc.e e31 v5.toNat (w64 (e24 + e26))) (hP (set_m Enc.e j9 v4.toNat (e31.set v5.toNat (w64 (e24 + e26)))) h0))))))))) ?_
          exact ibN (wJ G hm)
         ·exact X_skip (ibN (wJ G hm))
       rintro j10 hm
       exact rh G (wL G hm)
      ·exact Ok_exit (thE (thE (ibE (wD G hm hb5))))
     rintro j11 hm s3 hw3
     refine ibN (thN (Ok_weak hw3 ?_))
     exact rh G (wL G hm)
    ·exact Ok_exit (thE (thE (ibE (wD G hm hb4))))
   rintro j12 hm s4 hw4
   refine ibN (thN (Ok_weak hw4 ?_))
   exact rh G (wL G hm)
  ·exact Ok_exit (thE (thE (ibE (wD G hm hb3))))
 rintro j13 hm s5 hw5
 refine thN (Ok_weak hw5 ?_)
 refine rg G ?_
 cases hm
 exact rt [16] []
noncomputable def i_walkMinutes_M : MS ((List Walk) × Int × Int) Int := ⟨.x .r (.x .r .r), fun x => i_walkMinutes x.1 x.2.1 x.2.2, fun y => dV y, fun _ => [], fun _ _ => []⟩
theorem i_walkMinutes_c {list a b y} (hm : i_walkMinutes list a b = some y) : i_walkMinutes_M.C (list, a, b) y := i_walkMinutes_M.c (list, a, b) hm
theorem i_walkMinutes_ok : FnOK Try.prog 110 i_walkMinutes_M.S := by
 refine fm tt i_walkMinutes_M [] Try.call110 Try.func110 rfl Try.results110 Try.ntmps110 ?_
 rintro ⟨list, a, b⟩ y cx G hm
 have hm : i_walkMinutes list a b = some y := hm
 unfold i_walkMinutes at hm
 refine rg G (Ok_seq (rs G (hN 1 list h0) ?_))
 refine tF hm (fun _ => ⟨[], [], 32⟩) (fun v2 hr hm => ?_) ?_
 ·refine Ok_block (lp G hm (fun v => ⟨[(1, dV a), (2, dV b), (9, dV list), (10, dV (list.length : Int)), (11, dV v)], [], 32⟩) ?_)
  rintro v r0 hb hm
  rw [i_walkMinutes_L1] at hm
  refine rg G (Ok_seq (cd hm (fun hm => ?_) (fun hm => ?_)))
  ·refine X_skip (thN (Ok_seq (Ok_block ?_)))
   obtain ⟨e, h, hm⟩ := obind hm
   refine rs G (hD 0 h h0) ?_
   refine jn hm (fun v1 => ⟨[(1, dV a), (2, dV b), (8, .ref 16 0), (9, dV list), (10, dV (list.length : Int)), (11, dV v), (28, dV v1)], [bX 16 [dV e.A, dV e.B, dV e.Minutes]], 48⟩) (fun v1 hm => ?_) ?_
   ·rcases bf hm with ⟨hb1, hm⟩ | ⟨hb1, hm⟩
    ·refine re G (hO 6 (.b true) (hP hb1 h0)) ?_
     exact wJ G hm
    ·refine re G (hO 6 (.b false) (hP hb1 h0)) ?_
     exact wJ G hm
   rintro v1 hm
   refine cd hm (fun hm => ?_) (fun hm => ?_)
   ·refine rg G ?_
    have hm := eL hm hb hr
    cases hm
    exact rt [] []
   ·exact X_skip (ibN (thN (rh G (wL G hm))))
  ·exact Ok_exit (thE (thE (ibE (wE G hm hb))))
 rintro ⟨⟩ hm s hw
 refine thN (Ok_weak hw ?_)
 refine rg G ?_
 cases hm
 exact rt [] []
noncomputable def i_ShortestWalk_1_M : MS (Int × Int × (List Walk) × (List (List Int)) × Int) Bool := ⟨.x .r (.x .r (.x .b (.x .b .b))), fun x => i_ShortestWalk_1 x.1 x.2.1 x.2.2.1 x.2.2.2.1 x.2.2.2.2, fun y => dV y, fun _ => [], fun x _ => [bxO x.2.2.1, bxO x.2.2.2.1, bxO x.2.2.2.2]⟩
theorem i_ShortestWalk_1_c {a b c1 c2 c3 y} (hm : i_ShortestWalk_1 a b c1 c2 c3 = some y) : i_ShortestWalk_1_M.C (a, b, c1, c2, c3) y := i_ShortestWalk_1_M.c (a, b, c1, c2, c3) hm
theorem i_ShortestWalk_1_ok : FnOK Try.prog 109 i_ShortestWalk_1_M.S := by
 refine fm tt i_ShortestWalk_1_M [fo i_walkMinutes_ok] Try.call109 Try.func109 rfl Try.results109 Try.ntmps109 ?_
 rintro ⟨a, b, c1, c2, c3⟩ y cx G hm
 have hm : i_ShortestWalk_1 a b c1 c2 c3 = some y := hm
 unfold i_ShortestWalk_1 at hm
 refine rg G ?_
 obtain ⟨r, h, hm⟩ := obind hm
 refine rs G (hC 3 (i_walkMinutes_c h) h0) ?_
 refine jn hm (fun v => ⟨[(2, .ref 0 0), (3, .ref 1 0), (4, .ref 2 0), (7, dV v)], [bX 0 [dV c1], bX 1 [dV c2], bX 2 [dV c3]], 48⟩) (fun v hm => ?_) ?_
 ·rcases bf hm with ⟨hb, hm⟩ | ⟨hb, hm⟩
  ·obtain ⟨e6, h7, hm⟩ := obind hm
   obtain ⟨e7, h8, hm⟩ := obind hm
   rcases bf hm with ⟨hb1, hm⟩ | ⟨hb1, hm⟩
   ·obtain ⟨e8, h9, hm⟩ := obind hm
    obtain ⟨e9, h10, hm⟩ := obind hm
    obtain ⟨e10, h11, hm⟩ := obind hm
    obtain ⟨e11, h12, hm⟩ := obind hm
    refine de G [] (hO 2 (.b true) (hP hb (hD 5 h7 (hD 8 h8 (hO 12 (.b true) (hP hb1 (hD 16 h9 (hD 19 h10 (hD 24 h11 (hD 27 h12 h0)))))))))) ?_
    exact wJ G hm
   ·refine de G [] (hO 2 (.b true) (hP hb (hD 5 h7 (hD 8 h8 (hO 12 (.b false) (hP hb1 h0)))))) ?_
    exact wJ G hm
  ·refine de G [] (hO 2 (.b false) (hP hb h0)) ?_
   exact wJ G hm
 rintro v hm
 cases hm
 exact rt [] []
noncomputable def i_ShortestWalk_M : MS (Network × (List Walk) × Int × Int) ((List Int) × Bool) := ⟨.x .r (.x .r (.x .r .r)), fun x => i_ShortestWalk x.1 x.2.1 x.2.2.1 x.2.2.2, fun y => .tup [dV y.1, dV y.2], fun _ => [], fun _ _ => []⟩
theorem i_ShortestWalk_c {n list from_ to y} (hm : i_ShortestWalk n list from_ to = some y) : i_ShortestWalk_M.C (n, list, from_, to) y := i_ShortestWalk_M.c (n, list, from_, to) hm
theorem i_ShortestWalk_ok : FnOK Try.prog 14 i_ShortestWalk_M.S := by
 refine fm tt i_ShortestWalk_M [fo i_IsValidWalks_ok, fo i_isStop_ok, fo i_walkTable_ok, fo i_ShortestWalk_1_ok] Try.call14 Try.func14 rfl Try.results14 Try.ntmps14 ?_
 rintro ⟨n, list, from_, to⟩ y cx G hm
 have hm : i_ShortestWalk n list from_ to = some y := hm
 unfold i_ShortestWalk at hm
 refine rg G (Ok_seq ?_)
 obtain ⟨r, h, hm⟩ := obind hm
 refine jn hm (fun v => ⟨[(2, dV from_), (4, .ref 16 0), (5, .ref 32 0), (7, .ref 48 0), (34, dV v)], [bX 16 [dV n.Stops, dV n.Lines], bX 32 [dV list], bX 48 [dV to]], 80⟩) (fun v hm => ?_) ?_
 ·rcases bf hm with ⟨hb, hm⟩ | ⟨hb, hm⟩
  ·refine re G (hC 2 (i_IsValidWalks_c h) (hO 4 (.b true) (hP hb h0))) ?_
   exact wJ G hm
  ·obtain ⟨r1, h1, hm⟩ := obind hm
   rcases bf hm with ⟨hb1, hm⟩ | ⟨hb1, hm⟩
   ·refine re G (hC 2 (i_IsValidWalks_c h) (hO 4 (.b false) (hP hb (hC 7 (i_isStop_c h1) (hO 10 (.b true) (hP hb1 h0)))))) ?_
    exact wJ G hm
   ·obtain ⟨r2, h2, hm⟩ := obind hm
    refine re G (hC 2 (i_IsValidWalks_c h) (hO 4 (.b false) (hP hb (hC 7 (i_isStop_c h1) (hO 10 (.b false) (hP hb1 (hC 13 (i_isStop_c h2) h0))))))) ?_
    exact wJ G hm
 rintro v hm
 refine cd hm (fun hm => ?_) (fun hm => ?_)
 ·refine rg G ?_
  cases hm
  exact rt [] [[.z 1]]
 ·refine X_skip (thN ?_)
  obtain ⟨r3, h3, hm⟩ := obind hm
  refine rs G (hC 2 (i_walkTable_c h3) h0) ?_
  refine Ok_seq ?_
  obtain ⟨e2, h6, hm⟩ := obind hm
  obtain ⟨e3, h7, hm⟩ := obind hm
  refine ds G [] (hD 2 h6 (hE 3 h6 (hE 5 h6 (hP (idx_b (f := Enc.e) h7) (hO 6 (.d2 (Enc.e e2) (Enc.e e3)) (hP (idx_m2 (f := Enc.e) h6) (hP (idx_m2 (f := Enc.e) h7) h0))))))) ?_
  refine cd hm (fun hm => ?_) (fun hm => ?_)
  ·refine rg G ?_
   cases hm
   exact rt [] [[.z 1]]
  ·refine X_skip (thN (rg G ?_))
   obtain ⟨u, h8, hm⟩ := obind hm
   refine rs G (hN 2 n.Stops (hO 3 (.l (List.map Enc.e (List.replicate (n.Stops.length : Int).toNat (0 : Int)))) (hP (mk_p (b := 8) (chk_t h8) rfl) (hP (rep_m Enc.e (n.Stops.length : Int).toNat (0 : Int)) h0)))) ?_
   refine Ok_seq (rs G (hN 1 (List.replicate (n.Stops.length : Int).toNat (0 : Int)) h0) ?_)
   refine tl hm (fun out1 => ⟨[(2, dV from_), (4, .ref 16 0), (7, .ref 32 0), (11, .fn 109 [.ref 48 0, .ref 64 0, .ref 32 0]), (12, .own 80)], [bX 16 [dV n.Stops, dV n.Lines], bX 32 [dV to], bX 48 [dV list], bX 64 [.own 96], aX 80 3 out1, tX 96 31 [some 3] r3 96 none], 128⟩) (fun out1 hm => ?_) ?_
   ·refine Ok_block (lp G hm (fun (v1, out) => ⟨[(2, dV from_), (4, .ref 16 0), (7, .ref 32 0), (11, .fn 109 [.ref 48 0, .ref 64 0, .ref 32 0]), (12, .own 80), (52, dV ((List.replicate (n.Stops.length : Int).toNat (0 : Int)).length : Int)), (53, dV v1)], [bX 16 [dV n.Stops, dV n.Lines], bX 32 [dV to], bX 48 [dV list], bX 64 [.own 96], aX 80 3 out, tX 96 31 [some 3] r3 96 none], 128⟩) ?_)
    rintro ⟨v1, out⟩ r0 hb2 hm
    rw [i_ShortestWalk_L1] at hm
    refine rg G (Ok_seq (cd hm (fun hm => ?_) (fun hm => ?_)))
    ·refine X_skip (thN (Ok_seq (Ok_block (rg G ?_))))
     obtain ⟨e4, h9, hm⟩ := obind hm
     refine re G (hD 2 h9 (hS 3 h9 (-1) h0)) ?_
     exact ibN (thN (rh G (wL G hm)))
    ·exact Ok_exit (thE (thE (ibE (wD G hm hb2))))
   rintro out1 hm s hw
   refine thN (Ok_weak hw ?_)
   obtain ⟨e5, h10, hm⟩ := obind hm
   refine rs G (hD 2 h10 (hS 3 h10 0 h0)) ?_
   refine Ok_seq (rg G (tl hm (fun out6 => ⟨[(2, dV from_), (4, .ref 16 0), (7, .ref 32 0), (11, .fn 109 [.ref 48 0, .ref 64 0, .ref 32 0]), (12, .own 80)], [bX 16 [dV n.Stops, dV n.Lines], bX 32 [dV to], bX 48 [dV list], bX 64 [dV r3], aX 80 3 out6], 112⟩) (fun out6 hm => ?_) ?_))
   ·refine Ok_block (lp G hm (fun (out2, b) => ⟨[(2, dV from_), (4, .ref 16 0), (7, .ref 32 0), (11, .fn 109 [.ref 48 0, .ref 64 0, .ref 32 0]), (12, .own 80), (14, .own 96)], [bX 16 [dV n.Stops, dV n.Lines], bX 32 [dV to], bX 48 [dV list], bX 64 [dV r3], aX 80 3 out2, aX 96 3 b], 128⟩) ?_)
    rintro ⟨out2, b⟩ r0 hb3 hm
    rw [i_ShortestWalk_L3] at hm
    refine Ok_seq (rs G (hN 1 b h0) ?_)
    refine cd hm (fun hm => ?_) (fun hm => ?_)
    ·refine X_skip (thN (Ok_seq (Ok_block (rs G (hN 2 n.Stops h0) ?_))))
     refine tl hm (fun (out5, b3) => ⟨[(2, dV from_), (4, .ref 16 0), (7, .ref 32 0), (11, .fn 109 [.ref 48 0, .ref 64 0, .ref 32 0]), (12, .own 80), (14, .own 96)], [bX 16 [dV n.Stops, dV n.Lines], bX 32 [dV to], bX 48 [dV list], bX 64 [dV r3], aX 80 3 out5, aX 96 3 b3], 128⟩) (fun vv1 hm => ?_) ?_
     ·refine Ok_block (lp G hm (fun (v2, out3, b1) => ⟨[(2, dV from_), (4, .ref 16 0), (7, .ref 32 0), (11, .fn 109 [.ref 48 0, .ref 64 0, .ref 32 0]), (12, .own 80), (14, .own 96), (72, dV (n.Stops.length : Int)), (73, dV v2)], [bX 16 [dV n.Stops, dV n.Lines], bX 32 [dV to], bX 48 [dV list], bX 64 [dV r3], aX 80 3 out3, aX 96 3 b1], 128⟩) ?_)
      rintro ⟨v2, out3, b1⟩ r0 hb4 hm
      rw [i_ShortestWalk_L2] at hm
      refine rg G (Ok_seq (cd hm (fun hm => ?_) (fun hm => ?_)))
      ·refine X_skip (thN (jn hm (fun (out4, b2) => ⟨[(2, dV from_), (4, .ref 16 0), (7, .ref 32 0), (11, .fn 109 [.ref 48 0, .ref 64 0, .ref 32 0]), (12, .own 80), (14, .own 96), (72, dV (n.Stops.length : Int)), (73, dV v2)], [bX 16 [dV n.Stops, dV n.Lines], bX 32 [dV to], bX 48 [dV list], bX 64 [dV r3], aX 80 3 out4, aX 96 3 b2], 128⟩) (fun vv hm => ?_) ?_))
       ·refine Ok_block (rg G ?_)
        obtain ⟨e6, h11, hm⟩ := obind hm
        refine jn hm (fun v3 => ⟨[(2, dV from_), (4, .ref 16 0), (7, .ref 32 0), (11, .fn 109 [.ref 48 0, .ref 64 0, .ref 32 0]), (12, .own 80), (14, .own 96), (15, dV v2), (72, dV (n.Stops.length : Int)), (73, dV v2), (88, dV v3)], [bX 16 [dV n.Stops, dV n.Lines], bX 32 [dV to], bX 48 [dV list], bX 64 [dV r3], aX 80 3 out3, aX 96 3 b1], 128⟩) (fun v3 hm => ?_) ?_
        ·rcases bf hm with ⟨hb5, hm⟩ | ⟨hb5, hm⟩
         ·obtain ⟨e7, h12, hm⟩ := obind hm
          obtain ⟨r4, h13, hm⟩ := obind hm
          refine re G (hD 2 h11 (hE 3 h11 (hO 5 (.b true) (hP hb5 (hD 9 h12 (hE 10 h12 (hC 11 (i_ShortestWalk_1_c h13) h0))))))) ?_
          exact wJ G hm
         ·refine re G (hD 2 h11 (hE 3 h11 (hO 5 (.b false) (hP hb5 h0)))) ?_
          exact wJ G hm
        rintro v3 hm
        refine cd hm (fun hm => ?_) (fun hm => ?_)
        ·obtain ⟨e8, h14, hm⟩ := obind hm
         obtain ⟨e9, h15, hm⟩ := obind hm
         obtain ⟨e10, h16, hm⟩ := obind hm
         refine rs G (hD 4 h14 (hE 5 h14 (hD 6 h15 (hE 7 h15 (hD 9 h16 (hS 10 h16 (w64 (e9 + 1)) h0)))))) ?_
         obtain ⟨u1, h17, hm⟩ := obind hm
         refine re G (hA 3 8 h17 h0) ?_
         exact ibN (wJ G hm)
        ·exact X_skip (ibN (wJ G hm))
       rintro ⟨out4, b2⟩ hm
       exact rh G (wL G hm)
      ·exact Ok_exit (thE (thE (ibE (wD G hm hb4))))
     rintro ⟨out5, b3⟩ hm s1 hw1
     refine ibN (thN (Ok_weak hw1 ?_))
     obtain ⟨u2, h18, hm⟩ := obind hm
     refine re G (hV 1 h18 h0) ?_
     exact wL G hm
    ·exact Ok_exit (thE (thE (ibE (wD G hm hb3))))
   rintro out6 hm s2 hw2
   refine thN (Ok_weak hw2 ?_)
   refine rg G (Ok_seq (rg G (tl hm (fun v10 => ⟨[(16, .own 16)], [aX 16 3 v10], 48⟩) (fun v10 hm => ?_) ?_)))
   ·refine Ok_block (lp G hm (fun (v4, v5) => ⟨[(4, .ref 16 0), (7, .ref 32 0), (11, .fn 109 [.ref 48 0, .ref 64 0, .ref 32 0]), (12, .own 80), (16, .own 96), (17, dV v4)], [bX 16 [dV n.Stops, dV n.Lines], bX 32 [dV to], bX 48 [dV list], bX 64 [dV r3], aX 80 3 out6, aX 96 3 v5], 128⟩) ?_)
    rintro ⟨v4, v5⟩ r0 hb6 hm
    rw [i_ShortestWalk_L5] at hm
    refine Ok_seq (rg G (cd hm (fun hm => ?_) (fun hm => ?_)))
    ·refine X_skip (thN (Ok_block (jn hm (fun v6 => ⟨[(4, .ref 16 0), (7, .ref 32 0), (11, .fn 109 [.ref 48 0, .ref 64 0, .ref 32 0]), (12, .own 80), (16, .own 96), (17, dV v6)], [bX 16 [dV n.Stops, dV n.Lines], bX 32 [dV to], bX 48 [dV list], bX 64 [dV r3], aX 80 3 out6, aX 96 3 v5], 128⟩) (fun v6 hm => ?_) ?_)))
     ·refine rs G (hN 2 n.Stops h0) ?_
      refine tl hm (fun v9 => ⟨[(4, .ref 16 0), (7, .ref 32 0), (11, .fn 109 [.ref 48 0, .ref 64 0, .ref 32 0]), (12, .own 80), (16, .own 96), (17, dV v9)], [bX 16 [dV n.Stops, dV n.Lines], bX 32 [dV to], bX 48 [dV list], bX 64 [dV r3], aX 80 3 out6, aX 96 3 v5], 128⟩) (fun v9 hm => ?_) ?_
      ·refine Ok_block (lp G hm (fun v7 => ⟨[(4, .ref 16 0), (7, .ref 32 0), (11, .fn 109 [.ref 48 0, .ref 64 0, .ref 32 0]), (12, .own 80), (16, .own 96), (17, dV v4), (112, dV (n.Stops.length : Int)), (113, dV v7)], [bX 16 [dV n.Stops, dV n.Lines], bX 32 [dV to], bX 48 [dV list], bX 64 [dV r3], aX 80 3 out6, aX 96 3 v5], 128⟩) ?_)
       rintro v7 r0 hb7 hm
       rw [i_ShortestWalk_L4] at hm
       refine rg G (Ok_seq (cd hm (fun hm => ?_) (fun hm => ?_)))
       ·refine X_skip (thN (Ok_seq (Ok_block (rg G ?_))))
        obtain ⟨e13, h22, hm⟩ := obind hm
        obtain ⟨e14, h23, hm⟩ := obind hm
        refine jn hm (fun v8 => ⟨[(4, .ref 16 0), (7, .ref 32 0), (11, .fn 109 [.ref 48 0, .ref 64 0, .ref 32 0]), (12, .own 80), (16, .own 96), (17, dV v4), (18, dV v7), (112, dV (n.Stops.length : Int)), (113, dV v7), (131, dV v8)], [bX 16 [dV n.Stops, dV n.Lines], bX 32 [dV to], bX 48 [dV list], bX 64 [dV r3], aX 80 3 out6, aX 96 3 v5], 128⟩) (fun v8 hm => ?_) ?_
        ·rcases bf hm with ⟨hb8, hm⟩ | ⟨hb8, hm⟩
         ·obtain ⟨r6, h24, hm⟩ := obind hm
          refine de G [(14, [32, 48, 64])] (hD 2 h22 (hE 3 h22 (hD 6 h23 (hE 7 h23 (hO 10 (.b true) (hP hb8 (hC 14 (i_ShortestWalk_1_c h24) h0))))))) ?_
          exact wJ G hm
         ·refine de G [(14, [32, 48, 64])] (hD 2 h22 (hE 3 h22 (hD 6 h23 (hE 7 h23 (hO 10 (.b false) (hP hb8 h0)))))) ?_
          exact wJ G hm
        rintro v8 hm
        refine cd hm (fun hm => ?_) (fun hm => ?_)
        ·exact rg G (Ok_exit (ibX rfl (thE (thE (ibE (wD G hm hb7))))))
        ·exact X_skip (ibN (thN (rh G (wL G hm))))
       ·exact Ok_exit (thE (thE (ibE (wD G hm hb7))))
      rintro v9 hm s3 hw3
      exact wJp hm (Wk.trans hw3 (Wk_J G.hL ⟨[(4, []), (7, []), (11, []), (12, []), (16, []), (17, [])], [(16, 16, []), (32, 32, []), (48, 48, []), (64, 64, []), (80, 80, []), (96, 96, [])], [], 128⟩ (by kernel_rfl)))
     rintro v6 hm
     obtain ⟨u3, h25, hm⟩ := obind hm
     refine re G (hA 3 8 h25 h0) ?_
     exact ibN (wL G hm)
    ·exact Ok_exit (thE (thE (ibE (wD G hm hb6))))
   rintro v10 hm s4 hw4
   refine thN (Ok_weak hw4 ?_)
   refine rg G ?_
   cases hm
   exact rt [] []
noncomputable def s_l1In_M : MS (Int × Int × Int) Bool := ⟨.x .r (.x .r .r), fun x => s_l1In x.1 x.2.1 x.2.2, fun y => dV y, fun _ => [], fun _ _ => []⟩
theorem s_l1In_c {x a b y} (hm : s_l1In x a b = some y) : s_l1In_M.C (x, a, b) y := s_l1In_M.c (x, a, b) hm
theorem s_l1In_ok : FnOK Try.prog 111 s_l1In_M.S := by
 refine fm tt s_l1In_M [] Try.call111 Try.func111 rfl Try.results111 Try.ntmps111 ?_
 rintro ⟨x, a, b⟩ y cx G hm
 have hm : s_l1In x a b = some y := hm
 unfold s_l1In at hm
 refine rg G (jn hm (fun v => ⟨[(6, dV v)], [], 32⟩) (fun v hm => ?_) ?_)
 ·rcases bf hm with ⟨hb, hm⟩ | ⟨hb, hm⟩
  ·refine re G (hO 3 (.b true) (hP hb h0)) ?_
   exact wJ G hm
  ·refine re G (hO 3 (.b false) (hP hb h0)) ?_
   exact wJ G hm
 rintro v hm
 cases hm
 exact rt [] []
noncomputable def s_l2Name_M : MS ByteArray Bool := ⟨.r, s_l2Name, fun y => dV y, fun _ => [], fun _ _ => []⟩
theorem s_l2Name_c {s y} (hm : s_l2Name s = some y) : s_l2Name_M.C s y := s_l2Name_M.c s hm
theorem s_l2Name_ok : FnOK Try.prog 198 s_l2Name_M.S := by
 refine fm tt s_l2Name_M [fo s_l1In_ok] Try.call198 Try.func198 rfl Try.results198 Try.ntmps198 ?_
 rintro s y cx G hm
 have hm : s_l2Name s = some y := hm
 unfold s_l2Name at hm
 refine rg G (Ok_seq ?_)
 obtain ⟨r, h, hm⟩ := obind hm
 refine jn hm (fun v => ⟨[(0, dV s), (17, dV v)], [], 32⟩) (fun v hm => ?_) ?_
 ·rcases bf hm with ⟨hb, hm⟩ | ⟨hb, hm⟩
  ·refine re G (hC 2 (s_l1In_c h) (hO 4 (.b true) (hP hb h0))) ?_
   exact wJ G hm
  ·obtain ⟨u, h1, hm⟩ := obind hm
   rcases bf hm with ⟨hb1, hm⟩ | ⟨hb1, hm⟩
   ·refine re G (hC 2 (s_l1In_c h) (hO 4 (.b false) (hP hb (hK h1 (hO 9 (.b true) (hP hb1 h0)))))) ?_
    exact wJ G hm
   ·obtain ⟨u1, h2, hm⟩ := obind hm
    refine re G (hC 2 (s_l1In_c h) (hO 4 (.b false) (hP hb (hK h1 (hO 9 (.b false) (hP hb1 (hK h2 h0))))))) ?_
    exact wJ G hm
 rintro v hm
 refine cd hm (fun hm => ?_) (fun hm => ?_)
 ·refine rg G ?_
  cases hm
  exact rt [] []
 ·refine X_skip (thN (Ok_seq (rg G (tF hm (fun _ => ⟨[], [], 32⟩) (fun v3 hr hm => ?_) ?_))))
  ·refine Ok_block (lp G hm (fun v1 => ⟨[(0, dV s), (3, dV v1)], [], 32⟩) ?_)
   rintro v1 r0 hb2 hm
   rw [s_l2Name_L1] at hm
   refine Ok_seq (rg G (cd hm (fun hm => ?_) (fun hm => ?_)))
   ·refine X_skip (thN (Ok_seq (Ok_block ?_)))
    obtain ⟨u2, h3, hm⟩ := obind hm
    refine jn hm (fun v2 => ⟨[(0, dV s), (3, dV v1), (45, dV v2)], [], 32⟩) (fun v2 hm => ?_) ?_
    ·rcases bf hm with ⟨hb3, hm⟩ | ⟨hb3, hm⟩
     ·obtain ⟨u3, h4, hm⟩ := obind hm
      rcases bf hm with ⟨hb4, hm⟩ | ⟨hb4, hm⟩
      ·refine re G (hK h3 (hO 4 (.b true) (hP hb3 (hK h4 (hO 15 (.b true) (hP hb4 h0)))))) ?_
       exact wJ G hm
      ·obtain ⟨u4, h5, hm⟩ := obind hm
       refine re G (hK h3 (hO 4 (.b true) (hP hb3 (hK h4 (hO 15 (.b false) (hP hb4 (hK h5 h0))))))) ?_
       exact wJ G hm
     ·obtain ⟨u5, h6, hm⟩ := obind hm
      rcases bf hm with ⟨hb5, hm⟩ | ⟨hb5, hm⟩
      ·obtain ⟨u6, h7, hm⟩ := obind hm
       rcases bf hm with ⟨hb6, hm⟩ | ⟨hb6, hm⟩
       ·refine re G (hK h3 (hO 4 (.b false) (hP hb3 (hK h6 (hO 10 (.b true) (hP hb5 (hK h7 (hO 15 (.b true) (hP hb6 h0))))))))) ?_
        exact wJ G hm
       ·obtain ⟨u7, h8, hm⟩ := obind hm
        refine re G (hK h3 (hO 4 (.b false) (hP hb3 (hK h6 (hO 10 (.b true) (hP hb5 (hK h7 (hO 15 (.b false) (hP hb6 (hK h8 h0)))))))))) ?_
        exact wJ G hm
      ·refine re G (hK h3 (hO 4 (.b false) (hP hb3 (hK h6 (hO 10 (.b false) (hP hb5 h0)))))) ?_
       exact wJ G hm
    rintro v2 hm
    refine cd hm (fun hm => ?_) (fun hm => ?_)
    ·refine rg G ?_
     have hm := eL hm hb2 hr
     cases hm
     exact rt [] []
    ·exact X_skip (ibN (thN (rh G (wL G hm))))
   ·exact Ok_exit (thE (thE (ibE (wE G hm hb2))))
  rintro ⟨⟩ hm s1 hw
  refine thN (Ok_weak hw ?_)
  refine rg G ?_
  cases hm
  exact rt [] []
noncomputable def s_l2Find_M : MS ((List ByteArray) × ByteArray) Int := ⟨.x .r .r, fun x => s_l2Find x.1 x.2, fun y => dV y, fun _ => [], fun _ _ => []⟩
theorem s_l2Find_c {list name y} (hm : s_l2Find list name = some y) : s_l2Find_M.C (list, name) y := s_l2Find_M.c (list, name) hm
theorem s_l2Find_ok : FnOK Try.prog 301 s_l2Find_M.S := by
 refine fm tt s_l2Find_M [] Try.call301 Try.func301 rfl Try.results301 Try.ntmps301 ?_
 rintro ⟨list, name⟩ y cx G hm
 have hm : s_l2Find list name = some y := hm
 unfold s_l2Find at hm
 refine rg G (Ok_seq (rg G (tF hm (fun _ => ⟨[], [], 32⟩) (fun v1 hr hm => ?_) ?_)))
 ·refine Ok_block (lp G hm (fun v => ⟨[(0, dV list), (1, dV name), (5, dV v)], [], 32⟩) ?_)
  rintro v r0 hb hm
  rw [s_l2Find_L1] at hm
  refine Ok_seq (rs G (hN 2 list h0) ?_)
  refine cd hm (fun hm => ?_) (fun hm => ?_)
  ·refine X_skip (thN (Ok_seq (Ok_block ?_)))
   obtain ⟨e, h, hm⟩ := obind hm
   refine rs G (hD 2 h h0) ?_
   refine cd hm (fun hm => ?_) (fun hm => ?_)
   ·refine rg G ?_
    have hm := eL hm hb hr
    cases hm
    exact rt [] []
   ·exact X_skip (ibN (thN (rh G (wL G hm))))
  ·exact Ok_exit (thE (thE (ibE (wE G hm hb))))
 rintro ⟨⟩ hm s hw
 refine thN (Ok_weak hw ?_)
 refine rg G ?_
 cases hm
 exact rt [] []
noncomputable def s_l2Line_M : MS (Line × Int) Bool := ⟨.x .r .r, fun x => s_l2Line x.1 x.2, fun y => dV y, fun _ => [], fun _ _ => []⟩
theorem s_l2Line_c {x stops y} (hm : s_l2Line x stops = some y) : s_l2Line_M.C (x, stops) y := s_l2Line_M.c (x, stops) hm
theorem s_l2Line_ok : FnOK Try.prog 302 s_l2Line_M.S := by
 refine fm tt s_l2Line_M [fo s_l2Name_ok, fo s_l1In_ok, fo s_l2Place_ok] Try.call302 Try.func302 rfl Try.results302 Try.ntmps302 ?_
 rintro ⟨x, stops⟩ y cx G hm
 have hm : s_l2Line x stops = some y := hm
 unfold s_l2Line at hm
 refine rg G (Ok_seq ?_)
 obtain ⟨r, h, hm⟩ := obind hm
 refine jn hm (fun v => ⟨[(1, dV stops), (2, .ref 16 0), (27, dV v)], [bX 16 [dV x.Name, dV x.Stops, dV x.Runs]], 48⟩) (fun v hm => ?_) ?_
 ·rcases bf hm with ⟨hb, hm⟩ | ⟨hb, hm⟩
  ·refine re G (hC 2 (s_l2Name_c h) (hO 4 (.b true) (hP hb h0))) ?_
   exact wJ G hm
  ·obtain ⟨r1, h1, hm⟩ := obind hm
   rcases bf hm with ⟨hb1, hm⟩ | ⟨hb1, hm⟩
   ·refine re G (hC 2 (s_l2Name_c h) (hO 4 (.b false) (hP hb (hN 7 x.Stops (hC 8 (s_l1In_c h1) (hO 11 (.b true) (hP hb1 h0))))))) ?_
    exact wJ G hm
   ·refine re G (hC 2 (s_l2Name_c h) (hO 4 (.b false) (hP hb (hN 7 x.Stops (hC 8 (s_l1In_c h1) (hO 11 (.b false) (hP hb1 (hN 14 x.Runs (hN 17 x.Stops h0))))))))) ?_
    exact wJ G hm
 rintro v hm
 refine cd hm (fun hm => ?_) (fun hm => ?_)
 ·refine rg G ?_
  cases hm
  exact rt [] []
 ·refine X_skip (thN (Ok_seq (rg G (tF hm (fun _ => ⟨[(2, .ref 16 0)], [bX 16 [dV x.Name, dV x.Stops, dV x.Runs]], 48⟩) (fun v5 hr hm => ?_) ?_))))
  ·refine Ok_block (lp G hm (fun v1 => ⟨[(1, dV stops), (2, .ref 16 0), (5, dV v1)], [bX 16 [dV x.Name, dV x.Stops, dV x.Runs]], 48⟩) ?_)
   rintro v1 r0 hb2 hm
   rw [s_l2Line_L1] at hm
   refine Ok_seq (rs G (hN 3 x.Stops h0) ?_)
   refine cd hm (fun hm => ?_) (fun hm => ?_)
   ·refine X_skip (thN (Ok_seq (Ok_block ?_)))
    obtain ⟨e2, h6, hm⟩ := obind hm
    obtain ⟨r4, h7, hm⟩ := obind hm
    refine jn hm (fun v2 => ⟨[(1, dV stops), (2, .ref 16 0), (5, dV v1), (54, dV v2)], [bX 16 [dV x.Name, dV x.Stops, dV x.Runs]], 48⟩) (fun v2 hm => ?_) ?_
    ·rcases bf hm with ⟨hb3, hm⟩ | ⟨hb3, hm⟩
     ·refine de G [] (hD 3 h6 (hC 7 (s_l1In_c h7) (hO 9 (.b true) (hP hb3 h0)))) ?_
      exact wJ G hm
     ·obtain ⟨e3, h8, hm⟩ := obind hm
      obtain ⟨r5, h9, hm⟩ := obind hm
      refine de G [] (hD 3 h6 (hC 7 (s_l1In_c h7) (hO 9 (.b false) (hP hb3 (hD 14 h8 (hC 16 (s_l2Place_c h9) h0)))))) ?_
      exact wJ G hm
    rintro v2 hm
    refine cd hm (fun hm => ?_) (fun hm => ?_)
    ·refine rg G ?_
     have hm := eL hm hb2 hr
     cases hm
     exact rt [] []
    ·exact X_skip (ibN (thN (rh G (wL G hm))))
   ·exact Ok_exit (thE (thE (ibE (wE G hm hb2))))
  rintro ⟨⟩ hm s hw
  refine thN (Ok_weak hw ?_)
  refine Ok_seq (rg G (tF hm (fun _ => ⟨[], [], 32⟩) (fun v4 hr1 hm => ?_) ?_))
  ·refine Ok_block (lp G hm (fun v3 => ⟨[(2, .ref 16 0), (6, dV v3)], [bX 16 [dV x.Name, dV x.Stops, dV x.Runs]], 48⟩) ?_)
   rintro v3 r0 hb4 hm
   rw [s_l2Line_L2] at hm
   refine Ok_seq (rs G (hN 3 x.Runs h0) ?_)
   refine cd hm (fun hm => ?_) (fun hm => ?_)
   ·refine X_skip (thN (Ok_seq (Ok_block ?_)))
    obtain ⟨e5, h10, hm⟩ := obind hm
    obtain ⟨r7, h11, hm⟩ := obind hm
    refine rs G (hD 3 h10 (hC 5 (s_l1In_c h11) h0)) ?_
    refine cd hm (fun hm => ?_) (fun hm => ?_)
    ·refine rg G ?_
     have hm := eL hm hb4 hr1
     cases hm
     exact rt [] []
    ·exact X_skip (ibN (thN (rh G (wL G hm))))
   ·exact Ok_exit (thE (thE (ibE (wE G hm hb4))))
  rintro ⟨⟩ hm s1 hw1
  refine thN (Ok_weak hw1 ?_)
  refine rg G ?_
  cases hm
  exact rt [] []
noncomputable def s_l2LineNamed_M : MS (Network × ByteArray) Int := ⟨.x .r .r, fun x => s_l2LineNamed x.1 x.2, fun y => dV y, fun _ => [], fun _ _ => []⟩
theorem s_l2LineNamed_c {n name y} (hm : s_l2LineNamed n name = some y) : s_l2LineNamed_M.C (n, name) y := s_l2LineNamed_M.c (n, name) hm
theorem s_l2LineNamed_ok : FnOK Try.prog 303 s_l2LineNamed_M.S := by
 refine fm tt s_l2LineNamed_M [] Try.call303 Try.func303 rfl Try.results303 Try.ntmps303 ?_
 rintro ⟨n, name⟩ y cx G hm
 have hm : s_l2LineNamed n name = some y := hm
 unfold s_l2LineNamed at hm
 refine rg G (Ok_seq (rg G (tF hm (fun _ => ⟨[], [], 32⟩) (fun v1 hr hm => ?_) ?_)))
 ·refine Ok_block (lp G hm (fun v => ⟨[(1, dV name), (2, .ref 16 0), (5, dV v)], [bX 16 [dV n.Stops, dV n.Lines]], 48⟩) ?_)
  rintro v r0 hb hm
  rw [s_l2LineNamed_L1] at hm
  refine Ok_seq (rs G (hN 3 n.Lines h0) ?_)
  refine cd hm (fun hm => ?_) (fun hm => ?_)
  ·refine X_skip (thN (Ok_seq (Ok_block ?_)))
   obtain ⟨e, h, hm⟩ := obind hm
   refine rs G (hD 3 h h0) ?_
   refine cd hm (fun hm => ?_) (fun hm => ?_)
   ·refine rg G ?_
    have hm := eL hm hb hr
    cases hm
    exact rt [] []
   ·exact X_skip (ibN (thN (rh G (wL G hm))))
  ·exact Ok_exit (thE (thE (ibE (wE G hm hb))))
 rintro ⟨⟩ hm s hw
 refine thN (Ok_weak hw ?_)
 refine rg G ?_
 cases hm
 exact rt [] []
noncomputable def s_l2Good_M : MS Network Bool := ⟨.r, s_l2Good, fun y => dV y, fun _ => [], fun _ _ => []⟩
theorem s_l2Good_c {n y} (hm : s_l2Good n = some y) : s_l2Good_M.C n y := s_l2Good_M.c n hm
theorem s_l2Good_ok : FnOK Try.prog 236 s_l2Good_M.S := by
 refine fm tt s_l2Good_M [fo s_l1In_ok, fo s_l2Name_ok, fo s_l2Find_ok, fo s_l2Line_ok, fo s_l2LineNamed_ok] Try.call236 Try.func236 rfl Try.results236 Try.ntmps236 ?_
 rintro n y cx G hm
 have hm : s_l2Good n = some y := hm
 unfold s_l2Good at hm
 refine rg G (Ok_seq ?_)
 obtain ⟨r, h, hm⟩ := obind hm
 refine jn hm (fun v => ⟨[(1, .ref 16 0), (16, dV v)], [bX 16 [dV n.Stops, dV n.Lines]], 48⟩) (fun v hm => ?_) ?_
 ·rcases bf hm with ⟨hb, hm⟩ | ⟨hb, hm⟩
  ·refine re G (hN 2 n.Stops (hC 3 (s_l1In_c h) (hO 5 (.b true) (hP hb h0)))) ?_
   exact wJ G hm
  ·obtain ⟨r1, h1, hm⟩ := obind hm
   refine re G (hN 2 n.Stops (hC 3 (s_l1In_c h) (hO 5 (.b false) (hP hb (hN 8 n.Lines (hC 9 (s_l1In_c h1) h0)))))) ?_
   exact wJ G hm
 rintro v hm
 refine cd hm (fun hm => ?_) (fun hm => ?_)
 ·refine rg G ?_
  cases hm
  exact rt [] []
 ·refine X_skip (thN (Ok_seq (rg G (tF hm (fun _ => ⟨[(1, .ref 16 0)], [bX 16 [dV n.Stops, dV n.Lines]], 48⟩) (fun v5 hr hm => ?_) ?_))))
  ·refine Ok_block (lp G hm (fun i => ⟨[(1, .ref 16 0), (3, dV i)], [bX 16 [dV n.Stops, dV n.Lines]], 48⟩) ?_)
   rintro i r0 hb1 hm
   rw [s_l2Good_L1] at hm
   refine Ok_seq (rs G (hN 3 n.Stops h0) ?_)
   refine cd hm (fun hm => ?_) (fun hm => ?_)
   ·refine X_skip (thN (Ok_seq (Ok_block ?_)))
    obtain ⟨e2, h6, hm⟩ := obind hm
    obtain ⟨r4, h7, hm⟩ := obind hm
    refine jn hm (fun v1 => ⟨[(1, .ref 16 0), (3, dV i), (42, dV v1)], [bX 16 [dV n.Stops, dV n.Lines]], 48⟩) (fun v1 hm => ?_) ?_
    ·rcases bf hm with ⟨hb2, hm⟩ | ⟨hb2, hm⟩
     ·refine de G [] (hD 3 h6 (hC 5 (s_l2Name_c h7) (hO 7 (.b true) (hP hb2 h0)))) ?_
      exact wJ G hm
     ·obtain ⟨e3, h8, hm⟩ := obind hm
      obtain ⟨r5, h9, hm⟩ := obind hm
      refine de G [] (hD 3 h6 (hC 5 (s_l2Name_c h7) (hO 7 (.b false) (hP hb2 (hD 13 h8 (hC 15 (s_l2Find_c h9) h0)))))) ?_
      exact wJ G hm
    rintro v1 hm
    refine cd hm (fun hm => ?_) (fun hm => ?_)
    ·refine rg G ?_
     have hm := eL hm hb1 hr
     cases hm
     exact rt [] []
    ·exact X_skip (ibN (thN (rh G (wL G hm))))
   ·exact Ok_exit (thE (thE (ibE (wE G hm hb1))))
  rintro ⟨⟩ hm s hw
  refine thN (Ok_weak hw ?_)
  refine Ok_seq (rg G (tF hm (fun _ => ⟨[], [], 32⟩) (fun v4 hr1 hm => ?_) ?_))
  ·refine Ok_block (lp G hm (fun v2 => ⟨[(1, .ref 16 0), (4, dV v2)], [bX 16 [dV n.Stops, dV n.Lines]], 48⟩) ?_)
   rintro v2 r0 hb3 hm
   rw [s_l2Good_L2] at hm
   refine Ok_seq (rs G (hN 3 n.Lines h0) ?_)
   refine cd hm (fun hm => ?_) (fun hm => ?_)
   ·refine X_skip (thN (Ok_seq (Ok_block ?_)))
    obtain ⟨e7, h14, hm⟩ := obind hm
    obtain ⟨r9, h15, hm⟩ := obind hm
    refine jn hm (fun v3 => ⟨[(1, .ref 16 0), (4, dV v2), (71, dV v3)], [bX 16 [dV n.Stops, dV n.Lines]], 48⟩) (fun v3 hm => ?_) ?_
    ·rcases bf hm with ⟨hb4, hm⟩ | ⟨hb4, hm⟩
     ·refine de G [] (hD 3 h14 (hN 7 n.Stops (hC 8 (s_l2Line_c h15) (hO 10 (.b true) (hP hb4 h0))))) ?_
      exact wJ G hm
     ·obtain ⟨e8, h16, hm⟩ := obind hm
      obtain ⟨r10, h17, hm⟩ := obind hm
      refine de G [] (hD 3 h14 (hN 7 n.Stops (hC 8 (s_l2Line_c h15) (hO 10 (.b false) (hP hb4 (hD 15 h16 (hC 18 (s_l2LineNamed_c h17) h0))))))) ?_
      exact wJ G hm
    rintro v3 hm
    refine cd hm (fun hm => ?_) (fun hm => ?_)
    ·refine rg G ?_
     have hm := eL hm hb3 hr1
     cases hm
     exact rt [] []
    ·exact X_skip (ibN (thN (rh G (wL G hm))))
   ·exact Ok_exit (thE (thE (ibE (wE G hm hb3))))
  rintro ⟨⟩ hm s1 hw1
  refine thN (Ok_weak hw1 ?_)
  refine rg G ?_
  cases hm
  exact rt [] []
noncomputable def s_l7Good_M : MS (Network × (List Walk)) Bool := ⟨.x .r .r, fun x => s_l7Good x.1 x.2, fun y => dV y, fun _ => [], fun _ _ => []⟩
theorem s_l7Good_c {n list y} (hm : s_l7Good n list = some y) : s_l7Good_M.C (n, list) y := s_l7Good_M.c (n, list) hm
theorem s_l7Good_ok : FnOK Try.prog 113 s_l7Good_M.S := by
 refine fm tt s_l7Good_M [fo s_l2Good_ok, fo s_l1In_ok] Try.call113 Try.func113 rfl Try.results113 Try.ntmps113 ?_
 rintro ⟨n, list⟩ y cx G hm
 have hm : s_l7Good n list = some y := hm
 unfold s_l7Good at hm
 refine rg G (Ok_seq ?_)
 obtain ⟨r, h, hm⟩ := obind hm
 refine jn hm (fun v => ⟨[(1, dV list), (2, .ref 16 0), (14, dV v)], [bX 16 [dV n.Stops, dV n.Lines]], 48⟩) (fun v hm => ?_) ?_
 ·rcases bf hm with ⟨hb, hm⟩ | ⟨hb, hm⟩
  ·refine re G (hC 1 (s_l2Good_c h) (hO 3 (.b true) (hP hb h0))) ?_
   exact wJ G hm
  ·refine re G (hC 1 (s_l2Good_c h) (hO 3 (.b false) (hP hb (hN 5 list h0)))) ?_
   exact wJ G hm
 rintro v hm
 refine cd hm (fun hm => ?_) (fun hm => ?_)
 ·refine rg G ?_
  cases hm
  exact rt [] []
 ·refine X_skip (thN (Ok_seq (rg G (tF hm (fun _ => ⟨[], [], 32⟩) (fun v4 hr hm => ?_) ?_))))
  ·refine Ok_block (lp G hm (fun v1 => ⟨[(1, dV list), (2, .ref 16 0), (5, dV v1)], [bX 16 [dV n.Stops, dV n.Lines]], 48⟩) ?_)
   rintro v1 r0 hb1 hm
   rw [s_l7Good_L1] at hm
   refine Ok_seq (rs G (hN 2 list h0) ?_)
   refine cd hm (fun hm => ?_) (fun hm => ?_)
   ·refine X_skip (thN (Ok_seq (Ok_block ?_)))
    obtain ⟨e, h1, hm⟩ := obind hm
    refine rs G (hD 2 h1 h0) ?_
    refine Ok_seq ?_
    obtain ⟨r1, h2, hm⟩ := obind hm
    refine jn hm (fun v2 => ⟨[(1, dV list), (2, .ref 16 0), (5, dV v1), (6, .ref 32 0), (47, dV v2)], [bX 16 [dV n.Stops, dV n.Lines], bX 32 [dV e.A, dV e.B, dV e.Minutes]], 64⟩) (fun v2 hm => ?_) ?_
    ·rcases bf hm with ⟨hb2, hm⟩ | ⟨hb2, hm⟩
     ·refine re G (hN 4 n.Stops (hC 6 (s_l1In_c h2) (hO 8 (.b true) (hP hb2 h0)))) ?_
      exact wJ G hm
     ·obtain ⟨r2, h3, hm⟩ := obind hm
      rcases bf hm with ⟨hb3, hm⟩ | ⟨hb3, hm⟩
      ·refine re G (hN 4 n.Stops (hC 6 (s_l1In_c h2) (hO 8 (.b false) (hP hb2 (hC 14 (s_l1In_c h3) (hO 17 (.b true) (hP hb3 h0))))))) ?_
       exact wJ G hm
      ·obtain ⟨r3, h4, hm⟩ := obind hm
       refine re G (hN 4 n.Stops (hC 6 (s_l1In_c h2) (hO 8 (.b false) (hP hb2 (hC 14 (s_l1In_c h3) (hO 17 (.b false) (hP hb3 (hC 20 (s_l1In_c h4) h0)))))))) ?_
       exact wJ G hm
    rintro v2 hm
    refine cd hm (fun hm => ?_) (fun hm => ?_)
    ·refine rg G ?_
     have hm := eL hm hb1 hr
     cases hm
     exact rt [] []
    ·refine X_skip (thN (jn hm (fun v3 => ⟨[(1, dV list), (2, .ref 16 0), (5, dV v1), (82, dV v3)], [bX 16 [dV n.Stops, dV n.Lines]], 48⟩) (fun v3 hm => ?_) ?_))
     ·rcases bf hm with ⟨hb4, hm⟩ | ⟨hb4, hm⟩
      ·obtain ⟨e5, h8, hm⟩ := obind hm
       rcases bf hm with ⟨hb5, hm⟩ | ⟨hb5, hm⟩
       ·refine de G [] (hO 2 (.b true) (hP hb4 (hD 6 h8 (hO 12 (.b true) (hP hb5 h0))))) ?_
        exact wJ G hm
       ·obtain ⟨e6, h9, hm⟩ := obind hm
        rcases bf hm with ⟨hb6, hm⟩ | ⟨hb6, hm⟩
        ·obtain ⟨e7, h10, hm⟩ := obind hm
         refine de G [] (hO 2 (.b true) (hP hb4 (hD 6 h8 (hO 12 (.b false) (hP hb5 (hD 16 h9 (hO 22 (.b true) (hP hb6 (hD 26 h10 h0))))))))) ?_
         exact wJ G hm
        ·refine de G [] (hO 2 (.b true) (hP hb4 (hD 6 h8 (hO 12 (.b false) (hP hb5 (hD 16 h9 (hO 22 (.b false) (hP hb6 h0)))))))) ?_
         exact wJ G hm
      ·refine de G [] (hO 2 (.b false) (hP hb4 h0)) ?_
       exact wJ G hm
     rintro v3 hm
     refine cd hm (fun hm => ?_) (fun hm => ?_)
     ·refine rg G ?_
      have hm := eL hm hb1 hr
      cases hm
      exact rt [] []
     ·exact X_skip (ibN (thN (rh G (wL G hm))))
   ·exact Ok_exit (thE (thE (ibE (wE G hm hb1))))
  rintro ⟨⟩ hm s hw
  refine thN (Ok_weak hw ?_)
  refine rg G ?_
  cases hm
  exact rt [] []
noncomputable def s_l7Times_M : MS (Int × (List Walk) × Int) ((List Int)) := ⟨.x .r (.x .r .r), fun x => s_l7Times x.1 x.2.1 x.2.2, fun _ => .own 0, fun y => [arO 3 y], fun _ _ => []⟩
theorem s_l7Times_c {stops list stop y} (hm : s_l7Times stops list stop = some y) : s_l7Times_M.C (stops, list, stop) y := s_l7Times_M.c (stops, list, stop) hm
theorem s_l7Times_ok : FnOK Try.prog 114 s_l7Times_M.S := by
 refine fm tt s_l7Times_M [] Try.call114 Try.func114 rfl Try.results114 Try.ntmps114 ?_
 rintro ⟨stops, list, stop⟩ y cx G hm
 have hm : s_l7Times stops list stop = some y := hm
 unfold s_l7Times at hm
 refine rg G (rg G (Ok_seq (rg G (tl hm (fun i1 => ⟨[(1, dV list), (2, dV stop), (7, .own 16)], [aX 16 3 i1], 48⟩) (fun i1 hm => ?_) ?_))))
 ·refine Ok_block (lp G hm (fun (a, i) => ⟨[(0, dV stops), (1, dV list), (2, dV stop), (7, .own 16), (8, dV a)], [aX 16 3 i], 48⟩) ?_)
  rintro ⟨a, i⟩ r0 hb hm
  rw [s_l7Times_L1] at hm
  refine Ok_seq (rg G (cd hm (fun hm => ?_) (fun hm => ?_)))
  ·refine X_skip (thN (Ok_seq (Ok_block ?_)))
   obtain ⟨u, h, hm⟩ := obind hm
   refine re G (hA 2 8 h h0) ?_
   exact ibN (thN (rh G (wL G hm)))
  ·exact Ok_exit (thE (thE (ibE (wD G hm hb))))
 rintro i1 hm s hw
 refine thN (Ok_weak hw ?_)
 obtain ⟨e, h1, hm⟩ := obind hm
 refine rs G (hD 2 h1 (hS 3 h1 0 h0)) ?_
 refine Ok_seq (rg G (tl hm (fun i8 => ⟨[(7, .own 16)], [aX 16 3 i8], 48⟩) (fun i8 hm => ?_) ?_))
 ·refine Ok_block (lp G hm (fun (b, i2) => ⟨[(1, dV list), (7, .own 16), (9, dV b)], [aX 16 3 i2], 48⟩) ?_)
  rintro ⟨b, i2⟩ r0 hb1 hm
  rw [s_l7Times_L4] at hm
  refine Ok_seq (rg G (cd hm (fun hm => ?_) (fun hm => ?_)))
  ·refine X_skip (thN (Ok_block (rg G (rg G (tl hm (fun (b5, i7) => ⟨[(1, dV list), (7, .own 16), (9, dV b5)], [aX 16 3 i7], 48⟩) (fun vv2 hm => ?_) ?_)))))
   ·refine Ok_block (lp G hm (fun (b1, turn, i3) => ⟨[(1, dV list), (7, .own 16), (9, dV b1), (10, dV turn)], [aX 16 3 i3], 48⟩) ?_)
    rintro ⟨b1, turn, i3⟩ r0 hb2 hm
    rw [s_l7Times_L3] at hm
    refine Ok_seq (rs G (hN 2 list h0) ?_)
    refine cd hm (fun hm => ?_) (fun hm => ?_)
    ·refine X_skip (thN (Ok_seq (Ok_block ?_)))
     obtain ⟨e3, h4, hm⟩ := obind hm
     obtain ⟨e4, h5, hm⟩ := obind hm
     refine ds G [] (hD 2 h4 (hD 7 h5 h0)) ?_
     refine rg G (tl hm (fun (b4, i6) => ⟨[(1, dV list), (7, .own 16), (9, dV b4), (10, dV turn)], [aX 16 3 i6], 48⟩) (fun vv1 hm => ?_) ?_)
     ·refine Ok_block (lp G hm (fun (b2, v, v1, v2, i4) => ⟨[(1, dV list), (7, .own 16), (9, dV b2), (10, dV turn), (11, dV v), (12, dV v1), (13, dV v2)], [aX 16 3 i4], 48⟩) ?_)
      rintro ⟨b2, v, v1, v2, i4⟩ r0 hb3 hm
      rw [s_l7Times_L2] at hm
      refine Ok_seq (rg G (cd hm (fun hm => ?_) (fun hm => ?_)))
      ·refine X_skip (thN (Ok_seq (Ok_block (jn hm (fun (b3, i5) => ⟨[(1, dV list), (7, .own 16), (9, dV b3), (10, dV turn), (13, dV v2)], [aX 16 3 i5], 48⟩) (fun vv hm => ?_) ?_))))
       ·obtain ⟨e10, h11, hm⟩ := obind hm
        refine jn hm (fun v3 => ⟨[(1, dV list), (7, .own 16), (9, dV b2), (10, dV turn), (11, dV v), (12, dV v1), (13, dV v2), (75, dV v3)], [aX 16 3 i4], 48⟩) (fun v3 hm => ?_) ?_
        ·rcases bf hm with ⟨hb4, hm⟩ | ⟨hb4, hm⟩
         ·obtain ⟨e11, h12, hm⟩ := obind hm
          rcases bf hm with ⟨hb5, hm⟩ | ⟨hb5, hm⟩
          ·refine de G [] (hD 2 h11 (hE 3 h11 (hO 5 (.b true) (hP hb4 (hD 8 h12 (hE 9 h12 (hO 11 (.b true) (hP hb5 h0)))))))) ?_
           exact wJ G hm
          ·obtain ⟨e12, h13, hm⟩ := obind hm
           obtain ⟨e13, h14, hm⟩ := obind hm
           obtain ⟨e14, h15, hm⟩ := obind hm
           refine de G [] (hD 2 h11 (hE 3 h11 (hO 5 (.b true) (hP hb4 (hD 8 h12 (hE 9 h12 (hO 11 (.b false) (hP hb5 (hD 14 h13 (hE 15 h13 (hD 18 h14 (hD 24 h15 (hE 25 h15 h0))))))))))))) ?_
           exact wJ G hm
         ·refine de G [] (hD 2 h11 (hE 3 h11 (hO 5 (.b false) (hP hb4 h0)))) ?_
          exact wJ G hm
        rintro v3 hm
        refine cd hm (fun hm => ?_) (fun hm => ?_)
        ·obtain ⟨e18, h19, hm⟩ := obind hm
         obtain ⟨e19, h20, hm⟩ := obind hm
         obtain ⟨e20, h21, hm⟩ := obind hm
         refine ds G [(13, [16])] (hD 4 h19 (hE 5 h19 (hD 8 h20 (hD 12 h21 (hS 13 h21 (w64 (e18 + e19.Minutes)) h0))))) ?_
         exact rh G (wJ G hm)
        ·exact X_skip (wJ G hm)
       rintro ⟨b3, i5⟩ hm
       obtain ⟨e21, h22, hm⟩ := obind hm
       refine rs G (hD 2 h22 h0) ?_
       obtain ⟨e22, h23, hm⟩ := obind hm
       refine re G (hD 2 h23 h0) ?_
       exact ibN (thN (rh G (wL G hm)))
      ·exact Ok_exit (thE (thE (ibE (wD G hm hb3))))
     rintro ⟨b4, i6⟩ hm s1 hw1
     refine ibN (thN (Ok_weak hw1 ?_))
     exact rh G (wL G hm)
    ·exact Ok_exit (thE (thE (ibE (wD G hm hb2))))
   rintro ⟨b5, i7⟩ hm s2 hw2
   exact ibN (wLp hm (Wk.trans hw2 (Wk_J G.hL ⟨[(1, []), (7, []), (9, [])], [(16, 16, [])], [], 48⟩ (by kernel_rfl))))
  ·exact Ok_exit (thE (thE (ibE (wD G hm hb1))))
 rintro i8 hm s3 hw3
 refine thN (Ok_weak hw3 ?_)
 refine rg G ?_
 cases hm
 exact rt [16] []
noncomputable def s_WalkingTimes_M : MS (Network × (List Walk) × Int) ((List Int) × Bool) := ⟨.x .r (.x .r .r), fun x => s_WalkingTimes x.1 x.2.1 x.2.2, fun y => .tup [.own 0, dV y.2], fun y => [arO 3 y.1], fun _ _ => []⟩
theorem s_WalkingTimes_c {n list stop y} (hm : s_WalkingTimes n list stop = some y) : s_WalkingTimes_M.C (n, list, stop) y := s_WalkingTimes_M.c (n, list, stop) hm
theorem s_WalkingTimes_ok : FnOK Try.prog 18 s_WalkingTimes_M.S := by
 refine fm tt s_WalkingTimes_M [fo s_l7Good_ok, fo s_l1In_ok, fo s_l7Times_ok] Try.call18 Try.func18 rfl Try.results18 Try.ntmps18 ?_
 rintro ⟨n, list, stop⟩ y cx G hm
 have hm : s_WalkingTimes n list stop = some y := hm
 unfold s_WalkingTimes at hm
 refine rg G (Ok_seq ?_)
 obtain ⟨r, h, hm⟩ := obind hm
 refine jn hm (fun v => ⟨[(1, dV list), (2, dV stop), (3, .ref 16 0), (20, dV v)], [bX 16 [dV n.Stops, dV n.Lines]], 48⟩) (fun v hm => ?_) ?_
 ·rcases bf hm with ⟨hb, hm⟩ | ⟨hb, hm⟩
  ·refine re G (hC 2 (s_l7Good_c h) (hO 4 (.b true) (hP hb h0))) ?_
   exact wJ G hm
  ·obtain ⟨r1, h1, hm⟩ := obind hm
   refine re G (hC 2 (s_l7Good_c h) (hO 4 (.b false) (hP hb (hN 8 n.Stops (hC 10 (s_l1In_c h1) h0))))) ?_
   exact wJ G hm
 rintro v hm
 refine cd hm (fun hm => ?_) (fun hm => ?_)
 ·refine rg G ?_
  cases hm
  exact rt [48] []
 ·refine X_skip (thN ?_)
  obtain ⟨r2, h2, hm⟩ := obind hm
  refine rs G (hN 2 n.Stops (hC 5 (s_l7Times_c h2) h0)) ?_
  cases hm
  exact rt [128] []
noncomputable def s_l1Least_M : MS (Int × Int) Int := ⟨.x .r .r, fun x => s_l1Least x.1 x.2, fun y => dV y, fun _ => [], fun _ _ => []⟩
theorem s_l1Least_c {a b y} (hm : s_l1Least a b = some y) : s_l1Least_M.C (a, b) y := s_l1Least_M.c (a, b) hm
theorem s_l1Least_ok : FnOK Try.prog 183 s_l1Least_M.S := by
 refine fm tt s_l1Least_M [] Try.call183 Try.func183 rfl Try.results183 Try.ntmps183 ?_
 rintro ⟨a, b⟩ y cx G hm
 have hm : s_l1Least a b = some y := hm
 unfold s_l1Least at hm
 refine rg G (Ok_seq (rg G (cd hm (fun hm => ?_) (fun hm => ?_))))
 ·refine rg G ?_
  cases hm
  exact rt [] []
 ·refine X_skip (thN (rg G ?_))
  cases hm
  exact rt [] []
noncomputable def s_l1Most_M : MS (Int × Int) Int := ⟨.x .r .r, fun x => s_l1Most x.1 x.2, fun y => dV y, fun _ => [], fun _ _ => []⟩
theorem s_l1Most_c {a b y} (hm : s_l1Most a b = some y) : s_l1Most_M.C (a, b) y := s_l1Most_M.c (a, b) hm
theorem s_l1Most_ok : FnOK Try.prog 203 s_l1Most_M.S := by
 refine fm tt s_l1Most_M [] Try.call203 Try.func203 rfl Try.results203 Try.ntmps203 ?_
 rintro ⟨a, b⟩ y cx G hm
 have hm : s_l1Most a b = some y := hm
 unfold s_l1Most at hm
 refine rg G (Ok_seq (rg G (cd hm (fun hm => ?_) (fun hm => ?_))))
 ·refine rg G ?_
  cases hm
  exact rt [] []
 ·refine X_skip (thN (rg G ?_))
  cases hm
  exact rt [] []
noncomputable def s_l7Minutes_M : MS ((List Walk) × Int × Int) Int := ⟨.x .r (.x .r .r), fun x => s_l7Minutes x.1 x.2.1 x.2.2, fun y => dV y, fun _ => [], fun _ _ => []⟩
theorem s_l7Minutes_c {list a b y} (hm : s_l7Minutes list a b = some y) : s_l7Minutes_M.C (list, a, b) y := s_l7Minutes_M.c (list, a, b) hm
theorem s_l7Minutes_ok : FnOK Try.prog 233 s_l7Minutes_M.S := by
 refine fm tt s_l7Minutes_M [fo s_l1Least_ok, fo s_l1Most_ok] Try.call233 Try.func233 rfl Try.results233 Try.ntmps233 ?_
 rintro ⟨list, a, b⟩ y cx G hm
 have hm : s_l7Minutes list a b = some y := hm
 unfold s_l7Minutes at hm
 refine rg G (Ok_seq (rg G (tF hm (fun _ => ⟨[], [], 32⟩) (fun v2 hr hm => ?_) ?_)))
 ·refine Ok_block (lp G hm (fun v => ⟨[(0, dV list), (1, dV a), (2, dV b), (7, dV v)], [], 32⟩) ?_)
  rintro v r0 hb hm
  rw [s_l7Minutes_L1] at hm
  refine Ok_seq (rs G (hN 2 list h0) ?_)
  refine cd hm (fun hm => ?_) (fun hm => ?_)
  ·refine X_skip (thN (Ok_seq (Ok_block ?_)))
   obtain ⟨e2, h4, hm⟩ := obind hm
   obtain ⟨r2, h5, hm⟩ := obind hm
   refine jn hm (fun v1 => ⟨[(0, dV list), (1, dV a), (2, dV b), (7, dV v), (33, dV v1)], [], 32⟩) (fun v1 hm => ?_) ?_
   ·rcases bf hm with ⟨hb1, hm⟩ | ⟨hb1, hm⟩
    ·obtain ⟨e3, h6, hm⟩ := obind hm
     obtain ⟨r3, h7, hm⟩ := obind hm
     refine de G [] (hD 2 h4 (hC 7 (s_l1Least_c h5) (hO 9 (.b true) (hP hb1 (hD 12 h6 (hC 17 (s_l1Most_c h7) h0)))))) ?_
     exact wJ G hm
    ·refine de G [] (hD 2 h4 (hC 7 (s_l1Least_c h5) (hO 9 (.b false) (hP hb1 h0)))) ?_
     exact wJ G hm
   rintro v1 hm
   refine cd hm (fun hm => ?_) (fun hm => ?_)
   ·obtain ⟨e4, h8, hm⟩ := obind hm
    refine rs G (hD 2 h8 h0) ?_
    have hm := eL hm hb hr
    cases hm
    exact rt [] []
   ·exact X_skip (ibN (thN (rh G (wL G hm))))
  ·exact Ok_exit (thE (thE (ibE (wE G hm hb))))
 rintro ⟨⟩ hm s hw
 refine thN (Ok_weak hw ?_)
 refine rg G ?_
 cases hm
 exact rt [] []
noncomputable def s_l1Has_M : MS ((List Int) × Int) Bool := ⟨.x .r .r, fun x => s_l1Has x.1 x.2, fun y => dV y, fun _ => [], fun _ _ => []⟩
theorem s_l1Has_c {l n y} (hm : s_l1Has l n = some y) : s_l1Has_M.C (l, n) y := s_l1Has_M.c (l, n) hm
theorem s_l1Has_ok : FnOK Try.prog 234 s_l1Has_M.S := by
 refine fm tt s_l1Has_M [] Try.call234 Try.func234 rfl Try.results234 Try.ntmps234 ?_
 rintro ⟨l, n⟩ y cx G hm
 have hm : s_l1Has l n = some y := hm
 unfold s_l1Has at hm
 refine rg G (Ok_seq (rg G (tF hm (fun _ => ⟨[], [], 32⟩) (fun v1 hr hm => ?_) ?_)))
 ·refine Ok_block (lp G hm (fun v => ⟨[(0, dV l), (1, dV n), (5, dV v)], [], 32⟩) ?_)
  rintro v r0 hb hm
  rw [s_l1Has_L1] at hm
  refine Ok_seq (rs G (hN 2 l h0) ?_)
  refine cd hm (fun hm => ?_) (fun hm => ?_)
  ·refine X_skip (thN (Ok_seq (Ok_block ?_)))
   obtain ⟨e, h, hm⟩ := obind hm
   refine rs G (hD 2 h h0) ?_
   refine cd hm (fun hm => ?_) (fun hm => ?_)
   ·refine rg G ?_
    have hm := eL hm hb hr
    cases hm
    exact rt [] []
   ·exact X_skip (ibN (thN (rh G (wL G hm))))
  ·exact Ok_exit (thE (thE (ibE (wE G hm hb))))
 rintro ⟨⟩ hm s hw
 refine thN (Ok_weak hw ?_)
 refine rg G ?_
 cases hm
 exact rt [] []
noncomputable def s_l7Way_m_MR (rec_ : Int → (List Walk) → (List Int) → Int → Int → Int → Option ((List Int))) : MS (Int × (List Walk) × (List Int) × Int × Int × Int) ((List Int)) := ⟨.x .r (.x .r (.x (.m 3) (.x .r (.x .r .r)))), fun x => rec_ x.1 x.2.1 x.2.2.1 x.2.2.2.1 x.2.2.2.2.1 x.2.2.2.2.2, fun _ => .own 0, fun y => [arO 3 y], fun _ _ => []⟩
noncomputable def s_l7Way_m_M : MS (Int × (List Walk) × (List Int) × Int × Int × Int) ((List Int)) := s_l7Way_m_MR s_l7Way_m
theorem s_l7Way_m_c {stops list way to more minutes y} (hm : s_l7Way_m stops list way to more minutes = some y) : s_l7Way_m_M.C (stops, list, way, to, more, minutes) y := s_l7Way_m_M.c (stops, list, way, to, more, minutes) hm
theorem s_l7Way_m_cR {rec_ : Int → (List Walk) → (List Int) → Int → Int → Int → Option ((List Int))} {stops list way to more minutes y} (hm : rec_ stops list way to more minutes = some y) : (s_l7Way_m_MR rec_).C (stops, list, way, to, more, minutes) y := (s_l7Way_m_MR rec_).c (stops, list, way, to, more, minutes) hm
theorem s_l7Way_m_okF {rec_ : Int → (List Walk) → (List Int) → Int → Int → Int → Option ((List Int))} (hrec : FnOK Try.prog 112 (s_l7Way_m_MR rec_).S) : FnOK Try.prog 112 (s_l7Way_m_MR (s_l7Way_m_F rec_)).S := by
 refine fm tt (s_l7Way_m_MR (s_l7Way_m_F rec_)) [fo hrec, fo s_l7Minutes_ok, fo s_l1Has_ok, fo s_l1Own_ok] Try.call112 Try.func112 rfl Try.results112 Try.ntmps112 ?_
 rintro ⟨stops, list, way, to, more, minutes⟩ y cx G hm
 have hm : s_l7Way_m_F rec_ stops list way to more minutes = some y := hm
 unfold s_l7Way_m_F at hm
 refine rg G ?_
 obtain ⟨e, h, hm⟩ := obind hm
 refine rs G (hN 2 way (hD 4 h (hE 5 h h0))) ?_
 refine Ok_seq (rg G (cd hm (fun hm => ?_) (fun hm => ?_)))
 ·refine Ok_seq (jn hm (fun v => ⟨[(2, .own 16), (31, dV v)], [aX 16 3 way], 48⟩) (fun v hm => ?_) ?_)
  ·rcases bf hm with ⟨hb, hm⟩ | ⟨hb, hm⟩
   ·refine re G (hO 3 (.b true) (hP hb h0)) ?_
    exact wJ G hm
   ·refine re G (hO 3 (.b false) (hP hb h0)) ?_
    exact wJ G hm
  rintro v hm
  refine cd hm (fun hm => ?_) (fun hm => ?_)
  ·refine rg G ?_
   cases hm
   exact rt [16] []
  ·refine X_skip (thN (rg G ?_))
   cases hm
   exact rt [48] []
 ·refine X_skip (thN (Ok_seq (rg G (tF hm (fun _ => ⟨[], [], 32⟩) (fun v4 hr hm => ?_) ?_))))
  ·refine Ok_block (lp G hm (fun v1 => ⟨[(0, dV stops), (1, dV list), (2, .own 16), (3, dV to), (4, dV more), (5, dV minutes), (13, dV e), (14, dV v1)], [aX 16 3 way], 48⟩) ?_)
   rintro v1 r0 hb1 hm
   rw [s_l7Way_m_L1] at hm
   refine Ok_seq (rg G (cd hm (fun hm => ?_) (fun hm => ?_)))
   ·refine X_skip (thN (jF hm (fun _ => ⟨[(0, dV stops), (1, dV list), (2, .own 16), (3, dV to), (4, dV more), (5, dV minutes), (13, dV e), (14, dV v1)], [aX 16 3 way], 48⟩) (fun v3 hr1 hm => ?_) ?_))
    ·refine Ok_block ?_
     obtain ⟨r, h1, hm⟩ := obind hm
     refine rs G (hC 3 (s_l7Minutes_c h1) h0) ?_
     refine Ok_seq (jn hm (fun v2 => ⟨[(0, dV stops), (1, dV list), (2, .own 16), (3, dV to), (4, dV more), (5, dV minutes), (13, dV e), (14, dV v1), (15, dV r), (54, dV v2)], [aX 16 3 way], 48⟩) (fun v2 hm => ?_) ?_)
     ·rcases bf hm with ⟨hb2, hm⟩ | ⟨hb2, hm⟩
      ·refine re G (hO 2 (.b true) (hP hb2 h0)) ?_
       exact wJ G hm
      ·rcases bf hm with ⟨hb3, hm⟩ | ⟨hb3, hm⟩
       ·refine re G (hO 2 (.b false) (hP hb2 (hO 7 (.b true) (hP hb3 h0)))) ?_
        exact wJ G hm
       ·obtain ⟨r1, h2, hm⟩ := obind hm
        refine re G (hO 2 (.b false) (hP hb2 (hO 7 (.b false) (hP hb3 (hC 10 (s_l1Has_c h2) h0))))) ?_
        exact wJ G hm
     rintro v2 hm
     refine cd hm (fun hm => ?_) (fun hm => ?_)
     ·exact Ok_exit (thE (ibE (wF G hm)))
     ·refine X_skip (thN ?_)
      obtain ⟨r2, h3, hm⟩ := obind hm
      obtain ⟨u, h4, hm⟩ := obind hm
      obtain ⟨r3, h5, hm⟩ := obind hm
      refine rs G (hF 3 (s_l1Own_c h3) ⟨(flat_cons flat_arr flat_nil), flat_nil⟩ (hA 6 8 h4 (hC 13 (s_l7Way_m_cR h5) h0))) ?_
      refine rs G (hN 1 r3 h0) ?_
      refine cd hm (fun hm => ?_) (fun hm => ?_)
      ·refine rg G ?_
       have hm := eR hm hr1
       have hm := eL hm hb1 hr
       cases hm
       exact rt [256] []
      ·exact X_skip (ibN (wF G hm))
    rintro ⟨⟩ hm
    exact rh G (wL G hm)
   ·exact Ok_exit (thE (thE (ibE (wE G hm hb1))))
  rintro ⟨⟩ hm s hw
  refine thN (Ok_weak hw ?_)
  refine rg G ?_
  cases hm
  exact rt [32] []
theorem s_l7Way_m_okn : ∀ k, FnOK Try.prog 112 (s_l7Way_m_MR (s_l7Way_m_k k)).S
 | 0 => ⟨fun args w => Try.call112 args w, fun vs w F ds obs κ hp => by obtain ⟨x, y, _, _, h⟩ := hp; cases h⟩
 | k + 1 => s_l7Way_m_okF (s_l7Way_m_okn k)
theorem s_l7Way_m_ok : FnOK Try.prog 112 s_l7Way_m_M.S := s_l7Way_m_okn 4294967296
noncomputable def s_ShortestWalk_M : MS (Network × (List Walk) × Int × Int) ((List Int) × Bool) := ⟨.x .r (.x .r (.x .r .r)), fun x => s_ShortestWalk x.1 x.2.1 x.2.2.1 x.2.2.2, fun y => .tup [.own 0, dV y.2], fun y => [arO 3 y.1], fun _ _ => []⟩
theorem s_ShortestWalk_c {n list from_ to y} (hm : s_ShortestWalk n list from_ to = some y) : s_ShortestWalk_M.C (n, list, from_, to) y := s_ShortestWalk_M.c (n, list, from_, to) hm
theorem s_ShortestWalk_ok : FnOK Try.prog 15 s_ShortestWalk_M.S := by
 refine fm tt s_ShortestWalk_M [fo s_WalkingTimes_ok, fo s_l1In_ok, fo s_l7Way_m_ok] Try.call15 Try.func15 rfl Try.results15 Try.ntmps15 ?_
 rintro ⟨n, list, from_, to⟩ y cx G hm
 have hm : s_ShortestWalk n list from_ to = some y := hm
 unfold s_ShortestWalk at hm
 refine rg G ?_
 obtain ⟨r, h, hm⟩ := obind hm
 refine rs G (hC 3 (s_WalkingTimes_c h) h0) ?_
 refine Ok_seq (jn hm (fun v => ⟨[(1, dV list), (2, dV from_), (3, dV to), (4, .ref 16 0), (10, .own 32), (38, dV v)], [bX 16 [dV n.Stops, dV n.Lines], aX 32 3 r.1], 64⟩) (fun v hm => ?_) ?_)
 ·rcases bf hm with ⟨hb, hm⟩ | ⟨hb, hm⟩
  ·refine re G (hO 2 (.b true) (hP hb h0)) ?_
   exact wJ G hm
  ·obtain ⟨r1, h1, hm⟩ := obind hm
   rcases bf hm with ⟨hb1, hm⟩ | ⟨hb1, hm⟩
   ·refine re G (hO 2 (.b false) (hP hb (hN 6 n.Stops (hC 8 (s_l1In_c h1) (hO 11 (.b true) (hP hb1 h0)))))) ?_
    exact wJ G hm
   ·obtain ⟨e, h2, hm⟩ := obind hm
    refine re G (hO 2 (.b false) (hP hb (hN 6 n.Stops (hC 8 (s_l1In_c h1) (hO 11 (.b false) (hP hb1 (hD 14 h2 (hE 15 h2 h0)))))))) ?_
    exact wJ G hm
 rintro v hm
 refine cd hm (fun hm => ?_) (fun hm => ?_)
 ·refine rg G ?_
  cases hm
  exact rt [64] []
 ·refine X_skip (thN (rg G (Ok_block (lp G hm (fun v1 => ⟨[(1, dV list), (2, dV from_), (3, dV to), (4, .ref 16 0), (10, .own 32), (12, dV v1)], [bX 16 [dV n.Stops, dV n.Lines], aX 32 3 r.1], 64⟩) ?_))))
  rintro v1 r0 hb2 hm
  rw [s_ShortestWalk_L1] at hm
  refine Ok_seq (Ok_block ?_)
  obtain ⟨e2, h5, hm⟩ := obind hm
  obtain ⟨r3, h6, hm⟩ := obind hm
  refine ds G [(12, [144])] (hN 2 n.Stops (hD 10 h5 (hE 11 h5 (hC 12 (s_l7Way_m_c h6) h0)))) ?_
  refine rs G (hN 1 r3 h0) ?_
  refine cd hm (fun hm => ?_) (fun hm => ?_)
  ·refine rg G ?_
   have hm := eD hm hb2
   cases hm
   exact rt [256] []
  ·exact X_skip (ibN (thN (rh G (wL G hm))))
noncomputable def v_rInts_M : MS ((List Int) × (List Int)) Bool := ⟨.x .r .r, fun x => v_rInts x.1 x.2, fun y => dV y, fun _ => [], fun _ _ => []⟩
theorem v_rInts_c {a b y} (hm : v_rInts a b = some y) : v_rInts_M.C (a, b) y := v_rInts_M.c (a, b) hm
theorem v_rInts_ok : FnOK Try.prog 16 v_rInts_M.S := by
 refine fm tt v_rInts_M [] Try.call16 Try.func16 rfl Try.results16 Try.ntmps16 ?_
 rintro ⟨a, b⟩ y cx G hm
 have hm : v_rInts a b = some y := hm
 unfold v_rInts at hm
 refine rg G (Ok_seq (rs G (hN 1 a (hN 3 b h0)) ?_))
 refine cd hm (fun hm => ?_) (fun hm => ?_)
 ·refine rg G ?_
  cases hm
  exact rt [] []
 ·refine X_skip (thN (Ok_seq (rg G (tF hm (fun _ => ⟨[], [], 32⟩) (fun v1 hr hm => ?_) ?_))))
  ·refine Ok_block (lp G hm (fun v => ⟨[(0, dV a), (1, dV b), (5, dV v)], [], 32⟩) ?_)
   rintro v r0 hb hm
   rw [v_rInts_L1] at hm
   refine Ok_seq (rs G (hN 2 a h0) ?_)
   refine cd hm (fun hm => ?_) (fun hm => ?_)
   ·refine X_skip (thN (Ok_seq (Ok_block ?_)))
    obtain ⟨e2, h2, hm⟩ := obind hm
    obtain ⟨e3, h3, hm⟩ := obind hm
    refine ds G [] (hD 2 h2 (hD 6 h3 h0)) ?_
    refine cd hm (fun hm => ?_) (fun hm => ?_)
    ·refine rg G ?_
     have hm := eL hm hb hr
     cases hm
     exact rt [] []
    ·exact X_skip (ibN (thN (rh G (wL G hm))))
   ·exact Ok_exit (thE (thE (ibE (wE G hm hb))))
  rintro ⟨⟩ hm s hw
  refine thN (Ok_weak hw ?_)
  refine rg G ?_
  cases hm
  exact rt [] []
noncomputable def i_WalkingTimes_M : MS (Network × (List Walk) × Int) ((List Int) × Bool) := ⟨.x .r (.x .r .r), fun x => i_WalkingTimes x.1 x.2.1 x.2.2, fun y => .tup [dV y.1, dV y.2], fun _ => [], fun _ _ => []⟩
theorem i_WalkingTimes_c {n list stop y} (hm : i_WalkingTimes n list stop = some y) : i_WalkingTimes_M.C (n, list, stop) y := i_WalkingTimes_M.c (n, list, stop) hm
theorem i_WalkingTimes_ok : FnOK Try.prog 17 i_WalkingTimes_M.S := by
 refine fm tt i_WalkingTimes_M [fo i_IsValidWalks_ok, fo i_isStop_ok, fo i_walkTable_ok] Try.call17 Try.func17 rfl Try.results17 Try.ntmps17 ?_
 rintro ⟨n, list, stop⟩ y cx G hm
 have hm : i_WalkingTimes n list stop = some y := hm
 unfold i_WalkingTimes at hm
 refine rg G (Ok_seq ?_)
 obtain ⟨r, h, hm⟩ := obind hm
 refine jn hm (fun v => ⟨[(1, dV list), (2, dV stop), (3, .ref 16 0), (17, dV v)], [bX 16 [dV n.Stops, dV n.Lines]], 48⟩) (fun v hm => ?_) ?_
 ·rcases bf hm with ⟨hb, hm⟩ | ⟨hb, hm⟩
  ·refine re G (hC 2 (i_IsValidWalks_c h) (hO 4 (.b true) (hP hb h0))) ?_
   exact wJ G hm
  ·obtain ⟨r1, h1, hm⟩ := obind hm
   refine re G (hC 2 (i_IsValidWalks_c h) (hO 4 (.b false) (hP hb (hC 7 (i_isStop_c h1) h0)))) ?_
   exact wJ G hm
 rintro v hm
 refine cd hm (fun hm => ?_) (fun hm => ?_)
 ·refine rg G ?_
  cases hm
  exact rt [] [[.z 1]]
 ·refine X_skip (thN ?_)
  obtain ⟨r2, h2, hm⟩ := obind hm
  obtain ⟨e, h3, hm⟩ := obind hm
  refine rs G (hC 2 (i_walkTable_c h2) (hD 4 h3 (hO 5 (.fz [] [] [(80, [.f])]) (hE 5 h3 h0)))) ?_
  cases hm
  exact rt [] []
noncomputable def v_rMinutes_M : MS ((List Walk) × Int × Int) Int := ⟨.x .r (.x .r .r), fun x => v_rMinutes x.1 x.2.1 x.2.2, fun y => dV y, fun _ => [], fun _ _ => []⟩
theorem v_rMinutes_c {list a b y} (hm : v_rMinutes list a b = some y) : v_rMinutes_M.C (list, a, b) y := v_rMinutes_M.c (list, a, b) hm
theorem v_rMinutes_ok : FnOK Try.prog 20 v_rMinutes_M.S := by
 refine fm tt v_rMinutes_M [] Try.call20 Try.func20 rfl Try.results20 Try.ntmps20 ?_
 rintro ⟨list, a, b⟩ y cx G hm
 have hm : v_rMinutes list a b = some y := hm
 unfold v_rMinutes at hm
 refine rg G (Ok_seq (rg G (tF hm (fun _ => ⟨[], [], 32⟩) (fun v2 hr hm => ?_) ?_)))
 ·refine Ok_block (lp G hm (fun v => ⟨[(0, dV list), (1, dV a), (2, dV b), (7, dV v)], [], 32⟩) ?_)
  rintro v r0 hb hm
  rw [v_rMinutes_L1] at hm
  refine Ok_seq (rs G (hN 2 list h0) ?_)
  refine cd hm (fun hm => ?_) (fun hm => ?_)
  ·refine X_skip (thN (Ok_seq (Ok_block ?_)))
   obtain ⟨e, h, hm⟩ := obind hm
   refine jn hm (fun v1 => ⟨[(0, dV list), (1, dV a), (2, dV b), (7, dV v), (47, dV v1)], [], 32⟩) (fun v1 hm => ?_) ?_
   ·rcases bf hm with ⟨hb1, hm⟩ | ⟨hb1, hm⟩
    ·obtain ⟨e1, h1, hm⟩ := obind hm
     rcases bf hm with ⟨hb2, hm⟩ | ⟨hb2, hm⟩
     ·refine re G (hD 2 h (hO 7 (.b true) (hP hb1 (hD 10 h1 (hO 16 (.b true) (hP hb2 h0)))))) ?_
      exact wJ G hm
     ·obtain ⟨e2, h2, hm⟩ := obind hm
      rcases bf hm with ⟨hb3, hm⟩ | ⟨hb3, hm⟩
      ·obtain ⟨e3, h3, hm⟩ := obind hm
       refine re G (hD 2 h (hO 7 (.b true) (hP hb1 (hD 10 h1 (hO 16 (.b false) (hP hb2 (hD 19 h2 (hO 24 (.b true) (hP hb3 (hD 27 h3 h0)))))))))) ?_
       exact wJ G hm
      ·refine re G (hD 2 h (hO 7 (.b true) (hP hb1 (hD 10 h1 (hO 16 (.b false) (hP hb2 (hD 19 h2 (hO 24 (.b false) (hP hb3 h0))))))))) ?_
       exact wJ G hm
    ·obtain ⟨e4, h4, hm⟩ := obind hm
     rcases bf hm with ⟨hb4, hm⟩ | ⟨hb4, hm⟩
     ·obtain ⟨e5, h5, hm⟩ := obind hm
      refine re G (hD 2 h (hO 7 (.b false) (hP hb1 (hD 19 h4 (hO 24 (.b true) (hP hb4 (hD 27 h5 h0))))))) ?_
      exact wJ G hm
     ·refine re G (hD 2 h (hO 7 (.b false) (hP hb1 (hD 19 h4 (hO 24 (.b false) (hP hb4 h0)))))) ?_
      exact wJ G hm
   rintro v1 hm
   refine cd hm (fun hm => ?_) (fun hm => ?_)
   ·obtain ⟨e6, h6, hm⟩ := obind hm
    refine rs G (hD 2 h6 h0) ?_
    have hm := eL hm hb hr
    cases hm
    exact rt [] []
   ·exact X_skip (ibN (thN (rh G (wL G hm))))
  ·exact Ok_exit (thE (thE (ibE (wE G hm hb))))
 rintro ⟨⟩ hm s hw
 refine thN (Ok_weak hw ?_)
 refine rg G ?_
 cases hm
 exact rt [] []
noncomputable def i_CloseWalks_M : MS (Network × (List Walk)) ((List Walk) × Bool) := ⟨.x .r .r, fun x => i_CloseWalks x.1 x.2, fun y => .tup [dV y.1, dV y.2], fun _ => [], fun _ _ => []⟩
theorem i_CloseWalks_c {n list y} (hm : i_CloseWalks n list = some y) : i_CloseWalks_M.C (n, list) y := i_CloseWalks_M.c (n, list) hm
theorem i_CloseWalks_ok : FnOK Try.prog 21 i_CloseWalks_M.S := by
 refine fm tt i_CloseWalks_M [fo i_IsValidWalks_ok, fo i_walkTable_ok, fo i_areWalks_ok] Try.call21 Try.func21 rfl Try.results21 Try.ntmps21 ?_
 rintro ⟨n, list⟩ y cx G hm
 have hm : i_CloseWalks n list = some y := hm
 unfold i_CloseWalks at hm
 refine rg G (Ok_seq ?_)
 obtain ⟨r, h, hm⟩ := obind hm
 refine rs G (hC 2 (i_IsValidWalks_c h) h0) ?_
 refine cd hm (fun hm => ?_) (fun hm => ?_)
 ·refine rg G ?_
  cases hm
  exact rt [] [[.z 3]]
 ·refine X_skip (thN ?_)
  obtain ⟨r1, h1, hm⟩ := obind hm
  refine rs G (hC 2 (i_walkTable_c h1) h0) ?_
  refine rg G (Ok_seq (rs G (hN 2 n.Stops h0) ?_))
  refine tl hm (fun b4 => ⟨[(2, .ref 16 0), (7, .own 32)], [bX 16 [dV n.Stops, dV n.Lines], aX 32 39 b4], 64⟩) (fun b4 hm => ?_) ?_
  ·refine Ok_block (lpP hm (fun (v, b) => ⟨[(2, .ref 16 0), (6, .own 32), (7, .own 48), (19, dV (n.Stops.length : Int)), (20, dV v)], [bX 16 [dV n.Stops, dV n.Lines], tX 32 31 [some 3] r1 32 none, aX 48 39 b], 80⟩) (Wk_J G.hL ⟨[(2, []), (6, []), (7, [.o 48]), (19, []), (20, [])], [(16, 16, []), (32, 160, [])], [(48, 39, 3, [])], 80⟩ (by kernel_rfl)) ?_)
   rintro ⟨v, b⟩ r0 hb hm
   rw [i_CloseWalks_L2] at hm
   refine rg G (Ok_seq (cd hm (fun hm => ?_) (fun hm => ?_)))
   ·refine X_skip (thN (Ok_seq (Ok_block (rg G (rg G (tl hm (fun b3 => ⟨[(2, .ref 16 0), (6, .own 32), (7, .own 48), (19, dV (n.Stops.length : Int)), (20, dV v)], [bX 16 [dV n.Stops, dV n.Lines], tX 32 31 [some 3] r1 32 none, aX 48 39 b3], 80⟩) (fun b3 hm => ?_) ?_))))))
    ·refine Ok_block (lp G hm (fun (v1, b1) => ⟨[(2, .ref 16 0), (6, .own 32), (7, .own 48), (8, dV v), (9, dV v1), (19, dV (n.Stops.length : Int)), (20, dV v)], [bX 16 [dV n.Stops, dV n.Lines], tX 32 31 [some 3] r1 32 none, aX 48 39 b1], 80⟩) ?_)
     rintro ⟨v1, b1⟩ r0 hb1 hm
     rw [i_CloseWalks_L1] at hm
     refine Ok_seq (rs G (hN 3 n.Stops h0) ?_)
     refine cd hm (fun hm => ?_) (fun hm => ?_)
     ·refine X_skip (thN (jn hm (fun b2 => ⟨[(2, .ref 16 0), (6, .own 32), (7, .own 48), (8, dV v), (9, dV v1), (19, dV (n.Stops.length : Int)), (20, dV v)], [bX 16 [dV n.Stops, dV n.Lines], tX 32 31 [some 3] r1 32 none, aX 48 39 b2], 80⟩) (fun b2 hm => ?_) ?_))
      ·refine Ok_block ?_
       obtain ⟨e, h2, hm⟩ := obind hm
       obtain ⟨e1, h3, hm⟩ := obind hm
       refine rs G (hD 2 h2 (hE 3 h2 (hE 5 h2 (hP (idx_b (f := Enc.e) h3) (hO 6 (.d2 (Enc.e e) (Enc.e e1)) (hP (idx_m2 (f := Enc.e) h2) (hP (idx_m2 (f := Enc.e) h3) h0))))))) ?_
       refine cd hm (fun hm => ?_) (fun hm => ?_)
       ·obtain ⟨e2, h4, hm⟩ := obind hm
        obtain ⟨e3, h5, hm⟩ := obind hm
        obtain ⟨u, h6, hm⟩ := obind hm
        refine re G (hD 5 h4 (hE 6 h2 (hE 8 h2 (hP (idx_b (f := Enc.e) h5) (hO 9 (.d2 (Enc.e e) (Enc.e e3)) (hP (idx_m2 (f := Enc.e) h2) (hP (idx_m2 (f := Enc.e) h5) (hA 12 24 h6 h0)))))))) ?_
        exact ibN (wJ G hm)
       ·exact X_skip (ibN (wJ G hm))
      rintro b2 hm
      exact rh G (wL G hm)
     ·exact Ok_exit (thE (thE (ibE (wD G hm hb1))))
    rintro b3 hm s hw
    refine ibN (thN (Ok_weak hw ?_))
    exact rh G (wL G hm)
   ·exact Ok_exit (thE (thE (ibE (wD G hm hb))))
  rintro b4 hm s1 hw1
  refine thN (Ok_weak hw1 ?_)
  refine Ok_seq ?_
  obtain ⟨r2, h7, hm⟩ := obind hm
  refine rs G (hC 2 (i_areWalks_c h7) h0) ?_
  refine cd hm (fun hm => ?_) (fun hm => ?_)
  ·refine rg G ?_
   cases hm
   exact rt [] [[.z 3]]
  ·refine X_skip (thN (rg G ?_))
   cases hm
   exact rt [] []
noncomputable def s_CloseWalks_M : MS (Network × (List Walk)) ((List Walk) × Bool) := ⟨.x .r .r, fun x => s_CloseWalks x.1 x.2, fun y => .tup [.own 0, dV y.2], fun y => [arO 39 y.1], fun _ _ => []⟩
theorem s_CloseWalks_c {n list y} (hm : s_CloseWalks n list = some y) : s_CloseWalks_M.C (n, list) y := s_CloseWalks_M.c (n, list) hm
theorem s_CloseWalks_ok : FnOK Try.prog 22 s_CloseWalks_M.S := by
 refine fm tt s_CloseWalks_M [fo s_l7Good_ok, fo s_l7Times_ok] Try.call22 Try.func22 rfl Try.results22 Try.ntmps22 ?_
 rintro ⟨n, list⟩ y cx G hm
 have hm : s_CloseWalks n list = some y := hm
 unfold s_CloseWalks at hm
 refine rg G (rg G (Ok_seq ?_))
 obtain ⟨r, h, hm⟩ := obind hm
 refine rs G (hC 2 (s_l7Good_c h) h0) ?_
 refine cd hm (fun hm => ?_) (fun hm => ?_)
 ·refine rg G ?_
  cases hm
  exact rt [64] []
 ·refine X_skip (thN (Ok_seq (rg G (tl hm (fun times4 => ⟨[(2, .ref 16 0), (6, .own 32)], [bX 16 [dV n.Stops, dV n.Lines], aX 32 39 times4], 64⟩) (fun times4 hm => ?_) ?_))))
  ·refine Ok_block (lp G hm (fun (b, times) => ⟨[(1, dV list), (2, .ref 16 0), (6, .own 32), (7, dV b)], [bX 16 [dV n.Stops, dV n.Lines], aX 32 39 times], 64⟩) ?_)
   rintro ⟨b, times⟩ r0 hb hm
   rw [s_CloseWalks_L2] at hm
   refine Ok_seq (rs G (hN 3 n.Stops h0) ?_)
   refine cd hm (fun hm => ?_) (fun hm => ?_)
   ·refine X_skip (thN (Ok_seq (Ok_block ?_)))
    obtain ⟨r1, h1, hm⟩ := obind hm
    refine rs G (hN 2 n.Stops (hC 5 (s_l7Times_c h1) h0)) ?_
    refine rg G (tl hm (fun times3 => ⟨[(1, dV list), (2, .ref 16 0), (6, .own 32), (7, dV b)], [bX 16 [dV n.Stops, dV n.Lines], aX 32 39 times3], 64⟩) (fun times3 hm => ?_) ?_)
    ·refine Ok_block (lp G hm (fun (v, times1) => ⟨[(1, dV list), (2, .ref 16 0), (6, .own 32), (7, dV b), (8, .own 48), (9, dV v)], [bX 16 [dV n.Stops, dV n.Lines], aX 32 39 times1, aX 48 3 r1], 80⟩) ?_)
     rintro ⟨v, times1⟩ r0 hb1 hm
     rw [s_CloseWalks_L1] at hm
     refine Ok_seq (rs G (hN 3 n.Stops h0) ?_)
     refine cd hm (fun hm => ?_) (fun hm => ?_)
     ·refine X_skip (thN (jn hm (fun times2 => ⟨[(1, dV list), (2, .ref 16 0), (6, .own 32), (7, dV b), (8, .own 48), (9, dV v)], [bX 16 [dV n.Stops, dV n.Lines], aX 32 39 times2, aX 48 3 r1], 80⟩) (fun times2 hm => ?_) ?_))
      ·refine Ok_block ?_
       obtain ⟨e, h2, hm⟩ := obind hm
       refine rs G (hD 2 h2 (hE 3 h2 h0)) ?_
       refine cd hm (fun hm => ?_) (fun hm => ?_)
       ·obtain ⟨e1, h3, hm⟩ := obind hm
        obtain ⟨u, h4, hm⟩ := obind hm
        refine re G (hD 5 h3 (hE 6 h3 (hA 9 24 h4 h0))) ?_
        exact ibN (wJ G hm)
       ·exact X_skip (ibN (wJ G hm))
      rintro times2 hm
      exact rh G (wL G hm)
     ·exact Ok_exit (thE (thE (ibE (wD G hm hb1))))
    rintro times3 hm s hw
    refine ibN (thN (Ok_weak hw ?_))
    exact rh G (wL G hm)
   ·exact Ok_exit (thE (thE (ibE (wD G hm hb))))
  rintro times4 hm s1 hw1
  refine thN (Ok_weak hw1 ?_)
  refine Ok_seq ?_
  obtain ⟨r2, h5, hm⟩ := obind hm
  refine rs G (hC 2 (s_l7Good_c h5) h0) ?_
  refine cd hm (fun hm => ?_) (fun hm => ?_)
  ·refine rg G ?_
   cases hm
   exact rt [128] []
  ·refine X_skip (thN (rg G ?_))
   cases hm
   exact rt [32] []
noncomputable def v_rWalks_M : MS ((List Walk) × (List Walk)) Bool := ⟨.x .r .r, fun x => v_rWalks x.1 x.2, fun y => dV y, fun _ => [], fun _ _ => []⟩
theorem v_rWalks_c {a b y} (hm : v_rWalks a b = some y) : v_rWalks_M.C (a, b) y := v_rWalks_M.c (a, b) hm
theorem v_rWalks_ok : FnOK Try.prog 23 v_rWalks_M.S := by
 refine fm tt v_rWalks_M [] Try.call23 Try.func23 rfl Try.results23 Try.ntmps23 ?_
 rintro ⟨a, b⟩ y cx G hm
 have hm : v_rWalks a b = some y := hm
 unfold v_rWalks at hm
 refine rg G (Ok_seq (rs G (hN 1 a (hN 3 b h0)) ?_))
 refine cd hm (fun hm => ?_) (fun hm => ?_)
 ·refine rg G ?_
  cases hm
  exact rt [] []
 ·refine X_skip (thN (Ok_seq (rg G (tF hm (fun _ => ⟨[], [], 32⟩) (fun v1 hr hm => ?_) ?_))))
  ·refine Ok_block (lp G hm (fun v => ⟨[(0, dV a), (1, dV b), (5, dV v)], [], 32⟩) ?_)
   rintro v r0 hb hm
   rw [v_rWalks_L1] at hm
   refine Ok_seq (rs G (hN 2 a h0) ?_)
   refine cd hm (fun hm => ?_) (fun hm => ?_)
   ·refine X_skip (thN (Ok_seq (Ok_block ?_)))
    obtain ⟨e2, h2, hm⟩ := obind hm
    obtain ⟨e3, h3, hm⟩ := obind hm
    refine ds G [] (hD 2 h2 (hD 6 h3 h0)) ?_
    refine cd hm (fun hm => ?_) (fun hm => ?_)
    ·refine rg G ?_
     have hm := eL hm hb hr
     cases hm
     exact rt [] []
    ·exact X_skip (ibN (thN (rh G (wL G hm))))
   ·exact Ok_exit (thE (thE (ibE (wE G hm hb))))
  rintro ⟨⟩ hm s hw
  refine thN (Ok_weak hw ?_)
  refine rg G ?_
  cases hm
  exact rt [] []
noncomputable def i_UselessWalks_M : MS (Network × (List Walk)) ((List Int) × Bool) := ⟨.x .r .r, fun x => i_UselessWalks x.1 x.2, fun y => .tup [dV y.1, dV y.2], fun _ => [], fun _ _ => []⟩
theorem i_UselessWalks_c {n list y} (hm : i_UselessWalks n list = some y) : i_UselessWalks_M.C (n, list) y := i_UselessWalks_M.c (n, list) hm
theorem i_UselessWalks_ok : FnOK Try.prog 24 i_UselessWalks_M.S := by
 refine fm tt i_UselessWalks_M [fo i_IsValidWalks_ok, fo i_walkTable_ok] Try.call24 Try.func24 rfl Try.results24 Try.ntmps24 ?_
 rintro ⟨n, list⟩ y cx G hm
 have hm : i_UselessWalks n list = some y := hm
 unfold i_UselessWalks at hm
 refine rg G (Ok_seq ?_)
 obtain ⟨r, h, hm⟩ := obind hm
 refine rs G (hC 2 (i_IsValidWalks_c h) h0) ?_
 refine cd hm (fun hm => ?_) (fun hm => ?_)
 ·refine rg G ?_
  cases hm
  exact rt [] [[.z 1]]
 ·refine X_skip (thN ?_)
  obtain ⟨r1, h1, hm⟩ := obind hm
  refine rs G (hC 2 (i_walkTable_c h1) h0) ?_
  refine rg G (Ok_seq (rs G (hN 1 list h0) ?_))
  refine tl hm (fun w2 => ⟨[(7, .own 16)], [aX 16 3 w2], 48⟩) (fun w2 hm => ?_) ?_
  ·refine Ok_block (lpP hm (fun (v, w) => ⟨[(6, .own 16), (7, .own 32), (17, dV list), (18, dV (list.length : Int)), (19, dV v)], [tX 16 31 [some 3] r1 16 none, aX 32 3 w], 64⟩) (Wk_J G.hL ⟨[(6, []), (7, [.o 32]), (17, []), (18, []), (19, [])], [(16, 160, [])], [(32, 3, 1, [])], 64⟩ (by kernel_rfl)) ?_)
   rintro ⟨v, w⟩ r0 hb hm
   rw [i_UselessWalks_L1] at hm
   refine rg G (Ok_seq (cd hm (fun hm => ?_) (fun hm => ?_)))
   ·refine X_skip (thN (jn hm (fun w1 => ⟨[(6, .own 16), (7, .own 32), (17, dV list), (18, dV (list.length : Int)), (19, dV v)], [tX 16 31 [some 3] r1 16 none, aX 32 3 w1], 64⟩) (fun w1 hm => ?_) ?_))
    ·refine Ok_block ?_
     obtain ⟨e, h2, hm⟩ := obind hm
     refine rs G (hD 1 h2 h0) ?_
     obtain ⟨e3, h5, hm⟩ := obind hm
     obtain ⟨e4, h6, hm⟩ := obind hm
     refine ds G [] (hD 5 h5 (hE 6 h5 (hE 9 h5 (hP (idx_b (f := Enc.e) h6) (hO 10 (.d2 (Enc.e e3) (Enc.e e4)) (hP (idx_m2 (f := Enc.e) h5) (hP (idx_m2 (f := Enc.e) h6) h0))))))) ?_
     refine cd hm (fun hm => ?_) (fun hm => ?_)
     ·obtain ⟨u, h7, hm⟩ := obind hm
      refine re G (hA 3 8 h7 h0) ?_
      exact ibN (wJ G hm)
     ·exact X_skip (ibN (wJ G hm))
    rintro w1 hm
    exact rh G (wL G hm)
   ·exact Ok_exit (thE (thE (ibE (wD G hm hb))))
  rintro w2 hm s hw
  refine thN (Ok_weak hw ?_)
  refine rg G ?_
  cases hm
  exact rt [] []
noncomputable def v_FnWalking_M : MS ((List UInt8)) Bool := ⟨.r, v_FnWalking, fun y => dV y, fun _ => [], fun _ _ => []⟩
theorem v_FnWalking_c {code y} (hm : v_FnWalking code = some y) : v_FnWalking_M.C code y := v_FnWalking_M.c code hm
theorem v_FnWalking_ok : FnOK Try.prog 3 v_FnWalking_M.S := by
 refine fm tt v_FnWalking_M [fo v_rBig_ok, fo s_DrawShortestWalk_ok, fo i_ShortestWalk_ok, fo s_ShortestWalk_ok, fo v_rInts_ok, fo i_WalkingTimes_ok, fo s_WalkingTimes_ok, fo i_IsValidWalks_ok, fo v_rMinutes_ok, fo i_CloseWalks_ok, fo s_CloseWalks_ok, fo v_rWalks_ok, fo i_UselessWalks_ok] Try.call3 Try.func3 rfl Try.results3 Try.ntmps3 ?_
 rintro code y cx G hm
 have hm : v_FnWalking code = some y := hm
 unfold v_FnWalking at hm
 refine rg G (Ok_seq ?_)
 obtain ⟨r, h, hm⟩ := obind hm
 refine rs G (hC 1 (v_rBig_c h) h0) ?_
 refine cd hm (fun hm => ?_) (fun hm => ?_)
 ·refine rg G ?_
  cases hm
  exact rt [] []
 ·refine X_skip (thN ?_)
  obtain ⟨r1, h1, hm⟩ := obind hm
  refine rs G (hC 1 (s_DrawShortestWalk_c h1) h0) ?_
  obtain ⟨r2, h2, hm⟩ := obind hm
  refine rs G (hO 4 (.fz [80] [] []) (hC 4 (i_ShortestWalk_c h2) h0)) ?_
  refine Ok_seq ?_
  obtain ⟨r3, h3, hm⟩ := obind hm
  refine rs G (hC 4 (s_ShortestWalk_c h3) h0) ?_
  refine jn hm (fun v => ⟨[(3, .ref 16 0), (4, dV r1.2.1), (5, dV r1.2.2.1), (6, dV r1.2.2.2), (7, dV r2.1), (8, dV r2.2), (62, dV v)], [bX 16 [dV r1.1.Stops, dV r1.1.Lines]], 48⟩) (fun v hm => ?_) ?_
  ·rcases bf hm with ⟨hb, hm⟩ | ⟨hb, hm⟩
   ·refine re G (hO 3 (.b true) (hP hb h0)) ?_
    exact wJ G hm
   ·obtain ⟨r4, h4, hm⟩ := obind hm
    refine re G (hO 3 (.b false) (hP hb (hC 6 (v_rInts_c h4) h0))) ?_
    exact wJ G hm
  rintro v hm
  refine cd hm (fun hm => ?_) (fun hm => ?_)
  ·refine rg G ?_
   cases hm
   exact rt [] []
  ·refine X_skip (thN ?_)
   obtain ⟨r5, h5, hm⟩ := obind hm
   refine rs G (hC 3 (i_WalkingTimes_c h5) h0) ?_
   refine Ok_seq ?_
   obtain ⟨r6, h6, hm⟩ := obind hm
   refine rs G (hC 3 (s_WalkingTimes_c h6) h0) ?_
   refine jn hm (fun v1 => ⟨[(3, .ref 16 0), (4, dV r1.2.1), (5, dV r1.2.2.1), (6, dV r1.2.2.2), (7, dV r2.1), (8, dV r2.2), (11, dV r5.1), (12, dV r5.2), (94, dV v1)], [bX 16 [dV r1.1.Stops, dV r1.1.Lines]], 48⟩) (fun v1 hm => ?_) ?_
   ·rcases bf hm with ⟨hb1, hm⟩ | ⟨hb1, hm⟩
    ·refine re G (hO 3 (.b true) (hP hb1 h0)) ?_
     exact wJ G hm
    ·obtain ⟨r7, h7, hm⟩ := obind hm
     rcases bf hm with ⟨hb2, hm⟩ | ⟨hb2, hm⟩
     ·refine re G (hO 3 (.b false) (hP hb1 (hC 6 (v_rInts_c h7) (hO 9 (.b true) (hP hb2 h0))))) ?_
      exact wJ G hm
     ·rcases bf hm with ⟨hb3, hm⟩ | ⟨hb3, hm⟩
      ·obtain ⟨r8, h8, hm⟩ := obind hm
       refine re G (hO 3 (.b false) (hP hb1 (hC 6 (v_rInts_c h7) (hO 9 (.b false) (hP hb2 (hO 11 (.b true) (hP hb3 (hC 14 (i_IsValidWalks_c h8) h0)))))))) ?_
       exact wJ G hm
      ·refine re G (hO 3 (.b false) (hP hb1 (hC 6 (v_rInts_c h7) (hO 9 (.b false) (hP hb2 (hO 11 (.b false) (hP hb3 h0))))))) ?_
       exact wJ G hm
   rintro v1 hm
   refine cd hm (fun hm => ?_) (fun hm => ?_)
   ·refine rg G ?_
    cases hm
    exact rt [] []
   ·refine X_skip (thN (jF hm (fun _ => ⟨[(3, .ref 16 0), (4, dV r1.2.1), (5, dV r1.2.2.1), (11, dV r5.1), (12, dV r5.2)], [bX 16 [dV r1.1.Stops, dV r1.1.Lines]], 48⟩) (fun v11 hr hm => ?_) ?_))
    ·refine rg G (cd hm (fun hm => ?_) (fun hm => ?_))
     ·refine rg G (Ok_seq (rg G (tF hm (fun i1 => ⟨[(3, .ref 16 0), (4, dV r1.2.1), (5, dV r1.2.2.1), (6, dV r1.2.2.2), (7, dV r2.1), (11, dV r5.1), (12, dV r5.2), (15, dV i1)], [bX 16 [dV r1.1.Stops, dV r1.1.Lines]], 48⟩) (fun v3 hr1 hm => ?_) ?_)))
      ·refine Ok_block (lp G hm (fun (i, m) => ⟨[(3, .ref 16 0), (4, dV r1.2.1), (5, dV r1.2.2.1), (6, dV r1.2.2.2), (7, dV r2.1), (11, dV r5.1), (12, dV r5.2), (15, dV i), (16, dV m)], [bX 16 [dV r1.1.Stops, dV r1.1.Lines]], 48⟩) ?_)
       rintro ⟨i, m⟩ r0 hb4 hm
       rw [v_FnWalking_L1] at hm
       refine Ok_seq (rs G (hN 2 r2.1 h0) ?_)
       refine cd hm (fun hm => ?_) (fun hm => ?_)
       ·refine X_skip (thN (Ok_seq (Ok_block ?_)))
        obtain ⟨e2, h12, hm⟩ := obind hm
        obtain ⟨e3, h13, hm⟩ := obind hm
        obtain ⟨r10, h14, hm⟩ := obind hm
        refine ds G [] (hD 4 h12 (hD 8 h13 (hC 10 (v_rMinutes_c h14) h0))) ?_
        refine Ok_seq (rg G (cd hm (fun hm => ?_) (fun hm => ?_)))
        ·refine rg G ?_
         have hm := eL hm hb4 hr1
         have hm := eR hm hr
         cases hm
         exact rt [] []
        ·exact X_skip (thN (rh G (ibN (thN (rh G (wL G hm))))))
       ·exact Ok_exit (thE (thE (ibE (wE G hm hb4))))
      rintro i1 hm s hw
      refine thN (Ok_weak hw ?_)
      refine jn hm (fun v2 => ⟨[(3, .ref 16 0), (4, dV r1.2.1), (5, dV r1.2.2.1), (11, dV r5.1), (12, dV r5.2), (144, dV v2)], [bX 16 [dV r1.1.Stops, dV r1.1.Lines]], 48⟩) (fun v2 hm => ?_) ?_
      ·rcases bf hm with ⟨hb5, hm⟩ | ⟨hb5, hm⟩
       ·refine re G (hO 2 (.b true) (hP hb5 h0)) ?_
        exact wJ G hm
       ·obtain ⟨e6, h15, hm⟩ := obind hm
        rcases bf hm with ⟨hb6, hm⟩ | ⟨hb6, hm⟩
        ·refine re G (hO 2 (.b false) (hP hb5 (hD 6 h15 (hO 10 (.b true) (hP hb6 h0))))) ?_
         exact wJ G hm
        ·obtain ⟨e7, h16, hm⟩ := obind hm
         rcases bf hm with ⟨hb7, hm⟩ | ⟨hb7, hm⟩
         ·refine re G (hO 2 (.b false) (hP hb5 (hD 6 h15 (hO 10 (.b false) (hP hb6 (hD 12 h16 (hO 17 (.b true) (hP hb7 h0)))))))) ?_
          exact wJ G hm
         ·obtain ⟨e8, h17, hm⟩ := obind hm
          refine re G (hO 2 (.b false) (hP hb5 (hD 6 h15 (hO 10 (.b false) (hP hb6 (hD 12 h16 (hO 17 (.b false) (hP hb7 (hN 20 r2.1 (hD 22 h17 h0)))))))))) ?_
          exact wJ G hm
      rintro v2 hm
      refine cd hm (fun hm => ?_) (fun hm => ?_)
      ·refine rg G ?_
       have hm := eR hm hr
       cases hm
       exact rt [] []
      ·exact X_skip (wF G hm)
     ·exact X_skip (wF G hm)
    rintro ⟨⟩ hm
    refine Ok_seq (rg G (tF hm (fun _ => ⟨[(3, .ref 16 0), (4, dV r1.2.1), (5, dV r1.2.2.1), (11, dV r5.1), (12, dV r5.2)], [bX 16 [dV r1.1.Stops, dV r1.1.Lines]], 48⟩) (fun v10 hr2 hm => ?_) ?_))
    ·refine Ok_block (lp G hm (fun a => ⟨[(3, .ref 16 0), (4, dV r1.2.1), (5, dV r1.2.2.1), (11, dV r5.1), (12, dV r5.2), (18, dV a)], [bX 16 [dV r1.1.Stops, dV r1.1.Lines]], 48⟩) ?_)
     rintro a r0 hb8 hm
     rw [v_FnWalking_L2] at hm
     refine Ok_seq (jn hm (fun v4 => ⟨[(3, .ref 16 0), (4, dV r1.2.1), (5, dV r1.2.2.1), (11, dV r5.1), (12, dV r5.2), (18, dV a), (151, dV v4)], [bX 16 [dV r1.1.Stops, dV r1.1.Lines]], 48⟩) (fun v4 hm => ?_) ?_)
     ·rcases bf hm with ⟨hb9, hm⟩ | ⟨hb9, hm⟩
      ·refine re G (hN 2 r1.2.1 (hO 4 (.b true) (hP hb9 h0))) ?_
       exact wJ G hm
      ·refine re G (hN 2 r1.2.1 (hO 4 (.b false) (hP hb9 h0))) ?_
       exact wJ G hm
     rintro v4 hm
     refine cd hm (fun hm => ?_) (fun hm => ?_)
     ·refine X_skip (thN (Ok_seq (Ok_block ?_)))
      obtain ⟨e14, h22, hm⟩ := obind hm
      obtain ⟨e15, h23, hm⟩ := obind hm
      obtain ⟨e16, h24, hm⟩ := obind hm
      obtain ⟨e17, h25, hm⟩ := obind hm
      refine ds G [] (hD 3 h22 (hD 6 h23 (hD 11 h24 (hD 14 h25 h0)))) ?_
      refine jn hm (fun v5 => ⟨[(3, .ref 16 0), (4, dV r1.2.1), (5, dV r1.2.2.1), (11, dV r5.1), (12, dV r5.2), (18, dV a), (196, dV v5)], [bX 16 [dV r1.1.Stops, dV r1.1.Lines]], 48⟩) (fun v5 hm => ?_) ?_
      ·rcases bf hm with ⟨hb10, hm⟩ | ⟨hb10, hm⟩
       ·refine re G (hO 5 (.b true) (hP hb10 h0)) ?_
        exact wJ G hm
       ·obtain ⟨e18, h26, hm⟩ := obind hm
        rcases bf hm with ⟨hb11, hm⟩ | ⟨hb11, hm⟩
        ·refine re G (hO 5 (.b false) (hP hb10 (hD 10 h26 (hO 16 (.b true) (hP hb11 h0))))) ?_
         exact wJ G hm
        ·obtain ⟨e19, h27, hm⟩ := obind hm
         refine re G (hO 5 (.b false) (hP hb10 (hD 10 h26 (hO 16 (.b false) (hP hb11 (hD 21 h27 h0)))))) ?_
         exact wJ G hm
      rintro v5 hm
      refine cd hm (fun hm => ?_) (fun hm => ?_)
      ·refine rg G ?_
       have hm := eL hm hb8 hr2
       cases hm
       exact rt [] []
      ·exact X_skip (ibN (thN (rh G (wL G hm))))
     ·exact Ok_exit (thE (thE (ibE (wE G hm hb8))))
    rintro ⟨⟩ hm s1 hw1
    refine thN (Ok_weak hw1 ?_)
    obtain ⟨r15, h28, hm⟩ := obind hm
    refine rs G (hC 2 (i_CloseWalks_c h28) h0) ?_
    obtain ⟨r16, h29, hm⟩ := obind hm
    refine rs G (hC 2 (s_CloseWalks_c h29) h0) ?_
    refine Ok_seq (jn hm (fun v6 => ⟨[(3, .ref 16 0), (5, dV r1.2.2.1), (11, dV r5.1), (12, dV r5.2), (21, dV r15.1), (22, dV r15.2), (217, dV v6)], [bX 16 [dV r1.1.Stops, dV r1.1.Lines]], 48⟩) (fun v6 hm => ?_) ?_)
    ·rcases bf hm with ⟨hb12, hm⟩ | ⟨hb12, hm⟩
     ·refine re G (hO 3 (.b true) (hP hb12 h0)) ?_
      exact wJ G hm
     ·obtain ⟨r17, h30, hm⟩ := obind hm
      refine re G (hO 3 (.b false) (hP hb12 (hC 6 (v_rWalks_c h30) h0))) ?_
      exact wJ G hm
    rintro v6 hm
    refine cd hm (fun hm => ?_) (fun hm => ?_)
    ·refine rg G ?_
     cases hm
     exact rt [] []
    ·refine X_skip (thN (jF hm (fun _ => ⟨[], [], 32⟩) (fun v9 hr3 hm => ?_) ?_))
     ·refine jn hm (fun v7 => ⟨[(3, .ref 16 0), (5, dV r1.2.2.1), (11, dV r5.1), (21, dV r15.1), (221, dV v7)], [bX 16 [dV r1.1.Stops, dV r1.1.Lines]], 48⟩) (fun v7 hm => ?_) ?_
      ·rcases bf hm with ⟨hb13, hm⟩ | ⟨hb13, hm⟩
       ·refine re G (hO 1 (.b true) (hP hb13 h0)) ?_
        exact wJ G hm
       ·refine re G (hO 1 (.b false) (hP hb13 h0)) ?_
        exact wJ G hm
      rintro v7 hm
      refine cd hm (fun hm => ?_) (fun hm => ?_)
      ·obtain ⟨r18, h31, hm⟩ := obind hm
       refine rs G (hC 3 (i_WalkingTimes_c h31) h0) ?_
       obtain ⟨r19, h32, hm⟩ := obind hm
       refine rs G (hC 2 (i_UselessWalks_c h32) h0) ?_
       refine jn hm (fun v8 => ⟨[(251, dV v8)], [], 32⟩) (fun v8 hm => ?_) ?_
       ·rcases bf hm with ⟨hb14, hm⟩ | ⟨hb14, hm⟩
        ·refine re G (hO 2 (.b true) (hP hb14 h0)) ?_
         exact wJ G hm
        ·rcases bf hm with ⟨hb15, hm⟩ | ⟨hb15, hm⟩
         ·refine re G (hO 2 (.b false) (hP hb14 (hO 6 (.b true) (hP hb15 h0)))) ?_
          exact wJ G hm
         ·obtain ⟨r20, h33, hm⟩ := obind hm
          rcases bf hm with ⟨hb16, hm⟩ | ⟨hb16, hm⟩
          ·refine re G (hO 2 (.b false) (hP hb14 (hO 6 (.b false) (hP hb15 (hC 9 (v_rInts_c h33) (hO 12 (.b true) (hP hb16 h0))))))) ?_
           exact wJ G hm
          ·refine re G (hO 2 (.b false) (hP hb14 (hO 6 (.b false) (hP hb15 (hC 9 (v_rInts_c h33) (hO 12 (.b false) (hP hb16 (hN 14 r19.1 h0)))))))) ?_
           exact wJ G hm
       rintro v8 hm
       refine cd hm (fun hm => ?_) (fun hm => ?_)
       ·refine rg G ?_
        have hm := eR hm hr3
        cases hm
        exact rt [] []
       ·exact X_skip (wF G hm)
      ·exact X_skip (wF G hm)
     rintro ⟨⟩ hm
     refine rg G ?_
     cases hm
     exact rt [] []
end Go.Proofs.Ytfknbpimkleimaa
