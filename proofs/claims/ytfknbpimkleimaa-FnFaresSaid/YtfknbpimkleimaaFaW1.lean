/- Each function computes what its model says. Made by program (dec.py). -/
import Derived.Test.YtfknbpimkleimaaTy
import Derived.Test.YtfknbpimkleimaaAbC
import Derived.Test.YtfknbpimkleimaaFaM
namespace Go.Proofs.Ytfknbpimkleimaa
open Go Go.Ab
set_option maxRecDepth 100000
set_option maxHeartbeats 4000000
set_option linter.unusedVariables false
set_option linter.unusedSimpArgs false
theorem tt : TT Try.prog ty := ⟨by kernel_rfl, ty_ok⟩
noncomputable def v_rBig_M : MS ((List UInt8)) Bool := ⟨.r, v_rBig, fun y => dV y, fun _ => [], fun _ _ => []⟩
theorem v_rBig_c {code y} (hm : v_rBig code = some y) : v_rBig_M.C code y := v_rBig_M.c code hm
theorem v_rBig_ok : FnOK Try.prog 12 v_rBig_M.S := by
 refine fm tt v_rBig_M [] Try.call12 Try.func12 rfl Try.results12 Try.ntmps12 ?_
 rintro code y cx G hm
 have hm : v_rBig code = some y := hm
 unfold v_rBig at hm
 refine rg G (rs G (hN 1 code h0) ?_)
 cases hm
 exact rt [] []
noncomputable def s_l1Cur_next_M : MS l1Cur (Int × l1Cur) := ⟨.b, s_l1Cur_next, fun y => dV y.1, fun _ => [], fun _ y => [bxO y.2]⟩
theorem s_l1Cur_next_c {c y} (hm : s_l1Cur_next c = some y) : s_l1Cur_next_M.C c y := s_l1Cur_next_M.c c hm
theorem s_l1Cur_next_ok : FnOK Try.prog 232 s_l1Cur_next_M.S := by
 refine fm tt s_l1Cur_next_M [] Try.call232 Try.func232 rfl Try.results232 Try.ntmps232 ?_
 rintro c y cx G hm
 have hm : s_l1Cur_next c = some y := hm
 unfold s_l1Cur_next at hm
 refine rg G (rg G (jn hm (fun v => ⟨[(0, .ref 0 0), (3, dV v)], [bX 0 [dV c.code_, dV c.at_, kV .u64 c.seed_.v]], 48⟩) (fun v hm => ?_) ?_))
 ·refine ds G [] (hN 8 c.code_ h0) ?_
  refine cd hm (fun hm => ?_) (fun hm => ?_)
  ·obtain ⟨e1, h1, hm⟩ := obind hm
   refine de G [] (hD 8 h1 h0) ?_
   exact wJ G hm
  ·exact X_skip (wJ G hm)
 rintro v hm
 refine rg G (rg G (Ok_seq (ds G [] (hN 8 c.code_ h0) ?_)))
 refine cd hm (fun hm => ?_) (fun hm => ?_)
 ·refine rg G ?_
  cases hm
  exact rt [] []
 ·refine X_skip (thN ?_)
  obtain ⟨u, h2, hm⟩ := obind hm
  refine rs G (hK h2 h0) ?_
  cases hm
  exact rt [] []
noncomputable def s_l1Cur_pick_M : MS (l1Cur × Int) (Int × l1Cur) := ⟨.x .b .r, fun x => s_l1Cur_pick x.1 x.2, fun y => dV y.1, fun _ => [], fun _ y => [bxO y.2]⟩
theorem s_l1Cur_pick_c {c n y} (hm : s_l1Cur_pick c n = some y) : s_l1Cur_pick_M.C (c, n) y := s_l1Cur_pick_M.c (c, n) hm
theorem s_l1Cur_pick_ok : FnOK Try.prog 106 s_l1Cur_pick_M.S := by
 refine fm tt s_l1Cur_pick_M [fo s_l1Cur_next_ok] Try.call106 Try.func106 rfl Try.results106 Try.ntmps106 ?_
 rintro ⟨c, n⟩ y cx G hm
 have hm : s_l1Cur_pick c n = some y := hm
 unfold s_l1Cur_pick at hm
 refine rg G (Ok_seq (rg G (cd hm (fun hm => ?_) (fun hm => ?_))))
 ·refine rg G ?_
  cases hm
  exact rt [] []
 ·refine X_skip (thN ?_)
  obtain ⟨r, h, hm⟩ := obind hm
  refine rs G (hC 1 (s_l1Cur_next_c h) h0) ?_
  refine jn hm (fun (v, v1, v2, v3) => ⟨[(0, .ref 0 0), (1, dV n), (5, dV v)], [bX 0 [dV v1, dV v2, kV .u64 v3]], 48⟩) (fun vv hm => ?_) ?_
  ·refine rg G (cd hm (fun hm => ?_) (fun hm => ?_))
   ·obtain ⟨r1, h1, hm⟩ := obind hm
    refine re G (hC 3 (s_l1Cur_next_c h1) h0) ?_
    exact wJ G hm
   ·exact X_skip (wJ G hm)
  rintro ⟨v, v1, v2, v3⟩ hm
  obtain ⟨u, h2, hm⟩ := obind hm
  refine rs G (hK h2 h0) ?_
  cases hm
  exact rt [] []
noncomputable def s_l1Num_MR (rec_ : Int → Option (ByteArray)) : MS Int ByteArray := ⟨.r, rec_, fun y => dV y, fun _ => [], fun _ _ => []⟩
noncomputable def s_l1Num_M : MS Int ByteArray := s_l1Num_MR s_l1Num
theorem s_l1Num_c {n y} (hm : s_l1Num n = some y) : s_l1Num_M.C n y := s_l1Num_M.c n hm
theorem s_l1Num_cR {rec_ : Int → Option (ByteArray)} {n y} (hm : rec_ n = some y) : (s_l1Num_MR rec_).C n y := (s_l1Num_MR rec_).c n hm
theorem s_l1Num_okF {rec_ : Int → Option (ByteArray)} (hrec : FnOK Try.prog 300 (s_l1Num_MR rec_).S) : FnOK Try.prog 300 (s_l1Num_MR (s_l1Num_F rec_)).S := by
 refine fm tt (s_l1Num_MR (s_l1Num_F rec_)) [fo hrec] Try.call300 Try.func300 rfl Try.results300 Try.ntmps300 ?_
 rintro n y cx G hm
 have hm : s_l1Num_F rec_ n = some y := hm
 unfold s_l1Num_F at hm
 refine rg G (Ok_seq (rg G (cd hm (fun hm => ?_) (fun hm => ?_))))
 ·obtain ⟨r, h, hm⟩ := obind hm
  obtain ⟨u, h1, hm⟩ := obind hm
  refine rs G (hC 2 (s_l1Num_cR h) (hP (cat_p (chk_t h1)) h0)) ?_
  cases hm
  exact rt [] []
 ·refine X_skip (thN (Ok_seq (rg G (cd hm (fun hm => ?_) (fun hm => ?_)))))
  ·obtain ⟨u1, h2, hm⟩ := obind hm
   refine rs G (hK h2 h0) ?_
   cases hm
   exact rt [] []
  ·refine X_skip (thN ?_)
   obtain ⟨u7, h9, hm⟩ := obind hm
   obtain ⟨r2, h10, hm⟩ := obind hm
   obtain ⟨u8, h11, hm⟩ := obind hm
   obtain ⟨u9, h12, hm⟩ := obind hm
   obtain ⟨u10, h13, hm⟩ := obind hm
   obtain ⟨u11, h14, hm⟩ := obind hm
   refine ds G [] (hK h9 (hC 2 (s_l1Num_cR h10) (hK h11 (hK h12 (hK h13 (hP (cat_p (chk_t h14)) h0)))))) ?_
   cases hm
   exact rt [] []
theorem s_l1Num_okn : ∀ k, FnOK Try.prog 300 (s_l1Num_MR (s_l1Num_k k)).S
 | 0 => ⟨fun args w => Try.call300 args w, fun vs w F ds obs κ hp => by obtain ⟨x, y, _, _, h⟩ := hp; cases h⟩
 | k + 1 => s_l1Num_okF (s_l1Num_okn k)
theorem s_l1Num_ok : FnOK Try.prog 300 s_l1Num_M.S := s_l1Num_okn 4294967296
noncomputable def s_l2Place_M : MS (Line × Int) Int := ⟨.x .r .r, fun x => s_l2Place x.1 x.2, fun y => dV y, fun _ => [], fun _ _ => []⟩
theorem s_l2Place_c {x stop y} (hm : s_l2Place x stop = some y) : s_l2Place_M.C (x, stop) y := s_l2Place_M.c (x, stop) hm
theorem s_l2Place_ok : FnOK Try.prog 310 s_l2Place_M.S := by
 refine fm tt s_l2Place_M [] Try.call310 Try.func310 rfl Try.results310 Try.ntmps310 ?_
 rintro ⟨x, stop⟩ y cx G hm
 have hm : s_l2Place x stop = some y := hm
 unfold s_l2Place at hm
 refine rg G (Ok_seq (rg G (tF hm (fun _ => ⟨[], [], 32⟩) (fun v1 hr hm => ?_) ?_)))
 ·refine Ok_block (lp G hm (fun v => ⟨[(1, dV stop), (2, .ref 16 0), (5, dV v)], [bX 16 [dV x.Name, dV x.Stops, dV x.Runs]], 48⟩) ?_)
  rintro v r0 hb hm
  rw [s_l2Place_L1] at hm
  refine Ok_seq (rs G (hN 3 x.Stops h0) ?_)
  refine cd hm (fun hm => ?_) (fun hm => ?_)
  ·refine X_skip (thN (Ok_seq (Ok_block ?_)))
   obtain ⟨e, h, hm⟩ := obind hm
   refine rs G (hD 3 h h0) ?_
   refine cd hm (fun hm => ?_) (fun hm => ?_)
   ·refine rg G ?_
    have hm := eL hm hb hr
    cases hm
    exact rt [] []
   ·exact X_skip (ibN (thN (rh G (wL G hm))))
  ·exact Ok_exit (thE (thE (ibE (wE G hm hb))))
 rintro ⟨⟩ hm s hw
 refine thN (Ok_weak hw ?_)
 refine rg G ?_
 cases hm
 exact rt [] []
noncomputable def s_l1Cur_line_M : MS (l1Cur × ByteArray × Int) (Line × l1Cur) := ⟨.x .b (.x .r .r), fun x => s_l1Cur_line x.1 x.2.1 x.2.2, fun y => .aggv [dV y.1.Name, .own 0, .own 1], fun y => [arO 3 y.1.Stops, arO 3 y.1.Runs], fun _ y => [bxO y.2]⟩
theorem s_l1Cur_line_c {c name stops y} (hm : s_l1Cur_line c name stops = some y) : s_l1Cur_line_M.C (c, name, stops) y := s_l1Cur_line_M.c (c, name, stops) hm
theorem s_l1Cur_line_ok : FnOK Try.prog 299 s_l1Cur_line_M.S := by
 refine fm tt s_l1Cur_line_M [fo s_l1Cur_pick_ok, fo s_l2Place_ok] Try.call299 Try.func299 rfl Try.results299 Try.ntmps299 ?_
 rintro ⟨c, name, stops⟩ y cx G hm
 have hm : s_l1Cur_line c name stops = some y := hm
 unfold s_l1Cur_line at hm
 refine rg G (rg G ?_)
 obtain ⟨r, h, hm⟩ := obind hm
 refine rs G (hC 2 (s_l1Cur_pick_c h) h0) ?_
 refine Ok_seq ?_
 obtain ⟨r1, h1, hm⟩ := obind hm
 refine rs G (hC 1 (s_l1Cur_pick_c h1) h0) ?_
 refine tl hm (fun (v7, v8, v9, v10) => ⟨[(0, .ref 0 0), (2, dV stops), (6, .ref 32 0), (7, .ref 48 0)], [bX 0 [dV v7, dV v8, kV .u64 v9], bX 32 [dV ByteArray.empty, .dat (.sc (.slice none 0 0)), .dat (.sc (.slice none 0 0))], bX 48 [dV name, .own 64, .dat (.sc (.slice none 0 0))], aX 64 3 v10], 96⟩) (fun vv1 hm => ?_) ?_
 ·refine Ok_block (lpP hm (fun (v, v1, v2, v3, v4, v5) => ⟨[(0, .ref 0 0), (2, dV stops), (6, .ref 32 0), (7, .ref 48 0), (8, dV v), (9, dV v1)], [bX 0 [dV v2, dV v3, kV .u64 v4], bX 32 [dV ByteArray.empty, .dat (.sc (.slice none 0 0)), .dat (.sc (.slice none 0 0))], bX 48 [dV name, .own 64, .dat (.sc (.slice none 0 0))], aX 64 3 v5], 96⟩) (Wk_J G.hL ⟨[(0, []), (2, []), (6, []), (7, []), (8, []), (9, [])], [(0, 0, []), (32, 16, []), (48, 64, [.k, .o 64])], [(64, 3, 1, [])], 96⟩ (by kernel_rfl)) ?_)
  rintro ⟨v, v1, v2, v3, v4, v5⟩ r0 hb hm
  rw [s_l1Cur_line_L1] at hm
  refine Ok_seq (rg G (cd hm (fun hm => ?_) (fun hm => ?_)))
  ·refine X_skip (thN (Ok_seq (Ok_block (jn hm (fun v6 => ⟨[(0, .ref 0 0), (2, dV stops), (6, .ref 32 0), (7, .ref 48 0), (8, dV v), (9, dV v1)], [bX 0 [dV v2, dV v3, kV .u64 v4], bX 32 [dV ByteArray.empty, .dat (.sc (.slice none 0 0)), .dat (.sc (.slice none 0 0))], bX 48 [dV name, .own 64, .dat (.sc (.slice none 0 0))], aX 64 3 v6], 96⟩) (fun v6 hm => ?_) ?_))))
   ·obtain ⟨r2, h2, hm⟩ := obind hm
    refine rs G (hC 2 (s_l2Place_c h2) h0) ?_
    refine cd hm (fun hm => ?_) (fun hm => ?_)
    ·obtain ⟨u, h3, hm⟩ := obind hm
     refine re G (hA 4 8 h3 h0) ?_
     exact wJ G hm
    ·exact X_skip (wJ G hm)
   rintro v6 hm
   obtain ⟨r3, h4, hm⟩ := obind hm
   obtain ⟨u1, h5, hm⟩ := obind hm
   refine re G (hC 3 (s_l1Cur_pick_c h4) (hK h5 h0)) ?_
   exact ibN (thN (rh G (wL G hm)))
  ·exact Ok_exit (thE (thE (ibE (wD G hm hb))))
 rintro ⟨v7, v8, v9, v10⟩ hm s hw
 refine thN (Ok_weak hw ?_)
 refine jn hm (fun v11 => ⟨[(0, .ref 0 0), (6, .ref 32 0), (7, .ref 48 0)], [bX 0 [dV v7, dV v8, kV .u64 v9], bX 32 [dV ByteArray.empty, .dat (.sc (.slice none 0 0)), .dat (.sc (.slice none 0 0))], bX 48 [dV name, .own 64, .dat (.sc (.slice none 0 0))], aX 64 3 v11], 96⟩) (fun v11 hm => ?_) ?_
 ·refine rs G (hN 2 v10 h0) ?_
  refine cd hm (fun hm => ?_) (fun hm => ?_)
  ·obtain ⟨e1, h9, hm⟩ := obind hm
   obtain ⟨u4, h10, hm⟩ := obind hm
   obtain ⟨u5, h11, hm⟩ := obind hm
   refine de G [(10, [64, 304]), (12, [48, 320])] (hD 4 h9 (hE 5 h9 (hK h10 (hA 10 8 h11 h0)))) ?_
   exact wJ G hm
  ·exact X_skip (wJ G hm)
 rintro v11 hm
 refine Ok_seq (rg G (tl hm (fun (v17, v18, v19, v20) => ⟨[(0, .ref 0 0), (6, .ref 32 0), (7, .ref 48 0)], [bX 0 [dV v17, dV v18, kV .u64 v19], bX 32 [dV ByteArray.empty, .dat (.sc (.slice none 0 0)), .dat (.sc (.slice none 0 0))], bX 48 [dV name, .own 64, .own 80], aX 64 3 v11, aX 80 3 v20], 112⟩) (fun vv hm => ?_) ?_))
 ·refine Ok_block (lpP hm (fun (v12, v13, v14, v15, v16) => ⟨[(0, .ref 0 0), (6, .ref 32 0), (7, .ref 48 0), (10, dV v12)], [bX 0 [dV v13, dV v14, kV .u64 v15], bX 32 [dV ByteArray.empty, .dat (.sc (.slice none 0 0)), .dat (.sc (.slice none 0 0))], bX 48 [dV name, .own 64, .own 80], aX 64 3 v11, aX 80 3 v16], 112⟩) (Wk_J G.hL ⟨[(0, []), (6, []), (7, []), (10, [])], [(0, 0, []), (32, 32, []), (48, 48, [.k, .k, .o 80]), (64, 64, [])], [(80, 3, 1, [])], 112⟩ (by kernel_rfl)) ?_)
  rintro ⟨v12, v13, v14, v15, v16⟩ r0 hb1 hm
  rw [s_l1Cur_line_L2] at hm
  refine Ok_seq (rs G (hN 3 v11 h0) ?_)
  refine cd hm (fun hm => ?_) (fun hm => ?_)
  ·refine X_skip (thN (Ok_seq (Ok_block ?_)))
   obtain ⟨r5, h14, hm⟩ := obind hm
   obtain ⟨u7, h15, hm⟩ := obind hm
   refine de G [(3, [0]), (6, [80, 272]), (8, [48, 288])] (hC 3 (s_l1Cur_pick_c h14) (hA 6 8 h15 h0)) ?_
   exact ibN (thN (rh G (wL G hm)))
  ·exact Ok_exit (thE (thE (ibE (wD G hm hb1))))
 rintro ⟨v17, v18, v19, v20⟩ hm s1 hw1
 refine thN (Ok_weak hw1 ?_)
 refine rg G ?_
 cases hm
 exact rt [64, 80] []
noncomputable def s_l1Cur_line_f_M : MS (l1Cur × ByteArray × Int) (Line × l1Cur) := ⟨.x .b (.x .r .r), fun x => s_l1Cur_line_f x.1 x.2.1 x.2.2, fun y => dV y.1, fun _ => [], fun _ y => [bxO y.2]⟩
theorem s_l1Cur_line_f_c {c name stops y} (hm : s_l1Cur_line_f c name stops = some y) : s_l1Cur_line_f_M.C (c, name, stops) y := s_l1Cur_line_f_M.c (c, name, stops) hm
theorem s_l1Cur_line_f_ok : FnOK Try.prog 299 s_l1Cur_line_f_M.S := by
 refine fm tt s_l1Cur_line_f_M [fo s_l1Cur_pick_ok, fo s_l2Place_ok] Try.call299 Try.func299 rfl Try.results299 Try.ntmps299 ?_
 rintro ⟨c, name, stops⟩ y cx G hm
 have hm : s_l1Cur_line_f c name stops = some y := hm
 unfold s_l1Cur_line_f at hm
 refine rg G (rg G ?_)
 obtain ⟨r, h, hm⟩ := obind hm
 refine rs G (hC 2 (s_l1Cur_pick_c h) h0) ?_
 refine Ok_seq ?_
 obtain ⟨r1, h1, hm⟩ := obind hm
 refine rs G (hC 1 (s_l1Cur_pick_c h1) h0) ?_
 refine tl hm (fun (v7, v8, v9, v10) => ⟨[(0, .ref 0 0), (2, dV stops), (6, .ref 32 0), (7, .ref 48 0)], [bX 0 [dV v7, dV v8, kV .u64 v9], bX 32 [dV ByteArray.empty, .dat (.sc (.slice none 0 0)), .dat (.sc (.slice none 0 0))], bX 48 [dV name, .own 64, .dat (.sc (.slice none 0 0))], aX 64 3 v10], 96⟩) (fun vv1 hm => ?_) ?_
 ·refine Ok_block (lpP hm (fun (v, v1, v2, v3, v4, v5) => ⟨[(0, .ref 0 0), (2, dV stops), (6, .ref 32 0), (7, .ref 48 0), (8, dV v), (9, dV v1)], [bX 0 [dV v2, dV v3, kV .u64 v4], bX 32 [dV ByteArray.empty, .dat (.sc (.slice none 0 0)), .dat (.sc (.slice none 0 0))], bX 48 [dV name, .own 64, .dat (.sc (.slice none 0 0))], aX 64 3 v5], 96⟩) (Wk_J G.hL ⟨[(0, []), (2, []), (6, []), (7, []), (8, []), (9, [])], [(0, 0, []), (32, 16, []), (48, 64, [.k, .o 64])], [(64, 3, 1, [])], 96⟩ (by kernel_rfl)) ?_)
  rintro ⟨v, v1, v2, v3, v4, v5⟩ r0 hb hm
  rw [s_l1Cur_line_f_L1] at hm
  refine Ok_seq (rg G (cd hm (fun hm => ?_) (fun hm => ?_)))
  ·refine X_skip (thN (Ok_seq (Ok_block (jn hm (fun v6 => ⟨[(0, .ref 0 0), (2, dV stops), (6, .ref 32 0), (7, .ref 48 0), (8, dV v), (9, dV v1)], [bX 0 [dV v2, dV v3, kV .u64 v4], bX 32 [dV ByteArray.empty, .dat (.sc (.slice none 0 0)), .dat (.sc (.slice none 0 0))], bX 48 [dV name, .own 64, .dat (.sc (.slice none 0 0))], aX 64 3 v6], 96⟩) (fun v6 hm => ?_) ?_))))
   ·obtain ⟨r2, h2, hm⟩ := obind hm
    refine rs G (hC 2 (s_l2Place_c h2) h0) ?_
    refine cd hm (fun hm => ?_) (fun hm => ?_)
    ·obtain ⟨u, h3, hm⟩ := obind hm
     refine re G (hA 4 8 h3 h0) ?_
     exact wJ G hm
    ·exact X_skip (wJ G hm)
   rintro v6 hm
   obtain ⟨r3, h4, hm⟩ := obind hm
   obtain ⟨u1, h5, hm⟩ := obind hm
   refine re G (hC 3 (s_l1Cur_pick_c h4) (hK h5 h0)) ?_
   exact ibN (thN (rh G (wL G hm)))
  ·exact Ok_exit (thE (thE (ibE (wD G hm hb))))
 rintro ⟨v7, v8, v9, v10⟩ hm s hw
 refine thN (Ok_weak hw ?_)
 refine jn hm (fun v11 => ⟨[(0, .ref 0 0), (6, .ref 32 0), (7, .ref 48 0)], [bX 0 [dV v7, dV v8, kV .u64 v9], bX 32 [dV ByteArray.empty, .dat (.sc (.slice none 0 0)), .dat (.sc (.slice none 0 0))], bX 48 [dV name, .own 64, .dat (.sc (.slice none 0 0))], aX 64 3 v11], 96⟩) (fun v11 hm => ?_) ?_
 ·refine rs G (hN 2 v10 h0) ?_
  refine cd hm (fun hm => ?_) (fun hm => ?_)
  ·obtain ⟨e1, h9, hm⟩ := obind hm
   obtain ⟨u4, h10, hm⟩ := obind hm
   obtain ⟨u5, h11, hm⟩ := obind hm
   refine de G [(10, [64, 304]), (12, [48, 320])] (hD 4 h9 (hE 5 h9 (hK h10 (hA 10 8 h11 h0)))) ?_
   exact wJ G hm
  ·exact X_skip (wJ G hm)
 rintro v11 hm
 refine Ok_seq (rg G (tl hm (fun (v17, v18, v19, v20) => ⟨[(0, .ref 0 0), (6, .ref 32 0), (7, .ref 48 0)], [bX 0 [dV v17, dV v18, kV .u64 v19], bX 32 [dV ByteArray.empty, .dat (.sc (.slice none 0 0)), .dat (.sc (.slice none 0 0))], bX 48 [dV name, .own 64, .own 80], aX 64 3 v11, aX 80 3 v20], 112⟩) (fun vv hm => ?_) ?_))
 ·refine Ok_block (lpP hm (fun (v12, v13, v14, v15, v16) => ⟨[(0, .ref 0 0), (6, .ref 32 0), (7, .ref 48 0), (10, dV v12)], [bX 0 [dV v13, dV v14, kV .u64 v15], bX 32 [dV ByteArray.empty, .dat (.sc (.slice none 0 0)), .dat (.sc (.slice none 0 0))], bX 48 [dV name, .own 64, .own 80], aX 64 3 v11, aX 80 3 v16], 112⟩) (Wk_J G.hL ⟨[(0, []), (6, []), (7, []), (10, [])], [(0, 0, []), (32, 32, []), (48, 48, [.k, .k, .o 80]), (64, 64, [])], [(80, 3, 1, [])], 112⟩ (by kernel_rfl)) ?_)
  rintro ⟨v12, v13, v14, v15, v16⟩ r0 hb1 hm
  rw [s_l1Cur_line_f_L2] at hm
  refine Ok_seq (rs G (hN 3 v11 h0) ?_)
  refine cd hm (fun hm => ?_) (fun hm => ?_)
  ·refine X_skip (thN (Ok_seq (Ok_block ?_)))
   obtain ⟨r5, h14, hm⟩ := obind hm
   obtain ⟨u7, h15, hm⟩ := obind hm
   refine de G [(3, [0]), (6, [80, 272]), (8, [48, 288])] (hC 3 (s_l1Cur_pick_c h14) (hA 6 8 h15 h0)) ?_
   exact ibN (thN (rh G (wL G hm)))
  ·exact Ok_exit (thE (thE (ibE (wD G hm hb1))))
 rintro ⟨v17, v18, v19, v20⟩ hm s1 hw1
 refine thN (Ok_weak hw1 ?_)
 refine rg G ?_
 cases hm
 exact rt [] []
noncomputable def s_l1Cur_one_M : MS (l1Cur × Int) (Bool × l1Cur) := ⟨.x .b .r, fun x => s_l1Cur_one x.1 x.2, fun y => dV y.1, fun _ => [], fun _ y => [bxO y.2]⟩
theorem s_l1Cur_one_c {c n y} (hm : s_l1Cur_one c n = some y) : s_l1Cur_one_M.C (c, n) y := s_l1Cur_one_M.c (c, n) hm
theorem s_l1Cur_one_ok : FnOK Try.prog 134 s_l1Cur_one_M.S := by
 refine fm tt s_l1Cur_one_M [fo s_l1Cur_pick_ok] Try.call134 Try.func134 rfl Try.results134 Try.ntmps134 ?_
 rintro ⟨c, n⟩ y cx G hm
 have hm : s_l1Cur_one c n = some y := hm
 unfold s_l1Cur_one at hm
 refine rg G ?_
 obtain ⟨r, h, hm⟩ := obind hm
 refine rs G (hC 2 (s_l1Cur_pick_c h) h0) ?_
 cases hm
 exact rt [] []
noncomputable def s_l2Back_f_M : MS ((List Int)) ((List Int)) := ⟨.r, s_l2Back_f, fun y => dV y, fun _ => [], fun _ _ => []⟩
theorem s_l2Back_f_c {list y} (hm : s_l2Back_f list = some y) : s_l2Back_f_M.C list y := s_l2Back_f_M.c list hm
theorem s_l2Back_f_ok : FnOK Try.prog 321 s_l2Back_f_M.S := by
 refine fm tt s_l2Back_f_M [] Try.call321 Try.func321 rfl Try.results321 Try.ntmps321 ?_
 rintro list y cx G hm
 have hm : s_l2Back_f list = some y := hm
 unfold s_l2Back_f at hm
 refine rg G (rg G (Ok_seq (rs G (hN 1 list h0) ?_)))
 refine tl hm (fun i1 => ⟨[(3, .own 16)], [aX 16 3 i1], 48⟩) (fun i1 hm => ?_) ?_
 ·refine Ok_block (lp G hm (fun (v, i) => ⟨[(0, dV list), (3, .own 16), (4, dV v)], [aX 16 3 i], 48⟩) ?_)
  rintro ⟨v, i⟩ r0 hb hm
  rw [s_l2Back_f_L1] at hm
  refine Ok_seq (rg G (cd hm (fun hm => ?_) (fun hm => ?_)))
  ·refine X_skip (thN (Ok_seq (Ok_block ?_)))
   obtain ⟨e, h, hm⟩ := obind hm
   obtain ⟨u, h1, hm⟩ := obind hm
   refine re G (hD 3 h (hA 6 8 h1 h0)) ?_
   exact ibN (thN (rh G (wL G hm)))
  ·exact Ok_exit (thE (thE (ibE (wD G hm hb))))
 rintro i1 hm s hw
 refine thN (Ok_weak hw ?_)
 refine rg G ?_
 cases hm
 exact rt [] []
noncomputable def s_l1Own_M : MS ((List Int)) ((List Int)) := ⟨.r, s_l1Own, fun _ => .own 0, fun y => [arO 3 y], fun _ _ => []⟩
theorem s_l1Own_c {l y} (hm : s_l1Own l = some y) : s_l1Own_M.C l y := s_l1Own_M.c l hm
theorem s_l1Own_ok : FnOK Try.prog 235 s_l1Own_M.S := by
 refine fm tt s_l1Own_M [] Try.call235 Try.func235 rfl Try.results235 Try.ntmps235 ?_
 rintro l y cx G hm
 have hm : s_l1Own l = some y := hm
 unfold s_l1Own at hm
 refine rg G ?_
 obtain ⟨u, h, hm⟩ := obind hm
 refine rs G (hA 2 8 h h0) ?_
 cases hm
 exact rt [64] []
noncomputable def s_l1Cur_of_w_M : MS (l1Cur × (List ByteArray)) (ByteArray × l1Cur) := ⟨.x .b (.s 9), fun x => s_l1Cur_of_w x.1 x.2, fun y => dV y.1, fun _ => [], fun x y => [bxO y.2, arO 9 x.2]⟩
theorem s_l1Cur_of_w_c {c list y} (hm : s_l1Cur_of_w c list = some y) : s_l1Cur_of_w_M.C (c, list) y := s_l1Cur_of_w_M.c (c, list) hm
theorem s_l1Cur_of_w_ok : FnOK Try.prog 196 s_l1Cur_of_w_M.S := by
 refine fm tt s_l1Cur_of_w_M [fo s_l1Cur_pick_ok] Try.call196 Try.func196 rfl Try.results196 Try.ntmps196 ?_
 rintro ⟨c, list⟩ y cx G hm
 have hm : s_l1Cur_of_w c list = some y := hm
 unfold s_l1Cur_of_w at hm
 refine rg G ?_
 obtain ⟨r, h, hm⟩ := obind hm
 obtain ⟨e, h1, hm⟩ := obind hm
 refine rs G (hN 3 list (hC 4 (s_l1Cur_pick_c h) (hD 5 h1 (hE 6 h1 h0)))) ?_
 cases hm
 exact rt [] []
noncomputable def s_l2Own_t_M : MS Network Network := ⟨.r, s_l2Own_t, fun _ => .aggv [.own 0, .own 1], fun y => [arO 9 y.Stops, taO 236 [none, some 3, some 3] y.Lines], fun _ _ => []⟩
theorem s_l2Own_t_c {n y} (hm : s_l2Own_t n = some y) : s_l2Own_t_M.C n y := s_l2Own_t_M.c n hm
theorem s_l2Own_t_ok : FnOK Try.prog 266 s_l2Own_t_M.S := by
 refine fm tt s_l2Own_t_M [fo s_l1Own_ok] Try.call266 Try.func266 rfl Try.results266 Try.ntmps266 ?_
 rintro n y cx G hm
 have hm : s_l2Own_t n = some y := hm
 unfold s_l2Own_t at hm
 refine rg G ?_
 obtain ⟨u, h, hm⟩ := obind hm
 refine rs G (hA 3 16 h h0) ?_
 refine Ok_seq (rg G (tl hm (fun v2 => ⟨[(2, .ref 16 0), (3, .ref 32 0)], [bX 16 [.dat (.sc (.slice none 0 0)), .dat (.sc (.slice none 0 0))], bX 32 [.own 48, .own 64], aX 48 9 (([] : List ByteArray) ++ n.Stops), tX 64 236 [none, some 3, some 3] v2 64 none], 96⟩) (fun v2 hm => ?_) ?_))
 ·refine Ok_block (lpP hm (fun (v, v1) => ⟨[(1, .ref 16 0), (2, .ref 32 0), (3, .ref 48 0), (4, dV v)], [bX 16 [dV n.Stops, dV n.Lines], bX 32 [.dat (.sc (.slice none 0 0)), .dat (.sc (.slice none 0 0))], bX 48 [.own 64, .own 80], aX 64 9 (([] : List ByteArray) ++ n.Stops), tX 80 236 [none, some 3, some 3] v1 80 none], 112⟩) (Wk_J G.hL ⟨[(1, []), (2, []), (3, []), (4, [])], [(16, 16, []), (32, 32, []), (48, 128, [.k, .o 80]), (64, 96, [])], [(80, 236, 3, [none, some 3, some 3])], 112⟩ (by kernel_rfl)) ?_)
  rintro ⟨v, v1⟩ r0 hb hm
  rw [s_l2Own_t_L1] at hm
  refine Ok_seq (rs G (hN 3 n.Lines h0) ?_)
  refine cd hm (fun hm => ?_) (fun hm => ?_)
  ·refine X_skip (thN (Ok_seq (Ok_block ?_)))
   obtain ⟨e3, h7, hm⟩ := obind hm
   obtain ⟨e4, h8, hm⟩ := obind hm
   obtain ⟨r2, h9, hm⟩ := obind hm
   obtain ⟨e5, h10, hm⟩ := obind hm
   obtain ⟨r3, h11, hm⟩ := obind hm
   obtain ⟨u2, h12, hm⟩ := obind hm
   refine de G [(23, [416, 528]), (24, [80, 560]), (26, [48, 576])] (hD 5 h7 (hD 11 h8 (hC 14 (s_l1Own_c h9) (hD 18 h10 (hC 21 (s_l1Own_c h11) (hP (nodupB_ok (l := [416, 528]) rfl) (hA 24 64 h12 h0))))))) ?_
   exact ibN (thN (rh G (wL G hm)))
  ·exact Ok_exit (thE (thE (ibE (wD G hm hb))))
 rintro v2 hm s hw
 refine thN (Ok_weak hw ?_)
 refine rg G ?_
 cases hm
 exact rt [48, 64] []
noncomputable def s_l1Cur_network_t_M : MS l1Cur (Network × l1Cur) := ⟨.b, s_l1Cur_network_t, fun _ => .aggv [.own 0, .own 1], fun y => [arO 9 y.1.Stops, taO 236 [none, some 3, some 3] y.1.Lines], fun _ y => [bxO y.2]⟩
theorem s_l1Cur_network_t_c {c y} (hm : s_l1Cur_network_t c = some y) : s_l1Cur_network_t_M.C c y := s_l1Cur_network_t_M.c c hm
theorem s_l1Cur_network_t_ok : FnOK Try.prog 279 s_l1Cur_network_t_M.S := by
 refine fm tt s_l1Cur_network_t_M [fo s_l1Cur_pick_ok, fo s_l1Num_ok, fo s_l1Cur_line_f_ok, fo s_l1Cur_one_ok, fo s_l2Back_f_ok, fo s_l2Own_t_ok] Try.call279 Try.func279 rfl Try.results279 Try.ntmps279 ?_
 rintro c y cx G hm
 have hm : s_l1Cur_network_t c = some y := hm
 unfold s_l1Cur_network_t at hm
 refine rg G ?_
 obtain ⟨r, h, hm⟩ := obind hm
 refine rs G (hC 1 (s_l1Cur_pick_c h) h0) ?_
 obtain ⟨u, h1, hm⟩ := obind hm
 refine rs G (hO 2 (.fz [96] [] []) (hU 2 h1 h0)) ?_
 refine Ok_seq ?_
 obtain ⟨r1, h2, hm⟩ := obind hm
 refine rs G (hC 1 (s_l1Cur_pick_c h2) h0) ?_
 refine tl hm (fun (v4, v5, v6, v7) => ⟨[(0, .ref 0 0), (2, .ref 32 0), (4, .ref 48 0)], [bX 0 [dV v4, dV v5, kV .u64 v6], bX 32 [.dat (.sc (.slice none 0 0)), .dat (.sc (.slice none 0 0))], bX 48 [dV ((([(str [112, 111, 114, 116]), (str [109, 105, 108, 108]), (str [112, 97, 114, 107]), (str [104, 97, 108, 108]), (str [100, 111, 99, 107]), (str [102, 97, 105, 114])] : List ByteArray).take (w64 (2 + r.1)).toNat).drop (0 : Int).toNat), .own 64], aX 64 236 v7], 96⟩) (fun vv1 hm => ?_) ?_
 ·refine Ok_block (lpP hm (fun (x, v, v1, v2, v3) => ⟨[(0, .ref 0 0), (2, .ref 32 0), (3, dV (w64 (2 + r.1))), (4, .ref 48 0), (5, dV x)], [bX 0 [dV v, dV v1, kV .u64 v2], bX 32 [.dat (.sc (.slice none 0 0)), .dat (.sc (.slice none 0 0))], bX 48 [dV ((([(str [112, 111, 114, 116]), (str [109, 105, 108, 108]), (str [112, 97, 114, 107]), (str [104, 97, 108, 108]), (str [100, 111, 99, 107]), (str [102, 97, 105, 114])] : List ByteArray).take (w64 (2 + r.1)).toNat).drop (0 : Int).toNat), .own 64], aX 64 236 v3], 96⟩) (Wk_J G.hL ⟨[(0, []), (2, []), (3, []), (4, []), (5, [])], [(0, 0, []), (32, 16, []), (48, 160, [.k, .o 64])], [(64, 236, 3, [])], 96⟩ (by kernel_rfl)) ?_)
  rintro ⟨x, v, v1, v2, v3⟩ r0 hb hm
  rw [s_l1Cur_network_t_L1] at hm
  refine Ok_seq (rg G (cd hm (fun hm => ?_) (fun hm => ?_)))
  ·refine X_skip (thN (Ok_seq (Ok_block ?_)))
   obtain ⟨r4, h7, hm⟩ := obind hm
   obtain ⟨u3, h8, hm⟩ := obind hm
   obtain ⟨r5, h9, hm⟩ := obind hm
   obtain ⟨u4, h10, hm⟩ := obind hm
   refine de G [(7, [0]), (8, []), (9, [64, 256]), (11, [48, 272])] (hC 4 (s_l1Num_c h7) (hP (cat_p (chk_t h8)) (hC 7 (s_l1Cur_line_f_c h9) (hA 9 64 h10 h0)))) ?_
   exact ibN (thN (rh G (wL G hm)))
  ·exact Ok_exit (thE (thE (ibE (wD G hm hb))))
 rintro ⟨v4, v5, v6, v7⟩ hm s hw
 refine thN (Ok_weak hw ?_)
 refine jn hm (fun (v8, v9, v10, v11) => ⟨[(0, .ref 0 0), (2, .ref 32 0), (4, .ref 48 0)], [bX 0 [dV v8, dV v9, kV .u64 v10], bX 32 [.dat (.sc (.slice none 0 0)), .dat (.sc (.slice none 0 0))], bX 48 [dV ((([(str [112, 111, 114, 116]), (str [109, 105, 108, 108]), (str [112, 97, 114, 107]), (str [104, 97, 108, 108]), (str [100, 111, 99, 107]), (str [102, 97, 105, 114])] : List ByteArray).take (w64 (2 + r.1)).toNat).drop (0 : Int).toNat), .own 64], aX 64 236 v11], 96⟩) (fun vv hm => ?_) ?_
 ·obtain ⟨r6, h11, hm⟩ := obind hm
  refine rs G (hC 1 (s_l1Cur_one_c h11) h0) ?_
  refine cd hm (fun hm => ?_) (fun hm => ?_)
  ·obtain ⟨e, h12, hm⟩ := obind hm
   refine rs G (hD 2 h12 (hE 3 h12 h0)) ?_
   obtain ⟨r9, h16, hm⟩ := obind hm
   obtain ⟨r10, h17, hm⟩ := obind hm
   obtain ⟨u6, h18, hm⟩ := obind hm
   refine de G [(9, []), (10, [64, 368]), (12, [48, 384])] (hC 4 (s_l2Back_f_c h16) (hC 7 (s_l2Back_f_c h17) (hA 10 64 h18 h0))) ?_
   exact wJ G hm
  ·exact X_skip (wJ G hm)
 rintro ⟨v8, v9, v10, v11⟩ hm
 obtain ⟨r11, h19, hm⟩ := obind hm
 refine rs G (hO 1 (.fz [64] [] []) (hC 1 (s_l2Own_t_c h19) h0)) ?_
 cases hm
 exact rt [112, 113] []
noncomputable def s_l1Cur_among_M : MS (l1Cur × (List Int)) (Int × l1Cur) := ⟨.x .b .r, fun x => s_l1Cur_among x.1 x.2, fun y => dV y.1, fun _ => [], fun _ y => [bxO y.2]⟩
theorem s_l1Cur_among_c {c list y} (hm : s_l1Cur_among c list = some y) : s_l1Cur_among_M.C (c, list) y := s_l1Cur_among_M.c (c, list) hm
theorem s_l1Cur_among_ok : FnOK Try.prog 157 s_l1Cur_among_M.S := by
 refine fm tt s_l1Cur_among_M [fo s_l1Cur_pick_ok] Try.call157 Try.func157 rfl Try.results157 Try.ntmps157 ?_
 rintro ⟨c, list⟩ y cx G hm
 have hm : s_l1Cur_among c list = some y := hm
 unfold s_l1Cur_among at hm
 refine rg G ?_
 obtain ⟨r, h, hm⟩ := obind hm
 obtain ⟨e, h1, hm⟩ := obind hm
 refine rs G (hN 3 list (hC 4 (s_l1Cur_pick_c h) (hD 5 h1 h0))) ?_
 cases hm
 exact rt [] []
noncomputable def s_l1Cur_among_w_M : MS (l1Cur × (List Int)) (Int × l1Cur) := ⟨.x .b (.s 3), fun x => s_l1Cur_among_w x.1 x.2, fun y => dV y.1, fun _ => [], fun x y => [bxO y.2, arO 3 x.2]⟩
theorem s_l1Cur_among_w_c {c list y} (hm : s_l1Cur_among_w c list = some y) : s_l1Cur_among_w_M.C (c, list) y := s_l1Cur_among_w_M.c (c, list) hm
theorem s_l1Cur_among_w_ok : FnOK Try.prog 157 s_l1Cur_among_w_M.S := by
 refine fm tt s_l1Cur_among_w_M [fo s_l1Cur_pick_ok] Try.call157 Try.func157 rfl Try.results157 Try.ntmps157 ?_
 rintro ⟨c, list⟩ y cx G hm
 have hm : s_l1Cur_among_w c list = some y := hm
 unfold s_l1Cur_among_w at hm
 refine rg G ?_
 obtain ⟨r, h, hm⟩ := obind hm
 obtain ⟨e, h1, hm⟩ := obind hm
 refine rs G (hN 3 list (hC 4 (s_l1Cur_pick_c h) (hD 5 h1 (hE 6 h1 h0)))) ?_
 cases hm
 exact rt [] []
noncomputable def s_l1Cur_anyNetwork_M : MS l1Cur (Network × l1Cur) := ⟨.b, s_l1Cur_anyNetwork, fun y => .aggv [.own 0, dV y.1.Lines], fun y => [arO 9 y.1.Stops], fun _ y => [bxO y.2]⟩
theorem s_l1Cur_anyNetwork_c {c y} (hm : s_l1Cur_anyNetwork c = some y) : s_l1Cur_anyNetwork_M.C c y := s_l1Cur_anyNetwork_M.c c hm
theorem s_l1Cur_anyNetwork_ok : FnOK Try.prog 230 s_l1Cur_anyNetwork_M.S := by
 refine fm tt s_l1Cur_anyNetwork_M [fo s_l1Cur_network_t_ok, fo s_l1Cur_pick_ok, fo s_l1Cur_of_w_ok, fo s_l1Cur_among_w_ok, fo s_l1Num_ok, fo s_l1Cur_line_ok] Try.call230 Try.func230 rfl Try.results230 Try.ntmps230 ?_
 rintro c y cx G hm
 have hm : s_l1Cur_anyNetwork c = some y := hm
 unfold s_l1Cur_anyNetwork at hm
 refine rg G ?_
 obtain ⟨r, h, hm⟩ := obind hm
 refine rs G (hC 1 (s_l1Cur_network_t_c h) h0) ?_
 obtain ⟨r1, h1, hm⟩ := obind hm
 refine rs G (hN 3 r.1.Lines (hC 4 (s_l1Cur_pick_c h1) h0)) ?_
 obtain ⟨e, h2, hm⟩ := obind hm
 refine rs G (hD 3 h2 (hE 4 h2 h0)) ?_
 refine jF hm (fun (v, v1, v2, v3, v4, v5, v6) => ⟨[(0, .ref 0 0), (2, .ref 32 0), (3, .ref 48 0), (4, dV r1.1), (5, .ref 64 0)], [bX 0 [dV v, dV v1, kV .u64 v2], bX 32 [.dat (.sc (.slice none 0 0)), .dat (.sc (.slice none 0 0))], bX 48 [.own 80, .own 96], bX 64 [dV v3, .row 96 96 r1.1.toNat 1, .own 112], aX 80 9 v4, tX 96 236 [none, some 3, some 3] v5 96 (some (r1.1.toNat, 2)), aX 112 3 v6], 144⟩) (fun v17 hr hm => ?_) ?_
 ·obtain ⟨r2, h3, hm⟩ := obind hm
  refine rs G (hC 1 (s_l1Cur_pick_c h3) h0) ?_
  refine Ok_block (rg G (cd hm (fun hm => ?_) (fun hm => ?_)))
  ·obtain ⟨r4, h6, hm⟩ := obind hm
   obtain ⟨e2, h7, hm⟩ := obind hm
   refine de G [(4, [0, 416]), (6, [48])] (hC 4 (s_l1Cur_of_w_c h6) (hD 5 h7 (hS 6 h7 r4.1 h0))) ?_
   exact ibN (wFp hm (Wk.trans (Wk_S (.c 272 2) (Enc.e e) (.cons (idx_m2 (f := Enc.e) (l := r.1.Lines) (i := r1.1) h2) .nil) (by kernel_rfl)) (Wk_J G.hL ⟨[(0, []), (2, []), (3, []), (4, []), (5, [])], [(0, 0, []), (32, 16, []), (48, 64, []), (64, 272, []), (80, 48, []), (96, 49, []), (112, 480, [])], [], 144⟩ (by kernel_rfl))))
  ·refine rg G (cd hm (fun hm => ?_) (fun hm => ?_))
   ·obtain ⟨r5, h8, hm⟩ := obind hm
    refine re G (hC 2 (s_l1Cur_of_w_c h8) h0) ?_
    exact ibN (wFp hm (Wk.trans (Wk_S (.c 272 2) (Enc.e e) (.cons (idx_m2 (f := Enc.e) (l := r.1.Lines) (i := r1.1) h2) .nil) (by kernel_rfl)) (Wk_J G.hL ⟨[(0, []), (2, []), (3, []), (4, []), (5, [])], [(0, 0, []), (32, 16, []), (48, 64, []), (64, 272, []), (80, 48, []), (96, 49, []), (112, 480, [])], [], 144⟩ (by kernel_rfl))))
   ·refine rg G (cd hm (fun hm => ?_) (fun hm => ?_))
    ·obtain ⟨r8, h12, hm⟩ := obind hm
     obtain ⟨r9, h13, hm⟩ := obind hm
     obtain ⟨e4, h14, hm⟩ := obind hm
     refine de G [(6, [0]), (8, [0]), (11, [49])] (hO 5 (.dn (Enc.e e) (e.Stops.length : Int)) (hP (idx_m2 (f := Enc.e) h2) (hP (len_m Enc.e e.Stops) (hC 6 (s_l1Cur_pick_c h12) (hC 8 (s_l1Cur_pick_c h13) (hE 10 h2 (hP (idx_b (f := Enc.e) h14) (hO 11 (.sd2 (Enc.e e) (Enc.e e4) (List.map Enc.e (e.Stops.set r8.1.toNat (w64 (r9.1 - 1)))) (List.map Enc.e (r.1.Lines.set r1.1.toNat (⟨e.Name, (e.Stops.set r8.1.toNat (w64 (r9.1 - 1))), e.Runs⟩ : Line)))) (hP (idx_m2 (f := Enc.e) h2) (hP (idx_m2 (f := Enc.e) h14) (hP (set_m Enc.e e.Stops r8.1.toNat (w64 (r9.1 - 1))) (hP (set_m Enc.e r.1.Lines r1.1.toNat (⟨e.Name, (e.Stops.set r8.1.toNat (w64 (r9.1 - 1))), e.Runs⟩ : Line)) h0)))))))))))) ?_
     exact ibN (wFp hm (Wk.trans (Wk_S (.c 272 2) (Enc.e (⟨e.Name, (e.Stops.set r8.1.toNat (w64 (r9.1 - 1))), e.Runs⟩ : Line)) (.cons (idx_m2 (f := Enc.e) (l := (r.1.Lines.set r1.1.toNat (⟨e.Name, (e.Stops.set r8.1.toNat (w64 (r9.1 - 1))), e.Runs⟩ : Line))) (i := r1.1) (idx_set (y := (⟨e.Name, (e.Stops.set r8.1.toNat (w64 (r9.1 - 1))), e.Runs⟩ : Line)) h2)) .nil) (by kernel_rfl)) (Wk_J G.hL ⟨[(0, []), (2, []), (3, []), (4, []), (5, [])], [(0, 0, []), (32, 16, []), (48, 64, []), (64, 272, []), (80, 48, []), (96, 49, []), (112, 624, [])], [], 144⟩ (by kernel_rfl))))
    ·refine rg G (cd hm (fun hm => ?_) (fun hm => ?_))
     ·obtain ⟨r12, h18, hm⟩ := obind hm
      obtain ⟨r13, h19, hm⟩ := obind hm
      obtain ⟨e6, h20, hm⟩ := obind hm
      refine de G [(6, [0]), (9, [0, 592]), (11, [49])] (hO 5 (.dn (Enc.e e) (e.Runs.length : Int)) (hP (idx_m2 (f := Enc.e) h2) (hP (len_m Enc.e e.Runs) (hC 6 (s_l1Cur_pick_c h18) (hC 9 (s_l1Cur_among_w_c h19) (hE 10 h2 (hP (idx_b (f := Enc.e) h20) (hO 11 (.sd2 (Enc.e e) (Enc.e e6) (List.map Enc.e (e.Runs.set r12.1.toNat r13.1)) (List.map Enc.e (r.1.Lines.set r1.1.toNat (⟨e.Name, e.Stops, (e.Runs.set r12.1.toNat r13.1)⟩ : Line)))) (hP (idx_m2 (f := Enc.e) h2) (hP (idx_m2 (f := Enc.e) h20) (hP (set_m Enc.e e.Runs r12.1.toNat r13.1) (hP (set_m Enc.e r.1.Lines r1.1.toNat (⟨e.Name, e.Stops, (e.Runs.set r12.1.toNat r13.1)⟩ : Line)) h0)))))))))))) ?_
      exact ibN (wFp hm (Wk.trans (Wk_S (.c 272 2) (Enc.e (⟨e.Name, e.Stops, (e.Runs.set r12.1.toNat r13.1)⟩ : Line)) (.cons (idx_m2 (f := Enc.e) (l := (r.1.Lines.set r1.1.toNat (⟨e.Name, e.Stops, (e.Runs.set r12.1.toNat r13.1)⟩ : Line))) (i := r1.1) (idx_set (y := (⟨e.Name, e.Stops, (e.Runs.set r12.1.toNat r13.1)⟩ : Line)) h2)) .nil) (by kernel_rfl)) (Wk_J G.hL ⟨[(0, []), (2, []), (3, []), (4, []), (5, [])], [(0, 0, []), (32, 16, []), (48, 64, []), (64, 272, []), (80, 48, []), (96, 49, []), (112, 656, [])], [], 144⟩ (by kernel_rfl))))
     ·refine rg G (cd hm (fun hm => ?_) (fun hm => ?_))
      ·obtain ⟨u, h21, hm⟩ := obind hm
       refine re G (hO 3 (.sd (Enc.e e) (List.map Enc.e (e.Runs ++ ([3] : List Int)))) (hP (idx_m2 (f := Enc.e) h2) (hP (app_p (f := Enc.e) (g := Enc.e) (l := e.Runs) (r := ([3] : List Int)) (b := 8) (chk_t h21) rfl) (hP (app_m Enc.e e.Runs ([3] : List Int)) h0)))) ?_
       exact ibN (wF G hm)
      ·refine rg G (cd hm (fun hm => ?_) (fun hm => ?_))
       ·refine rg G (rg G ?_)
        have hm := eR hm hr
        cases hm
        exact rt [48] []
       ·refine rg G (cd hm (fun hm => ?_) (fun hm => ?_))
        ·refine Ok_seq (rg G (tl hm (fun (v13, v14, v15, v16) => ⟨[(0, .ref 0 0), (2, .ref 32 0), (3, .ref 48 0)], [bX 0 [dV v13, dV v14, kV .u64 v15], bX 32 [.dat (.sc (.slice none 0 0)), .dat (.sc (.slice none 0 0))], bX 48 [.own 64, .own 80], aX 64 9 r.1.Stops, tX 80 236 [none, some 3, some 3] v16 80 none], 112⟩) (fun vv hm => ?_) ?_))
         ·refine Ok_block (lp G hm (fun (v7, v8, v9, v10, v11) => ⟨[(0, .ref 0 0), (2, .ref 32 0), (3, .ref 48 0), (6, dV v7)], [bX 0 [dV v8, dV v9, kV .u64 v10], bX 32 [.dat (.sc (.slice none 0 0)), .dat (.sc (.slice none 0 0))], bX 48 [.own 64, .own 80], aX 64 9 r.1.Stops, tX 80 236 [none, some 3, some 3] v11 80 none], 112⟩) ?_)
          rintro ⟨v7, v8, v9, v10, v11⟩ r0 hb hm
          rw [s_l1Cur_anyNetwork_L1] at hm
          refine Ok_seq ?_
          obtain ⟨r16, h23, hm⟩ := obind hm
          refine jn hm (fun v12 => ⟨[(0, .ref 0 0), (2, .ref 32 0), (3, .ref 48 0), (6, dV v7), (85, dV v12)], [bX 0 [dV r16.2.code_, dV r16.2.at_, kV .u64 r16.2.seed_.v], bX 32 [.dat (.sc (.slice none 0 0)), .dat (.sc (.slice none 0 0))], bX 48 [.own 64, .own 80], aX 64 9 r.1.Stops, tX 80 236 [none, some 3, some 3] v11 80 none], 112⟩) (fun v12 hm => ?_) ?_
          ·rcases bf hm with ⟨hb1, hm⟩ | ⟨hb1, hm⟩
           ·refine de G [(4, [0])] (hN 2 v11 (hC 4 (s_l1Cur_pick_c h23) (hO 7 (.b true) (hP hb1 h0)))) ?_
            exact wJ G hm
           ·refine de G [(4, [0])] (hN 2 v11 (hC 4 (s_l1Cur_pick_c h23) (hO 7 (.b false) (hP hb1 h0)))) ?_
            exact wJ G hm
          rintro v12 hm
          refine cd hm (fun hm => ?_) (fun hm => ?_)
          ·refine X_skip (thN (Ok_seq (Ok_block ?_)))
           obtain ⟨r19, h28, hm⟩ := obind hm
           obtain ⟨u3, h29, hm⟩ := obind hm
           obtain ⟨r20, h30, hm⟩ := obind hm
           obtain ⟨u4, h31, hm⟩ := obind hm
           refine de G [(9, [0]), (10, [256, 257]), (11, [80, 272]), (13, [48, 288])] (hC 4 (s_l1Num_c h28) (hP (cat_p (chk_t h29)) (hN 8 r.1.Stops (hC 9 (s_l1Cur_line_c h30) (hP (nodupB_ok (l := [256, 257]) rfl) (hA 11 64 h31 h0)))))) ?_
           exact ibN (thN (rh G (wL G hm)))
          ·exact Ok_exit (thE (thE (ibE (wD G hm hb))))
         rintro ⟨v13, v14, v15, v16⟩ hm s hw
         refine thN (Ok_weak hw ?_)
         refine rg G ?_
         have hm := eR hm hr
         cases hm
         exact rt [64] []
        ·exact X_skip (ibN (wFp hm (Wk.trans (Wk_S (.c 272 2) (Enc.e e) (.cons (idx_m2 (f := Enc.e) (l := r.1.Lines) (i := r1.1) h2) .nil) (by kernel_rfl)) (Wk_J G.hL ⟨[(0, []), (2, []), (3, []), (4, []), (5, [])], [(0, 0, []), (32, 16, []), (48, 64, []), (64, 272, []), (80, 48, []), (96, 49, []), (112, 560, [])], [], 144⟩ (by kernel_rfl)))))
 rintro ⟨v, v1, v2, v3, v4, v5, v6⟩ hm
 obtain ⟨e9, h32, hm⟩ := obind hm
 refine rs G (hD 4 h32 (hS 5 h32 (⟨v3, e9.Stops, v6⟩ : Line) (hP (Eq.refl r1.1.toNat) (hP (Eq.refl r1.1.toNat) h0)))) ?_
 refine rg G ?_
 cases hm
 exact rt [80] []
noncomputable def s_l1Cur_zoned_M : MS l1Cur (Network × (List Int) × l1Cur) := ⟨.b, s_l1Cur_zoned, fun y => .tup [.aggv [.own 0, dV y.1.Lines], .own 1], fun y => [arO 9 y.1.Stops, arO 3 y.2.1], fun _ y => [bxO y.2.2]⟩
theorem s_l1Cur_zoned_c {c y} (hm : s_l1Cur_zoned c = some y) : s_l1Cur_zoned_M.C c y := s_l1Cur_zoned_M.c c hm
theorem s_l1Cur_zoned_ok : FnOK Try.prog 173 s_l1Cur_zoned_M.S := by
 refine fm tt s_l1Cur_zoned_M [fo s_l1Cur_anyNetwork_ok, fo s_l1Cur_pick_ok, fo s_l1Cur_among_ok] Try.call173 Try.func173 rfl Try.results173 Try.ntmps173 ?_
 rintro c y cx G hm
 have hm : s_l1Cur_zoned c = some y := hm
 unfold s_l1Cur_zoned at hm
 refine rg G ?_
 obtain ⟨r, h, hm⟩ := obind hm
 refine rs G (hC 1 (s_l1Cur_anyNetwork_c h) h0) ?_
 refine rg G (Ok_seq (rg G (tl hm (fun (v4, v5, v6, i1) => ⟨[(0, .ref 0 0), (2, .ref 32 0), (4, .ref 48 0), (5, .own 64)], [bX 0 [dV v4, dV v5, kV .u64 v6], bX 32 [.dat (.sc (.slice none 0 0)), .dat (.sc (.slice none 0 0))], bX 48 [.own 80, dV r.1.Lines], aX 64 3 i1, aX 80 9 r.1.Stops], 112⟩) (fun vv1 hm => ?_) ?_)))
 ·refine Ok_block (lp G hm (fun (v, v1, v2, v3, i) => ⟨[(0, .ref 0 0), (2, .ref 32 0), (4, .ref 48 0), (5, .own 64), (6, dV v)], [bX 0 [dV v1, dV v2, kV .u64 v3], bX 32 [.dat (.sc (.slice none 0 0)), .dat (.sc (.slice none 0 0))], bX 48 [.own 80, dV r.1.Lines], aX 64 3 i, aX 80 9 r.1.Stops], 112⟩) ?_)
  rintro ⟨v, v1, v2, v3, i⟩ r0 hb hm
  rw [s_l1Cur_zoned_L1] at hm
  refine Ok_seq (rs G (hN 3 r.1.Stops h0) ?_)
  refine cd hm (fun hm => ?_) (fun hm => ?_)
  ·refine X_skip (thN (Ok_seq (Ok_block ?_)))
   obtain ⟨r1, h1, hm⟩ := obind hm
   obtain ⟨u, h2, hm⟩ := obind hm
   refine re G (hC 2 (s_l1Cur_pick_c h1) (hA 5 8 h2 h0)) ?_
   exact ibN (thN (rh G (wL G hm)))
  ·exact Ok_exit (thE (thE (ibE (wD G hm hb))))
 rintro ⟨v4, v5, v6, i1⟩ hm s hw
 refine thN (Ok_weak hw ?_)
 refine jn hm (fun (v7, v8, v9, i2) => ⟨[(0, .ref 0 0), (2, .ref 32 0), (4, .ref 48 0), (5, .own 64)], [bX 0 [dV v7, dV v8, kV .u64 v9], bX 32 [.dat (.sc (.slice none 0 0)), .dat (.sc (.slice none 0 0))], bX 48 [.own 80, dV r.1.Lines], aX 64 3 i2, aX 80 9 r.1.Stops], 112⟩) (fun vv hm => ?_) ?_
 ·obtain ⟨r2, h3, hm⟩ := obind hm
  refine rs G (hC 1 (s_l1Cur_pick_c h3) h0) ?_
  refine Ok_block (rg G (cd hm (fun hm => ?_) (fun hm => ?_)))
  ·obtain ⟨u1, h4, hm⟩ := obind hm
   refine re G (hA 2 8 h4 h0) ?_
   exact ibN (wJ G hm)
  ·refine rg G (cd hm (fun hm => ?_) (fun hm => ?_))
   ·refine rs G (hN 1 i1 h0) ?_
    refine cd hm (fun hm => ?_) (fun hm => ?_)
    ·obtain ⟨r3, h5, hm⟩ := obind hm
     obtain ⟨e, h6, hm⟩ := obind hm
     refine re G (hO 3 (.fz [288] [] []) (hC 3 (s_l1Cur_among_c h5) (hD 4 h6 (hS 5 h6 r3.1 h0)))) ?_
     exact ibN (wJ G hm)
    ·exact X_skip (ibN (wJ G hm))
   ·exact X_skip (ibN (wJ G hm))
 rintro ⟨v7, v8, v9, i2⟩ hm
 refine rg G ?_
 cases hm
 exact rt [80, 64] []
noncomputable def s_l1Most_M : MS (Int × Int) Int := ⟨.x .r .r, fun x => s_l1Most x.1 x.2, fun y => dV y, fun _ => [], fun _ _ => []⟩
theorem s_l1Most_c {a b y} (hm : s_l1Most a b = some y) : s_l1Most_M.C (a, b) y := s_l1Most_M.c (a, b) hm
theorem s_l1Most_ok : FnOK Try.prog 203 s_l1Most_M.S := by
 refine fm tt s_l1Most_M [] Try.call203 Try.func203 rfl Try.results203 Try.ntmps203 ?_
 rintro ⟨a, b⟩ y cx G hm
 have hm : s_l1Most a b = some y := hm
 unfold s_l1Most at hm
 refine rg G (Ok_seq (rg G (cd hm (fun hm => ?_) (fun hm => ?_))))
 ·refine rg G ?_
  cases hm
  exact rt [] []
 ·refine X_skip (thN (rg G ?_))
  cases hm
  exact rt [] []
noncomputable def s_l1Least_M : MS (Int × Int) Int := ⟨.x .r .r, fun x => s_l1Least x.1 x.2, fun y => dV y, fun _ => [], fun _ _ => []⟩
theorem s_l1Least_c {a b y} (hm : s_l1Least a b = some y) : s_l1Least_M.C (a, b) y := s_l1Least_M.c (a, b) hm
theorem s_l1Least_ok : FnOK Try.prog 183 s_l1Least_M.S := by
 refine fm tt s_l1Least_M [] Try.call183 Try.func183 rfl Try.results183 Try.ntmps183 ?_
 rintro ⟨a, b⟩ y cx G hm
 have hm : s_l1Least a b = some y := hm
 unfold s_l1Least at hm
 refine rg G (Ok_seq (rg G (cd hm (fun hm => ?_) (fun hm => ?_))))
 ·refine rg G ?_
  cases hm
  exact rt [] []
 ·refine X_skip (thN (rg G ?_))
  cases hm
  exact rt [] []
noncomputable def s_l1Cur_leg21_M : MS (l1Cur × Network) ((List Int) × l1Cur) := ⟨.x .b .r, fun x => s_l1Cur_leg21 x.1 x.2, fun _ => .own 0, fun y => [arO 3 y.1], fun _ y => [bxO y.2]⟩
theorem s_l1Cur_leg21_c {c n y} (hm : s_l1Cur_leg21 c n = some y) : s_l1Cur_leg21_M.C (c, n) y := s_l1Cur_leg21_M.c (c, n) hm
theorem s_l1Cur_leg21_ok : FnOK Try.prog 174 s_l1Cur_leg21_M.S := by
 refine fm tt s_l1Cur_leg21_M [fo s_l1Cur_pick_ok, fo s_l1Most_ok, fo s_l1Least_ok, fo s_l1Cur_one_ok, fo s_l1Cur_among_ok] Try.call174 Try.func174 rfl Try.results174 Try.ntmps174 ?_
 rintro ⟨c, n⟩ y cx G hm
 have hm : s_l1Cur_leg21 c n = some y := hm
 unfold s_l1Cur_leg21 at hm
 refine rg G (Ok_seq (rs G (hN 2 n.Lines h0) ?_))
 refine cd hm (fun hm => ?_) (fun hm => ?_)
 ·refine rg G ?_
  cases hm
  exact rt [112] []
 ·refine X_skip (thN ?_)
  obtain ⟨r, h, hm⟩ := obind hm
  refine rs G (hN 3 n.Lines (hC 4 (s_l1Cur_pick_c h) h0)) ?_
  obtain ⟨e, h1, hm⟩ := obind hm
  obtain ⟨r1, h2, hm⟩ := obind hm
  refine rs G (hD 3 h1 (hN 6 e.Stops (hC 7 (s_l1Most_c h2) h0))) ?_
  obtain ⟨r2, h3, hm⟩ := obind hm
  refine rs G (hC 2 (s_l1Cur_pick_c h3) h0) ?_
  obtain ⟨r3, h4, hm⟩ := obind hm
  obtain ⟨r4, h5, hm⟩ := obind hm
  refine rs G (hC 4 (s_l1Cur_pick_c h4) (hC 8 (s_l1Least_c h5) h0)) ?_
  refine jn hm (fun (v, v1, v2, v3) => ⟨[(0, .ref 0 0), (8, .own 32)], [bX 0 [dV v, dV v1, kV .u64 v2], aX 32 3 v3], 64⟩) (fun vv hm => ?_) ?_
  ·obtain ⟨r5, h6, hm⟩ := obind hm
   refine rs G (hC 1 (s_l1Cur_one_c h6) h0) ?_
   refine cd hm (fun hm => ?_) (fun hm => ?_)
   ·obtain ⟨r6, h7, hm⟩ := obind hm
    obtain ⟨r7, h8, hm⟩ := obind hm
    obtain ⟨e1, h9, hm⟩ := obind hm
    refine re G (hC 2 (s_l1Cur_pick_c h7) (hO 5 (.fz [688] [] []) (hC 5 (s_l1Cur_among_c h8) (hD 6 h9 (hS 7 h9 r7.1 h0))))) ?_
    exact wJ G hm
   ·exact X_skip (wJ G hm)
  rintro ⟨v, v1, v2, v3⟩ hm
  refine rg G ?_
  cases hm
  exact rt [32] []
noncomputable def s_l1Cur_prices_M : MS l1Cur (Prices × l1Cur) := ⟨.b, s_l1Cur_prices, fun y => dV y.1, fun _ => [], fun _ y => [bxO y.2]⟩
theorem s_l1Cur_prices_c {c y} (hm : s_l1Cur_prices c = some y) : s_l1Cur_prices_M.C c y := s_l1Cur_prices_M.c c hm
theorem s_l1Cur_prices_ok : FnOK Try.prog 175 s_l1Cur_prices_M.S := by
 refine fm tt s_l1Cur_prices_M [fo s_l1Cur_among_w_ok, fo s_l1Cur_pick_ok] Try.call175 Try.func175 rfl Try.results175 Try.ntmps175 ?_
 rintro c y cx G hm
 have hm : s_l1Cur_prices c = some y := hm
 unfold s_l1Cur_prices at hm
 refine rg G ?_
 obtain ⟨r, h, hm⟩ := obind hm
 obtain ⟨r1, h1, hm⟩ := obind hm
 refine rs G (hC 2 (s_l1Cur_among_w_c h) (hC 5 (s_l1Cur_among_w_c h1) h0)) ?_
 obtain ⟨r2, h2, hm⟩ := obind hm
 refine rs G (hC 2 (s_l1Cur_among_w_c h2) h0) ?_
 refine Ok_seq ?_
 obtain ⟨r3, h3, hm⟩ := obind hm
 refine rs G (hC 1 (s_l1Cur_pick_c h3) h0) ?_
 refine tl hm (fun (v5, v6, v7, v8) => ⟨[(0, .ref 0 0), (2, .ref 32 0), (3, .ref 48 0)], [bX 0 [dV v5, dV v6, kV .u64 v7], bX 32 [.dat (.sc (.slice none 0 0)), kV .i64 0, kV .i64 0], bX 48 [.own 64, dV r.1, dV r1.1], aX 64 3 v8], 96⟩) (fun vv1 hm => ?_) ?_
 ·refine Ok_block (lpP hm (fun (n, v, v1, v2, v3, v4) => ⟨[(0, .ref 0 0), (2, .ref 32 0), (3, .ref 48 0), (4, dV n), (5, dV v)], [bX 0 [dV v1, dV v2, kV .u64 v3], bX 32 [.dat (.sc (.slice none 0 0)), kV .i64 0, kV .i64 0], bX 48 [.own 64, dV r.1, dV r1.1], aX 64 3 v4], 96⟩) (Wk_J G.hL ⟨[(0, []), (2, []), (3, []), (4, []), (5, [])], [(0, 0, []), (32, 16, []), (48, 144, [.o 64])], [(64, 3, 1, [])], 96⟩ (by kernel_rfl)) ?_)
  rintro ⟨n, v, v1, v2, v3, v4⟩ r0 hb hm
  rw [s_l1Cur_prices_L1] at hm
  refine Ok_seq (rg G (cd hm (fun hm => ?_) (fun hm => ?_)))
  ·refine X_skip (thN (Ok_seq (Ok_block ?_)))
   obtain ⟨u, h4, hm⟩ := obind hm
   refine rs G (hA 4 8 h4 h0) ?_
   obtain ⟨r4, h5, hm⟩ := obind hm
   refine re G (hC 3 (s_l1Cur_among_w_c h5) h0) ?_
   exact ibN (thN (rh G (wL G hm)))
  ·exact Ok_exit (thE (thE (ibE (wD G hm hb))))
 rintro ⟨v5, v6, v7, v8⟩ hm s hw
 refine thN (Ok_weak hw ?_)
 refine jn hm (fun (v9, v10, v11, v12, v13) => ⟨[(0, .ref 0 0), (2, .ref 32 0), (3, .ref 48 0)], [bX 0 [dV v9, dV v10, kV .u64 v11], bX 32 [.dat (.sc (.slice none 0 0)), kV .i64 0, kV .i64 0], bX 48 [dV v12, dV v13, dV r1.1]], 80⟩) (fun vv hm => ?_) ?_
 ·obtain ⟨r5, h6, hm⟩ := obind hm
  refine rs G (hC 1 (s_l1Cur_pick_c h6) h0) ?_
  refine Ok_block (rg G (cd hm (fun hm => ?_) (fun hm => ?_)))
  ·obtain ⟨r7, h9, hm⟩ := obind hm
   obtain ⟨u2, h10, hm⟩ := obind hm
   refine de G [(4, [0, 208]), (6, [64, 240]), (8, [48, 256])] (hC 4 (s_l1Cur_among_w_c h9) (hA 6 8 h10 h0)) ?_
   exact ibN (wJ G hm)
  ·refine rg G (cd hm (fun hm => ?_) (fun hm => ?_))
   ·obtain ⟨r8, h11, hm⟩ := obind hm
    refine re G (hC 2 (s_l1Cur_among_w_c h11) h0) ?_
    exact ibN (wJ G hm)
   ·refine rg G (cd hm (fun hm => ?_) (fun hm => ?_))
    ·obtain ⟨u3, h12, hm⟩ := obind hm
     refine re G (hO 2 (.fz [64] [] []) (hU 2 h12 h0)) ?_
     exact ibN (wJ G hm)
    ·exact X_skip (ibN (wJ G hm))
 rintro ⟨v9, v10, v11, v12, v13⟩ hm
 refine rg G ?_
 cases hm
 exact rt [] []
noncomputable def s_DrawJourneyFare_M : MS ((List UInt8)) (Network × (List Int) × Prices × (List (List Int))) := ⟨.r, s_DrawJourneyFare, fun y => .tup [dV y.1, .own 0, dV y.2.2.1, .own 1], fun y => [arO 3 y.2.1, arO 31 y.2.2.2], fun _ _ => []⟩
theorem s_DrawJourneyFare_c {code y} (hm : s_DrawJourneyFare code = some y) : s_DrawJourneyFare_M.C code y := s_DrawJourneyFare_M.c code hm
theorem s_DrawJourneyFare_ok : FnOK Try.prog 57 s_DrawJourneyFare_M.S := by
 refine fm tt s_DrawJourneyFare_M [fo s_l1Cur_zoned_ok, fo s_l1Cur_pick_ok, fo s_l1Cur_among_ok, fo s_l1Cur_leg21_ok, fo s_l1Cur_prices_ok] Try.call57 Try.func57 rfl Try.results57 Try.ntmps57 ?_
 rintro code y cx G hm
 have hm : s_DrawJourneyFare code = some y := hm
 unfold s_DrawJourneyFare at hm
 refine rg G (rg G ?_)
 obtain ⟨r, h, hm⟩ := obind hm
 refine rs G (hC 1 (s_l1Cur_zoned_c h) h0) ?_
 refine rg G (Ok_seq ?_)
 obtain ⟨r1, h1, hm⟩ := obind hm
 obtain ⟨u, h2, hm⟩ := obind hm
 obtain ⟨u1, h3, hm⟩ := obind hm
 obtain ⟨r2, h4, hm⟩ := obind hm
 refine rs G (hC 3 (s_l1Cur_pick_c h1) (hK h2 (hO 6 (.fz [320] [] []) (hU 6 h3 (hC 7 (s_l1Cur_among_c h4) h0))))) ?_
 refine tl hm (fun (v4, v5, v6, k1) => ⟨[(2, .ref 16 0), (4, .ref 32 0), (6, .ref 48 0), (7, .ref 64 0), (8, .own 80), (9, .own 96)], [bX 16 [.dat (.sc (.slice none 0 0)), .dat (.sc (.slice none 0 0))], bX 32 [.dat (.sc (.slice none 0 0)), kV .i64 0, kV .i64 0], bX 48 [dV v4, dV v5, kV .u64 v6], bX 64 [dV r.1.Stops, dV r.1.Lines], aX 80 3 r.2.1, aX 96 31 k1], 128⟩) (fun vv hm => ?_) ?_
 ·refine Ok_block (lp G hm (fun (v, v1, v2, v3, k) => ⟨[(2, .ref 16 0), (4, .ref 32 0), (6, .ref 48 0), (7, .ref 64 0), (8, .own 80), (9, .own 96), (10, dV v)], [bX 16 [.dat (.sc (.slice none 0 0)), .dat (.sc (.slice none 0 0))], bX 32 [.dat (.sc (.slice none 0 0)), kV .i64 0, kV .i64 0], bX 48 [dV v1, dV v2, kV .u64 v3], bX 64 [dV r.1.Stops, dV r.1.Lines], aX 80 3 r.2.1, aX 96 31 k], 128⟩) ?_)
  rintro ⟨v, v1, v2, v3, k⟩ r0 hb hm
  rw [s_DrawJourneyFare_L1] at hm
  refine Ok_seq (rg G (cd hm (fun hm => ?_) (fun hm => ?_)))
  ·refine X_skip (thN (Ok_seq (Ok_block ?_)))
   obtain ⟨r3, h5, hm⟩ := obind hm
   obtain ⟨u2, h6, hm⟩ := obind hm
   refine re G (hC 3 (s_l1Cur_leg21_c h5) (hO 4 (.fz [208] [] []) (hA 5 24 h6 h0))) ?_
   exact ibN (thN (rh G (wL G hm)))
  ·exact Ok_exit (thE (thE (ibE (wD G hm hb))))
 rintro ⟨v4, v5, v6, k1⟩ hm s hw
 refine thN (Ok_weak hw ?_)
 obtain ⟨r5, h8, hm⟩ := obind hm
 refine ds G [(3, [48]), (5, [16]), (7, [32])] (hC 3 (s_l1Cur_prices_c h8) h0) ?_
 cases hm
 exact rt [80, 96] []
noncomputable def i_within_M : MS (Int × Int × Int) Bool := ⟨.x .r (.x .r .r), fun x => i_within x.1 x.2.1 x.2.2, fun y => dV y, fun _ => [], fun _ _ => []⟩
theorem i_within_c {n lo hi y} (hm : i_within n lo hi = some y) : i_within_M.C (n, lo, hi) y := i_within_M.c (n, lo, hi) hm
theorem i_within_ok : FnOK Try.prog 169 i_within_M.S := by
 refine fm tt i_within_M [] Try.call169 Try.func169 rfl Try.results169 Try.ntmps169 ?_
 rintro ⟨n, lo, hi⟩ y cx G hm
 have hm : i_within n lo hi = some y := hm
 unfold i_within at hm
 refine rg G (jn hm (fun v => ⟨[(6, dV v)], [], 32⟩) (fun v hm => ?_) ?_)
 ·rcases bf hm with ⟨hb, hm⟩ | ⟨hb, hm⟩
  ·refine re G (hO 3 (.b true) (hP hb h0)) ?_
   exact wJ G hm
  ·refine re G (hO 3 (.b false) (hP hb h0)) ?_
   exact wJ G hm
 rintro v hm
 cases hm
 exact rt [] []
noncomputable def i_isName_M : MS ByteArray Bool := ⟨.r, i_isName, fun y => dV y, fun _ => [], fun _ _ => []⟩
theorem i_isName_c {s y} (hm : i_isName s = some y) : i_isName_M.C s y := i_isName_M.c s hm
theorem i_isName_ok : FnOK Try.prog 197 i_isName_M.S := by
 refine fm tt i_isName_M [] Try.call197 Try.func197 rfl Try.results197 Try.ntmps197 ?_
 rintro s y cx G hm
 have hm : i_isName s = some y := hm
 unfold i_isName at hm
 refine rg G (Ok_seq (jn hm (fun v => ⟨[(0, dV s), (12, dV v)], [], 32⟩) (fun v hm => ?_) ?_))
 ·rcases bf hm with ⟨hb, hm⟩ | ⟨hb, hm⟩
  ·refine re G (hO 3 (.b true) (hP hb h0)) ?_
   exact wJ G hm
  ·refine re G (hO 3 (.b false) (hP hb h0)) ?_
   exact wJ G hm
 rintro v hm
 refine cd hm (fun hm => ?_) (fun hm => ?_)
 ·refine rg G ?_
  cases hm
  exact rt [] []
 ·refine X_skip (thN (Ok_seq (rg G (tF hm (fun _ => ⟨[], [], 32⟩) (fun v4 hr hm => ?_) ?_))))
  ·refine Ok_block (lp G hm (fun v1 => ⟨[(0, dV s), (14, dV (s.size : Int)), (15, dV v1)], [], 32⟩) ?_)
   rintro v1 r0 hb1 hm
   rw [i_isName_L1] at hm
   refine rg G (Ok_seq (cd hm (fun hm => ?_) (fun hm => ?_)))
   ·refine X_skip (thN (Ok_seq (Ok_block (rg G ?_))))
    obtain ⟨u, h, hm⟩ := obind hm
    refine jn hm (fun v2 => ⟨[(0, dV s), (3, dV v1), (4, dV v2), (14, dV (s.size : Int)), (15, dV v1)], [], 32⟩) (fun v2 hm => ?_) ?_
    ·rcases bf hm with ⟨hb2, hm⟩ | ⟨hb2, hm⟩
     ·obtain ⟨u1, h1, hm⟩ := obind hm
      refine re G (hK h (hO 4 (.b true) (hP hb2 (hK h1 h0)))) ?_
      exact wJ G hm
     ·refine re G (hK h (hO 4 (.b false) (hP hb2 h0))) ?_
      exact wJ G hm
    rintro v2 hm
    refine jn hm (fun v3 => ⟨[(0, dV s), (14, dV (s.size : Int)), (15, dV v1), (45, dV v3)], [], 32⟩) (fun v3 hm => ?_) ?_
    ·rcases bf hm with ⟨hb3, hm⟩ | ⟨hb3, hm⟩
     ·rcases bf hm with ⟨hb4, hm⟩ | ⟨hb4, hm⟩
      ·refine re G (hO 2 (.b true) (hP hb3 (hO 5 (.b true) (hP hb4 h0)))) ?_
       exact wJ G hm
      ·obtain ⟨u2, h2, hm⟩ := obind hm
       rcases bf hm with ⟨hb5, hm⟩ | ⟨hb5, hm⟩
       ·refine re G (hO 2 (.b true) (hP hb3 (hO 5 (.b false) (hP hb4 (hK h2 (hO 11 (.b true) (hP hb5 h0))))))) ?_
        exact wJ G hm
       ·obtain ⟨u3, h3, hm⟩ := obind hm
        refine re G (hO 2 (.b true) (hP hb3 (hO 5 (.b false) (hP hb4 (hK h2 (hO 11 (.b false) (hP hb5 (hK h3 h0)))))))) ?_
        exact wJ G hm
     ·refine re G (hO 2 (.b false) (hP hb3 h0)) ?_
      exact wJ G hm
    rintro v3 hm
    refine cd hm (fun hm => ?_) (fun hm => ?_)
    ·refine rg G ?_
     have hm := eL hm hb1 hr
     cases hm
     exact rt [] []
    ·exact X_skip (ibN (thN (rh G (wL G hm))))
   ·exact Ok_exit (thE (thE (ibE (wE G hm hb1))))
  rintro ⟨⟩ hm s1 hw
  refine thN (Ok_weak hw ?_)
  refine rg G ?_
  cases hm
  exact rt [] []
noncomputable def slices_Index_string_M : MS ((List ByteArray) × ByteArray) Int := ⟨.x .r .r, fun x => slices_Index_string x.1 x.2, fun y => dV y, fun _ => [], fun _ _ => []⟩
theorem slices_Index_string_c {s v y} (hm : slices_Index_string s v = some y) : slices_Index_string_M.C (s, v) y := slices_Index_string_M.c (s, v) hm
theorem slices_Index_string_ok : FnOK Try.prog 304 slices_Index_string_M.S := by
 refine fm tt slices_Index_string_M [] Try.call304 Try.func304 rfl Try.results304 Try.ntmps304 ?_
 rintro ⟨s, v⟩ y cx G hm
 have hm : slices_Index_string s v = some y := hm
 unfold slices_Index_string at hm
 refine rg G (Ok_seq (rs G (hN 1 s h0) ?_))
 refine tF hm (fun _ => ⟨[], [], 32⟩) (fun v2 hr hm => ?_) ?_
 ·refine Ok_block (lp G hm (fun v1 => ⟨[(0, dV s), (1, dV v), (7, dV (s.length : Int)), (8, dV v1)], [], 32⟩) ?_)
  rintro v1 r0 hb hm
  rw [slices_Index_string_L1] at hm
  refine rg G (Ok_seq (cd hm (fun hm => ?_) (fun hm => ?_)))
  ·refine X_skip (thN (Ok_seq (Ok_block (rg G ?_))))
   obtain ⟨e, h, hm⟩ := obind hm
   refine rs G (hD 3 h h0) ?_
   refine cd hm (fun hm => ?_) (fun hm => ?_)
   ·refine rg G ?_
    have hm := eL hm hb hr
    cases hm
    exact rt [] []
   ·exact X_skip (ibN (thN (rh G (wL G hm))))
  ·exact Ok_exit (thE (thE (ibE (wE G hm hb))))
 rintro ⟨⟩ hm s1 hw
 refine thN (Ok_weak hw ?_)
 refine rg G ?_
 cases hm
 exact rt [] []
noncomputable def i_areNames_M : MS ((List ByteArray)) Bool := ⟨.r, i_areNames, fun y => dV y, fun _ => [], fun _ _ => []⟩
theorem i_areNames_c {names y} (hm : i_areNames names = some y) : i_areNames_M.C names y := i_areNames_M.c names hm
theorem i_areNames_ok : FnOK Try.prog 237 i_areNames_M.S := by
 refine fm tt i_areNames_M [fo i_isName_ok, fo slices_Index_string_ok] Try.call237 Try.func237 rfl Try.results237 Try.ntmps237 ?_
 rintro names y cx G hm
 have hm : i_areNames names = some y := hm
 unfold i_areNames at hm
 refine rg G (Ok_seq (rs G (hN 1 names h0) ?_))
 refine tF hm (fun _ => ⟨[], [], 32⟩) (fun v2 hr hm => ?_) ?_
 ·refine Ok_block (lp G hm (fun v => ⟨[(0, dV names), (5, dV names), (6, dV (names.length : Int)), (7, dV v)], [], 32⟩) ?_)
  rintro v r0 hb hm
  rw [i_areNames_L1] at hm
  refine rg G (Ok_seq (cd hm (fun hm => ?_) (fun hm => ?_)))
  ·refine X_skip (thN (Ok_seq (Ok_block ?_)))
   obtain ⟨e, h, hm⟩ := obind hm
   refine rs G (hD 1 h h0) ?_
   obtain ⟨r, h1, hm⟩ := obind hm
   refine jn hm (fun v1 => ⟨[(0, dV names), (5, dV names), (6, dV (names.length : Int)), (7, dV v), (21, dV v1)], [], 32⟩) (fun v1 hm => ?_) ?_
   ·rcases bf hm with ⟨hb1, hm⟩ | ⟨hb1, hm⟩
    ·refine re G (hC 1 (i_isName_c h1) (hO 3 (.b true) (hP hb1 h0))) ?_
     exact wJ G hm
    ·obtain ⟨r1, h2, hm⟩ := obind hm
     refine re G (hC 1 (i_isName_c h1) (hO 3 (.b false) (hP hb1 (hC 6 (slices_Index_string_c h2) h0)))) ?_
     exact wJ G hm
   rintro v1 hm
   refine cd hm (fun hm => ?_) (fun hm => ?_)
   ·refine rg G ?_
    have hm := eL hm hb hr
    cases hm
    exact rt [] []
   ·exact X_skip (ibN (thN (rh G (wL G hm))))
  ·exact Ok_exit (thE (thE (ibE (wE G hm hb))))
 rintro ⟨⟩ hm s hw
 refine thN (Ok_weak hw ?_)
 refine rg G ?_
 cases hm
 exact rt [] []
noncomputable def i_lineNames_M : MS Network ((List ByteArray)) := ⟨.r, i_lineNames, fun _ => .own 0, fun y => [arO 9 y], fun _ _ => []⟩
theorem i_lineNames_c {n y} (hm : i_lineNames n = some y) : i_lineNames_M.C n y := i_lineNames_M.c n hm
theorem i_lineNames_ok : FnOK Try.prog 238 i_lineNames_M.S := by
 refine fm tt i_lineNames_M [] Try.call238 Try.func238 rfl Try.results238 Try.ntmps238 ?_
 rintro n y cx G hm
 have hm : i_lineNames n = some y := hm
 unfold i_lineNames at hm
 refine rg G ?_
 obtain ⟨u, h, hm⟩ := obind hm
 refine rs G (hN 2 n.Lines (hO 3 (.l (List.map Enc.e (List.replicate (n.Lines.length : Int).toNat (ByteArray.empty : ByteArray)))) (hP (mk_p (b := 16) (chk_t h) rfl) (hP (rep_m Enc.e (n.Lines.length : Int).toNat (ByteArray.empty : ByteArray)) h0)))) ?_
 refine Ok_seq (rs G (hN 2 n.Lines h0) ?_)
 refine tl hm (fun i1 => ⟨[(3, .own 16)], [aX 16 9 i1], 48⟩) (fun i1 hm => ?_) ?_
 ·refine Ok_block (lp G hm (fun (v, i) => ⟨[(3, .own 16), (11, dV n.Lines), (12, dV (n.Lines.length : Int)), (13, dV v)], [aX 16 9 i], 48⟩) ?_)
  rintro ⟨v, i⟩ r0 hb hm
  rw [i_lineNames_L1] at hm
  refine rg G (Ok_seq (cd hm (fun hm => ?_) (fun hm => ?_)))
  ·refine X_skip (thN (Ok_seq (Ok_block ?_)))
   obtain ⟨e, h1, hm⟩ := obind hm
   refine rs G (hD 1 h1 h0) ?_
   obtain ⟨e1, h2, hm⟩ := obind hm
   refine re G (hD 4 h2 (hS 5 h2 e.Name h0)) ?_
   exact ibN (thN (rh G (wL G hm)))
  ·exact Ok_exit (thE (thE (ibE (wD G hm hb))))
 rintro i1 hm s hw
 refine thN (Ok_weak hw ?_)
 refine rg G ?_
 cases hm
 exact rt [16] []
noncomputable def i_isStop_M : MS (Network × Int) Bool := ⟨.x .r .r, fun x => i_isStop x.1 x.2, fun y => dV y, fun _ => [], fun _ _ => []⟩
theorem i_isStop_c {n stop y} (hm : i_isStop n stop = some y) : i_isStop_M.C (n, stop) y := i_isStop_M.c (n, stop) hm
theorem i_isStop_ok : FnOK Try.prog 107 i_isStop_M.S := by
 refine fm tt i_isStop_M [] Try.call107 Try.func107 rfl Try.results107 Try.ntmps107 ?_
 rintro ⟨n, stop⟩ y cx G hm
 have hm : i_isStop n stop = some y := hm
 unfold i_isStop at hm
 refine rg G (jn hm (fun v => ⟨[(4, dV v)], [], 32⟩) (fun v hm => ?_) ?_)
 ·rcases bf hm with ⟨hb, hm⟩ | ⟨hb, hm⟩
  ·refine re G (hO 2 (.b true) (hP hb (hN 6 n.Stops h0))) ?_
   exact wJ G hm
  ·refine re G (hO 2 (.b false) (hP hb h0)) ?_
   exact wJ G hm
 rintro v hm
 cases hm
 exact rt [] []
noncomputable def slices_Index_int_M : MS ((List Int) × Int) Int := ⟨.x .r .r, fun x => slices_Index_int x.1 x.2, fun y => dV y, fun _ => [], fun _ _ => []⟩
theorem slices_Index_int_c {s v y} (hm : slices_Index_int s v = some y) : slices_Index_int_M.C (s, v) y := slices_Index_int_M.c (s, v) hm
theorem slices_Index_int_ok : FnOK Try.prog 243 slices_Index_int_M.S := by
 refine fm tt slices_Index_int_M [] Try.call243 Try.func243 rfl Try.results243 Try.ntmps243 ?_
 rintro ⟨s, v⟩ y cx G hm
 have hm : slices_Index_int s v = some y := hm
 unfold slices_Index_int at hm
 refine rg G (Ok_seq (rs G (hN 1 s h0) ?_))
 refine tF hm (fun _ => ⟨[], [], 32⟩) (fun v2 hr hm => ?_) ?_
 ·refine Ok_block (lp G hm (fun v1 => ⟨[(0, dV s), (1, dV v), (7, dV (s.length : Int)), (8, dV v1)], [], 32⟩) ?_)
  rintro v1 r0 hb hm
  rw [slices_Index_int_L1] at hm
  refine rg G (Ok_seq (cd hm (fun hm => ?_) (fun hm => ?_)))
  ·refine X_skip (thN (Ok_seq (Ok_block (rg G ?_))))
   obtain ⟨e, h, hm⟩ := obind hm
   refine rs G (hD 3 h h0) ?_
   refine cd hm (fun hm => ?_) (fun hm => ?_)
   ·refine rg G ?_
    have hm := eL hm hb hr
    cases hm
    exact rt [] []
   ·exact X_skip (ibN (thN (rh G (wL G hm))))
  ·exact Ok_exit (thE (thE (ibE (wE G hm hb))))
 rintro ⟨⟩ hm s1 hw
 refine thN (Ok_weak hw ?_)
 refine rg G ?_
 cases hm
 exact rt [] []
noncomputable def i_isValidLine_M : MS (Network × Line) Bool := ⟨.x .r .r, fun x => i_isValidLine x.1 x.2, fun y => dV y, fun _ => [], fun _ _ => []⟩
theorem i_isValidLine_c {n l y} (hm : i_isValidLine n l = some y) : i_isValidLine_M.C (n, l) y := i_isValidLine_M.c (n, l) hm
theorem i_isValidLine_ok : FnOK Try.prog 239 i_isValidLine_M.S := by
 refine fm tt i_isValidLine_M [fo i_within_ok, fo i_isStop_ok, fo slices_Index_int_ok] Try.call239 Try.func239 rfl Try.results239 Try.ntmps239 ?_
 rintro ⟨n, l⟩ y cx G hm
 have hm : i_isValidLine n l = some y := hm
 unfold i_isValidLine at hm
 refine rg G (Ok_seq ?_)
 obtain ⟨r, h, hm⟩ := obind hm
 refine jn hm (fun v => ⟨[(2, .ref 16 0), (3, .ref 32 0), (23, dV v)], [bX 16 [dV n.Stops, dV n.Lines], bX 32 [dV l.Name, dV l.Stops, dV l.Runs]], 64⟩) (fun v hm => ?_) ?_
 ·rcases bf hm with ⟨hb, hm⟩ | ⟨hb, hm⟩
  ·refine re G (hN 2 l.Stops (hC 3 (i_within_c h) (hO 5 (.b true) (hP hb h0)))) ?_
   exact wJ G hm
  ·refine re G (hN 2 l.Stops (hC 3 (i_within_c h) (hO 5 (.b false) (hP hb (hN 8 l.Runs (hN 11 l.Stops h0)))))) ?_
   exact wJ G hm
 rintro v hm
 refine cd hm (fun hm => ?_) (fun hm => ?_)
 ·refine rg G ?_
  cases hm
  exact rt [] []
 ·refine X_skip (thN (Ok_seq (rs G (hN 2 l.Stops h0) ?_)))
  refine tF hm (fun _ => ⟨[(3, .ref 16 0)], [bX 16 [dV l.Name, dV l.Stops, dV l.Runs]], 48⟩) (fun v5 hr hm => ?_) ?_
  ·refine Ok_block (lp G hm (fun v1 => ⟨[(2, .ref 16 0), (3, .ref 32 0), (25, dV l.Stops), (26, dV (l.Stops.length : Int)), (27, dV v1)], [bX 16 [dV n.Stops, dV n.Lines], bX 32 [dV l.Name, dV l.Stops, dV l.Runs]], 64⟩) ?_)
   rintro v1 r0 hb1 hm
   rw [i_isValidLine_L1] at hm
   refine rg G (Ok_seq (cd hm (fun hm => ?_) (fun hm => ?_)))
   ·refine X_skip (thN (Ok_seq (Ok_block ?_)))
    obtain ⟨e, h1, hm⟩ := obind hm
    refine rs G (hD 1 h1 h0) ?_
    obtain ⟨r1, h2, hm⟩ := obind hm
    refine jn hm (fun v2 => ⟨[(2, .ref 16 0), (3, .ref 32 0), (25, dV l.Stops), (26, dV (l.Stops.length : Int)), (27, dV v1), (43, dV v2)], [bX 16 [dV n.Stops, dV n.Lines], bX 32 [dV l.Name, dV l.Stops, dV l.Runs]], 64⟩) (fun v2 hm => ?_) ?_
    ·rcases bf hm with ⟨hb2, hm⟩ | ⟨hb2, hm⟩
     ·refine re G (hC 2 (i_isStop_c h2) (hO 4 (.b true) (hP hb2 h0))) ?_
      exact wJ G hm
     ·obtain ⟨r2, h3, hm⟩ := obind hm
      refine re G (hC 2 (i_isStop_c h2) (hO 4 (.b false) (hP hb2 (hC 8 (slices_Index_int_c h3) h0)))) ?_
      exact wJ G hm
    rintro v2 hm
    refine cd hm (fun hm => ?_) (fun hm => ?_)
    ·refine rg G ?_
     have hm := eL hm hb1 hr
     cases hm
     exact rt [] []
    ·exact X_skip (ibN (thN (rh G (wL G hm))))
   ·exact Ok_exit (thE (thE (ibE (wE G hm hb1))))
  rintro ⟨⟩ hm s hw
  refine thN (Ok_weak hw ?_)
  refine Ok_seq (rs G (hN 2 l.Runs h0) ?_)
  refine tF hm (fun _ => ⟨[], [], 32⟩) (fun v4 hr1 hm => ?_) ?_
  ·refine Ok_block (lp G hm (fun v3 => ⟨[(46, dV l.Runs), (47, dV (l.Runs.length : Int)), (48, dV v3)], [], 32⟩) ?_)
   rintro v3 r0 hb3 hm
   rw [i_isValidLine_L2] at hm
   refine rg G (Ok_seq (cd hm (fun hm => ?_) (fun hm => ?_)))
   ·refine X_skip (thN (Ok_seq (Ok_block ?_)))
    obtain ⟨e2, h4, hm⟩ := obind hm
    refine rs G (hD 0 h4 h0) ?_
    obtain ⟨r4, h5, hm⟩ := obind hm
    refine rs G (hC 1 (i_within_c h5) h0) ?_
    refine cd hm (fun hm => ?_) (fun hm => ?_)
    ·refine rg G ?_
     have hm := eL hm hb3 hr1
     cases hm
     exact rt [] []
    ·exact X_skip (ibN (thN (rh G (wL G hm))))
   ·exact Ok_exit (thE (thE (ibE (wE G hm hb3))))
  rintro ⟨⟩ hm s1 hw1
  refine thN (Ok_weak hw1 ?_)
  refine rg G ?_
  cases hm
  exact rt [] []
noncomputable def i_IsValidNetwork_M : MS Network Bool := ⟨.r, i_IsValidNetwork, fun y => dV y, fun _ => [], fun _ _ => []⟩
theorem i_IsValidNetwork_c {n y} (hm : i_IsValidNetwork n = some y) : i_IsValidNetwork_M.C n y := i_IsValidNetwork_M.c n hm
theorem i_IsValidNetwork_ok : FnOK Try.prog 115 i_IsValidNetwork_M.S := by
 refine fm tt i_IsValidNetwork_M [fo i_within_ok, fo i_areNames_ok, fo i_lineNames_ok, fo i_isValidLine_ok] Try.call115 Try.func115 rfl Try.results115 Try.ntmps115 ?_
 rintro n y cx G hm
 have hm : i_IsValidNetwork n = some y := hm
 unfold i_IsValidNetwork at hm
 refine rg G (Ok_seq ?_)
 obtain ⟨r, h, hm⟩ := obind hm
 refine jn hm (fun v => ⟨[(1, .ref 16 0), (28, dV v)], [bX 16 [dV n.Stops, dV n.Lines]], 48⟩) (fun v hm => ?_) ?_
 ·rcases bf hm with ⟨hb, hm⟩ | ⟨hb, hm⟩
  ·refine re G (hN 2 n.Stops (hC 3 (i_within_c h) (hO 5 (.b true) (hP hb h0)))) ?_
   exact wJ G hm
  ·obtain ⟨r1, h1, hm⟩ := obind hm
   rcases bf hm with ⟨hb1, hm⟩ | ⟨hb1, hm⟩
   ·refine re G (hN 2 n.Stops (hC 3 (i_within_c h) (hO 5 (.b false) (hP hb (hN 8 n.Lines (hC 9 (i_within_c h1) (hO 12 (.b true) (hP hb1 h0)))))))) ?_
    exact wJ G hm
   ·obtain ⟨r2, h2, hm⟩ := obind hm
    rcases bf hm with ⟨hb2, hm⟩ | ⟨hb2, hm⟩
    ·refine re G (hN 2 n.Stops (hC 3 (i_within_c h) (hO 5 (.b false) (hP hb (hN 8 n.Lines (hC 9 (i_within_c h1) (hO 12 (.b false) (hP hb1 (hC 15 (i_areNames_c h2) (hO 18 (.b true) (hP hb2 h0))))))))))) ?_
     exact wJ G hm
    ·obtain ⟨r3, h3, hm⟩ := obind hm
     obtain ⟨r4, h4, hm⟩ := obind hm
     refine re G (hN 2 n.Stops (hC 3 (i_within_c h) (hO 5 (.b false) (hP hb (hN 8 n.Lines (hC 9 (i_within_c h1) (hO 12 (.b false) (hP hb1 (hC 15 (i_areNames_c h2) (hO 18 (.b false) (hP hb2 (hC 20 (i_lineNames_c h3) (hC 21 (i_areNames_c h4) h0))))))))))))) ?_
     exact wJ G hm
 rintro v hm
 refine cd hm (fun hm => ?_) (fun hm => ?_)
 ·refine rg G ?_
  cases hm
  exact rt [] []
 ·refine X_skip (thN (Ok_seq (rs G (hN 2 n.Lines h0) ?_)))
  refine tF hm (fun _ => ⟨[], [], 32⟩) (fun v2 hr hm => ?_) ?_
  ·refine Ok_block (lp G hm (fun v1 => ⟨[(1, .ref 16 0), (30, dV n.Lines), (31, dV (n.Lines.length : Int)), (32, dV v1)], [bX 16 [dV n.Stops, dV n.Lines]], 48⟩) ?_)
   rintro v1 r0 hb3 hm
   rw [i_IsValidNetwork_L1] at hm
   refine rg G (Ok_seq (cd hm (fun hm => ?_) (fun hm => ?_)))
   ·refine X_skip (thN (Ok_seq (Ok_block ?_)))
    obtain ⟨e, h5, hm⟩ := obind hm
    refine rs G (hD 0 h5 h0) ?_
    obtain ⟨r5, h6, hm⟩ := obind hm
    refine rs G (hC 2 (i_isValidLine_c h6) h0) ?_
    refine cd hm (fun hm => ?_) (fun hm => ?_)
    ·refine rg G ?_
     have hm := eL hm hb3 hr
     cases hm
     exact rt [] []
    ·exact X_skip (ibN (thN (rh G (wL G hm))))
   ·exact Ok_exit (thE (thE (ibE (wE G hm hb3))))
  rintro ⟨⟩ hm s hw
  refine thN (Ok_weak hw ?_)
  refine rg G ?_
  cases hm
  exact rt [] []
noncomputable def i_areZones_M : MS (Network × (List Int)) Bool := ⟨.x .r .r, fun x => i_areZones x.1 x.2, fun y => dV y, fun _ => [], fun _ _ => []⟩
theorem i_areZones_c {n zones y} (hm : i_areZones n zones = some y) : i_areZones_M.C (n, zones) y := i_areZones_M.c (n, zones) hm
theorem i_areZones_ok : FnOK Try.prog 180 i_areZones_M.S := by
 refine fm tt i_areZones_M [fo i_within_ok] Try.call180 Try.func180 rfl Try.results180 Try.ntmps180 ?_
 rintro ⟨n, zones⟩ y cx G hm
 have hm : i_areZones n zones = some y := hm
 unfold i_areZones at hm
 refine rg G (Ok_seq (rs G (hN 1 zones (hN 4 n.Stops h0)) ?_))
 refine cd hm (fun hm => ?_) (fun hm => ?_)
 ·refine rg G ?_
  cases hm
  exact rt [] []
 ·refine X_skip (thN (Ok_seq (rs G (hN 1 zones h0) ?_)))
  refine tF hm (fun _ => ⟨[], [], 32⟩) (fun v1 hr hm => ?_) ?_
  ·refine Ok_block (lp G hm (fun v => ⟨[(13, dV zones), (14, dV (zones.length : Int)), (15, dV v)], [], 32⟩) ?_)
   rintro v r0 hb hm
   rw [i_areZones_L1] at hm
   refine rg G (Ok_seq (cd hm (fun hm => ?_) (fun hm => ?_)))
   ·refine X_skip (thN (Ok_seq (Ok_block ?_)))
    obtain ⟨e, h, hm⟩ := obind hm
    refine rs G (hD 0 h h0) ?_
    obtain ⟨r, h1, hm⟩ := obind hm
    refine rs G (hC 1 (i_within_c h1) h0) ?_
    refine cd hm (fun hm => ?_) (fun hm => ?_)
    ·refine rg G ?_
     have hm := eL hm hb hr
     cases hm
     exact rt [] []
    ·exact X_skip (ibN (thN (rh G (wL G hm))))
   ·exact Ok_exit (thE (thE (ibE (wE G hm hb))))
  rintro ⟨⟩ hm s hw
  refine thN (Ok_weak hw ?_)
  refine rg G ?_
  cases hm
  exact rt [] []
noncomputable def i_IsValidZones_M : MS (Network × (List Int)) Bool := ⟨.x .r .r, fun x => i_IsValidZones x.1 x.2, fun y => dV y, fun _ => [], fun _ _ => []⟩
theorem i_IsValidZones_c {n zones y} (hm : i_IsValidZones n zones = some y) : i_IsValidZones_M.C (n, zones) y := i_IsValidZones_M.c (n, zones) hm
theorem i_IsValidZones_ok : FnOK Try.prog 60 i_IsValidZones_M.S := by
 refine fm tt i_IsValidZones_M [fo i_IsValidNetwork_ok, fo i_areZones_ok] Try.call60 Try.func60 rfl Try.results60 Try.ntmps60 ?_
 rintro ⟨n, zones⟩ y cx G hm
 have hm : i_IsValidZones n zones = some y := hm
 unfold i_IsValidZones at hm
 refine rg G ?_
 obtain ⟨r, h, hm⟩ := obind hm
 refine jn hm (fun v => ⟨[(4, dV v)], [], 32⟩) (fun v hm => ?_) ?_
 ·rcases bf hm with ⟨hb, hm⟩ | ⟨hb, hm⟩
  ·obtain ⟨r1, h1, hm⟩ := obind hm
   refine re G (hC 1 (i_IsValidNetwork_c h) (hO 2 (.b true) (hP hb (hC 5 (i_areZones_c h1) h0)))) ?_
   exact wJ G hm
  ·refine re G (hC 1 (i_IsValidNetwork_c h) (hO 2 (.b false) (hP hb h0))) ?_
   exact wJ G hm
 rintro v hm
 cases hm
 exact rt [] []
noncomputable def i_isLine_M : MS (Network × Int) Bool := ⟨.x .r .r, fun x => i_isLine x.1 x.2, fun y => dV y, fun _ => [], fun _ _ => []⟩
theorem i_isLine_c {n line y} (hm : i_isLine n line = some y) : i_isLine_M.C (n, line) y := i_isLine_M.c (n, line) hm
theorem i_isLine_ok : FnOK Try.prog 220 i_isLine_M.S := by
 refine fm tt i_isLine_M [] Try.call220 Try.func220 rfl Try.results220 Try.ntmps220 ?_
 rintro ⟨n, line⟩ y cx G hm
 have hm : i_isLine n line = some y := hm
 unfold i_isLine at hm
 refine rg G (jn hm (fun v => ⟨[(4, dV v)], [], 32⟩) (fun v hm => ?_) ?_)
 ·rcases bf hm with ⟨hb, hm⟩ | ⟨hb, hm⟩
  ·refine re G (hO 2 (.b true) (hP hb (hN 6 n.Lines h0))) ?_
   exact wJ G hm
  ·refine re G (hO 2 (.b false) (hP hb h0)) ?_
   exact wJ G hm
 rintro v hm
 cases hm
 exact rt [] []
noncomputable def i_arePlaces_M : MS (Network × Int × Int × Int) Bool := ⟨.x .r (.x .r (.x .r .r)), fun x => i_arePlaces x.1 x.2.1 x.2.2.1 x.2.2.2, fun y => dV y, fun _ => [], fun _ _ => []⟩
theorem i_arePlaces_c {n line from_ to y} (hm : i_arePlaces n line from_ to = some y) : i_arePlaces_M.C (n, line, from_, to) y := i_arePlaces_M.c (n, line, from_, to) hm
theorem i_arePlaces_ok : FnOK Try.prog 176 i_arePlaces_M.S := by
 refine fm tt i_arePlaces_M [fo i_isLine_ok] Try.call176 Try.func176 rfl Try.results176 Try.ntmps176 ?_
 rintro ⟨n, line, from_, to⟩ y cx G hm
 have hm : i_arePlaces n line from_ to = some y := hm
 unfold i_arePlaces at hm
 refine rg G ?_
 obtain ⟨r, h, hm⟩ := obind hm
 refine jn hm (fun v => ⟨[(8, dV v)], [], 32⟩) (fun v hm => ?_) ?_
 ·rcases bf hm with ⟨hb, hm⟩ | ⟨hb, hm⟩
  ·rcases bf hm with ⟨hb1, hm⟩ | ⟨hb1, hm⟩
   ·rcases bf hm with ⟨hb2, hm⟩ | ⟨hb2, hm⟩
    ·obtain ⟨e, h1, hm⟩ := obind hm
     refine re G (hC 2 (i_isLine_c h) (hO 3 (.b true) (hP hb (hO 7 (.b true) (hP hb1 (hO 12 (.b true) (hP hb2 (hD 17 h1 (hN 20 e.Stops h0))))))))) ?_
     exact wJ G hm
    ·refine re G (hC 2 (i_isLine_c h) (hO 3 (.b true) (hP hb (hO 7 (.b true) (hP hb1 (hO 12 (.b false) (hP hb2 h0))))))) ?_
     exact wJ G hm
   ·refine re G (hC 2 (i_isLine_c h) (hO 3 (.b true) (hP hb (hO 7 (.b false) (hP hb1 h0))))) ?_
    exact wJ G hm
  ·refine re G (hC 2 (i_isLine_c h) (hO 3 (.b false) (hP hb h0))) ?_
   exact wJ G hm
 rintro v hm
 cases hm
 exact rt [] []
noncomputable def i_touched_M : MS (Network × (List Int) × Int × Int × Int) Int := ⟨.x .r (.x .r (.x .r (.x .r .r))), fun x => i_touched x.1 x.2.1 x.2.2.1 x.2.2.2.1 x.2.2.2.2, fun y => dV y, fun _ => [], fun _ _ => []⟩
theorem i_touched_c {n zones line from_ to y} (hm : i_touched n zones line from_ to = some y) : i_touched_M.C (n, zones, line, from_, to) y := i_touched_M.c (n, zones, line, from_, to) hm
theorem i_touched_ok : FnOK Try.prog 177 i_touched_M.S := by
 refine fm tt i_touched_M [] Try.call177 Try.func177 rfl Try.results177 Try.ntmps177 ?_
 rintro ⟨n, zones, line, from_, to⟩ y cx G hm
 have hm : i_touched n zones line from_ to = some y := hm
 unfold i_touched at hm
 refine rg G (rg G (Ok_seq ?_))
 obtain ⟨e, h, hm⟩ := obind hm
 obtain ⟨u, h1, hm⟩ := obind hm
 refine rs G (hD 3 h (hU 9 h1 (hN 10 ((e.Stops.take (w64 (to + 1)).toNat).drop from_.toNat) h0))) ?_
 refine tl hm (fun v2 => ⟨[(11, dV v2)], [], 32⟩) (fun v2 hm => ?_) ?_
 ·refine Ok_block (lp G hm (fun (v, v1) => ⟨[(1, dV zones), (11, dV v), (23, dV ((e.Stops.take (w64 (to + 1)).toNat).drop from_.toNat)), (24, dV (((e.Stops.take (w64 (to + 1)).toNat).drop from_.toNat).length : Int)), (25, dV v1)], [], 32⟩) ?_)
  rintro ⟨v, v1⟩ r0 hb hm
  rw [i_touched_L1] at hm
  refine rg G (Ok_seq (cd hm (fun hm => ?_) (fun hm => ?_)))
  ·refine X_skip (thN (Ok_seq (Ok_block ?_)))
   obtain ⟨e1, h2, hm⟩ := obind hm
   refine rs G (hD 0 h2 h0) ?_
   obtain ⟨e2, h3, hm⟩ := obind hm
   obtain ⟨u1, h4, hm⟩ := obind hm
   refine re G (hD 3 h3 (hK h4 h0)) ?_
   exact ibN (thN (rh G (wL G hm)))
  ·exact Ok_exit (thE (thE (ibE (wD G hm hb))))
 rintro v2 hm s hw
 refine thN (Ok_weak hw ?_)
 refine rg G ?_
 cases hm
 exact rt [] []
noncomputable def cmp_isNaN_int_M : MS Int Bool := ⟨.r, cmp_isNaN_int, fun y => dV y, fun _ => [], fun _ _ => []⟩
theorem cmp_isNaN_int_c {x y} (hm : cmp_isNaN_int x = some y) : cmp_isNaN_int_M.C x y := cmp_isNaN_int_M.c x hm
theorem cmp_isNaN_int_ok : FnOK Try.prog 270 cmp_isNaN_int_M.S := by
 refine fm tt cmp_isNaN_int_M [] Try.call270 Try.func270 rfl Try.results270 Try.ntmps270 ?_
 rintro x y cx G hm
 have hm : cmp_isNaN_int x = some y := hm
 unfold cmp_isNaN_int at hm
 refine rg G (rg G ?_)
 cases hm
 exact rt [] []
noncomputable def cmp_Less_int_M : MS (Int × Int) Bool := ⟨.x .r .r, fun x => cmp_Less_int x.1 x.2, fun y => dV y, fun _ => [], fun _ _ => []⟩
theorem cmp_Less_int_c {x y_ y} (hm : cmp_Less_int x y_ = some y) : cmp_Less_int_M.C (x, y_) y := cmp_Less_int_M.c (x, y_) hm
theorem cmp_Less_int_ok : FnOK Try.prog 317 cmp_Less_int_M.S := by
 refine fm tt cmp_Less_int_M [fo cmp_isNaN_int_ok] Try.call317 Try.func317 rfl Try.results317 Try.ntmps317 ?_
 rintro ⟨x, y_⟩ y cx G hm
 have hm : cmp_Less_int x y_ = some y := hm
 unfold cmp_Less_int at hm
 refine rg G ?_
 obtain ⟨r, h, hm⟩ := obind hm
 refine jn hm (fun v => ⟨[(4, dV v)], [], 32⟩) (fun v hm => ?_) ?_
 ·rcases bf hm with ⟨hb, hm⟩ | ⟨hb, hm⟩
  ·obtain ⟨r1, h1, hm⟩ := obind hm
   rcases bf hm with ⟨hb1, hm⟩ | ⟨hb1, hm⟩
   ·refine re G (hC 1 (cmp_isNaN_int_c h) (hO 2 (.b true) (hP hb (hC 4 (cmp_isNaN_int_c h1) (hO 7 (.b true) (hP hb1 h0)))))) ?_
    exact wJ G hm
   ·refine re G (hC 1 (cmp_isNaN_int_c h) (hO 2 (.b true) (hP hb (hC 4 (cmp_isNaN_int_c h1) (hO 7 (.b false) (hP hb1 h0)))))) ?_
    exact wJ G hm
  ·refine re G (hC 1 (cmp_isNaN_int_c h) (hO 2 (.b false) (hP hb h0))) ?_
   exact wJ G hm
 rintro v hm
 cases hm
 exact rt [] []
noncomputable def slices_IsSorted_int_M : MS ((List Int)) Bool := ⟨.r, slices_IsSorted_int, fun y => dV y, fun _ => [], fun _ _ => []⟩
theorem slices_IsSorted_int_c {x y} (hm : slices_IsSorted_int x = some y) : slices_IsSorted_int_M.C x y := slices_IsSorted_int_M.c x hm
theorem slices_IsSorted_int_ok : FnOK Try.prog 267 slices_IsSorted_int_M.S := by
 refine fm tt slices_IsSorted_int_M [fo cmp_Less_int_ok] Try.call267 Try.func267 rfl Try.results267 Try.ntmps267 ?_
 rintro x y cx G hm
 have hm : slices_IsSorted_int x = some y := hm
 unfold slices_IsSorted_int at hm
 refine rg G (Ok_seq (rs G (hN 1 x h0) ?_))
 refine tF hm (fun _ => ⟨[], [], 32⟩) (fun v1 hr hm => ?_) ?_
 ·refine Ok_block (lp G hm (fun v => ⟨[(0, dV x), (3, dV v)], [], 32⟩) ?_)
  rintro v r0 hb hm
  rw [slices_IsSorted_int_L1] at hm
  refine Ok_seq (rg G (cd hm (fun hm => ?_) (fun hm => ?_)))
  ·refine X_skip (thN (Ok_seq (Ok_block ?_)))
   obtain ⟨e2, h3, hm⟩ := obind hm
   obtain ⟨e3, h4, hm⟩ := obind hm
   obtain ⟨r1, h5, hm⟩ := obind hm
   refine ds G [] (hD 2 h3 (hD 7 h4 (hC 9 (cmp_Less_int_c h5) h0))) ?_
   refine cd hm (fun hm => ?_) (fun hm => ?_)
   ·refine rg G ?_
    have hm := eL hm hb hr
    cases hm
    exact rt [] []
   ·exact X_skip (ibN (thN (rh G (wL G hm))))
  ·exact Ok_exit (thE (thE (ibE (wE G hm hb))))
 rintro ⟨⟩ hm s hw
 refine thN (Ok_weak hw ?_)
 refine rg G ?_
 cases hm
 exact rt [] []
noncomputable def i_isPrice_M : MS Int Bool := ⟨.r, i_isPrice, fun y => dV y, fun _ => [], fun _ _ => []⟩
theorem i_isPrice_c {p y} (hm : i_isPrice p = some y) : i_isPrice_M.C p y := i_isPrice_M.c p hm
theorem i_isPrice_ok : FnOK Try.prog 268 i_isPrice_M.S := by
 refine fm tt i_isPrice_M [fo i_within_ok] Try.call268 Try.func268 rfl Try.results268 Try.ntmps268 ?_
 rintro p y cx G hm
 have hm : i_isPrice p = some y := hm
 unfold i_isPrice at hm
 refine rg G ?_
 obtain ⟨r, h, hm⟩ := obind hm
 refine rs G (hC 1 (i_within_c h) h0) ?_
 cases hm
 exact rt [] []
noncomputable def i_arePrices_M : MS Prices Bool := ⟨.r, i_arePrices, fun y => dV y, fun _ => [], fun _ _ => []⟩
theorem i_arePrices_c {p y} (hm : i_arePrices p = some y) : i_arePrices_M.C p y := i_arePrices_M.c p hm
theorem i_arePrices_ok : FnOK Try.prog 181 i_arePrices_M.S := by
 refine fm tt i_arePrices_M [fo i_within_ok, fo slices_IsSorted_int_ok, fo i_isPrice_ok] Try.call181 Try.func181 rfl Try.results181 Try.ntmps181 ?_
 rintro p y cx G hm
 have hm : i_arePrices p = some y := hm
 unfold i_arePrices at hm
 refine rg G (Ok_seq ?_)
 obtain ⟨r, h, hm⟩ := obind hm
 refine jn hm (fun v => ⟨[(1, .ref 16 0), (25, dV v)], [bX 16 [dV p.Zones, dV p.Day, dV p.Week]], 48⟩) (fun v hm => ?_) ?_
 ·rcases bf hm with ⟨hb, hm⟩ | ⟨hb, hm⟩
  ·refine re G (hN 2 p.Zones (hC 3 (i_within_c h) (hO 5 (.b true) (hP hb h0)))) ?_
   exact wJ G hm
  ·obtain ⟨r1, h1, hm⟩ := obind hm
   rcases bf hm with ⟨hb1, hm⟩ | ⟨hb1, hm⟩
   ·refine re G (hN 2 p.Zones (hC 3 (i_within_c h) (hO 5 (.b false) (hP hb (hC 8 (slices_IsSorted_int_c h1) (hO 11 (.b true) (hP hb1 h0))))))) ?_
    exact wJ G hm
   ·obtain ⟨r2, h2, hm⟩ := obind hm
    rcases bf hm with ⟨hb2, hm⟩ | ⟨hb2, hm⟩
    ·refine re G (hN 2 p.Zones (hC 3 (i_within_c h) (hO 5 (.b false) (hP hb (hC 8 (slices_IsSorted_int_c h1) (hO 11 (.b false) (hP hb1 (hC 14 (i_isPrice_c h2) (hO 17 (.b true) (hP hb2 h0)))))))))) ?_
     exact wJ G hm
    ·obtain ⟨r3, h3, hm⟩ := obind hm
     refine re G (hN 2 p.Zones (hC 3 (i_within_c h) (hO 5 (.b false) (hP hb (hC 8 (slices_IsSorted_int_c h1) (hO 11 (.b false) (hP hb1 (hC 14 (i_isPrice_c h2) (hO 17 (.b false) (hP hb2 (hC 20 (i_isPrice_c h3) h0))))))))))) ?_
     exact wJ G hm
 rintro v hm
 refine cd hm (fun hm => ?_) (fun hm => ?_)
 ·refine rg G ?_
  cases hm
  exact rt [] []
 ·refine X_skip (thN ?_)
  obtain ⟨e, h4, hm⟩ := obind hm
  obtain ⟨r4, h5, hm⟩ := obind hm
  refine jn hm (fun v1 => ⟨[(2, dV v1)], [], 32⟩) (fun v1 hm => ?_) ?_
  ·rcases bf hm with ⟨hb3, hm⟩ | ⟨hb3, hm⟩
   ·obtain ⟨e1, h6, hm⟩ := obind hm
    obtain ⟨r5, h7, hm⟩ := obind hm
    refine re G (hD 2 h4 (hC 4 (i_isPrice_c h5) (hO 5 (.b true) (hP hb3 (hN 10 p.Zones (hD 12 h6 (hC 14 (i_isPrice_c h7) h0))))))) ?_
    exact wJ G hm
   ·refine re G (hD 2 h4 (hC 4 (i_isPrice_c h5) (hO 5 (.b false) (hP hb3 h0)))) ?_
    exact wJ G hm
  rintro v1 hm
  cases hm
  exact rt [] []
noncomputable def i_SingleFare_M : MS (Prices × Int) (Int × Bool) := ⟨.x .r .r, fun x => i_SingleFare x.1 x.2, fun y => .tup [dV y.1, dV y.2], fun _ => [], fun _ _ => []⟩
theorem i_SingleFare_c {p count y} (hm : i_SingleFare p count = some y) : i_SingleFare_M.C (p, count) y := i_SingleFare_M.c (p, count) hm
theorem i_SingleFare_ok : FnOK Try.prog 64 i_SingleFare_M.S := by
 refine fm tt i_SingleFare_M [fo i_arePrices_ok, fo i_within_ok] Try.call64 Try.func64 rfl Try.results64 Try.ntmps64 ?_
 rintro ⟨p, count⟩ y cx G hm
 have hm : i_SingleFare p count = some y := hm
 unfold i_SingleFare at hm
 refine rg G (Ok_seq ?_)
 obtain ⟨r, h, hm⟩ := obind hm
 refine jn hm (fun v => ⟨[(1, dV count), (2, .ref 16 0), (13, dV v)], [bX 16 [dV p.Zones, dV p.Day, dV p.Week]], 48⟩) (fun v hm => ?_) ?_
 ·rcases bf hm with ⟨hb, hm⟩ | ⟨hb, hm⟩
  ·refine re G (hC 1 (i_arePrices_c h) (hO 3 (.b true) (hP hb h0))) ?_
   exact wJ G hm
  ·obtain ⟨r1, h1, hm⟩ := obind hm
   refine re G (hC 1 (i_arePrices_c h) (hO 3 (.b false) (hP hb (hC 5 (i_within_c h1) h0)))) ?_
   exact wJ G hm
 rintro v hm
 refine cd hm (fun hm => ?_) (fun hm => ?_)
 ·refine rg G ?_
  cases hm
  exact rt [] []
 ·refine X_skip (thN ?_)
  obtain ⟨e, h2, hm⟩ := obind hm
  refine rs G (hN 5 p.Zones (hD 8 h2 h0)) ?_
  cases hm
  exact rt [] []
noncomputable def i_JourneyFare_M : MS (Network × (List Int) × Prices × (List (List Int))) (Int × Bool) := ⟨.x .r (.x .r (.x .r .r)), fun x => i_JourneyFare x.1 x.2.1 x.2.2.1 x.2.2.2, fun y => .tup [dV y.1, dV y.2], fun _ => [], fun _ _ => []⟩
theorem i_JourneyFare_c {n zones p legs y} (hm : i_JourneyFare n zones p legs = some y) : i_JourneyFare_M.C (n, zones, p, legs) y := i_JourneyFare_M.c (n, zones, p, legs) hm
theorem i_JourneyFare_ok : FnOK Try.prog 58 i_JourneyFare_M.S := by
 refine fm tt i_JourneyFare_M [fo i_IsValidZones_ok, fo i_arePlaces_ok, fo i_touched_ok, fo i_SingleFare_ok] Try.call58 Try.func58 rfl Try.results58 Try.ntmps58 ?_
 rintro ⟨n, zones, p, legs⟩ y cx G hm
 have hm : i_JourneyFare n zones p legs = some y := hm
 unfold i_JourneyFare at hm
 refine rg G (Ok_seq ?_)
 obtain ⟨r, h, hm⟩ := obind hm
 refine jn hm (fun v => ⟨[(1, dV zones), (3, dV legs), (4, .ref 16 0), (6, .ref 32 0), (23, dV v)], [bX 16 [dV n.Stops, dV n.Lines], bX 32 [dV p.Zones, dV p.Day, dV p.Week]], 64⟩) (fun v hm => ?_) ?_
 ·rcases bf hm with ⟨hb, hm⟩ | ⟨hb, hm⟩
  ·refine re G (hC 2 (i_IsValidZones_c h) (hO 4 (.b true) (hP hb h0))) ?_
   exact wJ G hm
  ·refine re G (hC 2 (i_IsValidZones_c h) (hO 4 (.b false) (hP hb (hN 6 legs h0)))) ?_
   exact wJ G hm
 rintro v hm
 refine cd hm (fun hm => ?_) (fun hm => ?_)
 ·refine rg G ?_
  cases hm
  exact rt [] []
 ·refine X_skip (thN (rg G (Ok_seq (rs G (hN 1 legs h0) ?_))))
  refine tF hm (fun z1 => ⟨[(6, .ref 16 0), (10, dV z1)], [bX 16 [dV p.Zones, dV p.Day, dV p.Week]], 48⟩) (fun v6 hr hm => ?_) ?_
  ·refine Ok_block (lp G hm (fun (z, v1) => ⟨[(1, dV zones), (4, .ref 16 0), (6, .ref 32 0), (10, dV z), (24, dV legs), (25, dV (legs.length : Int)), (26, dV v1)], [bX 16 [dV n.Stops, dV n.Lines], bX 32 [dV p.Zones, dV p.Day, dV p.Week]], 64⟩) ?_)
   rintro ⟨z, v1⟩ r0 hb1 hm
   rw [i_JourneyFare_L1] at hm
   refine rg G (Ok_seq (cd hm (fun hm => ?_) (fun hm => ?_)))
   ·refine X_skip (thN (Ok_seq (Ok_block ?_)))
    obtain ⟨e, h1, hm⟩ := obind hm
    refine rs G (hD 0 h1 h0) ?_
    refine Ok_seq (jn hm (fun v2 => ⟨[(1, dV zones), (4, .ref 16 0), (6, .ref 32 0), (10, dV z), (12, dV e), (24, dV legs), (25, dV (legs.length : Int)), (26, dV v1), (46, dV v2)], [bX 16 [dV n.Stops, dV n.Lines], bX 32 [dV p.Zones, dV p.Day, dV p.Week]], 64⟩) (fun v2 hm => ?_) ?_)
    ·rcases bf hm with ⟨hb2, hm⟩ | ⟨hb2, hm⟩
     ·refine de G [] (hN 1 e (hO 3 (.b true) (hP hb2 h0))) ?_
      exact wJ G hm
     ·obtain ⟨e4, h6, hm⟩ := obind hm
      obtain ⟨e5, h7, hm⟩ := obind hm
      obtain ⟨e6, h8, hm⟩ := obind hm
      obtain ⟨r2, h9, hm⟩ := obind hm
      refine de G [] (hN 1 e (hO 3 (.b false) (hP hb2 (hD 6 h6 (hD 9 h7 (hD 12 h8 (hC 14 (i_arePlaces_c h9) h0))))))) ?_
      exact wJ G hm
    rintro v2 hm
    refine cd hm (fun hm => ?_) (fun hm => ?_)
    ·refine rg G ?_
     have hm := eL hm hb1 hr
     cases hm
     exact rt [] []
    ·refine X_skip (thN ?_)
     obtain ⟨e11, h14, hm⟩ := obind hm
     obtain ⟨e12, h15, hm⟩ := obind hm
     obtain ⟨e13, h16, hm⟩ := obind hm
     obtain ⟨r5, h17, hm⟩ := obind hm
     refine de G [] (hD 4 h14 (hD 7 h15 (hD 10 h16 (hC 12 (i_touched_c h17) h0)))) ?_
     exact ibN (thN (rh G (wL G hm)))
   ·exact Ok_exit (thE (thE (ibE (wE G hm hb1))))
  rintro z1 hm s hw
  refine thN (Ok_weak hw ?_)
  refine rg G (Ok_seq (rg G (tl hm (fun v5 => ⟨[(6, .ref 16 0), (13, dV v5)], [bX 16 [dV p.Zones, dV p.Day, dV p.Week]], 48⟩) (fun v5 hm => ?_) ?_)))
  ·refine Ok_block (lp G hm (fun (v3, v4) => ⟨[(6, .ref 16 0), (10, dV z1), (13, dV v3), (62, dV v4)], [bX 16 [dV p.Zones, dV p.Day, dV p.Week]], 48⟩) ?_)
   rintro ⟨v3, v4⟩ r0 hb3 hm
   rw [i_JourneyFare_L2] at hm
   refine rg G (Ok_seq (cd hm (fun hm => ?_) (fun hm => ?_)))
   ·refine X_skip (thN (Ok_seq (Ok_block (rg G ?_))))
    obtain ⟨u, h18, hm⟩ := obind hm
    refine re G (hK h18 h0) ?_
    exact ibN (thN (rh G (wL G hm)))
   ·exact Ok_exit (thE (thE (ibE (wD G hm hb3))))
  rintro v5 hm s1 hw1
  refine thN (Ok_weak hw1 ?_)
  obtain ⟨r6, h19, hm⟩ := obind hm
  refine rs G (hC 2 (i_SingleFare_c h19) h0) ?_
  cases hm
  exact rt [] []
noncomputable def s_l1In_M : MS (Int × Int × Int) Bool := ⟨.x .r (.x .r .r), fun x => s_l1In x.1 x.2.1 x.2.2, fun y => dV y, fun _ => [], fun _ _ => []⟩
theorem s_l1In_c {x a b y} (hm : s_l1In x a b = some y) : s_l1In_M.C (x, a, b) y := s_l1In_M.c (x, a, b) hm
theorem s_l1In_ok : FnOK Try.prog 111 s_l1In_M.S := by
 refine fm tt s_l1In_M [] Try.call111 Try.func111 rfl Try.results111 Try.ntmps111 ?_
 rintro ⟨x, a, b⟩ y cx G hm
 have hm : s_l1In x a b = some y := hm
 unfold s_l1In at hm
 refine rg G (jn hm (fun v => ⟨[(6, dV v)], [], 32⟩) (fun v hm => ?_) ?_)
 ·rcases bf hm with ⟨hb, hm⟩ | ⟨hb, hm⟩
  ·refine re G (hO 3 (.b true) (hP hb h0)) ?_
   exact wJ G hm
  ·refine re G (hO 3 (.b false) (hP hb h0)) ?_
   exact wJ G hm
 rintro v hm
 cases hm
 exact rt [] []
noncomputable def s_l2Name_M : MS ByteArray Bool := ⟨.r, s_l2Name, fun y => dV y, fun _ => [], fun _ _ => []⟩
theorem s_l2Name_c {s y} (hm : s_l2Name s = some y) : s_l2Name_M.C s y := s_l2Name_M.c s hm
theorem s_l2Name_ok : FnOK Try.prog 198 s_l2Name_M.S := by
 refine fm tt s_l2Name_M [fo s_l1In_ok] Try.call198 Try.func198 rfl Try.results198 Try.ntmps198 ?_
 rintro s y cx G hm
 have hm : s_l2Name s = some y := hm
 unfold s_l2Name at hm
 refine rg G (Ok_seq ?_)
 obtain ⟨r, h, hm⟩ := obind hm
 refine jn hm (fun v => ⟨[(0, dV s), (17, dV v)], [], 32⟩) (fun v hm => ?_) ?_
 ·rcases bf hm with ⟨hb, hm⟩ | ⟨hb, hm⟩
  ·refine re G (hC 2 (s_l1In_c h) (hO 4 (.b true) (hP hb h0))) ?_
   exact wJ G hm
  ·obtain ⟨u, h1, hm⟩ := obind hm
   rcases bf hm with ⟨hb1, hm⟩ | ⟨hb1, hm⟩
   ·refine re G (hC 2 (s_l1In_c h) (hO 4 (.b false) (hP hb (hK h1 (hO 9 (.b true) (hP hb1 h0)))))) ?_
    exact wJ G hm
   ·obtain ⟨u1, h2, hm⟩ := obind hm
    refine re G (hC 2 (s_l1In_c h) (hO 4 (.b false) (hP hb (hK h1 (hO 9 (.b false) (hP hb1 (hK h2 h0))))))) ?_
    exact wJ G hm
 rintro v hm
 refine cd hm (fun hm => ?_) (fun hm => ?_)
 ·refine rg G ?_
  cases hm
  exact rt [] []
 ·refine X_skip (thN (Ok_seq (rg G (tF hm (fun _ => ⟨[], [], 32⟩) (fun v3 hr hm => ?_) ?_))))
  ·refine Ok_block (lp G hm (fun v1 => ⟨[(0, dV s), (3, dV v1)], [], 32⟩) ?_)
   rintro v1 r0 hb2 hm
   rw [s_l2Name_L1] at hm
   refine Ok_seq (rg G (cd hm (fun hm => ?_) (fun hm => ?_)))
   ·refine X_skip (thN (Ok_seq (Ok_block ?_)))
    obtain ⟨u2, h3, hm⟩ := obind hm
    refine jn hm (fun v2 => ⟨[(0, dV s), (3, dV v1), (45, dV v2)], [], 32⟩) (fun v2 hm => ?_) ?_
    ·rcases bf hm with ⟨hb3, hm⟩ | ⟨hb3, hm⟩
     ·obtain ⟨u3, h4, hm⟩ := obind hm
      rcases bf hm with ⟨hb4, hm⟩ | ⟨hb4, hm⟩
      ·refine re G (hK h3 (hO 4 (.b true) (hP hb3 (hK h4 (hO 15 (.b true) (hP hb4 h0)))))) ?_
       exact wJ G hm
      ·obtain ⟨u4, h5, hm⟩ := obind hm
       refine re G (hK h3 (hO 4 (.b true) (hP hb3 (hK h4 (hO 15 (.b false) (hP hb4 (hK h5 h0))))))) ?_
       exact wJ G hm
     ·obtain ⟨u5, h6, hm⟩ := obind hm
      rcases bf hm with ⟨hb5, hm⟩ | ⟨hb5, hm⟩
      ·obtain ⟨u6, h7, hm⟩ := obind hm
       rcases bf hm with ⟨hb6, hm⟩ | ⟨hb6, hm⟩
       ·refine re G (hK h3 (hO 4 (.b false) (hP hb3 (hK h6 (hO 10 (.b true) (hP hb5 (hK h7 (hO 15 (.b true) (hP hb6 h0))))))))) ?_
        exact wJ G hm
       ·obtain ⟨u7, h8, hm⟩ := obind hm
        refine re G (hK h3 (hO 4 (.b false) (hP hb3 (hK h6 (hO 10 (.b true) (hP hb5 (hK h7 (hO 15 (.b false) (hP hb6 (hK h8 h0)))))))))) ?_
        exact wJ G hm
      ·refine re G (hK h3 (hO 4 (.b false) (hP hb3 (hK h6 (hO 10 (.b false) (hP hb5 h0)))))) ?_
       exact wJ G hm
    rintro v2 hm
    refine cd hm (fun hm => ?_) (fun hm => ?_)
    ·refine rg G ?_
     have hm := eL hm hb2 hr
     cases hm
     exact rt [] []
    ·exact X_skip (ibN (thN (rh G (wL G hm))))
   ·exact Ok_exit (thE (thE (ibE (wE G hm hb2))))
  rintro ⟨⟩ hm s1 hw
  refine thN (Ok_weak hw ?_)
  refine rg G ?_
  cases hm
  exact rt [] []
noncomputable def s_l2Find_M : MS ((List ByteArray) × ByteArray) Int := ⟨.x .r .r, fun x => s_l2Find x.1 x.2, fun y => dV y, fun _ => [], fun _ _ => []⟩
theorem s_l2Find_c {list name y} (hm : s_l2Find list name = some y) : s_l2Find_M.C (list, name) y := s_l2Find_M.c (list, name) hm
theorem s_l2Find_ok : FnOK Try.prog 301 s_l2Find_M.S := by
 refine fm tt s_l2Find_M [] Try.call301 Try.func301 rfl Try.results301 Try.ntmps301 ?_
 rintro ⟨list, name⟩ y cx G hm
 have hm : s_l2Find list name = some y := hm
 unfold s_l2Find at hm
 refine rg G (Ok_seq (rg G (tF hm (fun _ => ⟨[], [], 32⟩) (fun v1 hr hm => ?_) ?_)))
 ·refine Ok_block (lp G hm (fun v => ⟨[(0, dV list), (1, dV name), (5, dV v)], [], 32⟩) ?_)
  rintro v r0 hb hm
  rw [s_l2Find_L1] at hm
  refine Ok_seq (rs G (hN 2 list h0) ?_)
  refine cd hm (fun hm => ?_) (fun hm => ?_)
  ·refine X_skip (thN (Ok_seq (Ok_block ?_)))
   obtain ⟨e, h, hm⟩ := obind hm
   refine rs G (hD 2 h h0) ?_
   refine cd hm (fun hm => ?_) (fun hm => ?_)
   ·refine rg G ?_
    have hm := eL hm hb hr
    cases hm
    exact rt [] []
   ·exact X_skip (ibN (thN (rh G (wL G hm))))
  ·exact Ok_exit (thE (thE (ibE (wE G hm hb))))
 rintro ⟨⟩ hm s hw
 refine thN (Ok_weak hw ?_)
 refine rg G ?_
 cases hm
 exact rt [] []
noncomputable def s_l2Line_M : MS (Line × Int) Bool := ⟨.x .r .r, fun x => s_l2Line x.1 x.2, fun y => dV y, fun _ => [], fun _ _ => []⟩
theorem s_l2Line_c {x stops y} (hm : s_l2Line x stops = some y) : s_l2Line_M.C (x, stops) y := s_l2Line_M.c (x, stops) hm
theorem s_l2Line_ok : FnOK Try.prog 302 s_l2Line_M.S := by
 refine fm tt s_l2Line_M [fo s_l2Name_ok, fo s_l1In_ok, fo s_l2Place_ok] Try.call302 Try.func302 rfl Try.results302 Try.ntmps302 ?_
 rintro ⟨x, stops⟩ y cx G hm
 have hm : s_l2Line x stops = some y := hm
 unfold s_l2Line at hm
 refine rg G (Ok_seq ?_)
 obtain ⟨r, h, hm⟩ := obind hm
 refine jn hm (fun v => ⟨[(1, dV stops), (2, .ref 16 0), (27, dV v)], [bX 16 [dV x.Name, dV x.Stops, dV x.Runs]], 48⟩) (fun v hm => ?_) ?_
 ·rcases bf hm with ⟨hb, hm⟩ | ⟨hb, hm⟩
  ·refine re G (hC 2 (s_l2Name_c h) (hO 4 (.b true) (hP hb h0))) ?_
   exact wJ G hm
  ·obtain ⟨r1, h1, hm⟩ := obind hm
   rcases bf hm with ⟨hb1, hm⟩ | ⟨hb1, hm⟩
   ·refine re G (hC 2 (s_l2Name_c h) (hO 4 (.b false) (hP hb (hN 7 x.Stops (hC 8 (s_l1In_c h1) (hO 11 (.b true) (hP hb1 h0))))))) ?_
    exact wJ G hm
   ·refine re G (hC 2 (s_l2Name_c h) (hO 4 (.b false) (hP hb (hN 7 x.Stops (hC 8 (s_l1In_c h1) (hO 11 (.b false) (hP hb1 (hN 14 x.Runs (hN 17 x.Stops h0))))))))) ?_
    exact wJ G hm
 rintro v hm
 refine cd hm (fun hm => ?_) (fun hm => ?_)
 ·refine rg G ?_
  cases hm
  exact rt [] []
 ·refine X_skip (thN (Ok_seq (rg G (tF hm (fun _ => ⟨[(2, .ref 16 0)], [bX 16 [dV x.Name, dV x.Stops, dV x.Runs]], 48⟩) (fun v5 hr hm => ?_) ?_))))
  ·refine Ok_block (lp G hm (fun v1 => ⟨[(1, dV stops), (2, .ref 16 0), (5, dV v1)], [bX 16 [dV x.Name, dV x.Stops, dV x.Runs]], 48⟩) ?_)
   rintro v1 r0 hb2 hm
   rw [s_l2Line_L1] at hm
   refine Ok_seq (rs G (hN 3 x.Stops h0) ?_)
   refine cd hm (fun hm => ?_) (fun hm => ?_)
   ·refine X_skip (thN (Ok_seq (Ok_block ?_)))
    obtain ⟨e2, h6, hm⟩ := obind hm
    obtain ⟨r4, h7, hm⟩ := obind hm
    refine jn hm (fun v2 => ⟨[(1, dV stops), (2, .ref 16 0), (5, dV v1), (54, dV v2)], [bX 16 [dV x.Name, dV x.Stops, dV x.Runs]], 48⟩) (fun v2 hm => ?_) ?_
    ·rcases bf hm with ⟨hb3, hm⟩ | ⟨hb3, hm⟩
     ·refine de G [] (hD 3 h6 (hC 7 (s_l1In_c h7) (hO 9 (.b true) (hP hb3 h0)))) ?_
      exact wJ G hm
     ·obtain ⟨e3, h8, hm⟩ := obind hm
      obtain ⟨r5, h9, hm⟩ := obind hm
      refine de G [] (hD 3 h6 (hC 7 (s_l1In_c h7) (hO 9 (.b false) (hP hb3 (hD 14 h8 (hC 16 (s_l2Place_c h9) h0)))))) ?_
      exact wJ G hm
    rintro v2 hm
    refine cd hm (fun hm => ?_) (fun hm => ?_)
    ·refine rg G ?_
     have hm := eL hm hb2 hr
     cases hm
     exact rt [] []
    ·exact X_skip (ibN (thN (rh G (wL G hm))))
   ·exact Ok_exit (thE (thE (ibE (wE G hm hb2))))
  rintro ⟨⟩ hm s hw
  refine thN (Ok_weak hw ?_)
  refine Ok_seq (rg G (tF hm (fun _ => ⟨[], [], 32⟩) (fun v4 hr1 hm => ?_) ?_))
  ·refine Ok_block (lp G hm (fun v3 => ⟨[(2, .ref 16 0), (6, dV v3)], [bX 16 [dV x.Name, dV x.Stops, dV x.Runs]], 48⟩) ?_)
   rintro v3 r0 hb4 hm
   rw [s_l2Line_L2] at hm
   refine Ok_seq (rs G (hN 3 x.Runs h0) ?_)
   refine cd hm (fun hm => ?_) (fun hm => ?_)
   ·refine X_skip (thN (Ok_seq (Ok_block ?_)))
    obtain ⟨e5, h10, hm⟩ := obind hm
    obtain ⟨r7, h11, hm⟩ := obind hm
    refine rs G (hD 3 h10 (hC 5 (s_l1In_c h11) h0)) ?_
    refine cd hm (fun hm => ?_) (fun hm => ?_)
    ·refine rg G ?_
     have hm := eL hm hb4 hr1
     cases hm
     exact rt [] []
    ·exact X_skip (ibN (thN (rh G (wL G hm))))
   ·exact Ok_exit (thE (thE (ibE (wE G hm hb4))))
  rintro ⟨⟩ hm s1 hw1
  refine thN (Ok_weak hw1 ?_)
  refine rg G ?_
  cases hm
  exact rt [] []
noncomputable def s_l2LineNamed_M : MS (Network × ByteArray) Int := ⟨.x .r .r, fun x => s_l2LineNamed x.1 x.2, fun y => dV y, fun _ => [], fun _ _ => []⟩
theorem s_l2LineNamed_c {n name y} (hm : s_l2LineNamed n name = some y) : s_l2LineNamed_M.C (n, name) y := s_l2LineNamed_M.c (n, name) hm
theorem s_l2LineNamed_ok : FnOK Try.prog 303 s_l2LineNamed_M.S := by
 refine fm tt s_l2LineNamed_M [] Try.call303 Try.func303 rfl Try.results303 Try.ntmps303 ?_
 rintro ⟨n, name⟩ y cx G hm
 have hm : s_l2LineNamed n name = some y := hm
 unfold s_l2LineNamed at hm
 refine rg G (Ok_seq (rg G (tF hm (fun _ => ⟨[], [], 32⟩) (fun v1 hr hm => ?_) ?_)))
 ·refine Ok_block (lp G hm (fun v => ⟨[(1, dV name), (2, .ref 16 0), (5, dV v)], [bX 16 [dV n.Stops, dV n.Lines]], 48⟩) ?_)
  rintro v r0 hb hm
  rw [s_l2LineNamed_L1] at hm
  refine Ok_seq (rs G (hN 3 n.Lines h0) ?_)
  refine cd hm (fun hm => ?_) (fun hm => ?_)
  ·refine X_skip (thN (Ok_seq (Ok_block ?_)))
   obtain ⟨e, h, hm⟩ := obind hm
   refine rs G (hD 3 h h0) ?_
   refine cd hm (fun hm => ?_) (fun hm => ?_)
   ·refine rg G ?_
    have hm := eL hm hb hr
    cases hm
    exact rt [] []
   ·exact X_skip (ibN (thN (rh G (wL G hm))))
  ·exact Ok_exit (thE (thE (ibE (wE G hm hb))))
 rintro ⟨⟩ hm s hw
 refine thN (Ok_weak hw ?_)
 refine rg G ?_
 cases hm
 exact rt [] []
noncomputable def s_l2Good_M : MS Network Bool := ⟨.r, s_l2Good, fun y => dV y, fun _ => [], fun _ _ => []⟩
theorem s_l2Good_c {n y} (hm : s_l2Good n = some y) : s_l2Good_M.C n y := s_l2Good_M.c n hm
theorem s_l2Good_ok : FnOK Try.prog 236 s_l2Good_M.S := by
 refine fm tt s_l2Good_M [fo s_l1In_ok, fo s_l2Name_ok, fo s_l2Find_ok, fo s_l2Line_ok, fo s_l2LineNamed_ok] Try.call236 Try.func236 rfl Try.results236 Try.ntmps236 ?_
 rintro n y cx G hm
 have hm : s_l2Good n = some y := hm
 unfold s_l2Good at hm
 refine rg G (Ok_seq ?_)
 obtain ⟨r, h, hm⟩ := obind hm
 refine jn hm (fun v => ⟨[(1, .ref 16 0), (16, dV v)], [bX 16 [dV n.Stops, dV n.Lines]], 48⟩) (fun v hm => ?_) ?_
 ·rcases bf hm with ⟨hb, hm⟩ | ⟨hb, hm⟩
  ·refine re G (hN 2 n.Stops (hC 3 (s_l1In_c h) (hO 5 (.b true) (hP hb h0)))) ?_
   exact wJ G hm
  ·obtain ⟨r1, h1, hm⟩ := obind hm
   refine re G (hN 2 n.Stops (hC 3 (s_l1In_c h) (hO 5 (.b false) (hP hb (hN 8 n.Lines (hC 9 (s_l1In_c h1) h0)))))) ?_
   exact wJ G hm
 rintro v hm
 refine cd hm (fun hm => ?_) (fun hm => ?_)
 ·refine rg G ?_
  cases hm
  exact rt [] []
 ·refine X_skip (thN (Ok_seq (rg G (tF hm (fun _ => ⟨[(1, .ref 16 0)], [bX 16 [dV n.Stops, dV n.Lines]], 48⟩) (fun v5 hr hm => ?_) ?_))))
  ·refine Ok_block (lp G hm (fun i => ⟨[(1, .ref 16 0), (3, dV i)], [bX 16 [dV n.Stops, dV n.Lines]], 48⟩) ?_)
   rintro i r0 hb1 hm
   rw [s_l2Good_L1] at hm
   refine Ok_seq (rs G (hN 3 n.Stops h0) ?_)
   refine cd hm (fun hm => ?_) (fun hm => ?_)
   ·refine X_skip (thN (Ok_seq (Ok_block ?_)))
    obtain ⟨e2, h6, hm⟩ := obind hm
    obtain ⟨r4, h7, hm⟩ := obind hm
    refine jn hm (fun v1 => ⟨[(1, .ref 16 0), (3, dV i), (42, dV v1)], [bX 16 [dV n.Stops, dV n.Lines]], 48⟩) (fun v1 hm => ?_) ?_
    ·rcases bf hm with ⟨hb2, hm⟩ | ⟨hb2, hm⟩
     ·refine de G [] (hD 3 h6 (hC 5 (s_l2Name_c h7) (hO 7 (.b true) (hP hb2 h0)))) ?_
      exact wJ G hm
     ·obtain ⟨e3, h8, hm⟩ := obind hm
      obtain ⟨r5, h9, hm⟩ := obind hm
      refine de G [] (hD 3 h6 (hC 5 (s_l2Name_c h7) (hO 7 (.b false) (hP hb2 (hD 13 h8 (hC 15 (s_l2Find_c h9) h0)))))) ?_
      exact wJ G hm
    rintro v1 hm
    refine cd hm (fun hm => ?_) (fun hm => ?_)
    ·refine rg G ?_
     have hm := eL hm hb1 hr
     cases hm
     exact rt [] []
    ·exact X_skip (ibN (thN (rh G (wL G hm))))
   ·exact Ok_exit (thE (thE (ibE (wE G hm hb1))))
  rintro ⟨⟩ hm s hw
  refine thN (Ok_weak hw ?_)
  refine Ok_seq (rg G (tF hm (fun _ => ⟨[], [], 32⟩) (fun v4 hr1 hm => ?_) ?_))
  ·refine Ok_block (lp G hm (fun v2 => ⟨[(1, .ref 16 0), (4, dV v2)], [bX 16 [dV n.Stops, dV n.Lines]], 48⟩) ?_)
   rintro v2 r0 hb3 hm
   rw [s_l2Good_L2] at hm
   refine Ok_seq (rs G (hN 3 n.Lines h0) ?_)
   refine cd hm (fun hm => ?_) (fun hm => ?_)
   ·refine X_skip (thN (Ok_seq (Ok_block ?_)))
    obtain ⟨e7, h14, hm⟩ := obind hm
    obtain ⟨r9, h15, hm⟩ := obind hm
    refine jn hm (fun v3 => ⟨[(1, .ref 16 0), (4, dV v2), (71, dV v3)], [bX 16 [dV n.Stops, dV n.Lines]], 48⟩) (fun v3 hm => ?_) ?_
    ·rcases bf hm with ⟨hb4, hm⟩ | ⟨hb4, hm⟩
     ·refine de G [] (hD 3 h14 (hN 7 n.Stops (hC 8 (s_l2Line_c h15) (hO 10 (.b true) (hP hb4 h0))))) ?_
      exact wJ G hm
     ·obtain ⟨e8, h16, hm⟩ := obind hm
      obtain ⟨r10, h17, hm⟩ := obind hm
      refine de G [] (hD 3 h14 (hN 7 n.Stops (hC 8 (s_l2Line_c h15) (hO 10 (.b false) (hP hb4 (hD 15 h16 (hC 18 (s_l2LineNamed_c h17) h0))))))) ?_
      exact wJ G hm
    rintro v3 hm
    refine cd hm (fun hm => ?_) (fun hm => ?_)
    ·refine rg G ?_
     have hm := eL hm hb3 hr1
     cases hm
     exact rt [] []
    ·exact X_skip (ibN (thN (rh G (wL G hm))))
   ·exact Ok_exit (thE (thE (ibE (wE G hm hb3))))
  rintro ⟨⟩ hm s1 hw1
  refine thN (Ok_weak hw1 ?_)
  refine rg G ?_
  cases hm
  exact rt [] []
noncomputable def s_l21Zones_M : MS (Network × (List Int)) Bool := ⟨.x .r .r, fun x => s_l21Zones x.1 x.2, fun y => dV y, fun _ => [], fun _ _ => []⟩
theorem s_l21Zones_c {n zones y} (hm : s_l21Zones n zones = some y) : s_l21Zones_M.C (n, zones) y := s_l21Zones_M.c (n, zones) hm
theorem s_l21Zones_ok : FnOK Try.prog 178 s_l21Zones_M.S := by
 refine fm tt s_l21Zones_M [fo s_l2Good_ok, fo s_l1In_ok] Try.call178 Try.func178 rfl Try.results178 Try.ntmps178 ?_
 rintro ⟨n, zones⟩ y cx G hm
 have hm : s_l21Zones n zones = some y := hm
 unfold s_l21Zones at hm
 refine rg G (Ok_seq ?_)
 obtain ⟨r, h, hm⟩ := obind hm
 refine jn hm (fun v => ⟨[(1, dV zones), (16, dV v)], [], 32⟩) (fun v hm => ?_) ?_
 ·rcases bf hm with ⟨hb, hm⟩ | ⟨hb, hm⟩
  ·refine re G (hC 1 (s_l2Good_c h) (hO 3 (.b true) (hP hb h0))) ?_
   exact wJ G hm
  ·refine re G (hC 1 (s_l2Good_c h) (hO 3 (.b false) (hP hb (hN 5 zones (hN 8 n.Stops h0))))) ?_
   exact wJ G hm
 rintro v hm
 refine cd hm (fun hm => ?_) (fun hm => ?_)
 ·refine rg G ?_
  cases hm
  exact rt [] []
 ·refine X_skip (thN (Ok_seq (rg G (tF hm (fun _ => ⟨[], [], 32⟩) (fun v2 hr hm => ?_) ?_))))
  ·refine Ok_block (lp G hm (fun v1 => ⟨[(1, dV zones), (5, dV v1)], [], 32⟩) ?_)
   rintro v1 r0 hb1 hm
   rw [s_l21Zones_L1] at hm
   refine Ok_seq (rs G (hN 2 zones h0) ?_)
   refine cd hm (fun hm => ?_) (fun hm => ?_)
   ·refine X_skip (thN (Ok_seq (Ok_block ?_)))
    obtain ⟨e, h1, hm⟩ := obind hm
    obtain ⟨r1, h2, hm⟩ := obind hm
    refine rs G (hD 2 h1 (hC 4 (s_l1In_c h2) h0)) ?_
    refine cd hm (fun hm => ?_) (fun hm => ?_)
    ·refine rg G ?_
     have hm := eL hm hb1 hr
     cases hm
     exact rt [] []
    ·exact X_skip (ibN (thN (rh G (wL G hm))))
   ·exact Ok_exit (thE (thE (ibE (wE G hm hb1))))
  rintro ⟨⟩ hm s hw
  refine thN (Ok_weak hw ?_)
  refine rg G ?_
  cases hm
  exact rt [] []
noncomputable def s_l1Put_M : MS ((List Int) × Int) ((List Int)) := ⟨.x .r .r, fun x => s_l1Put x.1 x.2, fun y => dV y, fun _ => [], fun _ _ => []⟩
theorem s_l1Put_c {l n y} (hm : s_l1Put l n = some y) : s_l1Put_M.C (l, n) y := s_l1Put_M.c (l, n) hm
theorem s_l1Put_ok : FnOK Try.prog 135 s_l1Put_M.S := by
 refine fm tt s_l1Put_M [] Try.call135 Try.func135 rfl Try.results135 Try.ntmps135 ?_
 rintro ⟨l, n⟩ y cx G hm
 have hm : s_l1Put l n = some y := hm
 unfold s_l1Put at hm
 refine rg G (rg G (jn hm (fun v2 => ⟨[(0, dV l), (1, dV n), (5, dV v2)], [], 32⟩) (fun v2 hm => ?_) ?_))
 ·refine Ok_block (lp G hm (fun v => ⟨[(0, dV l), (1, dV n), (5, dV v)], [], 32⟩) ?_)
  rintro v r0 hb hm
  rw [s_l1Put_L1] at hm
  refine Ok_seq (jn hm (fun v1 => ⟨[(0, dV l), (1, dV n), (5, dV v), (17, dV v1)], [], 32⟩) (fun v1 hm => ?_) ?_)
  ·rcases bf hm with ⟨hb1, hm⟩ | ⟨hb1, hm⟩
   ·obtain ⟨e, h, hm⟩ := obind hm
    refine re G (hN 2 l (hO 4 (.b true) (hP hb1 (hD 7 h h0)))) ?_
    exact wJ G hm
   ·refine re G (hN 2 l (hO 4 (.b false) (hP hb1 h0))) ?_
    exact wJ G hm
  rintro v1 hm
  refine cd hm (fun hm => ?_) (fun hm => ?_)
  ·exact X_skip (thN (Ok_block (rh G (ibN (wL G hm)))))
  ·exact Ok_exit (thE (thE (ibE (wD G hm hb))))
 rintro v2 hm
 refine Ok_seq (jn hm (fun v3 => ⟨[(0, dV l), (1, dV n), (5, dV v2), (31, dV v3)], [], 32⟩) (fun v3 hm => ?_) ?_)
 ·rcases bf hm with ⟨hb2, hm⟩ | ⟨hb2, hm⟩
  ·obtain ⟨e1, h1, hm⟩ := obind hm
   refine re G (hN 2 l (hO 4 (.b true) (hP hb2 (hD 7 h1 h0)))) ?_
   exact wJ G hm
  ·refine re G (hN 2 l (hO 4 (.b false) (hP hb2 h0))) ?_
   exact wJ G hm
 rintro v3 hm
 refine cd hm (fun hm => ?_) (fun hm => ?_)
 ·refine rg G ?_
  cases hm
  exact rt [] []
 ·refine X_skip (thN ?_)
  obtain ⟨u5, h7, hm⟩ := obind hm
  obtain ⟨u6, h8, hm⟩ := obind hm
  obtain ⟨u7, h9, hm⟩ := obind hm
  obtain ⟨u8, h10, hm⟩ := obind hm
  obtain ⟨u9, h11, hm⟩ := obind hm
  refine ds G [(3, []), (4, [32]), (7, [96, 128]), (10, []), (11, [144])] (hU 3 h7 (hA 4 8 h8 (hA 7 8 h9 (hV 10 h10 (hA 11 8 h11 h0))))) ?_
  cases hm
  exact rt [] []
noncomputable def s_l21Touched_M : MS (Network × (List Int) × (List Int) × Int × Int × Int) ((List Int) × Bool) := ⟨.x .r (.x .r (.x .r (.x .r (.x .r .r)))), fun x => s_l21Touched x.1 x.2.1 x.2.2.1 x.2.2.2.1 x.2.2.2.2.1 x.2.2.2.2.2, fun y => .tup [dV y.1, dV y.2], fun _ => [], fun _ _ => []⟩
theorem s_l21Touched_c {n zones list line from_ to y} (hm : s_l21Touched n zones list line from_ to = some y) : s_l21Touched_M.C (n, zones, list, line, from_, to) y := s_l21Touched_M.c (n, zones, list, line, from_, to) hm
theorem s_l21Touched_ok : FnOK Try.prog 179 s_l21Touched_M.S := by
 refine fm tt s_l21Touched_M [fo s_l1In_ok, fo s_l1Put_ok] Try.call179 Try.func179 rfl Try.results179 Try.ntmps179 ?_
 rintro ⟨n, zones, list, line, from_, to⟩ y cx G hm
 have hm : s_l21Touched n zones list line from_ to = some y := hm
 unfold s_l21Touched at hm
 refine rg G (Ok_seq ?_)
 obtain ⟨r, h, hm⟩ := obind hm
 refine jn hm (fun v => ⟨[(1, dV zones), (2, dV list), (3, dV line), (4, dV from_), (5, dV to), (6, .ref 16 0), (40, dV v)], [bX 16 [dV n.Stops, dV n.Lines]], 48⟩) (fun v hm => ?_) ?_
 ·rcases bf hm with ⟨hb, hm⟩ | ⟨hb, hm⟩
  ·refine re G (hN 3 n.Lines (hC 5 (s_l1In_c h) (hO 7 (.b true) (hP hb h0)))) ?_
   exact wJ G hm
  ·obtain ⟨e, h1, hm⟩ := obind hm
   obtain ⟨r1, h2, hm⟩ := obind hm
   rcases bf hm with ⟨hb1, hm⟩ | ⟨hb1, hm⟩
   ·refine re G (hN 3 n.Lines (hC 5 (s_l1In_c h) (hO 7 (.b false) (hP hb (hD 12 h1 (hN 15 e.Stops (hC 17 (s_l1In_c h2) (hO 20 (.b true) (hP hb1 h0))))))))) ?_
    exact wJ G hm
   ·obtain ⟨r2, h3, hm⟩ := obind hm
    refine re G (hN 3 n.Lines (hC 5 (s_l1In_c h) (hO 7 (.b false) (hP hb (hD 12 h1 (hN 15 e.Stops (hC 17 (s_l1In_c h2) (hO 20 (.b false) (hP hb1 (hC 23 (s_l1In_c h3) h0)))))))))) ?_
    exact wJ G hm
 rintro v hm
 refine cd hm (fun hm => ?_) (fun hm => ?_)
 ·refine rg G ?_
  cases hm
  exact rt [] []
 ·refine X_skip (thN (Ok_seq (rg G (tl hm (fun list2 => ⟨[(2, dV list2)], [], 32⟩) (fun list2 hm => ?_) ?_))))
  ·refine Ok_block (lp G hm (fun (list1, v1) => ⟨[(1, dV zones), (2, dV list1), (3, dV line), (5, dV to), (6, .ref 16 0), (14, dV v1)], [bX 16 [dV n.Stops, dV n.Lines]], 48⟩) ?_)
   rintro ⟨list1, v1⟩ r0 hb2 hm
   rw [s_l21Touched_L1] at hm
   refine Ok_seq (rg G (cd hm (fun hm => ?_) (fun hm => ?_)))
   ·refine X_skip (thN (Ok_seq (Ok_block ?_)))
    obtain ⟨e1, h4, hm⟩ := obind hm
    obtain ⟨e2, h5, hm⟩ := obind hm
    obtain ⟨e3, h6, hm⟩ := obind hm
    obtain ⟨r3, h7, hm⟩ := obind hm
    refine re G (hD 5 h4 (hD 9 h5 (hD 11 h6 (hC 13 (s_l1Put_c h7) h0)))) ?_
    exact ibN (thN (rh G (wL G hm)))
   ·exact Ok_exit (thE (thE (ibE (wD G hm hb2))))
  rintro list2 hm s hw
  refine thN (Ok_weak hw ?_)
  refine rg G ?_
  cases hm
  exact rt [] []
noncomputable def s_l21Prices_M : MS Prices Bool := ⟨.r, s_l21Prices, fun y => dV y, fun _ => [], fun _ _ => []⟩
theorem s_l21Prices_c {p y} (hm : s_l21Prices p = some y) : s_l21Prices_M.C p y := s_l21Prices_M.c p hm
theorem s_l21Prices_ok : FnOK Try.prog 182 s_l21Prices_M.S := by
 refine fm tt s_l21Prices_M [fo s_l1In_ok] Try.call182 Try.func182 rfl Try.results182 Try.ntmps182 ?_
 rintro p y cx G hm
 have hm : s_l21Prices p = some y := hm
 unfold s_l21Prices at hm
 refine rg G (Ok_seq (rg G (tF hm (fun _ => ⟨[(1, .ref 16 0)], [bX 16 [dV p.Zones, dV p.Day, dV p.Week]], 48⟩) (fun v2 hr hm => ?_) ?_)))
 ·refine Ok_block (lp G hm (fun v => ⟨[(1, .ref 16 0), (3, dV v)], [bX 16 [dV p.Zones, dV p.Day, dV p.Week]], 48⟩) ?_)
  rintro v r0 hb hm
  rw [s_l21Prices_L1] at hm
  refine Ok_seq (rs G (hN 3 p.Zones h0) ?_)
  refine cd hm (fun hm => ?_) (fun hm => ?_)
  ·refine X_skip (thN (Ok_seq (Ok_block ?_)))
   obtain ⟨e3, h4, hm⟩ := obind hm
   obtain ⟨r1, h5, hm⟩ := obind hm
   refine jn hm (fun v1 => ⟨[(1, .ref 16 0), (3, dV v), (35, dV v1)], [bX 16 [dV p.Zones, dV p.Day, dV p.Week]], 48⟩) (fun v1 hm => ?_) ?_
   ·rcases bf hm with ⟨hb1, hm⟩ | ⟨hb1, hm⟩
    ·refine de G [] (hD 3 h4 (hC 5 (s_l1In_c h5) (hO 7 (.b true) (hP hb1 h0)))) ?_
     exact wJ G hm
    ·rcases bf hm with ⟨hb2, hm⟩ | ⟨hb2, hm⟩
     ·obtain ⟨e4, h6, hm⟩ := obind hm
      obtain ⟨e5, h7, hm⟩ := obind hm
      refine de G [] (hD 3 h4 (hC 5 (s_l1In_c h5) (hO 7 (.b false) (hP hb1 (hO 10 (.b true) (hP hb2 (hD 15 h6 (hD 20 h7 h0)))))))) ?_
      exact wJ G hm
     ·refine de G [] (hD 3 h4 (hC 5 (s_l1In_c h5) (hO 7 (.b false) (hP hb1 (hO 10 (.b false) (hP hb2 h0)))))) ?_
      exact wJ G hm
   rintro v1 hm
   refine cd hm (fun hm => ?_) (fun hm => ?_)
   ·refine rg G ?_
    have hm := eL hm hb hr
    cases hm
    exact rt [] []
   ·exact X_skip (ibN (thN (rh G (wL G hm))))
  ·exact Ok_exit (thE (thE (ibE (wE G hm hb))))
 rintro ⟨⟩ hm s hw
 refine thN (Ok_weak hw ?_)
 obtain ⟨r3, h8, hm⟩ := obind hm
 refine jn hm (fun i => ⟨[(2, dV i)], [], 32⟩) (fun i hm => ?_) ?_
 ·rcases bf hm with ⟨hb3, hm⟩ | ⟨hb3, hm⟩
  ·obtain ⟨r4, h9, hm⟩ := obind hm
   rcases bf hm with ⟨hb4, hm⟩ | ⟨hb4, hm⟩
   ·obtain ⟨r5, h10, hm⟩ := obind hm
    refine re G (hN 2 p.Zones (hC 3 (s_l1In_c h8) (hO 4 (.b true) (hP hb3 (hC 7 (s_l1In_c h9) (hO 9 (.b true) (hP hb4 (hC 12 (s_l1In_c h10) h0)))))))) ?_
    exact wJ G hm
   ·refine re G (hN 2 p.Zones (hC 3 (s_l1In_c h8) (hO 4 (.b true) (hP hb3 (hC 7 (s_l1In_c h9) (hO 9 (.b false) (hP hb4 h0))))))) ?_
    exact wJ G hm
  ·refine re G (hN 2 p.Zones (hC 3 (s_l1In_c h8) (hO 4 (.b false) (hP hb3 h0)))) ?_
   exact wJ G hm
 rintro i hm
 cases hm
 exact rt [] []
noncomputable def s_SingleFare_M : MS (Prices × Int) (Int × Bool) := ⟨.x .r .r, fun x => s_SingleFare x.1 x.2, fun y => .tup [dV y.1, dV y.2], fun _ => [], fun _ _ => []⟩
theorem s_SingleFare_c {p count y} (hm : s_SingleFare p count = some y) : s_SingleFare_M.C (p, count) y := s_SingleFare_M.c (p, count) hm
theorem s_SingleFare_ok : FnOK Try.prog 65 s_SingleFare_M.S := by
 refine fm tt s_SingleFare_M [fo s_l21Prices_ok, fo s_l1In_ok, fo s_l1Least_ok] Try.call65 Try.func65 rfl Try.results65 Try.ntmps65 ?_
 rintro ⟨p, count⟩ y cx G hm
 have hm : s_SingleFare p count = some y := hm
 unfold s_SingleFare at hm
 refine rg G (Ok_seq ?_)
 obtain ⟨r, h, hm⟩ := obind hm
 refine jn hm (fun v => ⟨[(1, dV count), (2, .ref 16 0), (13, dV v)], [bX 16 [dV p.Zones, dV p.Day, dV p.Week]], 48⟩) (fun v hm => ?_) ?_
 ·rcases bf hm with ⟨hb, hm⟩ | ⟨hb, hm⟩
  ·refine re G (hC 1 (s_l21Prices_c h) (hO 3 (.b true) (hP hb h0))) ?_
   exact wJ G hm
  ·obtain ⟨r1, h1, hm⟩ := obind hm
   refine re G (hC 1 (s_l21Prices_c h) (hO 3 (.b false) (hP hb (hC 5 (s_l1In_c h1) h0)))) ?_
   exact wJ G hm
 rintro v hm
 refine cd hm (fun hm => ?_) (fun hm => ?_)
 ·refine rg G ?_
  cases hm
  exact rt [] []
 ·refine X_skip (thN ?_)
  obtain ⟨r3, h4, hm⟩ := obind hm
  obtain ⟨e1, h5, hm⟩ := obind hm
  refine ds G [] (hN 5 p.Zones (hC 6 (s_l1Least_c h4) (hD 8 h5 h0))) ?_
  cases hm
  exact rt [] []
noncomputable def s_JourneyFare_M : MS (Network × (List Int) × Prices × (List (List Int))) (Int × Bool) := ⟨.x .r (.x .r (.x .r .r)), fun x => s_JourneyFare x.1 x.2.1 x.2.2.1 x.2.2.2, fun y => .tup [dV y.1, dV y.2], fun _ => [], fun _ _ => []⟩
theorem s_JourneyFare_c {n zones p legs y} (hm : s_JourneyFare n zones p legs = some y) : s_JourneyFare_M.C (n, zones, p, legs) y := s_JourneyFare_M.c (n, zones, p, legs) hm
theorem s_JourneyFare_ok : FnOK Try.prog 59 s_JourneyFare_M.S := by
 refine fm tt s_JourneyFare_M [fo s_l21Zones_ok, fo s_l1In_ok, fo s_l21Touched_ok, fo s_SingleFare_ok] Try.call59 Try.func59 rfl Try.results59 Try.ntmps59 ?_
 rintro ⟨n, zones, p, legs⟩ y cx G hm
 have hm : s_JourneyFare n zones p legs = some y := hm
 unfold s_JourneyFare at hm
 refine rg G (Ok_seq ?_)
 obtain ⟨r, h, hm⟩ := obind hm
 refine jn hm (fun v => ⟨[(1, dV zones), (3, dV legs), (4, .ref 16 0), (6, .ref 32 0), (23, dV v)], [bX 16 [dV n.Stops, dV n.Lines], bX 32 [dV p.Zones, dV p.Day, dV p.Week]], 64⟩) (fun v hm => ?_) ?_
 ·rcases bf hm with ⟨hb, hm⟩ | ⟨hb, hm⟩
  ·refine re G (hC 2 (s_l21Zones_c h) (hO 4 (.b true) (hP hb h0))) ?_
   exact wJ G hm
  ·obtain ⟨r1, h1, hm⟩ := obind hm
   refine re G (hC 2 (s_l21Zones_c h) (hO 4 (.b false) (hP hb (hN 6 legs (hC 7 (s_l1In_c h1) h0))))) ?_
   exact wJ G hm
 rintro v hm
 refine cd hm (fun hm => ?_) (fun hm => ?_)
 ·refine rg G ?_
  cases hm
  exact rt [] []
 ·refine X_skip (thN (rg G (Ok_seq (rg G (tF hm (fun v3 => ⟨[(6, .ref 16 0), (10, dV v3)], [bX 16 [dV p.Zones, dV p.Day, dV p.Week]], 48⟩) (fun v4 hr hm => ?_) ?_)))))
  ·refine Ok_block (lp G hm (fun (v1, v2) => ⟨[(1, dV zones), (3, dV legs), (4, .ref 16 0), (6, .ref 32 0), (10, dV v1), (11, dV v2)], [bX 16 [dV n.Stops, dV n.Lines], bX 32 [dV p.Zones, dV p.Day, dV p.Week]], 64⟩) ?_)
   rintro ⟨v1, v2⟩ r0 hb1 hm
   rw [s_JourneyFare_L1] at hm
   refine Ok_seq (rs G (hN 2 legs h0) ?_)
   refine cd hm (fun hm => ?_) (fun hm => ?_)
   ·refine X_skip (thN (Ok_seq (Ok_block (Ok_seq ?_))))
    obtain ⟨e, h2, hm⟩ := obind hm
    refine rs G (hD 2 h2 (hN 4 e h0)) ?_
    refine cd hm (fun hm => ?_) (fun hm => ?_)
    ·refine rg G ?_
     have hm := eL hm hb1 hr
     cases hm
     exact rt [] []
    ·refine X_skip (thN ?_)
     obtain ⟨e8, h10, hm⟩ := obind hm
     obtain ⟨e9, h11, hm⟩ := obind hm
     obtain ⟨e10, h12, hm⟩ := obind hm
     obtain ⟨e11, h13, hm⟩ := obind hm
     obtain ⟨e12, h14, hm⟩ := obind hm
     obtain ⟨e13, h15, hm⟩ := obind hm
     obtain ⟨r4, h16, hm⟩ := obind hm
     refine ds G [] (hD 5 h10 (hD 7 h11 (hD 11 h12 (hD 13 h13 (hD 17 h14 (hD 19 h15 (hC 21 (s_l21Touched_c h16) h0))))))) ?_
     refine Ok_seq (rg G (cd hm (fun hm => ?_) (fun hm => ?_)))
     ·refine rg G ?_
      have hm := eL hm hb1 hr
      cases hm
      exact rt [] []
     ·exact X_skip (thN (rh G (ibN (thN (rh G (wL G hm))))))
   ·exact Ok_exit (thE (thE (ibE (wE G hm hb1))))
  rintro v3 hm s hw
  refine thN (Ok_weak hw ?_)
  obtain ⟨r6, h17, hm⟩ := obind hm
  refine rs G (hN 2 v3 (hC 3 (s_SingleFare_c h17) h0)) ?_
  cases hm
  exact rt [] []
noncomputable def i_ZonesTouched_w_M : MS (Network × (List Int) × Int × Int × Int) ((List Int) × Bool) := ⟨.x .r (.x (.s 3) (.x .r (.x .r .r))), fun x => i_ZonesTouched_w x.1 x.2.1 x.2.2.1 x.2.2.2.1 x.2.2.2.2, fun y => .tup [dV y.1, dV y.2], fun _ => [], fun x _ => [arO 3 x.2.1]⟩
theorem i_ZonesTouched_w_c {n zones line from_ to y} (hm : i_ZonesTouched_w n zones line from_ to = some y) : i_ZonesTouched_w_M.C (n, zones, line, from_, to) y := i_ZonesTouched_w_M.c (n, zones, line, from_, to) hm
theorem i_ZonesTouched_w_ok : FnOK Try.prog 61 i_ZonesTouched_w_M.S := by
 refine fm tt i_ZonesTouched_w_M [fo i_IsValidZones_ok, fo i_arePlaces_ok, fo i_touched_ok] Try.call61 Try.func61 rfl Try.results61 Try.ntmps61 ?_
 rintro ⟨n, zones, line, from_, to⟩ y cx G hm
 have hm : i_ZonesTouched_w n zones line from_ to = some y := hm
 unfold i_ZonesTouched_w at hm
 refine rg G (Ok_seq ?_)
 obtain ⟨r, h, hm⟩ := obind hm
 refine jn hm (fun v => ⟨[(1, .own 0), (2, dV line), (3, dV from_), (4, dV to), (5, .ref 32 0), (26, dV v)], [aX 0 3 zones, bX 32 [dV n.Stops, dV n.Lines]], 64⟩) (fun v hm => ?_) ?_
 ·rcases bf hm with ⟨hb, hm⟩ | ⟨hb, hm⟩
  ·refine re G (hC 2 (i_IsValidZones_c h) (hO 4 (.b true) (hP hb h0))) ?_
   exact wJ G hm
  ·obtain ⟨r1, h1, hm⟩ := obind hm
   refine re G (hC 2 (i_IsValidZones_c h) (hO 4 (.b false) (hP hb (hC 9 (i_arePlaces_c h1) h0)))) ?_
   exact wJ G hm
 rintro v hm
 refine cd hm (fun hm => ?_) (fun hm => ?_)
 ·refine rg G ?_
  cases hm
  exact rt [] [[.z 1]]
 ·refine X_skip (thN ?_)
  obtain ⟨r2, h2, hm⟩ := obind hm
  refine rs G (hC 5 (i_touched_c h2) h0) ?_
  refine rg G (Ok_seq (rg G (tl hm (fun v4 => ⟨[(1, .own 0), (13, .own 32)], [aX 0 3 zones, aX 32 3 v4], 64⟩) (fun v4 hm => ?_) ?_)))
  ·refine Ok_block (lpP hm (fun (v1, v2) => ⟨[(1, .own 0), (12, dV r2), (13, .own 32), (14, dV v1)], [aX 0 3 zones, aX 32 3 v2], 64⟩) (Wk_J G.hL ⟨[(1, []), (12, []), (13, [.o 32]), (14, [])], [(0, 0, [])], [(32, 3, 1, [])], 64⟩ (by kernel_rfl)) ?_)
   rintro ⟨v1, v2⟩ r0 hb1 hm
   rw [i_ZonesTouched_w_L1] at hm
   refine Ok_seq (rg G (cd hm (fun hm => ?_) (fun hm => ?_)))
   ·refine X_skip (thN (jn hm (fun v3 => ⟨[(1, .own 0), (12, dV r2), (13, .own 32), (14, dV v1)], [aX 0 3 zones, aX 32 3 v3], 64⟩) (fun v3 hm => ?_) ?_))
    ·refine Ok_block ?_
     obtain ⟨u, h3, hm⟩ := obind hm
     refine rs G (hK h3 h0) ?_
     refine cd hm (fun hm => ?_) (fun hm => ?_)
     ·obtain ⟨u1, h4, hm⟩ := obind hm
      refine re G (hA 3 8 h4 h0) ?_
      exact ibN (wJ G hm)
     ·exact X_skip (ibN (wJ G hm))
    rintro v3 hm
    exact rh G (wL G hm)
   ·exact Ok_exit (thE (thE (ibE (wD G hm hb1))))
  rintro v4 hm s hw
  refine thN (Ok_weak hw ?_)
  refine rg G ?_
  cases hm
  exact rt [] []
noncomputable def v_rHas_M : MS ((List Int) × Int) Bool := ⟨.x .r .r, fun x => v_rHas x.1 x.2, fun y => dV y, fun _ => [], fun _ _ => []⟩
theorem v_rHas_c {list x y} (hm : v_rHas list x = some y) : v_rHas_M.C (list, x) y := v_rHas_M.c (list, x) hm
theorem v_rHas_ok : FnOK Try.prog 62 v_rHas_M.S := by
 refine fm tt v_rHas_M [] Try.call62 Try.func62 rfl Try.results62 Try.ntmps62 ?_
 rintro ⟨list, x⟩ y cx G hm
 have hm : v_rHas list x = some y := hm
 unfold v_rHas at hm
 refine rg G (Ok_seq (rg G (tF hm (fun _ => ⟨[], [], 32⟩) (fun v1 hr hm => ?_) ?_)))
 ·refine Ok_block (lp G hm (fun v => ⟨[(0, dV list), (1, dV x), (5, dV v)], [], 32⟩) ?_)
  rintro v r0 hb hm
  rw [v_rHas_L1] at hm
  refine Ok_seq (rs G (hN 2 list h0) ?_)
  refine cd hm (fun hm => ?_) (fun hm => ?_)
  ·refine X_skip (thN (Ok_seq (Ok_block ?_)))
   obtain ⟨e, h, hm⟩ := obind hm
   refine rs G (hD 2 h h0) ?_
   refine cd hm (fun hm => ?_) (fun hm => ?_)
   ·refine rg G ?_
    have hm := eL hm hb hr
    cases hm
    exact rt [] []
   ·exact X_skip (ibN (thN (rh G (wL G hm))))
  ·exact Ok_exit (thE (thE (ibE (wE G hm hb))))
 rintro ⟨⟩ hm s hw
 refine thN (Ok_weak hw ?_)
 refine rg G ?_
 cases hm
 exact rt [] []
noncomputable def s_DrawSingleFare_M : MS ((List UInt8)) (Prices × Int) := ⟨.r, s_DrawSingleFare, fun y => .tup [dV y.1, dV y.2], fun _ => [], fun _ _ => []⟩
theorem s_DrawSingleFare_c {code y} (hm : s_DrawSingleFare code = some y) : s_DrawSingleFare_M.C code y := s_DrawSingleFare_M.c code hm
theorem s_DrawSingleFare_ok : FnOK Try.prog 63 s_DrawSingleFare_M.S := by
 refine fm tt s_DrawSingleFare_M [fo s_l1Cur_prices_ok, fo s_l1Cur_pick_ok, fo s_l1Cur_among_ok] Try.call63 Try.func63 rfl Try.results63 Try.ntmps63 ?_
 rintro code y cx G hm
 have hm : s_DrawSingleFare code = some y := hm
 unfold s_DrawSingleFare at hm
 refine rg G (rg G ?_)
 obtain ⟨r, h, hm⟩ := obind hm
 obtain ⟨r1, h1, hm⟩ := obind hm
 obtain ⟨u, h2, hm⟩ := obind hm
 obtain ⟨u1, h3, hm⟩ := obind hm
 obtain ⟨r2, h4, hm⟩ := obind hm
 refine rs G (hC 1 (s_l1Cur_prices_c h) (hC 5 (s_l1Cur_pick_c h1) (hK h2 (hO 8 (.fz [160] [] []) (hU 8 h3 (hC 9 (s_l1Cur_among_c h4) h0)))))) ?_
 cases hm
 exact rt [] []
noncomputable def s_DrawSplitRevenue_M : MS ((List UInt8)) (Int × (List Int)) := ⟨.r, s_DrawSplitRevenue, fun y => .tup [dV y.1, .own 0], fun y => [arO 3 y.2], fun _ _ => []⟩
theorem s_DrawSplitRevenue_c {code y} (hm : s_DrawSplitRevenue code = some y) : s_DrawSplitRevenue_M.C code y := s_DrawSplitRevenue_M.c code hm
theorem s_DrawSplitRevenue_ok : FnOK Try.prog 66 s_DrawSplitRevenue_M.S := by
 refine fm tt s_DrawSplitRevenue_M [fo s_l1Cur_pick_ok, fo s_l1Cur_among_ok] Try.call66 Try.func66 rfl Try.results66 Try.ntmps66 ?_
 rintro code y cx G hm
 have hm : s_DrawSplitRevenue code = some y := hm
 unfold s_DrawSplitRevenue at hm
 refine rg G (rg G (rg G (Ok_seq ?_)))
 obtain ⟨r, h, hm⟩ := obind hm
 refine rs G (hC 1 (s_l1Cur_pick_c h) h0) ?_
 refine tl hm (fun (v4, v5, v6, n1) => ⟨[(4, .ref 16 0), (5, .own 32)], [bX 16 [dV v4, dV v5, kV .u64 v6], aX 32 3 n1], 64⟩) (fun vv2 hm => ?_) ?_
 ·refine Ok_block (lp G hm (fun (v, v1, v2, v3, n) => ⟨[(4, .ref 16 0), (5, .own 32), (6, dV v)], [bX 16 [dV v1, dV v2, kV .u64 v3], aX 32 3 n], 64⟩) ?_)
  rintro ⟨v, v1, v2, v3, n⟩ r0 hb hm
  rw [s_DrawSplitRevenue_L1] at hm
  refine Ok_seq (rg G (cd hm (fun hm => ?_) (fun hm => ?_)))
  ·refine X_skip (thN (Ok_seq (Ok_block ?_)))
   obtain ⟨r1, h1, hm⟩ := obind hm
   obtain ⟨u, h2, hm⟩ := obind hm
   refine re G (hO 3 (.fz [128] [] []) (hC 3 (s_l1Cur_among_c h1) (hA 5 8 h2 h0))) ?_
   exact ibN (thN (rh G (wL G hm)))
  ·exact Ok_exit (thE (thE (ibE (wD G hm hb))))
 rintro ⟨v4, v5, v6, n1⟩ hm s hw
 refine thN (Ok_weak hw ?_)
 refine jn hm (fun (v7, v8, v9, n2) => ⟨[(4, .ref 16 0), (5, .own 32)], [bX 16 [dV v7, dV v8, kV .u64 v9], aX 32 3 n2], 64⟩) (fun vv1 hm => ?_) ?_
 ·obtain ⟨r2, h3, hm⟩ := obind hm
  refine rs G (hC 1 (s_l1Cur_pick_c h3) h0) ?_
  refine Ok_block (rg G (cd hm (fun hm => ?_) (fun hm => ?_)))
  ·obtain ⟨r3, h4, hm⟩ := obind hm
   obtain ⟨e, h5, hm⟩ := obind hm
   refine re G (hO 3 (.fz [160] [] []) (hC 3 (s_l1Cur_among_c h4) (hD 4 h5 (hS 5 h5 r3.1 h0)))) ?_
   exact ibN (wJ G hm)
  ·refine rg G (cd hm (fun hm => ?_) (fun hm => ?_))
   ·refine tl hm (fun (v13, v14, v15, n4) => ⟨[(4, .ref 16 0), (5, .own 32)], [bX 16 [dV v13, dV v14, kV .u64 v15], aX 32 3 n4], 64⟩) (fun vv hm => ?_) ?_
    ·refine Ok_block (lp G hm (fun (v10, v11, v12, n3) => ⟨[(4, .ref 16 0), (5, .own 32)], [bX 16 [dV v10, dV v11, kV .u64 v12], aX 32 3 n3], 64⟩) ?_)
     rintro ⟨v10, v11, v12, n3⟩ r0 hb1 hm
     rw [s_DrawSplitRevenue_L2] at hm
     refine Ok_seq ?_
     obtain ⟨r4, h6, hm⟩ := obind hm
     refine rs G (hN 1 n3 (hC 3 (s_l1Cur_pick_c h6) h0)) ?_
     refine cd hm (fun hm => ?_) (fun hm => ?_)
     ·refine X_skip (thN (Ok_block ?_))
      obtain ⟨u1, h7, hm⟩ := obind hm
      refine re G (hA 2 8 h7 h0) ?_
      exact ibN (wL G hm)
     ·exact Ok_exit (thE (thE (ibE (wD G hm hb1))))
    rintro ⟨v13, v14, v15, n4⟩ hm s1 hw1
    exact ibN (wJp hm (Wk.trans hw1 (Wk_J G.hL ⟨[(4, []), (5, [])], [(16, 16, []), (32, 32, [])], [], 64⟩ (by kernel_rfl))))
   ·exact X_skip (ibN (wJ G hm))
 rintro ⟨v7, v8, v9, n2⟩ hm
 obtain ⟨r5, h8, hm⟩ := obind hm
 obtain ⟨u2, h9, hm⟩ := obind hm
 obtain ⟨u3, h10, hm⟩ := obind hm
 obtain ⟨r6, h11, hm⟩ := obind hm
 refine rs G (hC 3 (s_l1Cur_pick_c h8) (hK h9 (hO 6 (.fz [80] [] []) (hU 6 h10 (hC 7 (s_l1Cur_among_c h11) h0))))) ?_
 cases hm
 exact rt [32] []
noncomputable def i_total_M : MS ((List Int)) Int := ⟨.r, i_total, fun y => dV y, fun _ => [], fun _ _ => []⟩
theorem i_total_c {list y} (hm : i_total list = some y) : i_total_M.C list y := i_total_M.c list hm
theorem i_total_ok : FnOK Try.prog 184 i_total_M.S := by
 refine fm tt i_total_M [] Try.call184 Try.func184 rfl Try.results184 Try.ntmps184 ?_
 rintro list y cx G hm
 have hm : i_total list = some y := hm
 unfold i_total at hm
 refine rg G (rg G (Ok_seq (rs G (hN 1 list h0) ?_)))
 refine tl hm (fun v2 => ⟨[(3, dV v2)], [], 32⟩) (fun v2 hm => ?_) ?_
 ·refine Ok_block (lp G hm (fun (v, v1) => ⟨[(3, dV v), (6, dV list), (7, dV (list.length : Int)), (8, dV v1)], [], 32⟩) ?_)
  rintro ⟨v, v1⟩ r0 hb hm
  rw [i_total_L1] at hm
  refine rg G (Ok_seq (cd hm (fun hm => ?_) (fun hm => ?_)))
  ·refine X_skip (thN (Ok_seq (Ok_block ?_)))
   obtain ⟨e, h, hm⟩ := obind hm
   refine rs G (hD 0 h h0) ?_
   exact rh G (ibN (thN (rh G (wL G hm))))
  ·exact Ok_exit (thE (thE (ibE (wD G hm hb))))
 rintro v2 hm s hw
 refine thN (Ok_weak hw ?_)
 refine rg G ?_
 cases hm
 exact rt [] []
noncomputable def cmp_Compare_int_M : MS (Int × Int) Int := ⟨.x .r .r, fun x => cmp_Compare_int x.1 x.2, fun y => dV y, fun _ => [], fun _ _ => []⟩
theorem cmp_Compare_int_c {x y_ y} (hm : cmp_Compare_int x y_ = some y) : cmp_Compare_int_M.C (x, y_) y := cmp_Compare_int_M.c (x, y_) hm
theorem cmp_Compare_int_ok : FnOK Try.prog 187 cmp_Compare_int_M.S := by
 refine fm tt cmp_Compare_int_M [fo cmp_isNaN_int_ok] Try.call187 Try.func187 rfl Try.results187 Try.ntmps187 ?_
 rintro ⟨x, y_⟩ y cx G hm
 have hm : cmp_Compare_int x y_ = some y := hm
 unfold cmp_Compare_int at hm
 refine rg G ?_
 obtain ⟨r, h, hm⟩ := obind hm
 refine rs G (hC 1 (cmp_isNaN_int_c h) h0) ?_
 obtain ⟨r1, h1, hm⟩ := obind hm
 refine rs G (hC 1 (cmp_isNaN_int_c h1) h0) ?_
 refine Ok_seq (rg G (cd hm (fun hm => ?_) (fun hm => ?_)))
 ·refine Ok_seq (rg G (cd hm (fun hm => ?_) (fun hm => ?_)))
  ·refine rg G ?_
   cases hm
   exact rt [] []
  ·refine X_skip (thN (rg G ?_))
   cases hm
   exact rt [] []
 ·refine X_skip (thN (Ok_seq (rg G (cd hm (fun hm => ?_) (fun hm => ?_)))))
  ·refine rg G ?_
   cases hm
   exact rt [] []
  ·refine X_skip (thN (Ok_seq (rg G (cd hm (fun hm => ?_) (fun hm => ?_)))))
   ·refine rg G ?_
    cases hm
    exact rt [] []
   ·refine X_skip (thN (Ok_seq (rg G (cd hm (fun hm => ?_) (fun hm => ?_)))))
    ·refine rg G ?_
     cases hm
     exact rt [] []
    ·refine X_skip (thN (rg G ?_))
     cases hm
     exact rt [] []
noncomputable def i_SplitRevenue_1_M : MS (Int × Int × Int × (List Int) × Int) Int := ⟨.x .r (.x .r (.x .b (.x .b .b))), fun x => i_SplitRevenue_1 x.1 x.2.1 x.2.2.1 x.2.2.2.1 x.2.2.2.2, fun y => dV y, fun _ => [], fun x _ => [bxO x.2.2.1, bxO x.2.2.2.1, bxO x.2.2.2.2]⟩
theorem i_SplitRevenue_1_c {a b c1 c2 c3 y} (hm : i_SplitRevenue_1 a b c1 c2 c3 = some y) : i_SplitRevenue_1_M.C (a, b, c1, c2, c3) y := i_SplitRevenue_1_M.c (a, b, c1, c2, c3) hm
theorem i_SplitRevenue_1_ok : FnOK Try.prog 186 i_SplitRevenue_1_M.S := by
 refine fm tt i_SplitRevenue_1_M [fo cmp_Compare_int_ok] Try.call186 Try.func186 rfl Try.results186 Try.ntmps186 ?_
 rintro ⟨a, b, c1, c2, c3⟩ y cx G hm
 have hm : i_SplitRevenue_1 a b c1 c2 c3 = some y := hm
 unfold i_SplitRevenue_1 at hm
 refine rg G ?_
 obtain ⟨e2, h5, hm⟩ := obind hm
 obtain ⟨u2, h6, hm⟩ := obind hm
 obtain ⟨e3, h7, hm⟩ := obind hm
 obtain ⟨u3, h8, hm⟩ := obind hm
 obtain ⟨r1, h9, hm⟩ := obind hm
 refine ds G [] (hD 3 h5 (hK h6 (hD 11 h7 (hK h8 (hC 16 (cmp_Compare_int_c h9) h0))))) ?_
 cases hm
 exact rt [] []
noncomputable def slices_insertionSortCmpFunc_int_w__i_SplitRevenue_1_M : MS ((List Int) × Int × Int × Int × (List Int) × Int) ((List Int)) := ⟨⟨[.sl, .rd, .rd, .fn 186 [.bx, .bx, .bx]], fun x => [.sc undef, Enc.e x.2.1, Enc.e x.2.2.1, .agg [.sc undef, .sc undef, .sc undef]], fun x => [arO 3 x.1, bxO x.2.2.2.1, bxO x.2.2.2.2.1, bxO x.2.2.2.2.2], 4, 4, fun _ => rfl, fun _ => rfl, rfl, (by
  rintro ⟨a0, a1, a2, a3, a4, a5⟩ ⟨b0, b1, b2, b3, b4, b5⟩ h hO
  have q0 : a0 = b0 := Enc.inj _ _ (congrArg (fun l => D.sl 1 (obL l 0)) hO)
  have q1 : a1 = b1 := qI 1 h
  have q2 : a2 = b2 := qI 2 h
  have q3 : a3 = b3 := Enc.inj _ _ (congrArg (fun l => (obD l 1).getD 0 (.sc undef)) hO)
  have q4 : a4 = b4 := Enc.inj _ _ (congrArg (fun l => (obD l 2).getD 0 (.sc undef)) hO)
  have q5 : a5 = b5 := Enc.inj _ _ (congrArg (fun l => (obD l 3).getD 0 (.sc undef)) hO)
  subst q0; subst q1; subst q2; subst q3; subst q4; subst q5; rfl)⟩, fun x => slices_insertionSortCmpFunc_int_w__i_SplitRevenue_1 x.1 x.2.1 x.2.2.1 x.2.2.2.1 x.2.2.2.2.1 x.2.2.2.2.2, fun _ => .tup [], fun _ => [], fun x y => [arO 3 y, bxO x.2.2.2.1, bxO x.2.2.2.2.1, bxO x.2.2.2.2.2]⟩
theorem slices_insertionSortCmpFunc_int_w__i_SplitRevenue_1_c {data a b c1 c2 c3 y} (hm : slices_insertionSortCmpFunc_int_w__i_SplitRevenue_1 data a b c1 c2 c3 = some y) : slices_insertionSortCmpFunc_int_w__i_SplitRevenue_1_M.C (data, a, b, c1, c2, c3) y := slices_insertionSortCmpFunc_int_w__i_SplitRevenue_1_M.c (data, a, b, c1, c2, c3) hm
theorem slices_insertionSortCmpFunc_int_w__i_SplitRevenue_1_ok : FnOK Try.prog 318 slices_insertionSortCmpFunc_int_w__i_SplitRevenue_1_M.S := by
 refine fm tt slices_insertionSortCmpFunc_int_w__i_SplitRevenue_1_M [fo i_SplitRevenue_1_ok] Try.call318 Try.func318 rfl Try.results318 Try.ntmps318 ?_
 rintro ⟨data, a, b, c1, c2, c3⟩ y cx G hm
 have hm : slices_insertionSortCmpFunc_int_w__i_SplitRevenue_1 data a b c1 c2 c3 = some y := hm
 obtain ⟨cmp, hf_cmp⟩ : ∃ q, (fun (z0 : Int) (z1 : Int) => i_SplitRevenue_1 z0 z1 c1 c2 c3) = q := ⟨_, rfl⟩
 have hm : slices_insertionSortCmpFunc_int_w data a b cmp = some y := by rw [← hf_cmp]; exact hm
 unfold slices_insertionSortCmpFunc_int_w at hm
 refine rg G (Ok_block (lp G hm (fun (v, data1) => ⟨[(0, .own 0), (1, dV a), (2, dV b), (3, .fn 186 [.ref 1 0, .ref 2 0, .ref 3 0]), (8, dV v)], [aX 0 3 data1, bX 1 [dV c1], bX 2 [dV c2], bX 3 [dV c3]], 48⟩) ?_))
 rintro ⟨v, data1⟩ r0 hb hm
 rw [slices_insertionSortCmpFunc_int_w_L2] at hm
 refine Ok_seq (rg G (cd hm (fun hm => ?_) (fun hm => ?_)))
 ·refine X_skip (thN (Ok_seq (Ok_block (rg G (tl hm (fun data3 => ⟨[(0, .own 0), (1, dV a), (2, dV b), (3, .fn 186 [.ref 1 0, .ref 2 0, .ref 3 0]), (8, dV v)], [aX 0 3 data3, bX 1 [dV c1], bX 2 [dV c2], bX 3 [dV c3]], 48⟩) (fun data3 hm => ?_) ?_)))))
  ·refine Ok_block (lp G hm (fun (v1, data2) => ⟨[(0, .own 0), (1, dV a), (2, dV b), (3, .fn 186 [.ref 1 0, .ref 2 0, .ref 3 0]), (8, dV v), (9, dV v1)], [aX 0 3 data2, bX 1 [dV c1], bX 2 [dV c2], bX 3 [dV c3]], 48⟩) ?_)
   rintro ⟨v1, data2⟩ r0 hb1 hm
   rw [slices_insertionSortCmpFunc_int_w_L1] at hm
   refine Ok_seq (jn hm (fun v2 => ⟨[(0, .own 0), (1, dV a), (2, dV b), (3, .fn 186 [.ref 1 0, .ref 2 0, .ref 3 0]), (8, dV v), (9, dV v1), (34, dV v2)], [aX 0 3 data2, bX 1 [dV c1], bX 2 [dV c2], bX 3 [dV c3]], 48⟩) (fun v2 hm => ?_) ?_)
   ·rcases bf hm with ⟨hb2, hm⟩ | ⟨hb2, hm⟩
    ·obtain ⟨e2, h3, hm⟩ := obind hm
     obtain ⟨e3, h4, hm⟩ := obind hm
     obtain ⟨r1, h5, hm⟩ := obind hm
     have h5 : i_SplitRevenue_1 e2 e3 c1 c2 c3 = some r1 := by rw [← hf_cmp] at h5; exact h5
     refine de G [(14, [1, 2, 3])] (hO 3 (.b true) (hP hb2 (hD 7 h3 (hE 8 h3 (hD 12 h4 (hE 13 h4 (hC 14 (i_SplitRevenue_1_c h5) h0))))))) ?_
     exact wJ G hm
    ·refine de G [(14, [1, 2, 3])] (hO 3 (.b false) (hP hb2 h0)) ?_
     exact wJ G hm
   rintro v2 hm
   refine cd hm (fun hm => ?_) (fun hm => ?_)
   ·refine X_skip (thN (Ok_seq (Ok_block ?_)))
    obtain ⟨e8, h10, hm⟩ := obind hm
    obtain ⟨e9, h11, hm⟩ := obind hm
    obtain ⟨e10, h12, hm⟩ := obind hm
    obtain ⟨e11, h13, hm⟩ := obind hm
    refine de G [(15, [0]), (17, [0])] (hD 8 h10 (hE 9 h10 (hD 12 h11 (hE 13 h11 (hD 14 h12 (hS 15 h12 e8 (hD 16 h13 (hS 17 h13 e9 h0)))))))) ?_
    exact ibN (thN (rh G (wL G hm)))
   ·exact Ok_exit (thE (thE (ibE (wD G hm hb1))))
  rintro data3 hm s hw
  refine ibN (thN (Ok_weak hw ?_))
  exact rh G (wL G hm)
 ·have hm := eD hm hb
  refine Ok_exit (thE (thE (ibE ?_)))
  cases hm
  exact fN [] []
noncomputable def slices_swapRangeCmpFunc_int_w__i_SplitRevenue_1_M : MS ((List Int) × Int × Int × Int × Int × (List Int) × Int) ((List Int)) := ⟨⟨[.sl, .rd, .rd, .rd, .fn 186 [.bx, .bx, .bx]], fun x => [.sc undef, Enc.e x.2.1, Enc.e x.2.2.1, Enc.e x.2.2.2.1, .agg [.sc undef, .sc undef, .sc undef]], fun x => [arO 3 x.1, bxO x.2.2.2.2.1, bxO x.2.2.2.2.2.1, bxO x.2.2.2.2.2.2], 4, 4, fun _ => rfl, fun _ => rfl, rfl, (by
  rintro ⟨a0, a1, a2, a3, a4, a5, a6⟩ ⟨b0, b1, b2, b3, b4, b5, b6⟩ h hO
  have q0 : a0 = b0 := Enc.inj _ _ (congrArg (fun l => D.sl 1 (obL l 0)) hO)
  have q1 : a1 = b1 := qI 1 h
  have q2 : a2 = b2 := qI 2 h
  have q3 : a3 = b3 := qI 3 h
  have q4 : a4 = b4 := Enc.inj _ _ (congrArg (fun l => (obD l 1).getD 0 (.sc undef)) hO)
  have q5 : a5 = b5 := Enc.inj _ _ (congrArg (fun l => (obD l 2).getD 0 (.sc undef)) hO)
  have q6 : a6 = b6 := Enc.inj _ _ (congrArg (fun l => (obD l 3).getD 0 (.sc undef)) hO)
  subst q0; subst q1; subst q2; subst q3; subst q4; subst q5; subst q6; rfl)⟩, fun x => slices_swapRangeCmpFunc_int_w__i_SplitRevenue_1 x.1 x.2.1 x.2.2.1 x.2.2.2.1 x.2.2.2.2.1 x.2.2.2.2.2.1 x.2.2.2.2.2.2, fun _ => .tup [], fun _ => [], fun x y => [arO 3 y, bxO x.2.2.2.2.1, bxO x.2.2.2.2.2.1, bxO x.2.2.2.2.2.2]⟩
theorem slices_swapRangeCmpFunc_int_w__i_SplitRevenue_1_c {data a b n c1 c2 c3 y} (hm : slices_swapRangeCmpFunc_int_w__i_SplitRevenue_1 data a b n c1 c2 c3 = some y) : slices_swapRangeCmpFunc_int_w__i_SplitRevenue_1_M.C (data, a, b, n, c1, c2, c3) y := slices_swapRangeCmpFunc_int_w__i_SplitRevenue_1_M.c (data, a, b, n, c1, c2, c3) hm
theorem slices_swapRangeCmpFunc_int_w__i_SplitRevenue_1_ok : FnOK Try.prog 334 slices_swapRangeCmpFunc_int_w__i_SplitRevenue_1_M.S := by
 refine fm tt slices_swapRangeCmpFunc_int_w__i_SplitRevenue_1_M [] Try.call334 Try.func334 rfl Try.results334 Try.ntmps334 ?_
 rintro ⟨data, a, b, n, c1, c2, c3⟩ y cx G hm
 have hm : slices_swapRangeCmpFunc_int_w__i_SplitRevenue_1 data a b n c1 c2 c3 = some y := hm
 obtain ⟨cmp, hf_cmp⟩ : ∃ q, (fun (z0 : Int) (z1 : Int) => i_SplitRevenue_1 z0 z1 c1 c2 c3) = q := ⟨_, rfl⟩
 have hm : slices_swapRangeCmpFunc_int_w data a b n cmp = some y := by rw [← hf_cmp]; exact hm
 unfold slices_swapRangeCmpFunc_int_w at hm
 refine rg G (Ok_block (lp G hm (fun (v, data1) => ⟨[(0, .own 0), (1, dV a), (2, dV b), (3, dV n), (4, .fn 186 [.ref 1 0, .ref 2 0, .ref 3 0]), (10, dV v)], [aX 0 3 data1, bX 1 [dV c1], bX 2 [dV c2], bX 3 [dV c3]], 48⟩) ?_))
 rintro ⟨v, data1⟩ r0 hb hm
 rw [slices_swapRangeCmpFunc_int_w_L1] at hm
 refine Ok_seq (rg G (cd hm (fun hm => ?_) (fun hm => ?_)))
 ·refine X_skip (thN (Ok_seq (Ok_block ?_)))
  obtain ⟨e4, h4, hm⟩ := obind hm
  obtain ⟨e5, h5, hm⟩ := obind hm
  obtain ⟨e6, h6, hm⟩ := obind hm
  obtain ⟨e7, h7, hm⟩ := obind hm
  refine de G [(21, [0]), (23, [0])] (hD 12 h4 (hE 13 h4 (hD 18 h5 (hE 19 h5 (hD 20 h6 (hS 21 h6 e4 (hD 22 h7 (hS 23 h7 e5 h0)))))))) ?_
  exact ibN (thN (rh G (wL G hm)))
 ·have hm := eD hm hb
  refine Ok_exit (thE (thE (ibE ?_)))
  cases hm
  exact fN [] []
noncomputable def slices_rotateCmpFunc_int_w__i_SplitRevenue_1_M : MS ((List Int) × Int × Int × Int × Int × (List Int) × Int) ((List Int)) := ⟨⟨[.sl, .rd, .rd, .rd, .fn 186 [.bx, .bx, .bx]], fun x => [.sc undef, Enc.e x.2.1, Enc.e x.2.2.1, Enc.e x.2.2.2.1, .agg [.sc undef, .sc undef, .sc undef]], fun x => [arO 3 x.1, bxO x.2.2.2.2.1, bxO x.2.2.2.2.2.1, bxO x.2.2.2.2.2.2], 4, 4, fun _ => rfl, fun _ => rfl, rfl, (by
  rintro ⟨a0, a1, a2, a3, a4, a5, a6⟩ ⟨b0, b1, b2, b3, b4, b5, b6⟩ h hO
  have q0 : a0 = b0 := Enc.inj _ _ (congrArg (fun l => D.sl 1 (obL l 0)) hO)
  have q1 : a1 = b1 := qI 1 h
  have q2 : a2 = b2 := qI 2 h
  have q3 : a3 = b3 := qI 3 h
  have q4 : a4 = b4 := Enc.inj _ _ (congrArg (fun l => (obD l 1).getD 0 (.sc undef)) hO)
  have q5 : a5 = b5 := Enc.inj _ _ (congrArg (fun l => (obD l 2).getD 0 (.sc undef)) hO)
  have q6 : a6 = b6 := Enc.inj _ _ (congrArg (fun l => (obD l 3).getD 0 (.sc undef)) hO)
  subst q0; subst q1; subst q2; subst q3; subst q4; subst q5; subst q6; rfl)⟩, fun x => slices_rotateCmpFunc_int_w__i_SplitRevenue_1 x.1 x.2.1 x.2.2.1 x.2.2.2.1 x.2.2.2.2.1 x.2.2.2.2.2.1 x.2.2.2.2.2.2, fun _ => .tup [], fun _ => [], fun x y => [arO 3 y, bxO x.2.2.2.2.1, bxO x.2.2.2.2.2.1, bxO x.2.2.2.2.2.2]⟩
theorem slices_rotateCmpFunc_int_w__i_SplitRevenue_1_c {data a m b c1 c2 c3 y} (hm : slices_rotateCmpFunc_int_w__i_SplitRevenue_1 data a m b c1 c2 c3 = some y) : slices_rotateCmpFunc_int_w__i_SplitRevenue_1_M.C (data, a, m, b, c1, c2, c3) y := slices_rotateCmpFunc_int_w__i_SplitRevenue_1_M.c (data, a, m, b, c1, c2, c3) hm
theorem slices_rotateCmpFunc_int_w__i_SplitRevenue_1_ok : FnOK Try.prog 328 slices_rotateCmpFunc_int_w__i_SplitRevenue_1_M.S := by
 refine fm tt slices_rotateCmpFunc_int_w__i_SplitRevenue_1_M [fo slices_swapRangeCmpFunc_int_w__i_SplitRevenue_1_ok] Try.call328 Try.func328 rfl Try.results328 Try.ntmps328 ?_
 rintro ⟨data, a, m, b, c1, c2, c3⟩ y cx G hm
 have hm : slices_rotateCmpFunc_int_w__i_SplitRevenue_1 data a m b c1 c2 c3 = some y := hm
 obtain ⟨cmp, hf_cmp⟩ : ∃ q, (fun (z0 : Int) (z1 : Int) => i_SplitRevenue_1 z0 z1 c1 c2 c3) = q := ⟨_, rfl⟩
 have hm : slices_rotateCmpFunc_int_w data a m b cmp = some y := by rw [← hf_cmp]; exact hm
 unfold slices_rotateCmpFunc_int_w at hm
 refine rg G (rg G (jn hm (fun (v2, data2) => ⟨[(0, .own 0), (2, dV m), (4, .fn 186 [.ref 1 0, .ref 2 0, .ref 3 0]), (10, dV v2)], [aX 0 3 data2, bX 1 [dV c1], bX 2 [dV c2], bX 3 [dV c3]], 48⟩) (fun vv hm => ?_) ?_))
 ·refine Ok_block (lp G hm (fun (v, v1, data1) => ⟨[(0, .own 0), (2, dV m), (4, .fn 186 [.ref 1 0, .ref 2 0, .ref 3 0]), (10, dV v), (11, dV v1)], [aX 0 3 data1, bX 1 [dV c1], bX 2 [dV c2], bX 3 [dV c3]], 48⟩) ?_)
  rintro ⟨v, v1, data1⟩ r0 hb hm
  rw [slices_rotateCmpFunc_int_w_L1] at hm
  refine Ok_seq (rg G (cd hm (fun hm => ?_) (fun hm => ?_)))
  ·refine X_skip (thN (Ok_block (rg G (cd hm (fun hm => ?_) (fun hm => ?_)))))
   ·obtain ⟨r, h, hm⟩ := obind hm
    have h : slices_swapRangeCmpFunc_int_w__i_SplitRevenue_1 data1 (w64 (m - v)) m v1 c1 c2 c3 = some r := by rw [← hf_cmp] at h; exact h
    refine rs G (hC 7 (slices_swapRangeCmpFunc_int_w__i_SplitRevenue_1_c h) h0) ?_
    exact rh G (ibN (wL G hm))
   ·obtain ⟨r1, h1, hm⟩ := obind hm
    have h1 : slices_swapRangeCmpFunc_int_w__i_SplitRevenue_1 data1 (w64 (m - v)) (w64 ((w64 (m + v1)) - v)) v c1 c2 c3 = some r1 := by rw [← hf_cmp] at h1; exact h1
    refine rs G (hC 11 (slices_swapRangeCmpFunc_int_w__i_SplitRevenue_1_c h1) h0) ?_
    exact rh G (ibN (wL G hm))
  ·exact Ok_exit (thE (thE (ibE (wD G hm hb))))
 rintro ⟨v2, data2⟩ hm
 obtain ⟨r2, h2, hm⟩ := obind hm
 have h2 : slices_swapRangeCmpFunc_int_w__i_SplitRevenue_1 data2 (w64 (m - v2)) m v2 c1 c2 c3 = some r2 := by rw [← hf_cmp] at h2; exact h2
 refine re G (hC 7 (slices_swapRangeCmpFunc_int_w__i_SplitRevenue_1_c h2) h0) ?_
 cases hm
 exact fN [] []
noncomputable def slices_symMergeCmpFunc_int_w__i_SplitRevenue_1_MR (rec_ : (List Int) → Int → Int → Int → Int → (List Int) → Int → Option ((List Int))) : MS ((List Int) × Int × Int × Int × Int × (List Int) × Int) ((List Int)) := ⟨⟨[.sl, .rd, .rd, .rd, .fn 186 [.bx, .bx, .bx]], fun x => [.sc undef, Enc.e x.2.1, Enc.e x.2.2.1, Enc.e x.2.2.2.1, .agg [.sc undef, .sc undef, .sc undef]], fun x => [arO 3 x.1, bxO x.2.2.2.2.1, bxO x.2.2.2.2.2.1, bxO x.2.2.2.2.2.2], 4, 4, fun _ => rfl, fun _ => rfl, rfl, (by
  rintro ⟨a0, a1, a2, a3, a4, a5, a6⟩ ⟨b0, b1, b2, b3, b4, b5, b6⟩ h hO
  have q0 : a0 = b0 := Enc.inj _ _ (congrArg (fun l => D.sl 1 (obL l 0)) hO)
  have q1 : a1 = b1 := qI 1 h
  have q2 : a2 = b2 := qI 2 h
  have q3 : a3 = b3 := qI 3 h
  have q4 : a4 = b4 := Enc.inj _ _ (congrArg (fun l => (obD l 1).getD 0 (.sc undef)) hO)
  have q5 : a5 = b5 := Enc.inj _ _ (congrArg (fun l => (obD l 2).getD 0 (.sc undef)) hO)
  have q6 : a6 = b6 := Enc.inj _ _ (congrArg (fun l => (obD l 3).getD 0 (.sc undef)) hO)
  subst q0; subst q1; subst q2; subst q3; subst q4; subst q5; subst q6; rfl)⟩, fun x => rec_ x.1 x.2.1 x.2.2.1 x.2.2.2.1 x.2.2.2.2.1 x.2.2.2.2.2.1 x.2.2.2.2.2.2, fun _ => .tup [], fun _ => [], fun x y => [arO 3 y, bxO x.2.2.2.2.1, bxO x.2.2.2.2.2.1, bxO x.2.2.2.2.2.2]⟩
noncomputable def slices_symMergeCmpFunc_int_w__i_SplitRevenue_1_M : MS ((List Int) × Int × Int × Int × Int × (List Int) × Int) ((List Int)) := slices_symMergeCmpFunc_int_w__i_SplitRevenue_1_MR slices_symMergeCmpFunc_int_w__i_SplitRevenue_1
theorem slices_symMergeCmpFunc_int_w__i_SplitRevenue_1_c {data a m b c1 c2 c3 y} (hm : slices_symMergeCmpFunc_int_w__i_SplitRevenue_1 data a m b c1 c2 c3 = some y) : slices_symMergeCmpFunc_int_w__i_SplitRevenue_1_M.C (data, a, m, b, c1, c2, c3) y := slices_symMergeCmpFunc_int_w__i_SplitRevenue_1_M.c (data, a, m, b, c1, c2, c3) hm
theorem slices_symMergeCmpFunc_int_w__i_SplitRevenue_1_cR {rec_ : (List Int) → Int → Int → Int → Int → (List Int) → Int → Option ((List Int))} {data a m b c1 c2 c3 y} (hm : rec_ data a m b c1 c2 c3 = some y) : (slices_symMergeCmpFunc_int_w__i_SplitRevenue_1_MR rec_).C (data, a, m, b, c1, c2, c3) y := (slices_symMergeCmpFunc_int_w__i_SplitRevenue_1_MR rec_).c (data, a, m, b, c1, c2, c3) hm
theorem slices_symMergeCmpFunc_int_w__i_SplitRevenue_1_okF {rec_ : (List Int) → Int → Int → Int → Int → (List Int) → Int → Option ((List Int))} (hrec : FnOK Try.prog 319 (slices_symMergeCmpFunc_int_w__i_SplitRevenue_1_MR rec_).S) : FnOK Try.prog 319 (slices_symMergeCmpFunc_int_w__i_SplitRevenue_1_MR (slices_symMergeCmpFunc_int_w__i_SplitRevenue_1_F rec_)).S := by
 refine fm tt (slices_symMergeCmpFunc_int_w__i_SplitRevenue_1_MR (slices_symMergeCmpFunc_int_w__i_SplitRevenue_1_F rec_)) [fo hrec, fo i_SplitRevenue_1_ok, fo slices_rotateCmpFunc_int_w__i_SplitRevenue_1_ok] Try.call319 Try.func319 rfl Try.results319 Try.ntmps319 ?_
 rintro ⟨data, a, m, b, c1, c2, c3⟩ y cx G hm
 have hm : slices_symMergeCmpFunc_int_w__i_SplitRevenue_1_F rec_ data a m b c1 c2 c3 = some y := hm
 unfold slices_symMergeCmpFunc_int_w__i_SplitRevenue_1_F at hm
 refine Ok_seq (rg G (cd hm (fun hm => ?_) (fun hm => ?_)))
 ·refine rg G (rg G (jn hm (fun j1 => ⟨[(0, .own 0), (1, dV a), (4, .fn 186 [.ref 1 0, .ref 2 0, .ref 3 0]), (10, dV j1)], [aX 0 3 data, bX 1 [dV c1], bX 2 [dV c2], bX 3 [dV c3]], 48⟩) (fun j1 hm => ?_) ?_))
  ·refine Ok_block (lp G hm (fun (j, h) => ⟨[(0, .own 0), (1, dV a), (4, .fn 186 [.ref 1 0, .ref 2 0, .ref 3 0]), (10, dV j), (11, dV h)], [aX 0 3 data, bX 1 [dV c1], bX 2 [dV c2], bX 3 [dV c3]], 48⟩) ?_)
   rintro ⟨j, h⟩ r0 hb hm
   rw [slices_symMergeCmpFunc_int_w__i_SplitRevenue_1_L1] at hm
   refine Ok_seq (rg G (cd hm (fun hm => ?_) (fun hm => ?_)))
   ·refine X_skip (thN (Ok_block ?_))
    obtain ⟨u, h1, hm⟩ := obind hm
    refine rs G (hK h1 h0) ?_
    obtain ⟨e2, h5, hm⟩ := obind hm
    obtain ⟨e3, h6, hm⟩ := obind hm
    obtain ⟨r1, h7, hm⟩ := obind hm
    refine ds G [(9, [1, 2, 3])] (hD 3 h5 (hE 4 h5 (hD 7 h6 (hE 8 h6 (hC 9 (i_SplitRevenue_1_c h7) h0))))) ?_
    refine cd hm (fun hm => ?_) (fun hm => ?_)
    ·exact rh G (ibN (wL G hm))
    ·exact rh G (ibN (wL G hm))
   ·exact Ok_exit (thE (thE (ibE (wD G hm hb))))
  rintro j1 hm
  refine Ok_seq (rg G (tl hm (fun data2 => ⟨[(0, .own 0), (4, .fn 186 [.ref 1 0, .ref 2 0, .ref 3 0])], [aX 0 3 data2, bX 1 [dV c1], bX 2 [dV c2], bX 3 [dV c3]], 48⟩) (fun data2 hm => ?_) ?_))
  ·refine Ok_block (lp G hm (fun (mid, data1) => ⟨[(0, .own 0), (4, .fn 186 [.ref 1 0, .ref 2 0, .ref 3 0]), (10, dV j1), (13, dV mid)], [aX 0 3 data1, bX 1 [dV c1], bX 2 [dV c2], bX 3 [dV c3]], 48⟩) ?_)
   rintro ⟨mid, data1⟩ r0 hb1 hm
   rw [slices_symMergeCmpFunc_int_w__i_SplitRevenue_1_L2] at hm
   refine Ok_seq (rg G (cd hm (fun hm => ?_) (fun hm => ?_)))
   ·refine X_skip (thN (Ok_seq (Ok_block ?_)))
    obtain ⟨e8, h12, hm⟩ := obind hm
    obtain ⟨e9, h13, hm⟩ := obind hm
    obtain ⟨e10, h14, hm⟩ := obind hm
    obtain ⟨e11, h15, hm⟩ := obind hm
    refine de G [(15, [0]), (17, [0])] (hD 8 h12 (hE 9 h12 (hD 12 h13 (hE 13 h13 (hD 14 h14 (hS 15 h14 e8 (hD 16 h15 (hS 17 h15 e9 h0)))))))) ?_
    exact ibN (thN (rh G (wL G hm)))
   ·exact Ok_exit (thE (thE (ibE (wD G hm hb1))))
  rintro data2 hm s hw
  refine thN (Ok_weak hw ?_)
  cases hm
  exact rt [] []
 ·refine X_skip (thN (Ok_seq (rg G (cd hm (fun hm => ?_) (fun hm => ?_)))))
  ·refine rg G (rg G (jn hm (fun n1 => ⟨[(0, .own 0), (2, dV m), (4, .fn 186 [.ref 1 0, .ref 2 0, .ref 3 0]), (14, dV n1)], [aX 0 3 data, bX 1 [dV c1], bX 2 [dV c2], bX 3 [dV c3]], 48⟩) (fun n1 hm => ?_) ?_))
   ·refine Ok_block (lp G hm (fun (n, start) => ⟨[(0, .own 0), (2, dV m), (4, .fn 186 [.ref 1 0, .ref 2 0, .ref 3 0]), (14, dV n), (15, dV start)], [aX 0 3 data, bX 1 [dV c1], bX 2 [dV c2], bX 3 [dV c3]], 48⟩) ?_)
    rintro ⟨n, start⟩ r0 hb2 hm
    rw [slices_symMergeCmpFunc_int_w__i_SplitRevenue_1_L3] at hm
    refine Ok_seq (rg G (cd hm (fun hm => ?_) (fun hm => ?_)))
    ·refine X_skip (thN (Ok_block ?_))
     obtain ⟨u1, h16, hm⟩ := obind hm
     refine rs G (hK h16 h0) ?_
     obtain ⟨e14, h20, hm⟩ := obind hm
     obtain ⟨e15, h21, hm⟩ := obind hm
     obtain ⟨r3, h22, hm⟩ := obind hm
     refine ds G [(9, [1, 2, 3])] (hD 3 h20 (hE 4 h20 (hD 7 h21 (hE 8 h21 (hC 9 (i_SplitRevenue_1_c h22) h0))))) ?_
     refine cd hm (fun hm => ?_) (fun hm => ?_)
     ·exact rh G (ibN (wL G hm))
     ·exact rh G (ibN (wL G hm))
    ·exact Ok_exit (thE (thE (ibE (wD G hm hb2))))
   rintro n1 hm
   refine Ok_seq (rg G (tl hm (fun data4 => ⟨[(0, .own 0), (4, .fn 186 [.ref 1 0, .ref 2 0, .ref 3 0])], [aX 0 3 data4, bX 1 [dV c1], bX 2 [dV c2], bX 3 [dV c3]], 48⟩) (fun data4 hm => ?_) ?_))
   ·refine Ok_block (lp G hm (fun (p, data3) => ⟨[(0, .own 0), (4, .fn 186 [.ref 1 0, .ref 2 0, .ref 3 0]), (14, dV n1), (17, dV p)], [aX 0 3 data3, bX 1 [dV c1], bX 2 [dV c2], bX 3 [dV c3]], 48⟩) ?_)
    rintro ⟨p, data3⟩ r0 hb3 hm
    rw [slices_symMergeCmpFunc_int_w__i_SplitRevenue_1_L4] at hm
    refine Ok_seq (rg G (cd hm (fun hm => ?_) (fun hm => ?_)))
    ·refine X_skip (thN (Ok_seq (Ok_block ?_)))
     obtain ⟨e20, h27, hm⟩ := obind hm
     obtain ⟨e21, h28, hm⟩ := obind hm
     obtain ⟨e22, h29, hm⟩ := obind hm
     obtain ⟨e23, h30, hm⟩ := obind hm
     refine de G [(15, [0]), (17, [0])] (hD 8 h27 (hE 9 h27 (hD 12 h28 (hE 13 h28 (hD 14 h29 (hS 15 h29 e20 (hD 16 h30 (hS 17 h30 e21 h0)))))))) ?_
     exact ibN (thN (rh G (wL G hm)))
    ·exact Ok_exit (thE (thE (ibE (wD G hm hb3))))
   rintro data4 hm s1 hw1
   refine thN (Ok_weak hw1 ?_)
   cases hm
   exact rt [] []
  ·refine X_skip (thN ?_)
   obtain ⟨u2, h31, hm⟩ := obind hm
   refine rs G (hK h31 h0) ?_
   refine rg G (rg G (jn hm (fun (v, v1) => ⟨[(0, .own 0), (1, dV a), (2, dV m), (3, dV b), (4, .fn 186 [.ref 1 0, .ref 2 0, .ref 3 0]), (18, dV (w64 (((IntKind.u64.wrap ((w64 (a + b)))).fdiv (2 ^ (min (1 : Int).toNat (IntKind.u64).bits)))))), (19, dV (w64 ((w64 (((IntKind.u64.wrap ((w64 (a + b)))).fdiv (2 ^ (min (1 : Int).toNat (IntKind.u64).bits))))) + m))), (20, dV v), (21, dV v1)], [aX 0 3 data, bX 1 [dV c1], bX 2 [dV c2], bX 3 [dV c3]], 48⟩) (fun vv hm => ?_) ?_))
   ·refine rg G (cd hm (fun hm => ?_) (fun hm => ?_))
    ·exact rg G (rh G (wJ G hm))
    ·exact rg G (rh G (wJ G hm))
   rintro ⟨v, v1⟩ hm
   refine rg G (jn hm (fun v4 => ⟨[(0, .own 0), (1, dV a), (2, dV m), (3, dV b), (4, .fn 186 [.ref 1 0, .ref 2 0, .ref 3 0]), (18, dV (w64 (((IntKind.u64.wrap ((w64 (a + b)))).fdiv (2 ^ (min (1 : Int).toNat (IntKind.u64).bits)))))), (19, dV (w64 ((w64 (((IntKind.u64.wrap ((w64 (a + b)))).fdiv (2 ^ (min (1 : Int).toNat (IntKind.u64).bits))))) + m))), (20, dV v4)], [aX 0 3 data, bX 1 [dV c1], bX 2 [dV c2], bX 3 [dV c3]], 48⟩) (fun v4 hm => ?_) ?_)
   ·refine Ok_block (lp G hm (fun (v2, v3) => ⟨[(0, .own 0), (1, dV a), (2, dV m), (3, dV b), (4, .fn 186 [.ref 1 0, .ref 2 0, .ref 3 0]), (18, dV (w64 (((IntKind.u64.wrap ((w64 (a + b)))).fdiv (2 ^ (min (1 : Int).toNat (IntKind.u64).bits)))))), (19, dV (w64 ((w64 (((IntKind.u64.wrap ((w64 (a + b)))).fdiv (2 ^ (min (1 : Int).toNat (IntKind.u64).bits))))) + m))), (20, dV v2), (21, dV v3), (22, dV (w64 ((w64 ((w64 (((IntKind.u64.wrap ((w64 (a + b)))).fdiv (2 ^ (min (1 : Int).toNat (IntKind.u64).bits))))) + m)) - 1)))], [aX 0 3 data, bX 1 [dV c1], bX 2 [dV c2], bX 3 [dV c3]], 48⟩) ?_)
    rintro ⟨v2, v3⟩ r0 hb4 hm
    rw [slices_symMergeCmpFunc_int_w__i_SplitRevenue_1_L5] at hm
    refine Ok_seq (rg G (cd hm (fun hm => ?_) (fun hm => ?_)))
    ·refine X_skip (thN (Ok_block ?_))
     obtain ⟨u3, h32, hm⟩ := obind hm
     refine rs G (hK h32 h0) ?_
     obtain ⟨e26, h36, hm⟩ := obind hm
     obtain ⟨e27, h37, hm⟩ := obind hm
     obtain ⟨r5, h38, hm⟩ := obind hm
     refine ds G [(11, [1, 2, 3])] (hD 5 h36 (hE 6 h36 (hD 9 h37 (hE 10 h37 (hC 11 (i_SplitRevenue_1_c h38) h0))))) ?_
     refine cd hm (fun hm => ?_) (fun hm => ?_)
     ·exact rh G (ibN (wL G hm))
     ·exact rh G (ibN (wL G hm))
    ·exact Ok_exit (thE (thE (ibE (wD G hm hb4))))
   rintro v4 hm
   refine rg G (jn hm (fun data5 => ⟨[(0, .own 0), (1, dV a), (3, dV b), (4, .fn 186 [.ref 1 0, .ref 2 0, .ref 3 0]), (18, dV (w64 (((IntKind.u64.wrap ((w64 (a + b)))).fdiv (2 ^ (min (1 : Int).toNat (IntKind.u64).bits)))))), (20, dV v4), (24, dV (w64 ((w64 ((w64 (((IntKind.u64.wrap ((w64 (a + b)))).fdiv (2 ^ (min (1 : Int).toNat (IntKind.u64).bits))))) + m)) - v4)))], [aX 0 3 data5, bX 1 [dV c1], bX 2 [dV c2], bX 3 [dV c3]], 48⟩) (fun data5 hm => ?_) ?_)
   ·refine jn hm (fun v5 => ⟨[(0, .own 0), (1, dV a), (2, dV m), (3, dV b), (4, .fn 186 [.ref 1 0, .ref 2 0, .ref 3 0]), (18, dV (w64 (((IntKind.u64.wrap ((w64 (a + b)))).fdiv (2 ^ (min (1 : Int).toNat (IntKind.u64).bits)))))), (20, dV v4), (24, dV (w64 ((w64 ((w64 (((IntKind.u64.wrap ((w64 (a + b)))).fdiv (2 ^ (min (1 : Int).toNat (IntKind.u64).bits))))) + m)) - v4))), (185, dV v5)], [aX 0 3 data, bX 1 [dV c1], bX 2 [dV c2], bX 3 [dV c3]], 48⟩) (fun v5 hm => ?_) ?_
    ·rcases bf hm with ⟨hb5, hm⟩ | ⟨hb5, hm⟩
     ·refine re G (hO 3 (.b true) (hP hb5 h0)) ?_
      exact wJ G hm
     ·refine re G (hO 3 (.b false) (hP hb5 h0)) ?_
      exact wJ G hm
    rintro v5 hm
    refine cd hm (fun hm => ?_) (fun hm => ?_)
    ·obtain ⟨r6, h39, hm⟩ := obind hm
     refine re G (hC 5 (slices_rotateCmpFunc_int_w__i_SplitRevenue_1_c h39) h0) ?_
     exact wJ G hm
    ·exact X_skip (wJ G hm)
   rintro data5 hm
   refine jn hm (fun data6 => ⟨[(0, .own 0), (3, dV b), (4, .fn 186 [.ref 1 0, .ref 2 0, .ref 3 0]), (18, dV (w64 (((IntKind.u64.wrap ((w64 (a + b)))).fdiv (2 ^ (min (1 : Int).toNat (IntKind.u64).bits)))))), (24, dV (w64 ((w64 ((w64 (((IntKind.u64.wrap ((w64 (a + b)))).fdiv (2 ^ (min (1 : Int).toNat (IntKind.u64).bits))))) + m)) - v4)))], [aX 0 3 data6, bX 1 [dV c1], bX 2 [dV c2], bX 3 [dV c3]], 48⟩) (fun data6 hm => ?_) ?_
   ·refine jn hm (fun v6 => ⟨[(0, .own 0), (1, dV a), (3, dV b), (4, .fn 186 [.ref 1 0, .ref 2 0, .ref 3 0]), (18, dV (w64 (((IntKind.u64.wrap ((w64 (a + b)))).fdiv (2 ^ (min (1 : Int).toNat (IntKind.u64).bits)))))), (20, dV v4), (24, dV (w64 ((w64 ((w64 (((IntKind.u64.wrap ((w64 (a + b)))).fdiv (2 ^ (min (1 : Int).toNat (IntKind.u64).bits))))) + m)) - v4))), (199, dV v6)], [aX 0 3 data5, bX 1 [dV c1], bX 2 [dV c2], bX 3 [dV c3]], 48⟩) (fun v6 hm => ?_) ?_
    ·rcases bf hm with ⟨hb6, hm⟩ | ⟨hb6, hm⟩
     ·refine re G (hO 3 (.b true) (hP hb6 h0)) ?_
      exact wJ G hm
     ·refine re G (hO 3 (.b false) (hP hb6 h0)) ?_
      exact wJ G hm
    rintro v6 hm
    refine cd hm (fun hm => ?_) (fun hm => ?_)
    ·obtain ⟨r7, h40, hm⟩ := obind hm
     refine re G (hC 5 (slices_symMergeCmpFunc_int_w__i_SplitRevenue_1_cR h40) h0) ?_
     exact wJ G hm
    ·exact X_skip (wJ G hm)
   rintro data6 hm
   refine jn hm (fun v7 => ⟨[(0, .own 0), (3, dV b), (4, .fn 186 [.ref 1 0, .ref 2 0, .ref 3 0]), (18, dV (w64 (((IntKind.u64.wrap ((w64 (a + b)))).fdiv (2 ^ (min (1 : Int).toNat (IntKind.u64).bits)))))), (24, dV (w64 ((w64 ((w64 (((IntKind.u64.wrap ((w64 (a + b)))).fdiv (2 ^ (min (1 : Int).toNat (IntKind.u64).bits))))) + m)) - v4))), (213, dV v7)], [aX 0 3 data6, bX 1 [dV c1], bX 2 [dV c2], bX 3 [dV c3]], 48⟩) (fun v7 hm => ?_) ?_
   ·rcases bf hm with ⟨hb7, hm⟩ | ⟨hb7, hm⟩
    ·refine re G (hO 3 (.b true) (hP hb7 h0)) ?_
     exact wJ G hm
    ·refine re G (hO 3 (.b false) (hP hb7 h0)) ?_
     exact wJ G hm
   rintro v7 hm
   refine cd hm (fun hm => ?_) (fun hm => ?_)
   ·obtain ⟨r8, h41, hm⟩ := obind hm
    refine re G (hC 5 (slices_symMergeCmpFunc_int_w__i_SplitRevenue_1_cR h41) h0) ?_
    cases hm
    exact fN [] []
   ·refine X_skip ?_
    cases hm
    exact fN [] []
theorem slices_symMergeCmpFunc_int_w__i_SplitRevenue_1_okn : ∀ k, FnOK Try.prog 319 (slices_symMergeCmpFunc_int_w__i_SplitRevenue_1_MR (slices_symMergeCmpFunc_int_w__i_SplitRevenue_1_k k)).S
 | 0 => ⟨fun args w => Try.call319 args w, fun vs w F ds obs κ hp => by obtain ⟨x, y, _, _, h⟩ := hp; cases h⟩
 | k + 1 => slices_symMergeCmpFunc_int_w__i_SplitRevenue_1_okF (slices_symMergeCmpFunc_int_w__i_SplitRevenue_1_okn k)
theorem slices_symMergeCmpFunc_int_w__i_SplitRevenue_1_ok : FnOK Try.prog 319 slices_symMergeCmpFunc_int_w__i_SplitRevenue_1_M.S := slices_symMergeCmpFunc_int_w__i_SplitRevenue_1_okn 4294967296
noncomputable def slices_stableCmpFunc_int_w__i_SplitRevenue_1_M : MS ((List Int) × Int × Int × (List Int) × Int) ((List Int)) := ⟨⟨[.sl, .rd, .fn 186 [.bx, .bx, .bx]], fun x => [.sc undef, Enc.e x.2.1, .agg [.sc undef, .sc undef, .sc undef]], fun x => [arO 3 x.1, bxO x.2.2.1, bxO x.2.2.2.1, bxO x.2.2.2.2], 4, 4, fun _ => rfl, fun _ => rfl, rfl, (by
  rintro ⟨a0, a1, a2, a3, a4⟩ ⟨b0, b1, b2, b3, b4⟩ h hO
  have q0 : a0 = b0 := Enc.inj _ _ (congrArg (fun l => D.sl 1 (obL l 0)) hO)
  have q1 : a1 = b1 := qI 1 h
  have q2 : a2 = b2 := Enc.inj _ _ (congrArg (fun l => (obD l 1).getD 0 (.sc undef)) hO)
  have q3 : a3 = b3 := Enc.inj _ _ (congrArg (fun l => (obD l 2).getD 0 (.sc undef)) hO)
  have q4 : a4 = b4 := Enc.inj _ _ (congrArg (fun l => (obD l 3).getD 0 (.sc undef)) hO)
  subst q0; subst q1; subst q2; subst q3; subst q4; rfl)⟩, fun x => slices_stableCmpFunc_int_w__i_SplitRevenue_1 x.1 x.2.1 x.2.2.1 x.2.2.2.1 x.2.2.2.2, fun _ => .tup [], fun _ => [], fun x y => [arO 3 y, bxO x.2.2.1, bxO x.2.2.2.1, bxO x.2.2.2.2]⟩
theorem slices_stableCmpFunc_int_w__i_SplitRevenue_1_c {data n c1 c2 c3 y} (hm : slices_stableCmpFunc_int_w__i_SplitRevenue_1 data n c1 c2 c3 = some y) : slices_stableCmpFunc_int_w__i_SplitRevenue_1_M.C (data, n, c1, c2, c3) y := slices_stableCmpFunc_int_w__i_SplitRevenue_1_M.c (data, n, c1, c2, c3) hm
theorem slices_stableCmpFunc_int_w__i_SplitRevenue_1_ok : FnOK Try.prog 269 slices_stableCmpFunc_int_w__i_SplitRevenue_1_M.S := by
 refine fm tt slices_stableCmpFunc_int_w__i_SplitRevenue_1_M [fo slices_insertionSortCmpFunc_int_w__i_SplitRevenue_1_ok, fo slices_symMergeCmpFunc_int_w__i_SplitRevenue_1_ok] Try.call269 Try.func269 rfl Try.results269 Try.ntmps269 ?_
 rintro ⟨data, n, c1, c2, c3⟩ y cx G hm
 have hm : slices_stableCmpFunc_int_w__i_SplitRevenue_1 data n c1 c2 c3 = some y := hm
 unfold slices_stableCmpFunc_int_w__i_SplitRevenue_1 at hm
 refine rg G (rg G (jn hm (fun (v2, data2) => ⟨[(0, .own 0), (1, dV n), (2, .fn 186 [.ref 1 0, .ref 2 0, .ref 3 0]), (6, kV .i64 20), (7, dV v2)], [aX 0 3 data2, bX 1 [dV c1], bX 2 [dV c2], bX 3 [dV c3]], 48⟩) (fun vv1 hm => ?_) ?_))
 ·refine Ok_block (lp G hm (fun (v, v1, data1) => ⟨[(0, .own 0), (1, dV n), (2, .fn 186 [.ref 1 0, .ref 2 0, .ref 3 0]), (6, kV .i64 20), (7, dV v), (8, dV v1)], [aX 0 3 data1, bX 1 [dV c1], bX 2 [dV c2], bX 3 [dV c3]], 48⟩) ?_)
  rintro ⟨v, v1, data1⟩ r0 hb hm
  rw [slices_stableCmpFunc_int_w__i_SplitRevenue_1_L1] at hm
  refine Ok_seq (rg G (cd hm (fun hm => ?_) (fun hm => ?_)))
  ·refine X_skip (thN (Ok_block ?_))
   obtain ⟨r, h, hm⟩ := obind hm
   refine rs G (hC 4 (slices_insertionSortCmpFunc_int_w__i_SplitRevenue_1_c h) h0) ?_
   exact rg G (rh G (ibN (wL G hm)))
  ·exact Ok_exit (thE (thE (ibE (wD G hm hb))))
 rintro ⟨v2, data2⟩ hm
 obtain ⟨r1, h1, hm⟩ := obind hm
 refine rs G (hC 4 (slices_insertionSortCmpFunc_int_w__i_SplitRevenue_1_c h1) h0) ?_
 refine Ok_block (lp G hm (fun (m, data3) => ⟨[(0, .own 0), (1, dV n), (2, .fn 186 [.ref 1 0, .ref 2 0, .ref 3 0]), (6, dV m)], [aX 0 3 data3, bX 1 [dV c1], bX 2 [dV c2], bX 3 [dV c3]], 48⟩) ?_)
 rintro ⟨m, data3⟩ r0 hb1 hm
 rw [slices_stableCmpFunc_int_w__i_SplitRevenue_1_L3] at hm
 refine Ok_seq (rg G (cd hm (fun hm => ?_) (fun hm => ?_)))
 ·refine X_skip (thN (Ok_block (rg G (jn hm (fun (v5, data5) => ⟨[(0, .own 0), (1, dV n), (2, .fn 186 [.ref 1 0, .ref 2 0, .ref 3 0]), (6, dV m), (7, dV v5)], [aX 0 3 data5, bX 1 [dV c1], bX 2 [dV c2], bX 3 [dV c3]], 48⟩) (fun vv hm => ?_) ?_))))
  ·refine Ok_block (lp G hm (fun (v3, v4, data4) => ⟨[(0, .own 0), (1, dV n), (2, .fn 186 [.ref 1 0, .ref 2 0, .ref 3 0]), (6, dV m), (7, dV v3), (8, dV v4)], [aX 0 3 data4, bX 1 [dV c1], bX 2 [dV c2], bX 3 [dV c3]], 48⟩) ?_)
   rintro ⟨v3, v4, data4⟩ r0 hb2 hm
   rw [slices_stableCmpFunc_int_w__i_SplitRevenue_1_L2] at hm
   refine Ok_seq (rg G (cd hm (fun hm => ?_) (fun hm => ?_)))
   ·refine X_skip (thN (Ok_block ?_))
    obtain ⟨r2, h2, hm⟩ := obind hm
    refine rs G (hC 7 (slices_symMergeCmpFunc_int_w__i_SplitRevenue_1_c h2) h0) ?_
    exact rg G (rh G (ibN (wL G hm)))
   ·exact Ok_exit (thE (thE (ibE (wD G hm hb2))))
  rintro ⟨v5, data5⟩ hm
  refine jn hm (fun data6 => ⟨[(0, .own 0), (1, dV n), (2, .fn 186 [.ref 1 0, .ref 2 0, .ref 3 0]), (6, dV m)], [aX 0 3 data6, bX 1 [dV c1], bX 2 [dV c2], bX 3 [dV c3]], 48⟩) (fun data6 hm => ?_) ?_
  ·refine rg G (rg G (cd hm (fun hm => ?_) (fun hm => ?_)))
   ·obtain ⟨r3, h3, hm⟩ := obind hm
    refine re G (hC 5 (slices_symMergeCmpFunc_int_w__i_SplitRevenue_1_c h3) h0) ?_
    exact wJ G hm
   ·exact X_skip (wJ G hm)
  rintro data6 hm
  exact rh G (ibN (wL G hm))
 ·have hm := eD hm hb1
  refine Ok_exit (thE (thE (ibE ?_)))
  cases hm
  exact fN [] []
noncomputable def slices_SortStableFunc_int_w__i_SplitRevenue_1_M : MS ((List Int) × Int × (List Int) × Int) ((List Int)) := ⟨⟨[.sl, .fn 186 [.bx, .bx, .bx]], fun x => [.sc undef, .agg [.sc undef, .sc undef, .sc undef]], fun x => [arO 3 x.1, bxO x.2.1, bxO x.2.2.1, bxO x.2.2.2], 4, 4, fun _ => rfl, fun _ => rfl, rfl, (by
  rintro ⟨a0, a1, a2, a3⟩ ⟨b0, b1, b2, b3⟩ h hO
  have q0 : a0 = b0 := Enc.inj _ _ (congrArg (fun l => D.sl 1 (obL l 0)) hO)
  have q1 : a1 = b1 := Enc.inj _ _ (congrArg (fun l => (obD l 1).getD 0 (.sc undef)) hO)
  have q2 : a2 = b2 := Enc.inj _ _ (congrArg (fun l => (obD l 2).getD 0 (.sc undef)) hO)
  have q3 : a3 = b3 := Enc.inj _ _ (congrArg (fun l => (obD l 3).getD 0 (.sc undef)) hO)
  subst q0; subst q1; subst q2; subst q3; rfl)⟩, fun x => slices_SortStableFunc_int_w__i_SplitRevenue_1 x.1 x.2.1 x.2.2.1 x.2.2.2, fun _ => .tup [], fun _ => [], fun x y => [arO 3 y, bxO x.2.1, bxO x.2.2.1, bxO x.2.2.2]⟩
theorem slices_SortStableFunc_int_w__i_SplitRevenue_1_c {x c1 c2 c3 y} (hm : slices_SortStableFunc_int_w__i_SplitRevenue_1 x c1 c2 c3 = some y) : slices_SortStableFunc_int_w__i_SplitRevenue_1_M.C (x, c1, c2, c3) y := slices_SortStableFunc_int_w__i_SplitRevenue_1_M.c (x, c1, c2, c3) hm
theorem slices_SortStableFunc_int_w__i_SplitRevenue_1_ok : FnOK Try.prog 185 slices_SortStableFunc_int_w__i_SplitRevenue_1_M.S := by
 refine fm tt slices_SortStableFunc_int_w__i_SplitRevenue_1_M [fo slices_stableCmpFunc_int_w__i_SplitRevenue_1_ok] Try.call185 Try.func185 rfl Try.results185 Try.ntmps185 ?_
 rintro ⟨x, c1, c2, c3⟩ y cx G hm
 have hm : slices_SortStableFunc_int_w__i_SplitRevenue_1 x c1 c2 c3 = some y := hm
 unfold slices_SortStableFunc_int_w__i_SplitRevenue_1 at hm
 obtain ⟨r, h, hm⟩ := obind hm
 refine re G (hN 2 x (hC 4 (slices_stableCmpFunc_int_w__i_SplitRevenue_1_c h) h0)) ?_
 cases hm
 exact fN [] []
noncomputable def i_SplitRevenue_M : MS (Int × (List Int)) ((List Int) × Bool) := ⟨.x .r .r, fun x => i_SplitRevenue x.1 x.2, fun y => .tup [dV y.1, dV y.2], fun _ => [], fun _ _ => []⟩
theorem i_SplitRevenue_c {amount minutes y} (hm : i_SplitRevenue amount minutes = some y) : i_SplitRevenue_M.C (amount, minutes) y := i_SplitRevenue_M.c (amount, minutes) hm
theorem i_SplitRevenue_ok : FnOK Try.prog 67 i_SplitRevenue_M.S := by
 refine fm tt i_SplitRevenue_M [fo i_within_ok, fo i_total_ok, fo slices_SortStableFunc_int_w__i_SplitRevenue_1_ok] Try.call67 Try.func67 rfl Try.results67 Try.ntmps67 ?_
 rintro ⟨amount, minutes⟩ y cx G hm
 have hm : i_SplitRevenue amount minutes = some y := hm
 unfold i_SplitRevenue at hm
 refine rg G (Ok_seq ?_)
 obtain ⟨r, h, hm⟩ := obind hm
 refine jn hm (fun v => ⟨[(2, .ref 16 0), (3, .ref 32 0), (23, dV v)], [bX 16 [dV amount], bX 32 [dV minutes]], 64⟩) (fun v hm => ?_) ?_
 ·rcases bf hm with ⟨hb, hm⟩ | ⟨hb, hm⟩
  ·refine re G (hC 1 (i_within_c h) (hO 3 (.b true) (hP hb h0))) ?_
   exact wJ G hm
  ·obtain ⟨r1, h1, hm⟩ := obind hm
   refine re G (hC 1 (i_within_c h) (hO 3 (.b false) (hP hb (hN 5 minutes (hC 6 (i_within_c h1) h0))))) ?_
   exact wJ G hm
 rintro v hm
 refine cd hm (fun hm => ?_) (fun hm => ?_)
 ·refine rg G ?_
  cases hm
  exact rt [] [[.z 1]]
 ·refine X_skip (thN (Ok_seq (rs G (hN 1 minutes h0) ?_)))
  refine tF hm (fun _ => ⟨[(2, .ref 16 0), (3, .ref 32 0)], [bX 16 [dV amount], bX 32 [dV minutes]], 64⟩) (fun v4 hr hm => ?_) ?_
  ·refine Ok_block (lp G hm (fun v1 => ⟨[(2, .ref 16 0), (3, .ref 32 0), (24, dV minutes), (25, dV (minutes.length : Int)), (26, dV v1)], [bX 16 [dV amount], bX 32 [dV minutes]], 64⟩) ?_)
   rintro v1 r0 hb1 hm
   rw [i_SplitRevenue_L1] at hm
   refine rg G (Ok_seq (cd hm (fun hm => ?_) (fun hm => ?_)))
   ·refine X_skip (thN (Ok_seq (Ok_block ?_)))
    obtain ⟨e, h2, hm⟩ := obind hm
    refine rs G (hD 0 h2 h0) ?_
    obtain ⟨r2, h3, hm⟩ := obind hm
    refine rs G (hC 1 (i_within_c h3) h0) ?_
    refine cd hm (fun hm => ?_) (fun hm => ?_)
    ·refine rg G ?_
     have hm := eL hm hb1 hr
     cases hm
     exact rt [] [[.z 1]]
    ·exact X_skip (ibN (thN (rh G (wL G hm))))
   ·exact Ok_exit (thE (thE (ibE (wE G hm hb1))))
  rintro ⟨⟩ hm s hw
  refine thN (Ok_weak hw ?_)
  obtain ⟨r4, h4, hm⟩ := obind hm
  refine rs G (hC 1 (i_total_c h4) h0) ?_
  refine Ok_seq (rg G (cd hm (fun hm => ?_) (fun hm => ?_)))
  ·refine rg G ?_
   cases hm
   exact rt [] [[.z 1]]
  ·refine X_skip (thN ?_)
   obtain ⟨u2, h7, hm⟩ := obind hm
   obtain ⟨u3, h8, hm⟩ := obind hm
   refine ds G [] (hN 1 minutes (hO 2 (.l (List.map Enc.e (List.replicate (minutes.length : Int).toNat (0 : Int)))) (hP (mk_p (b := 8) (chk_t h7) rfl) (hP (rep_m Enc.e (minutes.length : Int).toNat (0 : Int)) (hN 4 minutes (hO 5 (.l (List.map Enc.e (List.replicate (minutes.length : Int).toNat (0 : Int)))) (hP (mk_p (b := 8) (chk_t h8) rfl) (hP (rep_m Enc.e (minutes.length : Int).toNat (0 : Int)) h0)))))))) ?_
   refine Ok_seq (rs G (hN 1 minutes h0) ?_)
   refine tl hm (fun (i1, m1) => ⟨[(2, .ref 16 0), (3, .ref 32 0), (8, .ref 48 0), (9, .own 64), (10, .own 80)], [bX 16 [dV amount], bX 32 [dV minutes], bX 48 [dV r4], aX 64 3 i1, aX 80 3 m1], 112⟩) (fun vv hm => ?_) ?_
   ·refine Ok_block (lp G hm (fun (v2, i, m) => ⟨[(2, .ref 16 0), (3, .ref 32 0), (8, .ref 48 0), (9, .own 64), (10, .own 80), (44, dV minutes), (45, dV (minutes.length : Int)), (46, dV v2)], [bX 16 [dV amount], bX 32 [dV minutes], bX 48 [dV r4], aX 64 3 i, aX 80 3 m], 112⟩) ?_)
    rintro ⟨v2, i, m⟩ r0 hb2 hm
    rw [i_SplitRevenue_L2] at hm
    refine rg G (Ok_seq (cd hm (fun hm => ?_) (fun hm => ?_)))
    ·refine X_skip (thN (Ok_seq (Ok_block ?_)))
     obtain ⟨e2, h9, hm⟩ := obind hm
     refine rs G (hD 1 h9 h0) ?_
     obtain ⟨u4, h10, hm⟩ := obind hm
     obtain ⟨e3, h11, hm⟩ := obind hm
     obtain ⟨e4, h12, hm⟩ := obind hm
     refine re G (hK h10 (hD 10 h11 (hS 11 h11 (w64 ((w64 (amount * e2)).tdiv r4)) (hD 12 h12 (hS 13 h12 v2 h0))))) ?_
     exact ibN (thN (rh G (wL G hm)))
    ·exact Ok_exit (thE (thE (ibE (wD G hm hb2))))
   rintro ⟨i1, m1⟩ hm s1 hw1
   refine thN (Ok_weak hw1 ?_)
   obtain ⟨r5, h13, hm⟩ := obind hm
   refine rs G (hC 2 (slices_SortStableFunc_int_w__i_SplitRevenue_1_c h13) h0) ?_
   refine Ok_seq ?_
   obtain ⟨r7, h16, hm⟩ := obind hm
   obtain ⟨u6, h17, hm⟩ := obind hm
   refine ds G [(5, [80])] (hC 3 (i_total_c h16) (hU 5 h17 (hN 6 ((r5.take (w64 (amount - r7)).toNat).drop (0 : Int).toNat) h0))) ?_
   refine tl hm (fun i3 => ⟨[(9, .own 16)], [aX 16 3 i3], 48⟩) (fun i3 hm => ?_) ?_
   ·refine Ok_block (lp G hm (fun (v3, i2) => ⟨[(9, .own 16), (72, .own 32), (73, dV (((r5.take (w64 (amount - r7)).toNat).drop (0 : Int).toNat).length : Int)), (74, dV v3)], [aX 16 3 i2, aX 32 3 ((r5.take (w64 (amount - r7)).toNat).drop (0 : Int).toNat)], 64⟩) ?_)
    rintro ⟨v3, i2⟩ r0 hb3 hm
    rw [i_SplitRevenue_L3] at hm
    refine rg G (Ok_seq (cd hm (fun hm => ?_) (fun hm => ?_)))
    ·refine X_skip (thN (Ok_seq (Ok_block ?_)))
     obtain ⟨e5, h18, hm⟩ := obind hm
     refine rs G (hD 0 h18 (hE 1 h18 h0)) ?_
     obtain ⟨e6, h19, hm⟩ := obind hm
     obtain ⟨e7, h20, hm⟩ := obind hm
     refine re G (hD 2 h19 (hE 3 h19 (hD 5 h20 (hS 6 h20 (w64 (e6 + 1)) h0)))) ?_
     exact ibN (thN (rh G (wL G hm)))
    ·exact Ok_exit (thE (thE (ibE (wD G hm hb3))))
   rintro i3 hm s2 hw2
   refine thN (Ok_weak hw2 ?_)
   refine rg G ?_
   cases hm
   exact rt [] []
noncomputable def s_SplitRevenue_M : MS (Int × (List Int)) ((List Int) × Bool) := ⟨.x .r .r, fun x => s_SplitRevenue x.1 x.2, fun y => .tup [.own 0, dV y.2], fun y => [arO 3 y.1], fun _ _ => []⟩
theorem s_SplitRevenue_c {amount minutes y} (hm : s_SplitRevenue amount minutes = some y) : s_SplitRevenue_M.C (amount, minutes) y := s_SplitRevenue_M.c (amount, minutes) hm
theorem s_SplitRevenue_ok : FnOK Try.prog 68 s_SplitRevenue_M.S := by
 refine fm tt s_SplitRevenue_M [fo s_l1In_ok] Try.call68 Try.func68 rfl Try.results68 Try.ntmps68 ?_
 rintro ⟨amount, minutes⟩ y cx G hm
 have hm : s_SplitRevenue amount minutes = some y := hm
 unfold s_SplitRevenue at hm
 refine rg G (Ok_seq ?_)
 obtain ⟨r, h, hm⟩ := obind hm
 refine jn hm (fun v => ⟨[(0, dV amount), (1, dV minutes), (22, dV v)], [], 32⟩) (fun v hm => ?_) ?_
 ·rcases bf hm with ⟨hb, hm⟩ | ⟨hb, hm⟩
  ·refine re G (hC 1 (s_l1In_c h) (hO 3 (.b true) (hP hb h0))) ?_
   exact wJ G hm
  ·obtain ⟨r1, h1, hm⟩ := obind hm
   refine re G (hC 1 (s_l1In_c h) (hO 3 (.b false) (hP hb (hN 5 minutes (hC 6 (s_l1In_c h1) h0))))) ?_
   exact wJ G hm
 rintro v hm
 refine cd hm (fun hm => ?_) (fun hm => ?_)
 ·refine rg G ?_
  cases hm
  exact rt [32] []
 ·refine X_skip (thN (rg G (Ok_seq (rg G (tF hm (fun out1 => ⟨[(0, dV amount), (1, dV minutes), (6, dV out1)], [], 32⟩) (fun v5 hr hm => ?_) ?_)))))
  ·refine Ok_block (lp G hm (fun (out, rest) => ⟨[(0, dV amount), (1, dV minutes), (6, dV out), (7, dV rest)], [], 32⟩) ?_)
   rintro ⟨out, rest⟩ r0 hb1 hm
   rw [s_SplitRevenue_L1] at hm
   refine Ok_seq (rs G (hN 2 minutes h0) ?_)
   refine cd hm (fun hm => ?_) (fun hm => ?_)
   ·refine X_skip (thN (Ok_seq (Ok_block (Ok_seq ?_))))
    obtain ⟨e, h2, hm⟩ := obind hm
    obtain ⟨r2, h3, hm⟩ := obind hm
    refine rs G (hD 2 h2 (hC 4 (s_l1In_c h3) h0)) ?_
    refine cd hm (fun hm => ?_) (fun hm => ?_)
    ·refine rg G ?_
     have hm := eL hm hb1 hr
     cases hm
     exact rt [192] []
    ·refine X_skip (thN ?_)
     obtain ⟨e2, h4, hm⟩ := obind hm
     refine re G (hD 3 h4 h0) ?_
     exact ibN (thN (rh G (wL G hm)))
   ·exact Ok_exit (thE (thE (ibE (wE G hm hb1))))
  rintro out1 hm s hw
  refine thN (Ok_weak hw ?_)
  refine Ok_seq (rg G (cd hm (fun hm => ?_) (fun hm => ?_)))
  ·refine rg G ?_
   cases hm
   exact rt [64] []
  ·refine X_skip (thN (rg G (rg G (Ok_seq (rg G (tl hm (fun (best1, left1, i2) => ⟨[(8, .own 16), (9, .own 32), (10, dV best1)], [aX 16 3 left1, aX 32 3 i2], 64⟩) (fun vv hm => ?_) ?_))))))
   ·refine Ok_block (lp G hm (fun (best, i, left, i1) => ⟨[(0, dV amount), (1, dV minutes), (6, dV out1), (8, .own 16), (9, .own 32), (10, dV best), (11, dV i)], [aX 16 3 left, aX 32 3 i1], 64⟩) ?_)
    rintro ⟨best, i, left, i1⟩ r0 hb2 hm
    rw [s_SplitRevenue_L2] at hm
    refine Ok_seq (rs G (hN 2 minutes h0) ?_)
    refine cd hm (fun hm => ?_) (fun hm => ?_)
    ·refine X_skip (thN (Ok_seq (Ok_block ?_)))
     obtain ⟨e3, h5, hm⟩ := obind hm
     obtain ⟨u, h6, hm⟩ := obind hm
     obtain ⟨u1, h7, hm⟩ := obind hm
     refine rs G (hD 4 h5 (hK h6 (hA 10 8 h7 h0))) ?_
     obtain ⟨e4, h8, hm⟩ := obind hm
     obtain ⟨u2, h9, hm⟩ := obind hm
     obtain ⟨u3, h10, hm⟩ := obind hm
     refine rs G (hD 4 h8 (hK h9 (hA 10 8 h10 h0))) ?_
     obtain ⟨e5, h11, hm⟩ := obind hm
     refine re G (hD 3 h11 (hE 4 h11 h0)) ?_
     exact ibN (thN (rh G (wL G hm)))
    ·exact Ok_exit (thE (thE (ibE (wD G hm hb2))))
   rintro ⟨best1, left1, i2⟩ hm s1 hw1
   refine thN (Ok_weak hw1 ?_)
   refine jn hm (fun left3 => ⟨[(8, .own 16)], [aX 16 3 left3], 48⟩) (fun left3 hm => ?_) ?_
   ·refine Ok_block (lp G hm (fun (best2, left2, i3) => ⟨[(8, .own 16), (9, .own 32), (10, dV best2)], [aX 16 3 left2, aX 32 3 i3], 64⟩) ?_)
    rintro ⟨best2, left2, i3⟩ r0 hb3 hm
    rw [s_SplitRevenue_L4] at hm
    refine Ok_seq (rg G (cd hm (fun hm => ?_) (fun hm => ?_)))
    ·refine X_skip (thN (Ok_seq (Ok_block (rg G (Ok_seq (rg G (tl hm (fun v4 => ⟨[(8, .own 16), (9, .own 32), (10, dV best2), (12, dV v4)], [aX 16 3 left2, aX 32 3 i3], 64⟩) (fun v4 hm => ?_) ?_)))))))
     ·refine Ok_block (lp G hm (fun (v1, v2) => ⟨[(8, .own 16), (9, .own 32), (10, dV best2), (12, dV v1), (13, dV v2)], [aX 16 3 left2, aX 32 3 i3], 64⟩) ?_)
      rintro ⟨v1, v2⟩ r0 hb4 hm
      rw [s_SplitRevenue_L3] at hm
      refine Ok_seq (rs G (hN 2 i3 h0) ?_)
      refine cd hm (fun hm => ?_) (fun hm => ?_)
      ·refine X_skip (thN (jn hm (fun v3 => ⟨[(8, .own 16), (9, .own 32), (10, dV best2), (12, dV v3), (13, dV v2)], [aX 16 3 left2, aX 32 3 i3], 64⟩) (fun v3 hm => ?_) ?_))
       ·refine Ok_block ?_
        obtain ⟨e8, h14, hm⟩ := obind hm
        obtain ⟨e9, h15, hm⟩ := obind hm
        refine ds G [] (hD 2 h14 (hE 3 h14 (hD 6 h15 (hE 7 h15 h0)))) ?_
        refine cd hm (fun hm => ?_) (fun hm => ?_)
        ·exact rh G (ibN (wJ G hm))
        ·exact X_skip (ibN (wJ G hm))
       rintro v3 hm
       exact rh G (wL G hm)
      ·exact Ok_exit (thE (thE (ibE (wD G hm hb4))))
     rintro v4 hm s2 hw2
     refine thN (Ok_weak hw2 ?_)
     obtain ⟨e10, h16, hm⟩ := obind hm
     obtain ⟨e11, h17, hm⟩ := obind hm
     refine rs G (hD 4 h16 (hE 5 h16 (hD 7 h17 (hS 8 h17 (w64 (e10 + 1)) h0)))) ?_
     obtain ⟨e12, h18, hm⟩ := obind hm
     refine re G (hD 2 h18 (hS 3 h18 (-1) h0)) ?_
     exact ibN (thN (rh G (wL G hm)))
    ·exact Ok_exit (thE (thE (ibE (wD G hm hb3))))
   rintro left3 hm
   refine rg G ?_
   cases hm
   exact rt [16] []
noncomputable def v_rInts_M : MS ((List Int) × (List Int)) Bool := ⟨.x .r .r, fun x => v_rInts x.1 x.2, fun y => dV y, fun _ => [], fun _ _ => []⟩
theorem v_rInts_c {a b y} (hm : v_rInts a b = some y) : v_rInts_M.C (a, b) y := v_rInts_M.c (a, b) hm
theorem v_rInts_ok : FnOK Try.prog 16 v_rInts_M.S := by
 refine fm tt v_rInts_M [] Try.call16 Try.func16 rfl Try.results16 Try.ntmps16 ?_
 rintro ⟨a, b⟩ y cx G hm
 have hm : v_rInts a b = some y := hm
 unfold v_rInts at hm
 refine rg G (Ok_seq (rs G (hN 1 a (hN 3 b h0)) ?_))
 refine cd hm (fun hm => ?_) (fun hm => ?_)
 ·refine rg G ?_
  cases hm
  exact rt [] []
 ·refine X_skip (thN (Ok_seq (rg G (tF hm (fun _ => ⟨[], [], 32⟩) (fun v1 hr hm => ?_) ?_))))
  ·refine Ok_block (lp G hm (fun v => ⟨[(0, dV a), (1, dV b), (5, dV v)], [], 32⟩) ?_)
   rintro v r0 hb hm
   rw [v_rInts_L1] at hm
   refine Ok_seq (rs G (hN 2 a h0) ?_)
   refine cd hm (fun hm => ?_) (fun hm => ?_)
   ·refine X_skip (thN (Ok_seq (Ok_block ?_)))
    obtain ⟨e2, h2, hm⟩ := obind hm
    obtain ⟨e3, h3, hm⟩ := obind hm
    refine ds G [] (hD 2 h2 (hD 6 h3 h0)) ?_
    refine cd hm (fun hm => ?_) (fun hm => ?_)
    ·refine rg G ?_
     have hm := eL hm hb hr
     cases hm
     exact rt [] []
    ·exact X_skip (ibN (thN (rh G (wL G hm))))
   ·exact Ok_exit (thE (thE (ibE (wE G hm hb))))
  rintro ⟨⟩ hm s hw
  refine thN (Ok_weak hw ?_)
  refine rg G ?_
  cases hm
  exact rt [] []
noncomputable def v_rSum_M : MS ((List Int)) Int := ⟨.r, v_rSum, fun y => dV y, fun _ => [], fun _ _ => []⟩
theorem v_rSum_c {list y} (hm : v_rSum list = some y) : v_rSum_M.C list y := v_rSum_M.c list hm
theorem v_rSum_ok : FnOK Try.prog 69 v_rSum_M.S := by
 refine fm tt v_rSum_M [] Try.call69 Try.func69 rfl Try.results69 Try.ntmps69 ?_
 rintro list y cx G hm
 have hm : v_rSum list = some y := hm
 unfold v_rSum at hm
 refine rg G (rg G (Ok_seq (rg G (tl hm (fun i1 => ⟨[(3, dV i1)], [], 32⟩) (fun i1 hm => ?_) ?_))))
 ·refine Ok_block (lp G hm (fun (i, v) => ⟨[(0, dV list), (3, dV i), (4, dV v)], [], 32⟩) ?_)
  rintro ⟨i, v⟩ r0 hb hm
  rw [v_rSum_L1] at hm
  refine Ok_seq (rs G (hN 2 list h0) ?_)
  refine cd hm (fun hm => ?_) (fun hm => ?_)
  ·refine X_skip (thN (Ok_seq (Ok_block ?_)))
   obtain ⟨e, h, hm⟩ := obind hm
   refine re G (hD 3 h h0) ?_
   exact ibN (thN (rh G (wL G hm)))
  ·exact Ok_exit (thE (thE (ibE (wD G hm hb))))
 rintro i1 hm s hw
 refine thN (Ok_weak hw ?_)
 refine rg G ?_
 cases hm
 exact rt [] []
noncomputable def v_FnFares_M : MS ((List UInt8)) Bool := ⟨.r, v_FnFares, fun y => dV y, fun _ => [], fun _ _ => []⟩
theorem v_FnFares_c {code y} (hm : v_FnFares code = some y) : v_FnFares_M.C code y := v_FnFares_M.c code hm
theorem v_FnFares_ok : FnOK Try.prog 7 v_FnFares_M.S := by
 refine fm tt v_FnFares_M [fo v_rBig_ok, fo s_DrawJourneyFare_ok, fo i_JourneyFare_ok, fo s_JourneyFare_ok, fo i_IsValidZones_ok, fo i_ZonesTouched_w_ok, fo v_rHas_ok, fo s_DrawSingleFare_ok, fo i_SingleFare_ok, fo s_SingleFare_ok, fo s_DrawSplitRevenue_ok, fo i_SplitRevenue_ok, fo s_SplitRevenue_ok, fo v_rInts_ok, fo v_rSum_ok] Try.call7 Try.func7 rfl Try.results7 Try.ntmps7 ?_
 rintro code y cx G hm
 have hm : v_FnFares code = some y := hm
 unfold v_FnFares at hm
 refine rg G (Ok_seq ?_)
 obtain ⟨r, h, hm⟩ := obind hm
 refine rs G (hC 1 (v_rBig_c h) h0) ?_
 refine cd hm (fun hm => ?_) (fun hm => ?_)
 ·refine rg G ?_
  cases hm
  exact rt [] []
 ·refine X_skip (thN ?_)
  obtain ⟨r1, h1, hm⟩ := obind hm
  refine rs G (hC 1 (s_DrawJourneyFare_c h1) h0) ?_
  obtain ⟨r2, h2, hm⟩ := obind hm
  refine rs G (hC 4 (i_JourneyFare_c h2) h0) ?_
  refine Ok_seq ?_
  obtain ⟨r3, h3, hm⟩ := obind hm
  refine rs G (hC 4 (s_JourneyFare_c h3) h0) ?_
  refine jn hm (fun v => ⟨[(0, dV code), (3, .ref 16 0), (4, .own 32), (5, .ref 48 0), (6, .own 64), (7, dV r2.1), (8, dV r2.2), (72, dV v)], [bX 16 [dV r1.1.Stops, dV r1.1.Lines], aX 32 3 r1.2.1, bX 48 [dV r1.2.2.1.Zones, dV r1.2.2.1.Day, dV r1.2.2.1.Week], aX 64 31 r1.2.2.2], 96⟩) (fun v hm => ?_) ?_
  ·rcases bf hm with ⟨hb, hm⟩ | ⟨hb, hm⟩
   ·refine re G (hO 3 (.b true) (hP hb h0)) ?_
    exact wJ G hm
   ·rcases bf hm with ⟨hb1, hm⟩ | ⟨hb1, hm⟩
    ·refine re G (hO 3 (.b false) (hP hb (hO 8 (.b true) (hP hb1 h0)))) ?_
     exact wJ G hm
    ·rcases bf hm with ⟨hb2, hm⟩ | ⟨hb2, hm⟩
     ·obtain ⟨r4, h4, hm⟩ := obind hm
      refine re G (hO 3 (.b false) (hP hb (hO 8 (.b false) (hP hb1 (hO 10 (.b true) (hP hb2 (hC 13 (i_IsValidZones_c h4) h0))))))) ?_
      exact wJ G hm
     ·refine re G (hO 3 (.b false) (hP hb (hO 8 (.b false) (hP hb1 (hO 10 (.b false) (hP hb2 h0)))))) ?_
      exact wJ G hm
  rintro v hm
  refine cd hm (fun hm => ?_) (fun hm => ?_)
  ·refine rg G ?_
   cases hm
   exact rt [] []
  ·refine X_skip (thN (Ok_seq (rg G (tF hm (fun _ => ⟨[(0, dV code)], [], 32⟩) (fun v6 hr hm => ?_) ?_))))
   ·refine Ok_block (lp G hm (fun one => ⟨[(0, dV code), (3, .ref 16 0), (4, .own 32), (5, .ref 48 0), (6, dV r1.2.2.2), (7, dV r2.1), (8, dV r2.2), (11, dV one)], [bX 16 [dV r1.1.Stops, dV r1.1.Lines], aX 32 3 r1.2.1, bX 48 [dV r1.2.2.1.Zones, dV r1.2.2.1.Day, dV r1.2.2.1.Week]], 80⟩) ?_)
    rintro one r0 hb3 hm
    rw [v_FnFares_L2] at hm
    refine Ok_seq (jn hm (fun v1 => ⟨[(0, dV code), (3, .ref 16 0), (4, .own 32), (5, .ref 48 0), (6, dV r1.2.2.2), (7, dV r2.1), (8, dV r2.2), (11, dV one), (79, dV v1)], [bX 16 [dV r1.1.Stops, dV r1.1.Lines], aX 32 3 r1.2.1, bX 48 [dV r1.2.2.1.Zones, dV r1.2.2.1.Day, dV r1.2.2.1.Week]], 80⟩) (fun v1 hm => ?_) ?_)
    ·rcases bf hm with ⟨hb4, hm⟩ | ⟨hb4, hm⟩
     ·refine re G (hN 2 r1.2.2.2 (hO 4 (.b true) (hP hb4 h0))) ?_
      exact wJ G hm
     ·refine re G (hN 2 r1.2.2.2 (hO 4 (.b false) (hP hb4 h0))) ?_
      exact wJ G hm
    rintro v1 hm
    refine cd hm (fun hm => ?_) (fun hm => ?_)
    ·refine X_skip (thN (Ok_seq (Ok_block ?_)))
     obtain ⟨u1, h7, hm⟩ := obind hm
     obtain ⟨r6, h8, hm⟩ := obind hm
     refine ds G [(7, [])] (hU 7 h7 (hC 8 (i_JourneyFare_c h8) h0)) ?_
     obtain ⟨e6, h16, hm⟩ := obind hm
     obtain ⟨e7, h17, hm⟩ := obind hm
     obtain ⟨e8, h18, hm⟩ := obind hm
     obtain ⟨e9, h19, hm⟩ := obind hm
     obtain ⟨e10, h20, hm⟩ := obind hm
     obtain ⟨e11, h21, hm⟩ := obind hm
     obtain ⟨r8, h22, hm⟩ := obind hm
     refine ds G [(20, [32])] (hD 4 h16 (hD 6 h17 (hD 10 h18 (hD 12 h19 (hD 16 h20 (hD 18 h21 (hC 20 (i_ZonesTouched_w_c h22) h0))))))) ?_
     refine Ok_seq (jn hm (fun v2 => ⟨[(0, dV code), (3, .ref 16 0), (4, .own 32), (5, .ref 48 0), (6, dV r1.2.2.2), (7, dV r2.1), (8, dV r2.2), (11, dV one), (14, dV r8.1), (128, dV v2)], [bX 16 [dV r1.1.Stops, dV r1.1.Lines], aX 32 3 r1.2.1, bX 48 [dV r1.2.2.1.Zones, dV r1.2.2.1.Day, dV r1.2.2.1.Week]], 80⟩) (fun v2 hm => ?_) ?_)
     ·rcases bf hm with ⟨hb5, hm⟩ | ⟨hb5, hm⟩
      ·refine re G (hO 2 (.b true) (hP hb5 h0)) ?_
       exact wJ G hm
      ·rcases bf hm with ⟨hb6, hm⟩ | ⟨hb6, hm⟩
       ·refine re G (hO 2 (.b false) (hP hb5 (hO 6 (.b true) (hP hb6 h0)))) ?_
        exact wJ G hm
       ·refine re G (hO 2 (.b false) (hP hb5 (hO 6 (.b false) (hP hb6 h0)))) ?_
        exact wJ G hm
     rintro v2 hm
     refine cd hm (fun hm => ?_) (fun hm => ?_)
     ·refine rg G ?_
      have hm := eL hm hb3 hr
      cases hm
      exact rt [] []
     ·refine X_skip (thN (rg G (tF hm (fun _ => ⟨[(0, dV code), (3, .ref 16 0), (4, .own 32), (5, .ref 48 0), (6, dV r1.2.2.2), (7, dV r2.1), (8, dV r2.2), (11, dV one)], [bX 16 [dV r1.1.Stops, dV r1.1.Lines], aX 32 3 r1.2.1, bX 48 [dV r1.2.2.1.Zones, dV r1.2.2.1.Day, dV r1.2.2.1.Week]], 80⟩) (fun v3 hr1 hm => ?_) ?_)))
      ·refine Ok_block (lp G hm (fun q => ⟨[(0, dV code), (3, .ref 16 0), (4, .own 32), (5, .ref 48 0), (6, dV r1.2.2.2), (7, dV r2.1), (8, dV r2.2), (11, dV one), (14, dV r8.1), (16, dV q)], [bX 16 [dV r1.1.Stops, dV r1.1.Lines], aX 32 3 r1.2.1, bX 48 [dV r1.2.2.1.Zones, dV r1.2.2.1.Day, dV r1.2.2.1.Week]], 80⟩) ?_)
       rintro q r0 hb7 hm
       rw [v_FnFares_L1] at hm
       refine Ok_seq (rs G (hN 2 r8.1 h0) ?_)
       refine cd hm (fun hm => ?_) (fun hm => ?_)
       ·refine X_skip (thN (Ok_seq (Ok_block ?_)))
        obtain ⟨e13, h23, hm⟩ := obind hm
        obtain ⟨r10, h24, hm⟩ := obind hm
        refine rs G (hD 3 h23 (hC 5 (v_rHas_c h24) h0)) ?_
        refine cd hm (fun hm => ?_) (fun hm => ?_)
        ·refine rg G ?_
         have hm := eL hm hb7 hr1
         have hm := eL hm hb3 hr
         cases hm
         exact rt [] []
        ·exact X_skip (ibN (thN (rh G (wL G hm))))
       ·exact Ok_exit (thE (thE (ibE (wE G hm hb7))))
      rintro ⟨⟩ hm s hw
      refine ibN (thN (Ok_weak hw ?_))
      exact rh G (wL G hm)
    ·exact Ok_exit (thE (thE (ibE (wE G hm hb3))))
   rintro ⟨⟩ hm s1 hw1
   refine thN (Ok_weak hw1 ?_)
   obtain ⟨r13, h25, hm⟩ := obind hm
   refine rs G (hC 1 (s_DrawSingleFare_c h25) h0) ?_
   obtain ⟨r14, h26, hm⟩ := obind hm
   refine rs G (hC 2 (i_SingleFare_c h26) h0) ?_
   refine Ok_seq ?_
   obtain ⟨r15, h27, hm⟩ := obind hm
   refine rs G (hC 2 (s_SingleFare_c h27) h0) ?_
   refine jn hm (fun v4 => ⟨[(0, dV code), (17, .ref 16 0), (18, dV r13.2), (19, dV r14.1), (20, dV r14.2), (166, dV v4)], [bX 16 [dV r13.1.Zones, dV r13.1.Day, dV r13.1.Week]], 48⟩) (fun v4 hm => ?_) ?_
   ·rcases bf hm with ⟨hb8, hm⟩ | ⟨hb8, hm⟩
    ·refine re G (hO 3 (.b true) (hP hb8 h0)) ?_
     exact wJ G hm
    ·refine re G (hO 3 (.b false) (hP hb8 h0)) ?_
     exact wJ G hm
   rintro v4 hm
   refine cd hm (fun hm => ?_) (fun hm => ?_)
   ·refine rg G ?_
    cases hm
    exact rt [] []
   ·refine X_skip (thN (Ok_seq ?_))
    obtain ⟨r16, h28, hm⟩ := obind hm
    refine rs G (hC 3 (i_SingleFare_c h28) h0) ?_
    refine jn hm (fun v5 => ⟨[(0, dV code), (182, dV v5)], [], 32⟩) (fun v5 hm => ?_) ?_
    ·rcases bf hm with ⟨hb9, hm⟩ | ⟨hb9, hm⟩
     ·rcases bf hm with ⟨hb10, hm⟩ | ⟨hb10, hm⟩
      ·refine re G (hO 1 (.b true) (hP hb9 (hO 4 (.b true) (hP hb10 h0)))) ?_
       exact wJ G hm
      ·refine re G (hO 1 (.b true) (hP hb9 (hO 4 (.b false) (hP hb10 h0)))) ?_
       exact wJ G hm
     ·refine re G (hO 1 (.b false) (hP hb9 h0)) ?_
      exact wJ G hm
    rintro v5 hm
    refine cd hm (fun hm => ?_) (fun hm => ?_)
    ·refine rg G ?_
     cases hm
     exact rt [] []
    ·refine X_skip (thN ?_)
     obtain ⟨r17, h29, hm⟩ := obind hm
     refine rs G (hC 1 (s_DrawSplitRevenue_c h29) h0) ?_
     obtain ⟨r18, h30, hm⟩ := obind hm
     refine rs G (hO 2 (.fz [48] [] []) (hC 2 (i_SplitRevenue_c h30) h0)) ?_
     obtain ⟨r19, h31, hm⟩ := obind hm
     refine rs G (hC 2 (s_SplitRevenue_c h31) h0) ?_
     refine jn hm (fun n => ⟨[(2, dV n)], [], 32⟩) (fun n hm => ?_) ?_
     ·rcases bf hm with ⟨hb11, hm⟩ | ⟨hb11, hm⟩
      ·obtain ⟨r20, h32, hm⟩ := obind hm
       rcases bf hm with ⟨hb12, hm⟩ | ⟨hb12, hm⟩
       ·rcases bf hm with ⟨hb13, hm⟩ | ⟨hb13, hm⟩
        ·refine re G (hO 3 (.b true) (hP hb11 (hC 6 (v_rInts_c h32) (hO 8 (.b true) (hP hb12 (hO 11 (.b true) (hP hb13 h0))))))) ?_
         exact wJ G hm
        ·obtain ⟨r21, h33, hm⟩ := obind hm
         refine re G (hO 3 (.b true) (hP hb11 (hC 6 (v_rInts_c h32) (hO 8 (.b true) (hP hb12 (hO 11 (.b false) (hP hb13 (hC 13 (v_rSum_c h33) h0)))))))) ?_
         exact wJ G hm
       ·refine re G (hO 3 (.b true) (hP hb11 (hC 6 (v_rInts_c h32) (hO 8 (.b false) (hP hb12 h0))))) ?_
        exact wJ G hm
      ·refine re G (hO 3 (.b false) (hP hb11 h0)) ?_
       exact wJ G hm
     rintro n hm
     cases hm
     exact rt [] []
end Go.Proofs.Ytfknbpimkleimaa
