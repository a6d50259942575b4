/- Each function computes what its model says. Made by program (dec.py). -/
import Derived.Test.YtfknbpimkleimaaTy
import Derived.Test.YtfknbpimkleimaaAbC
import Derived.Test.YtfknbpimkleimaaReM
namespace Go.Proofs.Ytfknbpimkleimaa
open Go Go.Ab
set_option maxRecDepth 100000
set_option maxHeartbeats 4000000
set_option linter.unusedVariables false
set_option linter.unusedSimpArgs false
theorem tt : TT Try.prog ty := ⟨by kernel_rfl, ty_ok⟩
noncomputable def v_vBig_M : MS ((List UInt8)) Bool := ⟨.r, v_vBig, fun y => dV y, fun _ => [], fun _ _ => []⟩
theorem v_vBig_c {code y} (hm : v_vBig code = some y) : v_vBig_M.C code y := v_vBig_M.c code hm
theorem v_vBig_ok : FnOK Try.prog 40 v_vBig_M.S := by
 refine fm tt v_vBig_M [] Try.call40 Try.func40 rfl Try.results40 Try.ntmps40 ?_
 rintro code y cx G hm
 have hm : v_vBig code = some y := hm
 unfold v_vBig at hm
 refine rg G (rs G (hN 1 code h0) ?_)
 cases hm
 exact rt [] []
noncomputable def s_l1Cur_next_M : MS l1Cur (Int × l1Cur) := ⟨.b, s_l1Cur_next, fun y => dV y.1, fun _ => [], fun _ y => [bxO y.2]⟩
theorem s_l1Cur_next_c {c y} (hm : s_l1Cur_next c = some y) : s_l1Cur_next_M.C c y := s_l1Cur_next_M.c c hm
theorem s_l1Cur_next_ok : FnOK Try.prog 232 s_l1Cur_next_M.S := by
 refine fm tt s_l1Cur_next_M [] Try.call232 Try.func232 rfl Try.results232 Try.ntmps232 ?_
 rintro c y cx G hm
 have hm : s_l1Cur_next c = some y := hm
 unfold s_l1Cur_next at hm
 refine rg G (rg G (jn hm (fun v => ⟨[(0, .ref 0 0), (3, dV v)], [bX 0 [dV c.code_, dV c.at_, kV .u64 c.seed_.v]], 48⟩) (fun v hm => ?_) ?_))
 ·refine ds G [] (hN 8 c.code_ h0) ?_
  refine cd hm (fun hm => ?_) (fun hm => ?_)
  ·obtain ⟨e1, h1, hm⟩ := obind hm
   refine de G [] (hD 8 h1 h0) ?_
   exact wJ G hm
  ·exact X_skip (wJ G hm)
 rintro v hm
 refine rg G (rg G (Ok_seq (ds G [] (hN 8 c.code_ h0) ?_)))
 refine cd hm (fun hm => ?_) (fun hm => ?_)
 ·refine rg G ?_
  cases hm
  exact rt [] []
 ·refine X_skip (thN ?_)
  obtain ⟨u, h2, hm⟩ := obind hm
  refine rs G (hK h2 h0) ?_
  cases hm
  exact rt [] []
noncomputable def s_l1Cur_pick_M : MS (l1Cur × Int) (Int × l1Cur) := ⟨.x .b .r, fun x => s_l1Cur_pick x.1 x.2, fun y => dV y.1, fun _ => [], fun _ y => [bxO y.2]⟩
theorem s_l1Cur_pick_c {c n y} (hm : s_l1Cur_pick c n = some y) : s_l1Cur_pick_M.C (c, n) y := s_l1Cur_pick_M.c (c, n) hm
theorem s_l1Cur_pick_ok : FnOK Try.prog 106 s_l1Cur_pick_M.S := by
 refine fm tt s_l1Cur_pick_M [fo s_l1Cur_next_ok] Try.call106 Try.func106 rfl Try.results106 Try.ntmps106 ?_
 rintro ⟨c, n⟩ y cx G hm
 have hm : s_l1Cur_pick c n = some y := hm
 unfold s_l1Cur_pick at hm
 refine rg G (Ok_seq (rg G (cd hm (fun hm => ?_) (fun hm => ?_))))
 ·refine rg G ?_
  cases hm
  exact rt [] []
 ·refine X_skip (thN ?_)
  obtain ⟨r, h, hm⟩ := obind hm
  refine rs G (hC 1 (s_l1Cur_next_c h) h0) ?_
  refine jn hm (fun (v, v1, v2, v3) => ⟨[(0, .ref 0 0), (1, dV n), (5, dV v)], [bX 0 [dV v1, dV v2, kV .u64 v3]], 48⟩) (fun vv hm => ?_) ?_
  ·refine rg G (cd hm (fun hm => ?_) (fun hm => ?_))
   ·obtain ⟨r1, h1, hm⟩ := obind hm
    refine re G (hC 3 (s_l1Cur_next_c h1) h0) ?_
    exact wJ G hm
   ·exact X_skip (wJ G hm)
  rintro ⟨v, v1, v2, v3⟩ hm
  obtain ⟨u, h2, hm⟩ := obind hm
  refine rs G (hK h2 h0) ?_
  cases hm
  exact rt [] []
noncomputable def s_l1Cur_one_M : MS (l1Cur × Int) (Bool × l1Cur) := ⟨.x .b .r, fun x => s_l1Cur_one x.1 x.2, fun y => dV y.1, fun _ => [], fun _ y => [bxO y.2]⟩
theorem s_l1Cur_one_c {c n y} (hm : s_l1Cur_one c n = some y) : s_l1Cur_one_M.C (c, n) y := s_l1Cur_one_M.c (c, n) hm
theorem s_l1Cur_one_ok : FnOK Try.prog 134 s_l1Cur_one_M.S := by
 refine fm tt s_l1Cur_one_M [fo s_l1Cur_pick_ok] Try.call134 Try.func134 rfl Try.results134 Try.ntmps134 ?_
 rintro ⟨c, n⟩ y cx G hm
 have hm : s_l1Cur_one c n = some y := hm
 unfold s_l1Cur_one at hm
 refine rg G ?_
 obtain ⟨r, h, hm⟩ := obind hm
 refine rs G (hC 2 (s_l1Cur_pick_c h) h0) ?_
 cases hm
 exact rt [] []
noncomputable def s_l1Cur_among_M : MS (l1Cur × (List Int)) (Int × l1Cur) := ⟨.x .b .r, fun x => s_l1Cur_among x.1 x.2, fun y => dV y.1, fun _ => [], fun _ y => [bxO y.2]⟩
theorem s_l1Cur_among_c {c list y} (hm : s_l1Cur_among c list = some y) : s_l1Cur_among_M.C (c, list) y := s_l1Cur_among_M.c (c, list) hm
theorem s_l1Cur_among_ok : FnOK Try.prog 157 s_l1Cur_among_M.S := by
 refine fm tt s_l1Cur_among_M [fo s_l1Cur_pick_ok] Try.call157 Try.func157 rfl Try.results157 Try.ntmps157 ?_
 rintro ⟨c, list⟩ y cx G hm
 have hm : s_l1Cur_among c list = some y := hm
 unfold s_l1Cur_among at hm
 refine rg G ?_
 obtain ⟨r, h, hm⟩ := obind hm
 obtain ⟨e, h1, hm⟩ := obind hm
 refine rs G (hN 3 list (hC 4 (s_l1Cur_pick_c h) (hD 5 h1 h0))) ?_
 cases hm
 exact rt [] []
noncomputable def s_l1Cur_time_M : MS l1Cur (Int × l1Cur) := ⟨.b, s_l1Cur_time, fun y => dV y.1, fun _ => [], fun _ y => [bxO y.2]⟩
theorem s_l1Cur_time_c {c y} (hm : s_l1Cur_time c = some y) : s_l1Cur_time_M.C c y := s_l1Cur_time_M.c c hm
theorem s_l1Cur_time_ok : FnOK Try.prog 158 s_l1Cur_time_M.S := by
 refine fm tt s_l1Cur_time_M [fo s_l1Cur_one_ok, fo s_l1Cur_among_ok, fo s_l1Cur_pick_ok] Try.call158 Try.func158 rfl Try.results158 Try.ntmps158 ?_
 rintro c y cx G hm
 have hm : s_l1Cur_time c = some y := hm
 unfold s_l1Cur_time at hm
 refine rg G (Ok_seq ?_)
 obtain ⟨r, h, hm⟩ := obind hm
 refine rs G (hC 1 (s_l1Cur_one_c h) h0) ?_
 refine cd hm (fun hm => ?_) (fun hm => ?_)
 ·obtain ⟨r1, h1, hm⟩ := obind hm
  refine rs G (hO 2 (.fz [80] [] []) (hC 2 (s_l1Cur_among_c h1) h0)) ?_
  cases hm
  exact rt [] []
 ·refine X_skip (thN ?_)
  obtain ⟨r2, h2, hm⟩ := obind hm
  refine rs G (hC 1 (s_l1Cur_pick_c h2) h0) ?_
  cases hm
  exact rt [] []
noncomputable def s_l1Num_MR (rec_ : Int → Option (ByteArray)) : MS Int ByteArray := ⟨.r, rec_, fun y => dV y, fun _ => [], fun _ _ => []⟩
noncomputable def s_l1Num_M : MS Int ByteArray := s_l1Num_MR s_l1Num
theorem s_l1Num_c {n y} (hm : s_l1Num n = some y) : s_l1Num_M.C n y := s_l1Num_M.c n hm
theorem s_l1Num_cR {rec_ : Int → Option (ByteArray)} {n y} (hm : rec_ n = some y) : (s_l1Num_MR rec_).C n y := (s_l1Num_MR rec_).c n hm
theorem s_l1Num_okF {rec_ : Int → Option (ByteArray)} (hrec : FnOK Try.prog 300 (s_l1Num_MR rec_).S) : FnOK Try.prog 300 (s_l1Num_MR (s_l1Num_F rec_)).S := by
 refine fm tt (s_l1Num_MR (s_l1Num_F rec_)) [fo hrec] Try.call300 Try.func300 rfl Try.results300 Try.ntmps300 ?_
 rintro n y cx G hm
 have hm : s_l1Num_F rec_ n = some y := hm
 unfold s_l1Num_F at hm
 refine rg G (Ok_seq (rg G (cd hm (fun hm => ?_) (fun hm => ?_))))
 ·obtain ⟨r, h, hm⟩ := obind hm
  obtain ⟨u, h1, hm⟩ := obind hm
  refine rs G (hC 2 (s_l1Num_cR h) (hP (cat_p (chk_t h1)) h0)) ?_
  cases hm
  exact rt [] []
 ·refine X_skip (thN (Ok_seq (rg G (cd hm (fun hm => ?_) (fun hm => ?_)))))
  ·obtain ⟨u1, h2, hm⟩ := obind hm
   refine rs G (hK h2 h0) ?_
   cases hm
   exact rt [] []
  ·refine X_skip (thN ?_)
   obtain ⟨u7, h9, hm⟩ := obind hm
   obtain ⟨r2, h10, hm⟩ := obind hm
   obtain ⟨u8, h11, hm⟩ := obind hm
   obtain ⟨u9, h12, hm⟩ := obind hm
   obtain ⟨u10, h13, hm⟩ := obind hm
   obtain ⟨u11, h14, hm⟩ := obind hm
   refine ds G [] (hK h9 (hC 2 (s_l1Num_cR h10) (hK h11 (hK h12 (hK h13 (hP (cat_p (chk_t h14)) h0)))))) ?_
   cases hm
   exact rt [] []
theorem s_l1Num_okn : ∀ k, FnOK Try.prog 300 (s_l1Num_MR (s_l1Num_k k)).S
 | 0 => ⟨fun args w => Try.call300 args w, fun vs w F ds obs κ hp => by obtain ⟨x, y, _, _, h⟩ := hp; cases h⟩
 | k + 1 => s_l1Num_okF (s_l1Num_okn k)
theorem s_l1Num_ok : FnOK Try.prog 300 s_l1Num_M.S := s_l1Num_okn 4294967296
noncomputable def s_l2Place_M : MS (Line × Int) Int := ⟨.x .r .r, fun x => s_l2Place x.1 x.2, fun y => dV y, fun _ => [], fun _ _ => []⟩
theorem s_l2Place_c {x stop y} (hm : s_l2Place x stop = some y) : s_l2Place_M.C (x, stop) y := s_l2Place_M.c (x, stop) hm
theorem s_l2Place_ok : FnOK Try.prog 310 s_l2Place_M.S := by
 refine fm tt s_l2Place_M [] Try.call310 Try.func310 rfl Try.results310 Try.ntmps310 ?_
 rintro ⟨x, stop⟩ y cx G hm
 have hm : s_l2Place x stop = some y := hm
 unfold s_l2Place at hm
 refine rg G (Ok_seq (rg G (tF hm (fun _ => ⟨[], [], 32⟩) (fun v1 hr hm => ?_) ?_)))
 ·refine Ok_block (lp G hm (fun v => ⟨[(1, dV stop), (2, .ref 16 0), (5, dV v)], [bX 16 [dV x.Name, dV x.Stops, dV x.Runs]], 48⟩) ?_)
  rintro v r0 hb hm
  rw [s_l2Place_L1] at hm
  refine Ok_seq (rs G (hN 3 x.Stops h0) ?_)
  refine cd hm (fun hm => ?_) (fun hm => ?_)
  ·refine X_skip (thN (Ok_seq (Ok_block ?_)))
   obtain ⟨e, h, hm⟩ := obind hm
   refine rs G (hD 3 h h0) ?_
   refine cd hm (fun hm => ?_) (fun hm => ?_)
   ·refine rg G ?_
    have hm := eL hm hb hr
    cases hm
    exact rt [] []
   ·exact X_skip (ibN (thN (rh G (wL G hm))))
  ·exact Ok_exit (thE (thE (ibE (wE G hm hb))))
 rintro ⟨⟩ hm s hw
 refine thN (Ok_weak hw ?_)
 refine rg G ?_
 cases hm
 exact rt [] []
noncomputable def s_l1Cur_line_M : MS (l1Cur × ByteArray × Int) (Line × l1Cur) := ⟨.x .b (.x .r .r), fun x => s_l1Cur_line x.1 x.2.1 x.2.2, fun y => .aggv [dV y.1.Name, .own 0, .own 1], fun y => [arO 3 y.1.Stops, arO 3 y.1.Runs], fun _ y => [bxO y.2]⟩
theorem s_l1Cur_line_c {c name stops y} (hm : s_l1Cur_line c name stops = some y) : s_l1Cur_line_M.C (c, name, stops) y := s_l1Cur_line_M.c (c, name, stops) hm
theorem s_l1Cur_line_ok : FnOK Try.prog 299 s_l1Cur_line_M.S := by
 refine fm tt s_l1Cur_line_M [fo s_l1Cur_pick_ok, fo s_l2Place_ok] Try.call299 Try.func299 rfl Try.results299 Try.ntmps299 ?_
 rintro ⟨c, name, stops⟩ y cx G hm
 have hm : s_l1Cur_line c name stops = some y := hm
 unfold s_l1Cur_line at hm
 refine rg G (rg G ?_)
 obtain ⟨r, h, hm⟩ := obind hm
 refine rs G (hC 2 (s_l1Cur_pick_c h) h0) ?_
 refine Ok_seq ?_
 obtain ⟨r1, h1, hm⟩ := obind hm
 refine rs G (hC 1 (s_l1Cur_pick_c h1) h0) ?_
 refine tl hm (fun (v7, v8, v9, v10) => ⟨[(0, .ref 0 0), (2, dV stops), (6, .ref 32 0), (7, .ref 48 0)], [bX 0 [dV v7, dV v8, kV .u64 v9], bX 32 [dV ByteArray.empty, .dat (.sc (.slice none 0 0)), .dat (.sc (.slice none 0 0))], bX 48 [dV name, .own 64, .dat (.sc (.slice none 0 0))], aX 64 3 v10], 96⟩) (fun vv1 hm => ?_) ?_
 ·refine Ok_block (lpP hm (fun (v, v1, v2, v3, v4, v5) => ⟨[(0, .ref 0 0), (2, dV stops), (6, .ref 32 0), (7, .ref 48 0), (8, dV v), (9, dV v1)], [bX 0 [dV v2, dV v3, kV .u64 v4], bX 32 [dV ByteArray.empty, .dat (.sc (.slice none 0 0)), .dat (.sc (.slice none 0 0))], bX 48 [dV name, .own 64, .dat (.sc (.slice none 0 0))], aX 64 3 v5], 96⟩) (Wk_J G.hL ⟨[(0, []), (2, []), (6, []), (7, []), (8, []), (9, [])], [(0, 0, []), (32, 16, []), (48, 64, [.k, .o 64])], [(64, 3, 1, [])], 96⟩ (by kernel_rfl)) ?_)
  rintro ⟨v, v1, v2, v3, v4, v5⟩ r0 hb hm
  rw [s_l1Cur_line_L1] at hm
  refine Ok_seq (rg G (cd hm (fun hm => ?_) (fun hm => ?_)))
  ·refine X_skip (thN (Ok_seq (Ok_block (jn hm (fun v6 => ⟨[(0, .ref 0 0), (2, dV stops), (6, .ref 32 0), (7, .ref 48 0), (8, dV v), (9, dV v1)], [bX 0 [dV v2, dV v3, kV .u64 v4], bX 32 [dV ByteArray.empty, .dat (.sc (.slice none 0 0)), .dat (.sc (.slice none 0 0))], bX 48 [dV name, .own 64, .dat (.sc (.slice none 0 0))], aX 64 3 v6], 96⟩) (fun v6 hm => ?_) ?_))))
   ·obtain ⟨r2, h2, hm⟩ := obind hm
    refine rs G (hC 2 (s_l2Place_c h2) h0) ?_
    refine cd hm (fun hm => ?_) (fun hm => ?_)
    ·obtain ⟨u, h3, hm⟩ := obind hm
     refine re G (hA 4 8 h3 h0) ?_
     exact wJ G hm
    ·exact X_skip (wJ G hm)
   rintro v6 hm
   obtain ⟨r3, h4, hm⟩ := obind hm
   obtain ⟨u1, h5, hm⟩ := obind hm
   refine re G (hC 3 (s_l1Cur_pick_c h4) (hK h5 h0)) ?_
   exact ibN (thN (rh G (wL G hm)))
  ·exact Ok_exit (thE (thE (ibE (wD G hm hb))))
 rintro ⟨v7, v8, v9, v10⟩ hm s hw
 refine thN (Ok_weak hw ?_)
 refine jn hm (fun v11 => ⟨[(0, .ref 0 0), (6, .ref 32 0), (7, .ref 48 0)], [bX 0 [dV v7, dV v8, kV .u64 v9], bX 32 [dV ByteArray.empty, .dat (.sc (.slice none 0 0)), .dat (.sc (.slice none 0 0))], bX 48 [dV name, .own 64, .dat (.sc (.slice none 0 0))], aX 64 3 v11], 96⟩) (fun v11 hm => ?_) ?_
 ·refine rs G (hN 2 v10 h0) ?_
  refine cd hm (fun hm => ?_) (fun hm => ?_)
  ·obtain ⟨e1, h9, hm⟩ := obind hm
   obtain ⟨u4, h10, hm⟩ := obind hm
   obtain ⟨u5, h11, hm⟩ := obind hm
   refine de G [(10, [64, 304]), (12, [48, 320])] (hD 4 h9 (hE 5 h9 (hK h10 (hA 10 8 h11 h0)))) ?_
   exact wJ G hm
  ·exact X_skip (wJ G hm)
 rintro v11 hm
 refine Ok_seq (rg G (tl hm (fun (v17, v18, v19, v20) => ⟨[(0, .ref 0 0), (6, .ref 32 0), (7, .ref 48 0)], [bX 0 [dV v17, dV v18, kV .u64 v19], bX 32 [dV ByteArray.empty, .dat (.sc (.slice none 0 0)), .dat (.sc (.slice none 0 0))], bX 48 [dV name, .own 64, .own 80], aX 64 3 v11, aX 80 3 v20], 112⟩) (fun vv hm => ?_) ?_))
 ·refine Ok_block (lpP hm (fun (v12, v13, v14, v15, v16) => ⟨[(0, .ref 0 0), (6, .ref 32 0), (7, .ref 48 0), (10, dV v12)], [bX 0 [dV v13, dV v14, kV .u64 v15], bX 32 [dV ByteArray.empty, .dat (.sc (.slice none 0 0)), .dat (.sc (.slice none 0 0))], bX 48 [dV name, .own 64, .own 80], aX 64 3 v11, aX 80 3 v16], 112⟩) (Wk_J G.hL ⟨[(0, []), (6, []), (7, []), (10, [])], [(0, 0, []), (32, 32, []), (48, 48, [.k, .k, .o 80]), (64, 64, [])], [(80, 3, 1, [])], 112⟩ (by kernel_rfl)) ?_)
  rintro ⟨v12, v13, v14, v15, v16⟩ r0 hb1 hm
  rw [s_l1Cur_line_L2] at hm
  refine Ok_seq (rs G (hN 3 v11 h0) ?_)
  refine cd hm (fun hm => ?_) (fun hm => ?_)
  ·refine X_skip (thN (Ok_seq (Ok_block ?_)))
   obtain ⟨r5, h14, hm⟩ := obind hm
   obtain ⟨u7, h15, hm⟩ := obind hm
   refine de G [(3, [0]), (6, [80, 272]), (8, [48, 288])] (hC 3 (s_l1Cur_pick_c h14) (hA 6 8 h15 h0)) ?_
   exact ibN (thN (rh G (wL G hm)))
  ·exact Ok_exit (thE (thE (ibE (wD G hm hb1))))
 rintro ⟨v17, v18, v19, v20⟩ hm s1 hw1
 refine thN (Ok_weak hw1 ?_)
 refine rg G ?_
 cases hm
 exact rt [64, 80] []
noncomputable def s_l1Cur_line_f_M : MS (l1Cur × ByteArray × Int) (Line × l1Cur) := ⟨.x .b (.x .r .r), fun x => s_l1Cur_line_f x.1 x.2.1 x.2.2, fun y => dV y.1, fun _ => [], fun _ y => [bxO y.2]⟩
theorem s_l1Cur_line_f_c {c name stops y} (hm : s_l1Cur_line_f c name stops = some y) : s_l1Cur_line_f_M.C (c, name, stops) y := s_l1Cur_line_f_M.c (c, name, stops) hm
theorem s_l1Cur_line_f_ok : FnOK Try.prog 299 s_l1Cur_line_f_M.S := by
 refine fm tt s_l1Cur_line_f_M [fo s_l1Cur_pick_ok, fo s_l2Place_ok] Try.call299 Try.func299 rfl Try.results299 Try.ntmps299 ?_
 rintro ⟨c, name, stops⟩ y cx G hm
 have hm : s_l1Cur_line_f c name stops = some y := hm
 unfold s_l1Cur_line_f at hm
 refine rg G (rg G ?_)
 obtain ⟨r, h, hm⟩ := obind hm
 refine rs G (hC 2 (s_l1Cur_pick_c h) h0) ?_
 refine Ok_seq ?_
 obtain ⟨r1, h1, hm⟩ := obind hm
 refine rs G (hC 1 (s_l1Cur_pick_c h1) h0) ?_
 refine tl hm (fun (v7, v8, v9, v10) => ⟨[(0, .ref 0 0), (2, dV stops), (6, .ref 32 0), (7, .ref 48 0)], [bX 0 [dV v7, dV v8, kV .u64 v9], bX 32 [dV ByteArray.empty, .dat (.sc (.slice none 0 0)), .dat (.sc (.slice none 0 0))], bX 48 [dV name, .own 64, .dat (.sc (.slice none 0 0))], aX 64 3 v10], 96⟩) (fun vv1 hm => ?_) ?_
 ·refine Ok_block (lpP hm (fun (v, v1, v2, v3, v4, v5) => ⟨[(0, .ref 0 0), (2, dV stops), (6, .ref 32 0), (7, .ref 48 0), (8, dV v), (9, dV v1)], [bX 0 [dV v2, dV v3, kV .u64 v4], bX 32 [dV ByteArray.empty, .dat (.sc (.slice none 0 0)), .dat (.sc (.slice none 0 0))], bX 48 [dV name, .own 64, .dat (.sc (.slice none 0 0))], aX 64 3 v5], 96⟩) (Wk_J G.hL ⟨[(0, []), (2, []), (6, []), (7, []), (8, []), (9, [])], [(0, 0, []), (32, 16, []), (48, 64, [.k, .o 64])], [(64, 3, 1, [])], 96⟩ (by kernel_rfl)) ?_)
  rintro ⟨v, v1, v2, v3, v4, v5⟩ r0 hb hm
  rw [s_l1Cur_line_f_L1] at hm
  refine Ok_seq (rg G (cd hm (fun hm => ?_) (fun hm => ?_)))
  ·refine X_skip (thN (Ok_seq (Ok_block (jn hm (fun v6 => ⟨[(0, .ref 0 0), (2, dV stops), (6, .ref 32 0), (7, .ref 48 0), (8, dV v), (9, dV v1)], [bX 0 [dV v2, dV v3, kV .u64 v4], bX 32 [dV ByteArray.empty, .dat (.sc (.slice none 0 0)), .dat (.sc (.slice none 0 0))], bX 48 [dV name, .own 64, .dat (.sc (.slice none 0 0))], aX 64 3 v6], 96⟩) (fun v6 hm => ?_) ?_))))
   ·obtain ⟨r2, h2, hm⟩ := obind hm
    refine rs G (hC 2 (s_l2Place_c h2) h0) ?_
    refine cd hm (fun hm => ?_) (fun hm => ?_)
    ·obtain ⟨u, h3, hm⟩ := obind hm
     refine re G (hA 4 8 h3 h0) ?_
     exact wJ G hm
    ·exact X_skip (wJ G hm)
   rintro v6 hm
   obtain ⟨r3, h4, hm⟩ := obind hm
   obtain ⟨u1, h5, hm⟩ := obind hm
   refine re G (hC 3 (s_l1Cur_pick_c h4) (hK h5 h0)) ?_
   exact ibN (thN (rh G (wL G hm)))
  ·exact Ok_exit (thE (thE (ibE (wD G hm hb))))
 rintro ⟨v7, v8, v9, v10⟩ hm s hw
 refine thN (Ok_weak hw ?_)
 refine jn hm (fun v11 => ⟨[(0, .ref 0 0), (6, .ref 32 0), (7, .ref 48 0)], [bX 0 [dV v7, dV v8, kV .u64 v9], bX 32 [dV ByteArray.empty, .dat (.sc (.slice none 0 0)), .dat (.sc (.slice none 0 0))], bX 48 [dV name, .own 64, .dat (.sc (.slice none 0 0))], aX 64 3 v11], 96⟩) (fun v11 hm => ?_) ?_
 ·refine rs G (hN 2 v10 h0) ?_
  refine cd hm (fun hm => ?_) (fun hm => ?_)
  ·obtain ⟨e1, h9, hm⟩ := obind hm
   obtain ⟨u4, h10, hm⟩ := obind hm
   obtain ⟨u5, h11, hm⟩ := obind hm
   refine de G [(10, [64, 304]), (12, [48, 320])] (hD 4 h9 (hE 5 h9 (hK h10 (hA 10 8 h11 h0)))) ?_
   exact wJ G hm
  ·exact X_skip (wJ G hm)
 rintro v11 hm
 refine Ok_seq (rg G (tl hm (fun (v17, v18, v19, v20) => ⟨[(0, .ref 0 0), (6, .ref 32 0), (7, .ref 48 0)], [bX 0 [dV v17, dV v18, kV .u64 v19], bX 32 [dV ByteArray.empty, .dat (.sc (.slice none 0 0)), .dat (.sc (.slice none 0 0))], bX 48 [dV name, .own 64, .own 80], aX 64 3 v11, aX 80 3 v20], 112⟩) (fun vv hm => ?_) ?_))
 ·refine Ok_block (lpP hm (fun (v12, v13, v14, v15, v16) => ⟨[(0, .ref 0 0), (6, .ref 32 0), (7, .ref 48 0), (10, dV v12)], [bX 0 [dV v13, dV v14, kV .u64 v15], bX 32 [dV ByteArray.empty, .dat (.sc (.slice none 0 0)), .dat (.sc (.slice none 0 0))], bX 48 [dV name, .own 64, .own 80], aX 64 3 v11, aX 80 3 v16], 112⟩) (Wk_J G.hL ⟨[(0, []), (6, []), (7, []), (10, [])], [(0, 0, []), (32, 32, []), (48, 48, [.k, .k, .o 80]), (64, 64, [])], [(80, 3, 1, [])], 112⟩ (by kernel_rfl)) ?_)
  rintro ⟨v12, v13, v14, v15, v16⟩ r0 hb1 hm
  rw [s_l1Cur_line_f_L2] at hm
  refine Ok_seq (rs G (hN 3 v11 h0) ?_)
  refine cd hm (fun hm => ?_) (fun hm => ?_)
  ·refine X_skip (thN (Ok_seq (Ok_block ?_)))
   obtain ⟨r5, h14, hm⟩ := obind hm
   obtain ⟨u7, h15, hm⟩ := obind hm
   refine de G [(3, [0]), (6, [80, 272]), (8, [48, 288])] (hC 3 (s_l1Cur_pick_c h14) (hA 6 8 h15 h0)) ?_
   exact ibN (thN (rh G (wL G hm)))
  ·exact Ok_exit (thE (thE (ibE (wD G hm hb1))))
 rintro ⟨v17, v18, v19, v20⟩ hm s1 hw1
 refine thN (Ok_weak hw1 ?_)
 refine rg G ?_
 cases hm
 exact rt [] []
noncomputable def s_l2Back_f_M : MS ((List Int)) ((List Int)) := ⟨.r, s_l2Back_f, fun y => dV y, fun _ => [], fun _ _ => []⟩
theorem s_l2Back_f_c {list y} (hm : s_l2Back_f list = some y) : s_l2Back_f_M.C list y := s_l2Back_f_M.c list hm
theorem s_l2Back_f_ok : FnOK Try.prog 321 s_l2Back_f_M.S := by
 refine fm tt s_l2Back_f_M [] Try.call321 Try.func321 rfl Try.results321 Try.ntmps321 ?_
 rintro list y cx G hm
 have hm : s_l2Back_f list = some y := hm
 unfold s_l2Back_f at hm
 refine rg G (rg G (Ok_seq (rs G (hN 1 list h0) ?_)))
 refine tl hm (fun i1 => ⟨[(3, .own 16)], [aX 16 3 i1], 48⟩) (fun i1 hm => ?_) ?_
 ·refine Ok_block (lp G hm (fun (v, i) => ⟨[(0, dV list), (3, .own 16), (4, dV v)], [aX 16 3 i], 48⟩) ?_)
  rintro ⟨v, i⟩ r0 hb hm
  rw [s_l2Back_f_L1] at hm
  refine Ok_seq (rg G (cd hm (fun hm => ?_) (fun hm => ?_)))
  ·refine X_skip (thN (Ok_seq (Ok_block ?_)))
   obtain ⟨e, h, hm⟩ := obind hm
   obtain ⟨u, h1, hm⟩ := obind hm
   refine re G (hD 3 h (hA 6 8 h1 h0)) ?_
   exact ibN (thN (rh G (wL G hm)))
  ·exact Ok_exit (thE (thE (ibE (wD G hm hb))))
 rintro i1 hm s hw
 refine thN (Ok_weak hw ?_)
 refine rg G ?_
 cases hm
 exact rt [] []
noncomputable def s_l1Own_M : MS ((List Int)) ((List Int)) := ⟨.r, s_l1Own, fun _ => .own 0, fun y => [arO 3 y], fun _ _ => []⟩
theorem s_l1Own_c {l y} (hm : s_l1Own l = some y) : s_l1Own_M.C l y := s_l1Own_M.c l hm
theorem s_l1Own_ok : FnOK Try.prog 235 s_l1Own_M.S := by
 refine fm tt s_l1Own_M [] Try.call235 Try.func235 rfl Try.results235 Try.ntmps235 ?_
 rintro l y cx G hm
 have hm : s_l1Own l = some y := hm
 unfold s_l1Own at hm
 refine rg G ?_
 obtain ⟨u, h, hm⟩ := obind hm
 refine rs G (hA 2 8 h h0) ?_
 cases hm
 exact rt [64] []
noncomputable def s_l1Own_f_M : MS ((List Int)) ((List Int)) := ⟨.r, s_l1Own_f, fun y => dV y, fun _ => [], fun _ _ => []⟩
theorem s_l1Own_f_c {l y} (hm : s_l1Own_f l = some y) : s_l1Own_f_M.C l y := s_l1Own_f_M.c l hm
theorem s_l1Own_f_ok : FnOK Try.prog 235 s_l1Own_f_M.S := by
 refine fm tt s_l1Own_f_M [] Try.call235 Try.func235 rfl Try.results235 Try.ntmps235 ?_
 rintro l y cx G hm
 have hm : s_l1Own_f l = some y := hm
 unfold s_l1Own_f at hm
 refine rg G ?_
 obtain ⟨u, h, hm⟩ := obind hm
 refine rs G (hA 2 8 h h0) ?_
 cases hm
 exact rt [] []
noncomputable def s_l2Own_M : MS Network Network := ⟨.r, s_l2Own, fun _ => .aggv [.own 0, .own 1], fun y => [arO 9 y.Stops, arO 236 y.Lines], fun _ _ => []⟩
theorem s_l2Own_c {n y} (hm : s_l2Own n = some y) : s_l2Own_M.C n y := s_l2Own_M.c n hm
theorem s_l2Own_ok : FnOK Try.prog 266 s_l2Own_M.S := by
 refine fm tt s_l2Own_M [fo s_l1Own_f_ok] Try.call266 Try.func266 rfl Try.results266 Try.ntmps266 ?_
 rintro n y cx G hm
 have hm : s_l2Own n = some y := hm
 unfold s_l2Own at hm
 refine rg G ?_
 obtain ⟨u, h, hm⟩ := obind hm
 refine rs G (hA 3 16 h h0) ?_
 refine Ok_seq (rg G (tl hm (fun v2 => ⟨[(2, .ref 16 0), (3, .ref 32 0)], [bX 16 [.dat (.sc (.slice none 0 0)), .dat (.sc (.slice none 0 0))], bX 32 [.own 48, .own 64], aX 48 9 (([] : List ByteArray) ++ n.Stops), aX 64 236 v2], 96⟩) (fun v2 hm => ?_) ?_))
 ·refine Ok_block (lpP hm (fun (v, v1) => ⟨[(1, .ref 16 0), (2, .ref 32 0), (3, .ref 48 0), (4, dV v)], [bX 16 [dV n.Stops, dV n.Lines], bX 32 [.dat (.sc (.slice none 0 0)), .dat (.sc (.slice none 0 0))], bX 48 [.own 64, .own 80], aX 64 9 (([] : List ByteArray) ++ n.Stops), aX 80 236 v1], 112⟩) (Wk_J G.hL ⟨[(1, []), (2, []), (3, []), (4, [])], [(16, 16, []), (32, 32, []), (48, 128, [.k, .o 80]), (64, 96, [])], [(80, 236, 3, [])], 112⟩ (by kernel_rfl)) ?_)
  rintro ⟨v, v1⟩ r0 hb hm
  rw [s_l2Own_L1] at hm
  refine Ok_seq (rs G (hN 3 n.Lines h0) ?_)
  refine cd hm (fun hm => ?_) (fun hm => ?_)
  ·refine X_skip (thN (Ok_seq (Ok_block ?_)))
   obtain ⟨e3, h7, hm⟩ := obind hm
   obtain ⟨e4, h8, hm⟩ := obind hm
   obtain ⟨r2, h9, hm⟩ := obind hm
   obtain ⟨e5, h10, hm⟩ := obind hm
   obtain ⟨r3, h11, hm⟩ := obind hm
   obtain ⟨u2, h12, hm⟩ := obind hm
   refine de G [(23, []), (24, [80, 560]), (26, [48, 576])] (hD 5 h7 (hD 11 h8 (hC 14 (s_l1Own_f_c h9) (hD 18 h10 (hC 21 (s_l1Own_f_c h11) (hA 24 64 h12 h0)))))) ?_
   exact ibN (thN (rh G (wL G hm)))
  ·exact Ok_exit (thE (thE (ibE (wD G hm hb))))
 rintro v2 hm s hw
 refine thN (Ok_weak hw ?_)
 refine rg G ?_
 cases hm
 exact rt [48, 64] []
noncomputable def s_l1Cur_network_M : MS l1Cur (Network × l1Cur) := ⟨.b, s_l1Cur_network, fun _ => .aggv [.own 0, .own 1], fun y => [arO 9 y.1.Stops, arO 236 y.1.Lines], fun _ y => [bxO y.2]⟩
theorem s_l1Cur_network_c {c y} (hm : s_l1Cur_network c = some y) : s_l1Cur_network_M.C c y := s_l1Cur_network_M.c c hm
theorem s_l1Cur_network_ok : FnOK Try.prog 279 s_l1Cur_network_M.S := by
 refine fm tt s_l1Cur_network_M [fo s_l1Cur_pick_ok, fo s_l1Num_ok, fo s_l1Cur_line_f_ok, fo s_l1Cur_one_ok, fo s_l2Back_f_ok, fo s_l2Own_ok] Try.call279 Try.func279 rfl Try.results279 Try.ntmps279 ?_
 rintro c y cx G hm
 have hm : s_l1Cur_network c = some y := hm
 unfold s_l1Cur_network at hm
 refine rg G ?_
 obtain ⟨r, h, hm⟩ := obind hm
 refine rs G (hC 1 (s_l1Cur_pick_c h) h0) ?_
 obtain ⟨u, h1, hm⟩ := obind hm
 refine rs G (hO 2 (.fz [96] [] []) (hU 2 h1 h0)) ?_
 refine Ok_seq ?_
 obtain ⟨r1, h2, hm⟩ := obind hm
 refine rs G (hC 1 (s_l1Cur_pick_c h2) h0) ?_
 refine tl hm (fun (v4, v5, v6, v7) => ⟨[(0, .ref 0 0), (2, .ref 32 0), (4, .ref 48 0)], [bX 0 [dV v4, dV v5, kV .u64 v6], bX 32 [.dat (.sc (.slice none 0 0)), .dat (.sc (.slice none 0 0))], bX 48 [dV ((([(str [112, 111, 114, 116]), (str [109, 105, 108, 108]), (str [112, 97, 114, 107]), (str [104, 97, 108, 108]), (str [100, 111, 99, 107]), (str [102, 97, 105, 114])] : List ByteArray).take (w64 (2 + r.1)).toNat).drop (0 : Int).toNat), .own 64], aX 64 236 v7], 96⟩) (fun vv1 hm => ?_) ?_
 ·refine Ok_block (lpP hm (fun (x, v, v1, v2, v3) => ⟨[(0, .ref 0 0), (2, .ref 32 0), (3, dV (w64 (2 + r.1))), (4, .ref 48 0), (5, dV x)], [bX 0 [dV v, dV v1, kV .u64 v2], bX 32 [.dat (.sc (.slice none 0 0)), .dat (.sc (.slice none 0 0))], bX 48 [dV ((([(str [112, 111, 114, 116]), (str [109, 105, 108, 108]), (str [112, 97, 114, 107]), (str [104, 97, 108, 108]), (str [100, 111, 99, 107]), (str [102, 97, 105, 114])] : List ByteArray).take (w64 (2 + r.1)).toNat).drop (0 : Int).toNat), .own 64], aX 64 236 v3], 96⟩) (Wk_J G.hL ⟨[(0, []), (2, []), (3, []), (4, []), (5, [])], [(0, 0, []), (32, 16, []), (48, 160, [.k, .o 64])], [(64, 236, 3, [])], 96⟩ (by kernel_rfl)) ?_)
  rintro ⟨x, v, v1, v2, v3⟩ r0 hb hm
  rw [s_l1Cur_network_L1] at hm
  refine Ok_seq (rg G (cd hm (fun hm => ?_) (fun hm => ?_)))
  ·refine X_skip (thN (Ok_seq (Ok_block ?_)))
   obtain ⟨r4, h7, hm⟩ := obind hm
   obtain ⟨u3, h8, hm⟩ := obind hm
   obtain ⟨r5, h9, hm⟩ := obind hm
   obtain ⟨u4, h10, hm⟩ := obind hm
   refine de G [(7, [0]), (8, []), (9, [64, 256]), (11, [48, 272])] (hC 4 (s_l1Num_c h7) (hP (cat_p (chk_t h8)) (hC 7 (s_l1Cur_line_f_c h9) (hA 9 64 h10 h0)))) ?_
   exact ibN (thN (rh G (wL G hm)))
  ·exact Ok_exit (thE (thE (ibE (wD G hm hb))))
 rintro ⟨v4, v5, v6, v7⟩ hm s hw
 refine thN (Ok_weak hw ?_)
 refine jn hm (fun (v8, v9, v10, v11) => ⟨[(0, .ref 0 0), (2, .ref 32 0), (4, .ref 48 0)], [bX 0 [dV v8, dV v9, kV .u64 v10], bX 32 [.dat (.sc (.slice none 0 0)), .dat (.sc (.slice none 0 0))], bX 48 [dV ((([(str [112, 111, 114, 116]), (str [109, 105, 108, 108]), (str [112, 97, 114, 107]), (str [104, 97, 108, 108]), (str [100, 111, 99, 107]), (str [102, 97, 105, 114])] : List ByteArray).take (w64 (2 + r.1)).toNat).drop (0 : Int).toNat), .own 64], aX 64 236 v11], 96⟩) (fun vv hm => ?_) ?_
 ·obtain ⟨r6, h11, hm⟩ := obind hm
  refine rs G (hC 1 (s_l1Cur_one_c h11) h0) ?_
  refine cd hm (fun hm => ?_) (fun hm => ?_)
  ·obtain ⟨e, h12, hm⟩ := obind hm
   refine rs G (hD 2 h12 (hE 3 h12 h0)) ?_
   obtain ⟨r9, h16, hm⟩ := obind hm
   obtain ⟨r10, h17, hm⟩ := obind hm
   obtain ⟨u6, h18, hm⟩ := obind hm
   refine de G [(9, []), (10, [64, 368]), (12, [48, 384])] (hC 4 (s_l2Back_f_c h16) (hC 7 (s_l2Back_f_c h17) (hA 10 64 h18 h0))) ?_
   exact wJ G hm
  ·exact X_skip (wJ G hm)
 rintro ⟨v8, v9, v10, v11⟩ hm
 obtain ⟨r11, h19, hm⟩ := obind hm
 refine rs G (hO 1 (.fz [64] [] []) (hC 1 (s_l2Own_c h19) h0)) ?_
 cases hm
 exact rt [112, 113] []
noncomputable def s_l1Cur_timetable_M : MS l1Cur (Timetable × l1Cur) := ⟨.b, s_l1Cur_timetable, fun _ => .aggv [.own 0, .own 1, .own 2], fun y => [arO 9 y.1.Network.Stops, arO 236 y.1.Network.Lines, arO 81 y.1.Trips], fun _ y => [bxO y.2]⟩
theorem s_l1Cur_timetable_c {c y} (hm : s_l1Cur_timetable c = some y) : s_l1Cur_timetable_M.C c y := s_l1Cur_timetable_M.c c hm
theorem s_l1Cur_timetable_ok : FnOK Try.prog 255 s_l1Cur_timetable_M.S := by
 refine fm tt s_l1Cur_timetable_M [fo s_l1Cur_network_ok, fo s_l1Cur_pick_ok] Try.call255 Try.func255 rfl Try.results255 Try.ntmps255 ?_
 rintro c y cx G hm
 have hm : s_l1Cur_timetable c = some y := hm
 unfold s_l1Cur_timetable at hm
 refine rg G ?_
 obtain ⟨r, h, hm⟩ := obind hm
 refine rs G (hC 1 (s_l1Cur_network_c h) h0) ?_
 refine rg G (Ok_seq ?_)
 obtain ⟨r1, h1, hm⟩ := obind hm
 refine rs G (hC 1 (s_l1Cur_pick_c h1) h0) ?_
 refine tl hm (fun (v5, v6, v7, v8) => ⟨[(0, .ref 0 0), (2, .ref 32 0), (3, .ref 48 0)], [bX 0 [dV v5, dV v6, kV .u64 v7], bX 32 [.dat (.sc (.slice none 0 0)), .dat (.sc (.slice none 0 0)), .dat (.sc (.slice none 0 0))], bX 48 [.own 64, .own 80, .own 96], aX 64 9 r.1.Stops, aX 80 236 r.1.Lines, aX 96 81 v8], 128⟩) (fun vv hm => ?_) ?_
 ·refine Ok_block (lpP hm (fun (n, v, v1, v2, v3, v4) => ⟨[(0, .ref 0 0), (2, .ref 32 0), (3, .ref 48 0), (4, dV n), (5, dV v)], [bX 0 [dV v1, dV v2, kV .u64 v3], bX 32 [.dat (.sc (.slice none 0 0)), .dat (.sc (.slice none 0 0)), .dat (.sc (.slice none 0 0))], bX 48 [.own 64, .own 80, .own 96], aX 64 9 r.1.Stops, aX 80 236 r.1.Lines, aX 96 81 v4], 128⟩) (Wk_J G.hL ⟨[(0, []), (2, []), (3, []), (4, []), (5, [])], [(0, 0, []), (32, 16, []), (48, 80, [.k, .k, .o 96]), (64, 48, []), (80, 49, [])], [(96, 81, 3, [])], 128⟩ (by kernel_rfl)) ?_)
  rintro ⟨n, v, v1, v2, v3, v4⟩ r0 hb hm
  rw [s_l1Cur_timetable_L1] at hm
  refine Ok_seq (rg G (cd hm (fun hm => ?_) (fun hm => ?_)))
  ·refine X_skip (thN (Ok_seq (Ok_block ?_)))
   obtain ⟨r2, h2, hm⟩ := obind hm
   refine rs G (hC 3 (s_l1Cur_pick_c h2) h0) ?_
   obtain ⟨r5, h6, hm⟩ := obind hm
   obtain ⟨r6, h7, hm⟩ := obind hm
   obtain ⟨u1, h8, hm⟩ := obind hm
   refine de G [(8, [0]), (10, [0]), (15, [96, 480]), (17, [48, 496])] (hN 7 r.1.Lines (hC 8 (s_l1Cur_pick_c h6) (hC 10 (s_l1Cur_pick_c h7) (hA 15 24 h8 h0)))) ?_
   exact ibN (thN (rh G (wL G hm)))
  ·exact Ok_exit (thE (thE (ibE (wD G hm hb))))
 rintro ⟨v5, v6, v7, v8⟩ hm s hw
 refine thN (Ok_weak hw ?_)
 refine rg G ?_
 cases hm
 exact rt [64, 80, 96] []
noncomputable def s_l1Cur_of_w_M : MS (l1Cur × (List ByteArray)) (ByteArray × l1Cur) := ⟨.x .b (.s 9), fun x => s_l1Cur_of_w x.1 x.2, fun y => dV y.1, fun _ => [], fun x y => [bxO y.2, arO 9 x.2]⟩
theorem s_l1Cur_of_w_c {c list y} (hm : s_l1Cur_of_w c list = some y) : s_l1Cur_of_w_M.C (c, list) y := s_l1Cur_of_w_M.c (c, list) hm
theorem s_l1Cur_of_w_ok : FnOK Try.prog 196 s_l1Cur_of_w_M.S := by
 refine fm tt s_l1Cur_of_w_M [fo s_l1Cur_pick_ok] Try.call196 Try.func196 rfl Try.results196 Try.ntmps196 ?_
 rintro ⟨c, list⟩ y cx G hm
 have hm : s_l1Cur_of_w c list = some y := hm
 unfold s_l1Cur_of_w at hm
 refine rg G ?_
 obtain ⟨r, h, hm⟩ := obind hm
 obtain ⟨e, h1, hm⟩ := obind hm
 refine rs G (hN 3 list (hC 4 (s_l1Cur_pick_c h) (hD 5 h1 (hE 6 h1 h0)))) ?_
 cases hm
 exact rt [] []
noncomputable def s_l2Own_t_M : MS Network Network := ⟨.r, s_l2Own_t, fun _ => .aggv [.own 0, .own 1], fun y => [arO 9 y.Stops, taO 236 [none, some 3, some 3] y.Lines], fun _ _ => []⟩
theorem s_l2Own_t_c {n y} (hm : s_l2Own_t n = some y) : s_l2Own_t_M.C n y := s_l2Own_t_M.c n hm
theorem s_l2Own_t_ok : FnOK Try.prog 266 s_l2Own_t_M.S := by
 refine fm tt s_l2Own_t_M [fo s_l1Own_ok] Try.call266 Try.func266 rfl Try.results266 Try.ntmps266 ?_
 rintro n y cx G hm
 have hm : s_l2Own_t n = some y := hm
 unfold s_l2Own_t at hm
 refine rg G ?_
 obtain ⟨u, h, hm⟩ := obind hm
 refine rs G (hA 3 16 h h0) ?_
 refine Ok_seq (rg G (tl hm (fun v2 => ⟨[(2, .ref 16 0), (3, .ref 32 0)], [bX 16 [.dat (.sc (.slice none 0 0)), .dat (.sc (.slice none 0 0))], bX 32 [.own 48, .own 64], aX 48 9 (([] : List ByteArray) ++ n.Stops), tX 64 236 [none, some 3, some 3] v2 64 none], 96⟩) (fun v2 hm => ?_) ?_))
 ·refine Ok_block (lpP hm (fun (v, v1) => ⟨[(1, .ref 16 0), (2, .ref 32 0), (3, .ref 48 0), (4, dV v)], [bX 16 [dV n.Stops, dV n.Lines], bX 32 [.dat (.sc (.slice none 0 0)), .dat (.sc (.slice none 0 0))], bX 48 [.own 64, .own 80], aX 64 9 (([] : List ByteArray) ++ n.Stops), tX 80 236 [none, some 3, some 3] v1 80 none], 112⟩) (Wk_J G.hL ⟨[(1, []), (2, []), (3, []), (4, [])], [(16, 16, []), (32, 32, []), (48, 128, [.k, .o 80]), (64, 96, [])], [(80, 236, 3, [none, some 3, some 3])], 112⟩ (by kernel_rfl)) ?_)
  rintro ⟨v, v1⟩ r0 hb hm
  rw [s_l2Own_t_L1] at hm
  refine Ok_seq (rs G (hN 3 n.Lines h0) ?_)
  refine cd hm (fun hm => ?_) (fun hm => ?_)
  ·refine X_skip (thN (Ok_seq (Ok_block ?_)))
   obtain ⟨e3, h7, hm⟩ := obind hm
   obtain ⟨e4, h8, hm⟩ := obind hm
   obtain ⟨r2, h9, hm⟩ := obind hm
   obtain ⟨e5, h10, hm⟩ := obind hm
   obtain ⟨r3, h11, hm⟩ := obind hm
   obtain ⟨u2, h12, hm⟩ := obind hm
   refine de G [(23, [416, 528]), (24, [80, 560]), (26, [48, 576])] (hD 5 h7 (hD 11 h8 (hC 14 (s_l1Own_c h9) (hD 18 h10 (hC 21 (s_l1Own_c h11) (hP (nodupB_ok (l := [416, 528]) rfl) (hA 24 64 h12 h0))))))) ?_
   exact ibN (thN (rh G (wL G hm)))
  ·exact Ok_exit (thE (thE (ibE (wD G hm hb))))
 rintro v2 hm s hw
 refine thN (Ok_weak hw ?_)
 refine rg G ?_
 cases hm
 exact rt [48, 64] []
noncomputable def s_l1Cur_network_t_M : MS l1Cur (Network × l1Cur) := ⟨.b, s_l1Cur_network_t, fun _ => .aggv [.own 0, .own 1], fun y => [arO 9 y.1.Stops, taO 236 [none, some 3, some 3] y.1.Lines], fun _ y => [bxO y.2]⟩
theorem s_l1Cur_network_t_c {c y} (hm : s_l1Cur_network_t c = some y) : s_l1Cur_network_t_M.C c y := s_l1Cur_network_t_M.c c hm
theorem s_l1Cur_network_t_ok : FnOK Try.prog 279 s_l1Cur_network_t_M.S := by
 refine fm tt s_l1Cur_network_t_M [fo s_l1Cur_pick_ok, fo s_l1Num_ok, fo s_l1Cur_line_f_ok, fo s_l1Cur_one_ok, fo s_l2Back_f_ok, fo s_l2Own_t_ok] Try.call279 Try.func279 rfl Try.results279 Try.ntmps279 ?_
 rintro c y cx G hm
 have hm : s_l1Cur_network_t c = some y := hm
 unfold s_l1Cur_network_t at hm
 refine rg G ?_
 obtain ⟨r, h, hm⟩ := obind hm
 refine rs G (hC 1 (s_l1Cur_pick_c h) h0) ?_
 obtain ⟨u, h1, hm⟩ := obind hm
 refine rs G (hO 2 (.fz [96] [] []) (hU 2 h1 h0)) ?_
 refine Ok_seq ?_
 obtain ⟨r1, h2, hm⟩ := obind hm
 refine rs G (hC 1 (s_l1Cur_pick_c h2) h0) ?_
 refine tl hm (fun (v4, v5, v6, v7) => ⟨[(0, .ref 0 0), (2, .ref 32 0), (4, .ref 48 0)], [bX 0 [dV v4, dV v5, kV .u64 v6], bX 32 [.dat (.sc (.slice none 0 0)), .dat (.sc (.slice none 0 0))], bX 48 [dV ((([(str [112, 111, 114, 116]), (str [109, 105, 108, 108]), (str [112, 97, 114, 107]), (str [104, 97, 108, 108]), (str [100, 111, 99, 107]), (str [102, 97, 105, 114])] : List ByteArray).take (w64 (2 + r.1)).toNat).drop (0 : Int).toNat), .own 64], aX 64 236 v7], 96⟩) (fun vv1 hm => ?_) ?_
 ·refine Ok_block (lpP hm (fun (x, v, v1, v2, v3) => ⟨[(0, .ref 0 0), (2, .ref 32 0), (3, dV (w64 (2 + r.1))), (4, .ref 48 0), (5, dV x)], [bX 0 [dV v, dV v1, kV .u64 v2], bX 32 [.dat (.sc (.slice none 0 0)), .dat (.sc (.slice none 0 0))], bX 48 [dV ((([(str [112, 111, 114, 116]), (str [109, 105, 108, 108]), (str [112, 97, 114, 107]), (str [104, 97, 108, 108]), (str [100, 111, 99, 107]), (str [102, 97, 105, 114])] : List ByteArray).take (w64 (2 + r.1)).toNat).drop (0 : Int).toNat), .own 64], aX 64 236 v3], 96⟩) (Wk_J G.hL ⟨[(0, []), (2, []), (3, []), (4, []), (5, [])], [(0, 0, []), (32, 16, []), (48, 160, [.k, .o 64])], [(64, 236, 3, [])], 96⟩ (by kernel_rfl)) ?_)
  rintro ⟨x, v, v1, v2, v3⟩ r0 hb hm
  rw [s_l1Cur_network_t_L1] at hm
  refine Ok_seq (rg G (cd hm (fun hm => ?_) (fun hm => ?_)))
  ·refine X_skip (thN (Ok_seq (Ok_block ?_)))
   obtain ⟨r4, h7, hm⟩ := obind hm
   obtain ⟨u3, h8, hm⟩ := obind hm
   obtain ⟨r5, h9, hm⟩ := obind hm
   obtain ⟨u4, h10, hm⟩ := obind hm
   refine de G [(7, [0]), (8, []), (9, [64, 256]), (11, [48, 272])] (hC 4 (s_l1Num_c h7) (hP (cat_p (chk_t h8)) (hC 7 (s_l1Cur_line_f_c h9) (hA 9 64 h10 h0)))) ?_
   exact ibN (thN (rh G (wL G hm)))
  ·exact Ok_exit (thE (thE (ibE (wD G hm hb))))
 rintro ⟨v4, v5, v6, v7⟩ hm s hw
 refine thN (Ok_weak hw ?_)
 refine jn hm (fun (v8, v9, v10, v11) => ⟨[(0, .ref 0 0), (2, .ref 32 0), (4, .ref 48 0)], [bX 0 [dV v8, dV v9, kV .u64 v10], bX 32 [.dat (.sc (.slice none 0 0)), .dat (.sc (.slice none 0 0))], bX 48 [dV ((([(str [112, 111, 114, 116]), (str [109, 105, 108, 108]), (str [112, 97, 114, 107]), (str [104, 97, 108, 108]), (str [100, 111, 99, 107]), (str [102, 97, 105, 114])] : List ByteArray).take (w64 (2 + r.1)).toNat).drop (0 : Int).toNat), .own 64], aX 64 236 v11], 96⟩) (fun vv hm => ?_) ?_
 ·obtain ⟨r6, h11, hm⟩ := obind hm
  refine rs G (hC 1 (s_l1Cur_one_c h11) h0) ?_
  refine cd hm (fun hm => ?_) (fun hm => ?_)
  ·obtain ⟨e, h12, hm⟩ := obind hm
   refine rs G (hD 2 h12 (hE 3 h12 h0)) ?_
   obtain ⟨r9, h16, hm⟩ := obind hm
   obtain ⟨r10, h17, hm⟩ := obind hm
   obtain ⟨u6, h18, hm⟩ := obind hm
   refine de G [(9, []), (10, [64, 368]), (12, [48, 384])] (hC 4 (s_l2Back_f_c h16) (hC 7 (s_l2Back_f_c h17) (hA 10 64 h18 h0))) ?_
   exact wJ G hm
  ·exact X_skip (wJ G hm)
 rintro ⟨v8, v9, v10, v11⟩ hm
 obtain ⟨r11, h19, hm⟩ := obind hm
 refine rs G (hO 1 (.fz [64] [] []) (hC 1 (s_l2Own_t_c h19) h0)) ?_
 cases hm
 exact rt [112, 113] []
noncomputable def s_l1Cur_among_w_M : MS (l1Cur × (List Int)) (Int × l1Cur) := ⟨.x .b (.s 3), fun x => s_l1Cur_among_w x.1 x.2, fun y => dV y.1, fun _ => [], fun x y => [bxO y.2, arO 3 x.2]⟩
theorem s_l1Cur_among_w_c {c list y} (hm : s_l1Cur_among_w c list = some y) : s_l1Cur_among_w_M.C (c, list) y := s_l1Cur_among_w_M.c (c, list) hm
theorem s_l1Cur_among_w_ok : FnOK Try.prog 157 s_l1Cur_among_w_M.S := by
 refine fm tt s_l1Cur_among_w_M [fo s_l1Cur_pick_ok] Try.call157 Try.func157 rfl Try.results157 Try.ntmps157 ?_
 rintro ⟨c, list⟩ y cx G hm
 have hm : s_l1Cur_among_w c list = some y := hm
 unfold s_l1Cur_among_w at hm
 refine rg G ?_
 obtain ⟨r, h, hm⟩ := obind hm
 obtain ⟨e, h1, hm⟩ := obind hm
 refine rs G (hN 3 list (hC 4 (s_l1Cur_pick_c h) (hD 5 h1 (hE 6 h1 h0)))) ?_
 cases hm
 exact rt [] []
noncomputable def s_l1Cur_anyNetwork_M : MS l1Cur (Network × l1Cur) := ⟨.b, s_l1Cur_anyNetwork, fun y => .aggv [.own 0, dV y.1.Lines], fun y => [arO 9 y.1.Stops], fun _ y => [bxO y.2]⟩
theorem s_l1Cur_anyNetwork_c {c y} (hm : s_l1Cur_anyNetwork c = some y) : s_l1Cur_anyNetwork_M.C c y := s_l1Cur_anyNetwork_M.c c hm
theorem s_l1Cur_anyNetwork_ok : FnOK Try.prog 230 s_l1Cur_anyNetwork_M.S := by
 refine fm tt s_l1Cur_anyNetwork_M [fo s_l1Cur_network_t_ok, fo s_l1Cur_pick_ok, fo s_l1Cur_of_w_ok, fo s_l1Cur_among_w_ok, fo s_l1Num_ok, fo s_l1Cur_line_ok] Try.call230 Try.func230 rfl Try.results230 Try.ntmps230 ?_
 rintro c y cx G hm
 have hm : s_l1Cur_anyNetwork c = some y := hm
 unfold s_l1Cur_anyNetwork at hm
 refine rg G ?_
 obtain ⟨r, h, hm⟩ := obind hm
 refine rs G (hC 1 (s_l1Cur_network_t_c h) h0) ?_
 obtain ⟨r1, h1, hm⟩ := obind hm
 refine rs G (hN 3 r.1.Lines (hC 4 (s_l1Cur_pick_c h1) h0)) ?_
 obtain ⟨e, h2, hm⟩ := obind hm
 refine rs G (hD 3 h2 (hE 4 h2 h0)) ?_
 refine jF hm (fun (v, v1, v2, v3, v4, v5, v6) => ⟨[(0, .ref 0 0), (2, .ref 32 0), (3, .ref 48 0), (4, dV r1.1), (5, .ref 64 0)], [bX 0 [dV v, dV v1, kV .u64 v2], bX 32 [.dat (.sc (.slice none 0 0)), .dat (.sc (.slice none 0 0))], bX 48 [.own 80, .own 96], bX 64 [dV v3, .row 96 96 r1.1.toNat 1, .own 112], aX 80 9 v4, tX 96 236 [none, some 3, some 3] v5 96 (some (r1.1.toNat, 2)), aX 112 3 v6], 144⟩) (fun v17 hr hm => ?_) ?_
 ·obtain ⟨r2, h3, hm⟩ := obind hm
  refine rs G (hC 1 (s_l1Cur_pick_c h3) h0) ?_
  refine Ok_block (rg G (cd hm (fun hm => ?_) (fun hm => ?_)))
  ·obtain ⟨r4, h6, hm⟩ := obind hm
   obtain ⟨e2, h7, hm⟩ := obind hm
   refine de G [(4, [0, 416]), (6, [48])] (hC 4 (s_l1Cur_of_w_c h6) (hD 5 h7 (hS 6 h7 r4.1 h0))) ?_
   exact ibN (wFp hm (Wk.trans (Wk_S (.c 272 2) (Enc.e e) (.cons (idx_m2 (f := Enc.e) (l := r.1.Lines) (i := r1.1) h2) .nil) (by kernel_rfl)) (Wk_J G.hL ⟨[(0, []), (2, []), (3, []), (4, []), (5, [])], [(0, 0, []), (32, 16, []), (48, 64, []), (64, 272, []), (80, 48, []), (96, 49, []), (112, 480, [])], [], 144⟩ (by kernel_rfl))))
  ·refine rg G (cd hm (fun hm => ?_) (fun hm => ?_))
   ·obtain ⟨r5, h8, hm⟩ := obind hm
    refine re G (hC 2 (s_l1Cur_of_w_c h8) h0) ?_
    exact ibN (wFp hm (Wk.trans (Wk_S (.c 272 2) (Enc.e e) (.cons (idx_m2 (f := Enc.e) (l := r.1.Lines) (i := r1.1) h2) .nil) (by kernel_rfl)) (Wk_J G.hL ⟨[(0, []), (2, []), (3, []), (4, []), (5, [])], [(0, 0, []), (32, 16, []), (48, 64, []), (64, 272, []), (80, 48, []), (96, 49, []), (112, 480, [])], [], 144⟩ (by kernel_rfl))))
   ·refine rg G (cd hm (fun hm => ?_) (fun hm => ?_))
    ·obtain ⟨r8, h12, hm⟩ := obind hm
     obtain ⟨r9, h13, hm⟩ := obind hm
     obtain ⟨e4, h14, hm⟩ := obind hm
     refine de G [(6, [0]), (8, [0]), (11, [49])] (hO 5 (.dn (Enc.e e) (e.Stops.length : Int)) (hP (idx_m2 (f := Enc.e) h2) (hP (len_m Enc.e e.Stops) (hC 6 (s_l1Cur_pick_c h12) (hC 8 (s_l1Cur_pick_c h13) (hE 10 h2 (hP (idx_b (f := Enc.e) h14) (hO 11 (.sd2 (Enc.e e) (Enc.e e4) (List.map Enc.e (e.Stops.set r8.1.toNat (w64 (r9.1 - 1)))) (List.map Enc.e (r.1.Lines.set r1.1.toNat (⟨e.Name, (e.Stops.set r8.1.toNat (w64 (r9.1 - 1))), e.Runs⟩ : Line)))) (hP (idx_m2 (f := Enc.e) h2) (hP (idx_m2 (f := Enc.e) h14) (hP (set_m Enc.e e.Stops r8.1.toNat (w64 (r9.1 - 1))) (hP (set_m Enc.e r.1.Lines r1.1.toNat (⟨e.Name, (e.Stops.set r8.1.toNat (w64 (r9.1 - 1))), e.Runs⟩ : Line)) h0)))))))))))) ?_
     exact ibN (wFp hm (Wk.trans (Wk_S (.c 272 2) (Enc.e (⟨e.Name, (e.Stops.set r8.1.toNat (w64 (r9.1 - 1))), e.Runs⟩ : Line)) (.cons (idx_m2 (f := Enc.e) (l := (r.1.Lines.set r1.1.toNat (⟨e.Name, (e.Stops.set r8.1.toNat (w64 (r9.1 - 1))), e.Runs⟩ : Line))) (i := r1.1) (idx_set (y := (⟨e.Name, (e.Stops.set r8.1.toNat (w64 (r9.1 - 1))), e.Runs⟩ : Line)) h2)) .nil) (by kernel_rfl)) (Wk_J G.hL ⟨[(0, []), (2, []), (3, []), (4, []), (5, [])], [(0, 0, []), (32, 16, []), (48, 64, []), (64, 272, []), (80, 48, []), (96, 49, []), (112, 624, [])], [], 144⟩ (by kernel_rfl))))
    ·refine rg G (cd hm (fun hm => ?_) (fun hm => ?_))
     ·obtain ⟨r12, h18, hm⟩ := obind hm
      obtain ⟨r13, h19, hm⟩ := obind hm
      obtain ⟨e6, h20, hm⟩ := obind hm
      refine de G [(6, [0]), (9, [0, 592]), (11, [49])] (hO 5 (.dn (Enc.e e) (e.Runs.length : Int)) (hP (idx_m2 (f := Enc.e) h2) (hP (len_m Enc.e e.Runs) (hC 6 (s_l1Cur_pick_c h18) (hC 9 (s_l1Cur_among_w_c h19) (hE 10 h2 (hP (idx_b (f := Enc.e) h20) (hO 11 (.sd2 (Enc.e e) (Enc.e e6) (List.map Enc.e (e.Runs.set r12.1.toNat r13.1)) (List.map Enc.e (r.1.Lines.set r1.1.toNat (⟨e.Name, e.Stops, (e.Runs.set r12.1.toNat r13.1)⟩ : Line)))) (hP (idx_m2 (f := Enc.e) h2) (hP (idx_m2 (f := Enc.e) h20) (hP (set_m Enc.e e.Runs r12.1.toNat r13.1) (hP (set_m Enc.e r.1.Lines r1.1.toNat (⟨e.Name, e.Stops, (e.Runs.set r12.1.toNat r13.1)⟩ : Line)) h0)))))))))))) ?_
      exact ibN (wFp hm (Wk.trans (Wk_S (.c 272 2) (Enc.e (⟨e.Name, e.Stops, (e.Runs.set r12.1.toNat r13.1)⟩ : Line)) (.cons (idx_m2 (f := Enc.e) (l := (r.1.Lines.set r1.1.toNat (⟨e.Name, e.Stops, (e.Runs.set r12.1.toNat r13.1)⟩ : Line))) (i := r1.1) (idx_set (y := (⟨e.Name, e.Stops, (e.Runs.set r12.1.toNat r13.1)⟩ : Line)) h2)) .nil) (by kernel_rfl)) (Wk_J G.hL ⟨[(0, []), (2, []), (3, []), (4, []), (5, [])], [(0, 0, []), (32, 16, []), (48, 64, []), (64, 272, []), (80, 48, []), (96, 49, []), (112, 656, [])], [], 144⟩ (by kernel_rfl))))
     ·refine rg G (cd hm (fun hm => ?_) (fun hm => ?_))
      ·obtain ⟨u, h21, hm⟩ := obind hm
       refine re G (hO 3 (.sd (Enc.e e) (List.map Enc.e (e.Runs ++ ([3] : List Int)))) (hP (idx_m2 (f := Enc.e) h2) (hP (app_p (f := Enc.e) (g := Enc.e) (l := e.Runs) (r := ([3] : List Int)) (b := 8) (chk_t h21) rfl) (hP (app_m Enc.e e.Runs ([3] : List Int)) h0)))) ?_
       exact ibN (wF G hm)
      ·refine rg G (cd hm (fun hm => ?_) (fun hm => ?_))
       ·refine rg G (rg G ?_)
        have hm := eR hm hr
        cases hm
        exact rt [48] []
       ·refine rg G (cd hm (fun hm => ?_) (fun hm => ?_))
        ·refine Ok_seq (rg G (tl hm (fun (v13, v14, v15, v16) => ⟨[(0, .ref 0 0), (2, .ref 32 0), (3, .ref 48 0)], [bX 0 [dV v13, dV v14, kV .u64 v15], bX 32 [.dat (.sc (.slice none 0 0)), .dat (.sc (.slice none 0 0))], bX 48 [.own 64, .own 80], aX 64 9 r.1.Stops, tX 80 236 [none, some 3, some 3] v16 80 none], 112⟩) (fun vv hm => ?_) ?_))
         ·refine Ok_block (lp G hm (fun (v7, v8, v9, v10, v11) => ⟨[(0, .ref 0 0), (2, .ref 32 0), (3, .ref 48 0), (6, dV v7)], [bX 0 [dV v8, dV v9, kV .u64 v10], bX 32 [.dat (.sc (.slice none 0 0)), .dat (.sc (.slice none 0 0))], bX 48 [.own 64, .own 80], aX 64 9 r.1.Stops, tX 80 236 [none, some 3, some 3] v11 80 none], 112⟩) ?_)
          rintro ⟨v7, v8, v9, v10, v11⟩ r0 hb hm
          rw [s_l1Cur_anyNetwork_L1] at hm
          refine Ok_seq ?_
          obtain ⟨r16, h23, hm⟩ := obind hm
          refine jn hm (fun v12 => ⟨[(0, .ref 0 0), (2, .ref 32 0), (3, .ref 48 0), (6, dV v7), (85, dV v12)], [bX 0 [dV r16.2.code_, dV r16.2.at_, kV .u64 r16.2.seed_.v], bX 32 [.dat (.sc (.slice none 0 0)), .dat (.sc (.slice none 0 0))], bX 48 [.own 64, .own 80], aX 64 9 r.1.Stops, tX 80 236 [none, some 3, some 3] v11 80 none], 112⟩) (fun v12 hm => ?_) ?_
          ·rcases bf hm with ⟨hb1, hm⟩ | ⟨hb1, hm⟩
           ·refine de G [(4, [0])] (hN 2 v11 (hC 4 (s_l1Cur_pick_c h23) (hO 7 (.b true) (hP hb1 h0)))) ?_
            exact wJ G hm
           ·refine de G [(4, [0])] (hN 2 v11 (hC 4 (s_l1Cur_pick_c h23) (hO 7 (.b false) (hP hb1 h0)))) ?_
            exact wJ G hm
          rintro v12 hm
          refine cd hm (fun hm => ?_) (fun hm => ?_)
          ·refine X_skip (thN (Ok_seq (Ok_block ?_)))
           obtain ⟨r19, h28, hm⟩ := obind hm
           obtain ⟨u3, h29, hm⟩ := obind hm
           obtain ⟨r20, h30, hm⟩ := obind hm
           obtain ⟨u4, h31, hm⟩ := obind hm
           refine de G [(9, [0]), (10, [256, 257]), (11, [80, 272]), (13, [48, 288])] (hC 4 (s_l1Num_c h28) (hP (cat_p (chk_t h29)) (hN 8 r.1.Stops (hC 9 (s_l1Cur_line_c h30) (hP (nodupB_ok (l := [256, 257]) rfl) (hA 11 64 h31 h0)))))) ?_
           exact ibN (thN (rh G (wL G hm)))
          ·exact Ok_exit (thE (thE (ibE (wD G hm hb))))
         rintro ⟨v13, v14, v15, v16⟩ hm s hw
         refine thN (Ok_weak hw ?_)
         refine rg G ?_
         have hm := eR hm hr
         cases hm
         exact rt [64] []
        ·exact X_skip (ibN (wFp hm (Wk.trans (Wk_S (.c 272 2) (Enc.e e) (.cons (idx_m2 (f := Enc.e) (l := r.1.Lines) (i := r1.1) h2) .nil) (by kernel_rfl)) (Wk_J G.hL ⟨[(0, []), (2, []), (3, []), (4, []), (5, [])], [(0, 0, []), (32, 16, []), (48, 64, []), (64, 272, []), (80, 48, []), (96, 49, []), (112, 560, [])], [], 144⟩ (by kernel_rfl)))))
 rintro ⟨v, v1, v2, v3, v4, v5, v6⟩ hm
 obtain ⟨e9, h32, hm⟩ := obind hm
 refine rs G (hD 4 h32 (hS 5 h32 (⟨v3, e9.Stops, v6⟩ : Line) (hP (Eq.refl r1.1.toNat) (hP (Eq.refl r1.1.toNat) h0)))) ?_
 refine rg G ?_
 cases hm
 exact rt [80] []
noncomputable def s_l1Cur_anyTimetable_M : MS l1Cur (Timetable × l1Cur) := ⟨.b, s_l1Cur_anyTimetable, fun y => .aggv [.own 0, dV y.1.Network.Lines, .own 1], fun y => [arO 9 y.1.Network.Stops, arO 81 y.1.Trips], fun _ y => [bxO y.2]⟩
theorem s_l1Cur_anyTimetable_c {c y} (hm : s_l1Cur_anyTimetable c = some y) : s_l1Cur_anyTimetable_M.C c y := s_l1Cur_anyTimetable_M.c c hm
theorem s_l1Cur_anyTimetable_ok : FnOK Try.prog 156 s_l1Cur_anyTimetable_M.S := by
 refine fm tt s_l1Cur_anyTimetable_M [fo s_l1Cur_timetable_ok, fo s_l1Cur_pick_ok, fo s_l1Cur_among_ok, fo s_l1Cur_anyNetwork_ok] Try.call156 Try.func156 rfl Try.results156 Try.ntmps156 ?_
 rintro c y cx G hm
 have hm : s_l1Cur_anyTimetable c = some y := hm
 unfold s_l1Cur_anyTimetable at hm
 refine rg G ?_
 obtain ⟨r, h, hm⟩ := obind hm
 refine rs G (hC 1 (s_l1Cur_timetable_c h) h0) ?_
 refine Ok_seq (rs G (hN 2 r.1.Trips h0) ?_)
 refine cd hm (fun hm => ?_) (fun hm => ?_)
 ·refine rg G ?_
  cases hm
  exact rt [48, 50] []
 ·refine X_skip (thN ?_)
  obtain ⟨r1, h1, hm⟩ := obind hm
  refine rs G (hN 3 r.1.Trips (hC 4 (s_l1Cur_pick_c h1) h0)) ?_
  obtain ⟨e, h2, hm⟩ := obind hm
  refine rs G (hD 3 h2 (hE 4 h2 h0)) ?_
  refine jF hm (fun (v, v1, v2, v3, v4, v5, v6, v7) => ⟨[(0, .ref 0 0), (2, .ref 32 0), (3, .ref 48 0), (4, dV r1.1), (5, .ref 64 0)], [bX 0 [dV v, dV v1, kV .u64 v2], bX 32 [.dat (.sc (.slice none 0 0)), .dat (.sc (.slice none 0 0)), .dat (.sc (.slice none 0 0))], bX 48 [.own 80, dV v3, .own 96], bX 64 [dV v4, dV v5, dV v6], aX 80 9 v7, aX 96 81 r.1.Trips], 128⟩) (fun v18 hr hm => ?_) ?_
  ·obtain ⟨r2, h3, hm⟩ := obind hm
   refine rs G (hC 1 (s_l1Cur_pick_c h3) h0) ?_
   refine Ok_block (rg G (cd hm (fun hm => ?_) (fun hm => ?_)))
   ·obtain ⟨r3, h4, hm⟩ := obind hm
    refine re G (hO 2 (.fz [448] [] []) (hC 2 (s_l1Cur_among_c h4) h0)) ?_
    exact ibN (wF G hm)
   ·refine rg G (cd hm (fun hm => ?_) (fun hm => ?_))
    ·obtain ⟨r4, h5, hm⟩ := obind hm
     refine re G (hC 1 (s_l1Cur_pick_c h5) h0) ?_
     exact ibN (wF G hm)
    ·refine rg G (cd hm (fun hm => ?_) (fun hm => ?_))
     ·obtain ⟨r5, h6, hm⟩ := obind hm
      refine re G (hO 2 (.fz [512] [] []) (hC 2 (s_l1Cur_among_c h6) h0)) ?_
      exact ibN (wF G hm)
     ·refine rg G (cd hm (fun hm => ?_) (fun hm => ?_))
      ·obtain ⟨r6, h7, hm⟩ := obind hm
       refine re G (hC 1 (s_l1Cur_anyNetwork_c h7) h0) ?_
       exact ibN (wF G hm)
      ·refine rg G (cd hm (fun hm => ?_) (fun hm => ?_))
       ·refine Ok_seq (rg G (tl hm (fun (v14, v15, v16, v17) => ⟨[(0, .ref 0 0), (2, .ref 32 0), (3, .ref 48 0)], [bX 0 [dV v14, dV v15, kV .u64 v16], bX 32 [.dat (.sc (.slice none 0 0)), .dat (.sc (.slice none 0 0)), .dat (.sc (.slice none 0 0))], bX 48 [.own 64, .own 80, .own 96], aX 64 9 r.1.Network.Stops, aX 80 236 r.1.Network.Lines, aX 96 81 v17], 128⟩) (fun vv hm => ?_) ?_))
        ·refine Ok_block (lp G hm (fun (v8, v9, v10, v11, v12) => ⟨[(0, .ref 0 0), (2, .ref 32 0), (3, .ref 48 0), (6, dV v8)], [bX 0 [dV v9, dV v10, kV .u64 v11], bX 32 [.dat (.sc (.slice none 0 0)), .dat (.sc (.slice none 0 0)), .dat (.sc (.slice none 0 0))], bX 48 [.own 64, .own 80, .own 96], aX 64 9 r.1.Network.Stops, aX 80 236 r.1.Network.Lines, aX 96 81 v12], 128⟩) ?_)
         rintro ⟨v8, v9, v10, v11, v12⟩ r0 hb hm
         rw [s_l1Cur_anyTimetable_L1] at hm
         refine Ok_seq ?_
         obtain ⟨r8, h9, hm⟩ := obind hm
         refine jn hm (fun v13 => ⟨[(0, .ref 0 0), (2, .ref 32 0), (3, .ref 48 0), (6, dV v8), (61, dV v13)], [bX 0 [dV r8.2.code_, dV r8.2.at_, kV .u64 r8.2.seed_.v], bX 32 [.dat (.sc (.slice none 0 0)), .dat (.sc (.slice none 0 0)), .dat (.sc (.slice none 0 0))], bX 48 [.own 64, .own 80, .own 96], aX 64 9 r.1.Network.Stops, aX 80 236 r.1.Network.Lines, aX 96 81 v12], 128⟩) (fun v13 hm => ?_) ?_
         ·rcases bf hm with ⟨hb1, hm⟩ | ⟨hb1, hm⟩
          ·refine de G [(4, [0])] (hN 2 v12 (hC 4 (s_l1Cur_pick_c h9) (hO 7 (.b true) (hP hb1 h0)))) ?_
           exact wJ G hm
          ·refine de G [(4, [0])] (hN 2 v12 (hC 4 (s_l1Cur_pick_c h9) (hO 7 (.b false) (hP hb1 h0)))) ?_
           exact wJ G hm
         rintro v13 hm
         refine cd hm (fun hm => ?_) (fun hm => ?_)
         ·refine X_skip (thN (Ok_seq (Ok_block ?_)))
          obtain ⟨u, h10, hm⟩ := obind hm
          refine re G (hA 8 24 h10 h0) ?_
          exact ibN (thN (rh G (wL G hm)))
         ·exact Ok_exit (thE (thE (ibE (wD G hm hb))))
        rintro ⟨v14, v15, v16, v17⟩ hm s hw
        refine thN (Ok_weak hw ?_)
        refine rg G ?_
        have hm := eR hm hr
        cases hm
        exact rt [64, 96] []
       ·exact X_skip (ibN (wF G hm))
  rintro ⟨v, v1, v2, v3, v4, v5, v6, v7⟩ hm
  obtain ⟨e2, h11, hm⟩ := obind hm
  refine rs G (hD 4 h11 (hS 5 h11 (⟨v4, v5, v6⟩ : Trip) h0)) ?_
  refine rg G ?_
  cases hm
  exact rt [80, 96] []
noncomputable def s_DrawRepeatTrips_M : MS ((List UInt8)) (Timetable × Int × Int × Int × Int) := ⟨.r, s_DrawRepeatTrips, fun y => .tup [.aggv [.own 0, dV y.1.Network.Lines, .own 1], dV y.2.1, dV y.2.2.1, dV y.2.2.2.1, dV y.2.2.2.2], fun y => [arO 9 y.1.Network.Stops, arO 81 y.1.Trips], fun _ _ => []⟩
theorem s_DrawRepeatTrips_c {code y} (hm : s_DrawRepeatTrips code = some y) : s_DrawRepeatTrips_M.C code y := s_DrawRepeatTrips_M.c code hm
theorem s_DrawRepeatTrips_ok : FnOK Try.prog 93 s_DrawRepeatTrips_M.S := by
 refine fm tt s_DrawRepeatTrips_M [fo s_l1Cur_time_ok, fo s_l1Cur_anyTimetable_ok, fo s_l1Cur_pick_ok, fo s_l1Cur_among_ok] Try.call93 Try.func93 rfl Try.results93 Try.ntmps93 ?_
 rintro code y cx G hm
 have hm : s_DrawRepeatTrips code = some y := hm
 unfold s_DrawRepeatTrips at hm
 refine rg G (rg G ?_)
 obtain ⟨r, h, hm⟩ := obind hm
 refine rs G (hC 1 (s_l1Cur_time_c h) h0) ?_
 obtain ⟨r1, h1, hm⟩ := obind hm
 obtain ⟨r2, h2, hm⟩ := obind hm
 obtain ⟨r3, h3, hm⟩ := obind hm
 obtain ⟨u, h4, hm⟩ := obind hm
 obtain ⟨r4, h5, hm⟩ := obind hm
 obtain ⟨r5, h6, hm⟩ := obind hm
 refine rs G (hC 1 (s_l1Cur_anyTimetable_c h1) (hC 3 (s_l1Cur_pick_c h2) (hC 5 (s_l1Cur_pick_c h3) (hK h4 (hO 12 (.fz [384] [] []) (hC 12 (s_l1Cur_among_c h5) (hO 16 (.fz [448] [] []) (hC 16 (s_l1Cur_among_c h6) h0)))))))) ?_
 cases hm
 exact rt [224, 225] []
noncomputable def i_within_M : MS (Int × Int × Int) Bool := ⟨.x .r (.x .r .r), fun x => i_within x.1 x.2.1 x.2.2, fun y => dV y, fun _ => [], fun _ _ => []⟩
theorem i_within_c {n lo hi y} (hm : i_within n lo hi = some y) : i_within_M.C (n, lo, hi) y := i_within_M.c (n, lo, hi) hm
theorem i_within_ok : FnOK Try.prog 169 i_within_M.S := by
 refine fm tt i_within_M [] Try.call169 Try.func169 rfl Try.results169 Try.ntmps169 ?_
 rintro ⟨n, lo, hi⟩ y cx G hm
 have hm : i_within n lo hi = some y := hm
 unfold i_within at hm
 refine rg G (jn hm (fun v => ⟨[(6, dV v)], [], 32⟩) (fun v hm => ?_) ?_)
 ·rcases bf hm with ⟨hb, hm⟩ | ⟨hb, hm⟩
  ·refine re G (hO 3 (.b true) (hP hb h0)) ?_
   exact wJ G hm
  ·refine re G (hO 3 (.b false) (hP hb h0)) ?_
   exact wJ G hm
 rintro v hm
 cases hm
 exact rt [] []
noncomputable def i_isName_M : MS ByteArray Bool := ⟨.r, i_isName, fun y => dV y, fun _ => [], fun _ _ => []⟩
theorem i_isName_c {s y} (hm : i_isName s = some y) : i_isName_M.C s y := i_isName_M.c s hm
theorem i_isName_ok : FnOK Try.prog 197 i_isName_M.S := by
 refine fm tt i_isName_M [] Try.call197 Try.func197 rfl Try.results197 Try.ntmps197 ?_
 rintro s y cx G hm
 have hm : i_isName s = some y := hm
 unfold i_isName at hm
 refine rg G (Ok_seq (jn hm (fun v => ⟨[(0, dV s), (12, dV v)], [], 32⟩) (fun v hm => ?_) ?_))
 ·rcases bf hm with ⟨hb, hm⟩ | ⟨hb, hm⟩
  ·refine re G (hO 3 (.b true) (hP hb h0)) ?_
   exact wJ G hm
  ·refine re G (hO 3 (.b false) (hP hb h0)) ?_
   exact wJ G hm
 rintro v hm
 refine cd hm (fun hm => ?_) (fun hm => ?_)
 ·refine rg G ?_
  cases hm
  exact rt [] []
 ·refine X_skip (thN (Ok_seq (rg G (tF hm (fun _ => ⟨[], [], 32⟩) (fun v4 hr hm => ?_) ?_))))
  ·refine Ok_block (lp G hm (fun v1 => ⟨[(0, dV s), (14, dV (s.size : Int)), (15, dV v1)], [], 32⟩) ?_)
   rintro v1 r0 hb1 hm
   rw [i_isName_L1] at hm
   refine rg G (Ok_seq (cd hm (fun hm => ?_) (fun hm => ?_)))
   ·refine X_skip (thN (Ok_seq (Ok_block (rg G ?_))))
    obtain ⟨u, h, hm⟩ := obind hm
    refine jn hm (fun v2 => ⟨[(0, dV s), (3, dV v1), (4, dV v2), (14, dV (s.size : Int)), (15, dV v1)], [], 32⟩) (fun v2 hm => ?_) ?_
    ·rcases bf hm with ⟨hb2, hm⟩ | ⟨hb2, hm⟩
     ·obtain ⟨u1, h1, hm⟩ := obind hm
      refine re G (hK h (hO 4 (.b true) (hP hb2 (hK h1 h0)))) ?_
      exact wJ G hm
     ·refine re G (hK h (hO 4 (.b false) (hP hb2 h0))) ?_
      exact wJ G hm
    rintro v2 hm
    refine jn hm (fun v3 => ⟨[(0, dV s), (14, dV (s.size : Int)), (15, dV v1), (45, dV v3)], [], 32⟩) (fun v3 hm => ?_) ?_
    ·rcases bf hm with ⟨hb3, hm⟩ | ⟨hb3, hm⟩
     ·rcases bf hm with ⟨hb4, hm⟩ | ⟨hb4, hm⟩
      ·refine re G (hO 2 (.b true) (hP hb3 (hO 5 (.b true) (hP hb4 h0)))) ?_
       exact wJ G hm
      ·obtain ⟨u2, h2, hm⟩ := obind hm
       rcases bf hm with ⟨hb5, hm⟩ | ⟨hb5, hm⟩
       ·refine re G (hO 2 (.b true) (hP hb3 (hO 5 (.b false) (hP hb4 (hK h2 (hO 11 (.b true) (hP hb5 h0))))))) ?_
        exact wJ G hm
       ·obtain ⟨u3, h3, hm⟩ := obind hm
        refine re G (hO 2 (.b true) (hP hb3 (hO 5 (.b false) (hP hb4 (hK h2 (hO 11 (.b false) (hP hb5 (hK h3 h0)))))))) ?_
        exact wJ G hm
     ·refine re G (hO 2 (.b false) (hP hb3 h0)) ?_
      exact wJ G hm
    rintro v3 hm
    refine cd hm (fun hm => ?_) (fun hm => ?_)
    ·refine rg G ?_
     have hm := eL hm hb1 hr
     cases hm
     exact rt [] []
    ·exact X_skip (ibN (thN (rh G (wL G hm))))
   ·exact Ok_exit (thE (thE (ibE (wE G hm hb1))))
  rintro ⟨⟩ hm s1 hw
  refine thN (Ok_weak hw ?_)
  refine rg G ?_
  cases hm
  exact rt [] []
noncomputable def slices_Index_string_M : MS ((List ByteArray) × ByteArray) Int := ⟨.x .r .r, fun x => slices_Index_string x.1 x.2, fun y => dV y, fun _ => [], fun _ _ => []⟩
theorem slices_Index_string_c {s v y} (hm : slices_Index_string s v = some y) : slices_Index_string_M.C (s, v) y := slices_Index_string_M.c (s, v) hm
theorem slices_Index_string_ok : FnOK Try.prog 304 slices_Index_string_M.S := by
 refine fm tt slices_Index_string_M [] Try.call304 Try.func304 rfl Try.results304 Try.ntmps304 ?_
 rintro ⟨s, v⟩ y cx G hm
 have hm : slices_Index_string s v = some y := hm
 unfold slices_Index_string at hm
 refine rg G (Ok_seq (rs G (hN 1 s h0) ?_))
 refine tF hm (fun _ => ⟨[], [], 32⟩) (fun v2 hr hm => ?_) ?_
 ·refine Ok_block (lp G hm (fun v1 => ⟨[(0, dV s), (1, dV v), (7, dV (s.length : Int)), (8, dV v1)], [], 32⟩) ?_)
  rintro v1 r0 hb hm
  rw [slices_Index_string_L1] at hm
  refine rg G (Ok_seq (cd hm (fun hm => ?_) (fun hm => ?_)))
  ·refine X_skip (thN (Ok_seq (Ok_block (rg G ?_))))
   obtain ⟨e, h, hm⟩ := obind hm
   refine rs G (hD 3 h h0) ?_
   refine cd hm (fun hm => ?_) (fun hm => ?_)
   ·refine rg G ?_
    have hm := eL hm hb hr
    cases hm
    exact rt [] []
   ·exact X_skip (ibN (thN (rh G (wL G hm))))
  ·exact Ok_exit (thE (thE (ibE (wE G hm hb))))
 rintro ⟨⟩ hm s1 hw
 refine thN (Ok_weak hw ?_)
 refine rg G ?_
 cases hm
 exact rt [] []
noncomputable def i_areNames_M : MS ((List ByteArray)) Bool := ⟨.r, i_areNames, fun y => dV y, fun _ => [], fun _ _ => []⟩
theorem i_areNames_c {names y} (hm : i_areNames names = some y) : i_areNames_M.C names y := i_areNames_M.c names hm
theorem i_areNames_ok : FnOK Try.prog 237 i_areNames_M.S := by
 refine fm tt i_areNames_M [fo i_isName_ok, fo slices_Index_string_ok] Try.call237 Try.func237 rfl Try.results237 Try.ntmps237 ?_
 rintro names y cx G hm
 have hm : i_areNames names = some y := hm
 unfold i_areNames at hm
 refine rg G (Ok_seq (rs G (hN 1 names h0) ?_))
 refine tF hm (fun _ => ⟨[], [], 32⟩) (fun v2 hr hm => ?_) ?_
 ·refine Ok_block (lp G hm (fun v => ⟨[(0, dV names), (5, dV names), (6, dV (names.length : Int)), (7, dV v)], [], 32⟩) ?_)
  rintro v r0 hb hm
  rw [i_areNames_L1] at hm
  refine rg G (Ok_seq (cd hm (fun hm => ?_) (fun hm => ?_)))
  ·refine X_skip (thN (Ok_seq (Ok_block ?_)))
   obtain ⟨e, h, hm⟩ := obind hm
   refine rs G (hD 1 h h0) ?_
   obtain ⟨r, h1, hm⟩ := obind hm
   refine jn hm (fun v1 => ⟨[(0, dV names), (5, dV names), (6, dV (names.length : Int)), (7, dV v), (21, dV v1)], [], 32⟩) (fun v1 hm => ?_) ?_
   ·rcases bf hm with ⟨hb1, hm⟩ | ⟨hb1, hm⟩
    ·refine re G (hC 1 (i_isName_c h1) (hO 3 (.b true) (hP hb1 h0))) ?_
     exact wJ G hm
    ·obtain ⟨r1, h2, hm⟩ := obind hm
     refine re G (hC 1 (i_isName_c h1) (hO 3 (.b false) (hP hb1 (hC 6 (slices_Index_string_c h2) h0)))) ?_
     exact wJ G hm
   rintro v1 hm
   refine cd hm (fun hm => ?_) (fun hm => ?_)
   ·refine rg G ?_
    have hm := eL hm hb hr
    cases hm
    exact rt [] []
   ·exact X_skip (ibN (thN (rh G (wL G hm))))
  ·exact Ok_exit (thE (thE (ibE (wE G hm hb))))
 rintro ⟨⟩ hm s hw
 refine thN (Ok_weak hw ?_)
 refine rg G ?_
 cases hm
 exact rt [] []
noncomputable def i_lineNames_M : MS Network ((List ByteArray)) := ⟨.r, i_lineNames, fun _ => .own 0, fun y => [arO 9 y], fun _ _ => []⟩
theorem i_lineNames_c {n y} (hm : i_lineNames n = some y) : i_lineNames_M.C n y := i_lineNames_M.c n hm
theorem i_lineNames_ok : FnOK Try.prog 238 i_lineNames_M.S := by
 refine fm tt i_lineNames_M [] Try.call238 Try.func238 rfl Try.results238 Try.ntmps238 ?_
 rintro n y cx G hm
 have hm : i_lineNames n = some y := hm
 unfold i_lineNames at hm
 refine rg G ?_
 obtain ⟨u, h, hm⟩ := obind hm
 refine rs G (hN 2 n.Lines (hO 3 (.l (List.map Enc.e (List.replicate (n.Lines.length : Int).toNat (ByteArray.empty : ByteArray)))) (hP (mk_p (b := 16) (chk_t h) rfl) (hP (rep_m Enc.e (n.Lines.length : Int).toNat (ByteArray.empty : ByteArray)) h0)))) ?_
 refine Ok_seq (rs G (hN 2 n.Lines h0) ?_)
 refine tl hm (fun i1 => ⟨[(3, .own 16)], [aX 16 9 i1], 48⟩) (fun i1 hm => ?_) ?_
 ·refine Ok_block (lp G hm (fun (v, i) => ⟨[(3, .own 16), (11, dV n.Lines), (12, dV (n.Lines.length : Int)), (13, dV v)], [aX 16 9 i], 48⟩) ?_)
  rintro ⟨v, i⟩ r0 hb hm
  rw [i_lineNames_L1] at hm
  refine rg G (Ok_seq (cd hm (fun hm => ?_) (fun hm => ?_)))
  ·refine X_skip (thN (Ok_seq (Ok_block ?_)))
   obtain ⟨e, h1, hm⟩ := obind hm
   refine rs G (hD 1 h1 h0) ?_
   obtain ⟨e1, h2, hm⟩ := obind hm
   refine re G (hD 4 h2 (hS 5 h2 e.Name h0)) ?_
   exact ibN (thN (rh G (wL G hm)))
  ·exact Ok_exit (thE (thE (ibE (wD G hm hb))))
 rintro i1 hm s hw
 refine thN (Ok_weak hw ?_)
 refine rg G ?_
 cases hm
 exact rt [16] []
noncomputable def i_isStop_M : MS (Network × Int) Bool := ⟨.x .r .r, fun x => i_isStop x.1 x.2, fun y => dV y, fun _ => [], fun _ _ => []⟩
theorem i_isStop_c {n stop y} (hm : i_isStop n stop = some y) : i_isStop_M.C (n, stop) y := i_isStop_M.c (n, stop) hm
theorem i_isStop_ok : FnOK Try.prog 107 i_isStop_M.S := by
 refine fm tt i_isStop_M [] Try.call107 Try.func107 rfl Try.results107 Try.ntmps107 ?_
 rintro ⟨n, stop⟩ y cx G hm
 have hm : i_isStop n stop = some y := hm
 unfold i_isStop at hm
 refine rg G (jn hm (fun v => ⟨[(4, dV v)], [], 32⟩) (fun v hm => ?_) ?_)
 ·rcases bf hm with ⟨hb, hm⟩ | ⟨hb, hm⟩
  ·refine re G (hO 2 (.b true) (hP hb (hN 6 n.Stops h0))) ?_
   exact wJ G hm
  ·refine re G (hO 2 (.b false) (hP hb h0)) ?_
   exact wJ G hm
 rintro v hm
 cases hm
 exact rt [] []
noncomputable def slices_Index_int_M : MS ((List Int) × Int) Int := ⟨.x .r .r, fun x => slices_Index_int x.1 x.2, fun y => dV y, fun _ => [], fun _ _ => []⟩
theorem slices_Index_int_c {s v y} (hm : slices_Index_int s v = some y) : slices_Index_int_M.C (s, v) y := slices_Index_int_M.c (s, v) hm
theorem slices_Index_int_ok : FnOK Try.prog 243 slices_Index_int_M.S := by
 refine fm tt slices_Index_int_M [] Try.call243 Try.func243 rfl Try.results243 Try.ntmps243 ?_
 rintro ⟨s, v⟩ y cx G hm
 have hm : slices_Index_int s v = some y := hm
 unfold slices_Index_int at hm
 refine rg G (Ok_seq (rs G (hN 1 s h0) ?_))
 refine tF hm (fun _ => ⟨[], [], 32⟩) (fun v2 hr hm => ?_) ?_
 ·refine Ok_block (lp G hm (fun v1 => ⟨[(0, dV s), (1, dV v), (7, dV (s.length : Int)), (8, dV v1)], [], 32⟩) ?_)
  rintro v1 r0 hb hm
  rw [slices_Index_int_L1] at hm
  refine rg G (Ok_seq (cd hm (fun hm => ?_) (fun hm => ?_)))
  ·refine X_skip (thN (Ok_seq (Ok_block (rg G ?_))))
   obtain ⟨e, h, hm⟩ := obind hm
   refine rs G (hD 3 h h0) ?_
   refine cd hm (fun hm => ?_) (fun hm => ?_)
   ·refine rg G ?_
    have hm := eL hm hb hr
    cases hm
    exact rt [] []
   ·exact X_skip (ibN (thN (rh G (wL G hm))))
  ·exact Ok_exit (thE (thE (ibE (wE G hm hb))))
 rintro ⟨⟩ hm s1 hw
 refine thN (Ok_weak hw ?_)
 refine rg G ?_
 cases hm
 exact rt [] []
noncomputable def i_isValidLine_M : MS (Network × Line) Bool := ⟨.x .r .r, fun x => i_isValidLine x.1 x.2, fun y => dV y, fun _ => [], fun _ _ => []⟩
theorem i_isValidLine_c {n l y} (hm : i_isValidLine n l = some y) : i_isValidLine_M.C (n, l) y := i_isValidLine_M.c (n, l) hm
theorem i_isValidLine_ok : FnOK Try.prog 239 i_isValidLine_M.S := by
 refine fm tt i_isValidLine_M [fo i_within_ok, fo i_isStop_ok, fo slices_Index_int_ok] Try.call239 Try.func239 rfl Try.results239 Try.ntmps239 ?_
 rintro ⟨n, l⟩ y cx G hm
 have hm : i_isValidLine n l = some y := hm
 unfold i_isValidLine at hm
 refine rg G (Ok_seq ?_)
 obtain ⟨r, h, hm⟩ := obind hm
 refine jn hm (fun v => ⟨[(2, .ref 16 0), (3, .ref 32 0), (23, dV v)], [bX 16 [dV n.Stops, dV n.Lines], bX 32 [dV l.Name, dV l.Stops, dV l.Runs]], 64⟩) (fun v hm => ?_) ?_
 ·rcases bf hm with ⟨hb, hm⟩ | ⟨hb, hm⟩
  ·refine re G (hN 2 l.Stops (hC 3 (i_within_c h) (hO 5 (.b true) (hP hb h0)))) ?_
   exact wJ G hm
  ·refine re G (hN 2 l.Stops (hC 3 (i_within_c h) (hO 5 (.b false) (hP hb (hN 8 l.Runs (hN 11 l.Stops h0)))))) ?_
   exact wJ G hm
 rintro v hm
 refine cd hm (fun hm => ?_) (fun hm => ?_)
 ·refine rg G ?_
  cases hm
  exact rt [] []
 ·refine X_skip (thN (Ok_seq (rs G (hN 2 l.Stops h0) ?_)))
  refine tF hm (fun _ => ⟨[(3, .ref 16 0)], [bX 16 [dV l.Name, dV l.Stops, dV l.Runs]], 48⟩) (fun v5 hr hm => ?_) ?_
  ·refine Ok_block (lp G hm (fun v1 => ⟨[(2, .ref 16 0), (3, .ref 32 0), (25, dV l.Stops), (26, dV (l.Stops.length : Int)), (27, dV v1)], [bX 16 [dV n.Stops, dV n.Lines], bX 32 [dV l.Name, dV l.Stops, dV l.Runs]], 64⟩) ?_)
   rintro v1 r0 hb1 hm
   rw [i_isValidLine_L1] at hm
   refine rg G (Ok_seq (cd hm (fun hm => ?_) (fun hm => ?_)))
   ·refine X_skip (thN (Ok_seq (Ok_block ?_)))
    obtain ⟨e, h1, hm⟩ := obind hm
    refine rs G (hD 1 h1 h0) ?_
    obtain ⟨r1, h2, hm⟩ := obind hm
    refine jn hm (fun v2 => ⟨[(2, .ref 16 0), (3, .ref 32 0), (25, dV l.Stops), (26, dV (l.Stops.length : Int)), (27, dV v1), (43, dV v2)], [bX 16 [dV n.Stops, dV n.Lines], bX 32 [dV l.Name, dV l.Stops, dV l.Runs]], 64⟩) (fun v2 hm => ?_) ?_
    ·rcases bf hm with ⟨hb2, hm⟩ | ⟨hb2, hm⟩
     ·refine re G (hC 2 (i_isStop_c h2) (hO 4 (.b true) (hP hb2 h0))) ?_
      exact wJ G hm
     ·obtain ⟨r2, h3, hm⟩ := obind hm
      refine re G (hC 2 (i_isStop_c h2) (hO 4 (.b false) (hP hb2 (hC 8 (slices_Index_int_c h3) h0)))) ?_
      exact wJ G hm
    rintro v2 hm
    refine cd hm (fun hm => ?_) (fun hm => ?_)
    ·refine rg G ?_
     have hm := eL hm hb1 hr
     cases hm
     exact rt [] []
    ·exact X_skip (ibN (thN (rh G (wL G hm))))
   ·exact Ok_exit (thE (thE (ibE (wE G hm hb1))))
  rintro ⟨⟩ hm s hw
  refine thN (Ok_weak hw ?_)
  refine Ok_seq (rs G (hN 2 l.Runs h0) ?_)
  refine tF hm (fun _ => ⟨[], [], 32⟩) (fun v4 hr1 hm => ?_) ?_
  ·refine Ok_block (lp G hm (fun v3 => ⟨[(46, dV l.Runs), (47, dV (l.Runs.length : Int)), (48, dV v3)], [], 32⟩) ?_)
   rintro v3 r0 hb3 hm
   rw [i_isValidLine_L2] at hm
   refine rg G (Ok_seq (cd hm (fun hm => ?_) (fun hm => ?_)))
   ·refine X_skip (thN (Ok_seq (Ok_block ?_)))
    obtain ⟨e2, h4, hm⟩ := obind hm
    refine rs G (hD 0 h4 h0) ?_
    obtain ⟨r4, h5, hm⟩ := obind hm
    refine rs G (hC 1 (i_within_c h5) h0) ?_
    refine cd hm (fun hm => ?_) (fun hm => ?_)
    ·refine rg G ?_
     have hm := eL hm hb3 hr1
     cases hm
     exact rt [] []
    ·exact X_skip (ibN (thN (rh G (wL G hm))))
   ·exact Ok_exit (thE (thE (ibE (wE G hm hb3))))
  rintro ⟨⟩ hm s1 hw1
  refine thN (Ok_weak hw1 ?_)
  refine rg G ?_
  cases hm
  exact rt [] []
noncomputable def i_IsValidNetwork_M : MS Network Bool := ⟨.r, i_IsValidNetwork, fun y => dV y, fun _ => [], fun _ _ => []⟩
theorem i_IsValidNetwork_c {n y} (hm : i_IsValidNetwork n = some y) : i_IsValidNetwork_M.C n y := i_IsValidNetwork_M.c n hm
theorem i_IsValidNetwork_ok : FnOK Try.prog 115 i_IsValidNetwork_M.S := by
 refine fm tt i_IsValidNetwork_M [fo i_within_ok, fo i_areNames_ok, fo i_lineNames_ok, fo i_isValidLine_ok] Try.call115 Try.func115 rfl Try.results115 Try.ntmps115 ?_
 rintro n y cx G hm
 have hm : i_IsValidNetwork n = some y := hm
 unfold i_IsValidNetwork at hm
 refine rg G (Ok_seq ?_)
 obtain ⟨r, h, hm⟩ := obind hm
 refine jn hm (fun v => ⟨[(1, .ref 16 0), (28, dV v)], [bX 16 [dV n.Stops, dV n.Lines]], 48⟩) (fun v hm => ?_) ?_
 ·rcases bf hm with ⟨hb, hm⟩ | ⟨hb, hm⟩
  ·refine re G (hN 2 n.Stops (hC 3 (i_within_c h) (hO 5 (.b true) (hP hb h0)))) ?_
   exact wJ G hm
  ·obtain ⟨r1, h1, hm⟩ := obind hm
   rcases bf hm with ⟨hb1, hm⟩ | ⟨hb1, hm⟩
   ·refine re G (hN 2 n.Stops (hC 3 (i_within_c h) (hO 5 (.b false) (hP hb (hN 8 n.Lines (hC 9 (i_within_c h1) (hO 12 (.b true) (hP hb1 h0)))))))) ?_
    exact wJ G hm
   ·obtain ⟨r2, h2, hm⟩ := obind hm
    rcases bf hm with ⟨hb2, hm⟩ | ⟨hb2, hm⟩
    ·refine re G (hN 2 n.Stops (hC 3 (i_within_c h) (hO 5 (.b false) (hP hb (hN 8 n.Lines (hC 9 (i_within_c h1) (hO 12 (.b false) (hP hb1 (hC 15 (i_areNames_c h2) (hO 18 (.b true) (hP hb2 h0))))))))))) ?_
     exact wJ G hm
    ·obtain ⟨r3, h3, hm⟩ := obind hm
     obtain ⟨r4, h4, hm⟩ := obind hm
     refine re G (hN 2 n.Stops (hC 3 (i_within_c h) (hO 5 (.b false) (hP hb (hN 8 n.Lines (hC 9 (i_within_c h1) (hO 12 (.b false) (hP hb1 (hC 15 (i_areNames_c h2) (hO 18 (.b false) (hP hb2 (hC 20 (i_lineNames_c h3) (hC 21 (i_areNames_c h4) h0))))))))))))) ?_
     exact wJ G hm
 rintro v hm
 refine cd hm (fun hm => ?_) (fun hm => ?_)
 ·refine rg G ?_
  cases hm
  exact rt [] []
 ·refine X_skip (thN (Ok_seq (rs G (hN 2 n.Lines h0) ?_)))
  refine tF hm (fun _ => ⟨[], [], 32⟩) (fun v2 hr hm => ?_) ?_
  ·refine Ok_block (lp G hm (fun v1 => ⟨[(1, .ref 16 0), (30, dV n.Lines), (31, dV (n.Lines.length : Int)), (32, dV v1)], [bX 16 [dV n.Stops, dV n.Lines]], 48⟩) ?_)
   rintro v1 r0 hb3 hm
   rw [i_IsValidNetwork_L1] at hm
   refine rg G (Ok_seq (cd hm (fun hm => ?_) (fun hm => ?_)))
   ·refine X_skip (thN (Ok_seq (Ok_block ?_)))
    obtain ⟨e, h5, hm⟩ := obind hm
    refine rs G (hD 0 h5 h0) ?_
    obtain ⟨r5, h6, hm⟩ := obind hm
    refine rs G (hC 2 (i_isValidLine_c h6) h0) ?_
    refine cd hm (fun hm => ?_) (fun hm => ?_)
    ·refine rg G ?_
     have hm := eL hm hb3 hr
     cases hm
     exact rt [] []
    ·exact X_skip (ibN (thN (rh G (wL G hm))))
   ·exact Ok_exit (thE (thE (ibE (wE G hm hb3))))
  rintro ⟨⟩ hm s hw
  refine thN (Ok_weak hw ?_)
  refine rg G ?_
  cases hm
  exact rt [] []
noncomputable def i_isLine_M : MS (Network × Int) Bool := ⟨.x .r .r, fun x => i_isLine x.1 x.2, fun y => dV y, fun _ => [], fun _ _ => []⟩
theorem i_isLine_c {n line y} (hm : i_isLine n line = some y) : i_isLine_M.C (n, line) y := i_isLine_M.c (n, line) hm
theorem i_isLine_ok : FnOK Try.prog 220 i_isLine_M.S := by
 refine fm tt i_isLine_M [] Try.call220 Try.func220 rfl Try.results220 Try.ntmps220 ?_
 rintro ⟨n, line⟩ y cx G hm
 have hm : i_isLine n line = some y := hm
 unfold i_isLine at hm
 refine rg G (jn hm (fun v => ⟨[(4, dV v)], [], 32⟩) (fun v hm => ?_) ?_)
 ·rcases bf hm with ⟨hb, hm⟩ | ⟨hb, hm⟩
  ·refine re G (hO 2 (.b true) (hP hb (hN 6 n.Lines h0))) ?_
   exact wJ G hm
  ·refine re G (hO 2 (.b false) (hP hb h0)) ?_
   exact wJ G hm
 rintro v hm
 cases hm
 exact rt [] []
noncomputable def i_IsValidTime_M : MS Int Bool := ⟨.r, i_IsValidTime, fun y => dV y, fun _ => [], fun _ _ => []⟩
theorem i_IsValidTime_c {t y} (hm : i_IsValidTime t = some y) : i_IsValidTime_M.C t y := i_IsValidTime_M.c t hm
theorem i_IsValidTime_ok : FnOK Try.prog 147 i_IsValidTime_M.S := by
 refine fm tt i_IsValidTime_M [fo i_within_ok] Try.call147 Try.func147 rfl Try.results147 Try.ntmps147 ?_
 rintro t y cx G hm
 have hm : i_IsValidTime t = some y := hm
 unfold i_IsValidTime at hm
 refine rg G ?_
 obtain ⟨r, h, hm⟩ := obind hm
 refine rs G (hC 1 (i_within_c h) h0) ?_
 cases hm
 exact rt [] []
noncomputable def i_total_M : MS ((List Int)) Int := ⟨.r, i_total, fun y => dV y, fun _ => [], fun _ _ => []⟩
theorem i_total_c {list y} (hm : i_total list = some y) : i_total_M.C list y := i_total_M.c list hm
theorem i_total_ok : FnOK Try.prog 184 i_total_M.S := by
 refine fm tt i_total_M [] Try.call184 Try.func184 rfl Try.results184 Try.ntmps184 ?_
 rintro list y cx G hm
 have hm : i_total list = some y := hm
 unfold i_total at hm
 refine rg G (rg G (Ok_seq (rs G (hN 1 list h0) ?_)))
 refine tl hm (fun v2 => ⟨[(3, dV v2)], [], 32⟩) (fun v2 hm => ?_) ?_
 ·refine Ok_block (lp G hm (fun (v, v1) => ⟨[(3, dV v), (6, dV list), (7, dV (list.length : Int)), (8, dV v1)], [], 32⟩) ?_)
  rintro ⟨v, v1⟩ r0 hb hm
  rw [i_total_L1] at hm
  refine rg G (Ok_seq (cd hm (fun hm => ?_) (fun hm => ?_)))
  ·refine X_skip (thN (Ok_seq (Ok_block ?_)))
   obtain ⟨e, h, hm⟩ := obind hm
   refine rs G (hD 0 h h0) ?_
   exact rh G (ibN (thN (rh G (wL G hm))))
  ·exact Ok_exit (thE (thE (ibE (wD G hm hb))))
 rintro v2 hm s hw
 refine thN (Ok_weak hw ?_)
 refine rg G ?_
 cases hm
 exact rt [] []
noncomputable def i_endOf_M : MS (Timetable × Trip) Int := ⟨.x .r .r, fun x => i_endOf x.1 x.2, fun y => dV y, fun _ => [], fun _ _ => []⟩
theorem i_endOf_c {t x y} (hm : i_endOf t x = some y) : i_endOf_M.C (t, x) y := i_endOf_M.c (t, x) hm
theorem i_endOf_ok : FnOK Try.prog 259 i_endOf_M.S := by
 refine fm tt i_endOf_M [fo i_total_ok] Try.call259 Try.func259 rfl Try.results259 Try.ntmps259 ?_
 rintro ⟨t, x⟩ y cx G hm
 have hm : i_endOf t x = some y := hm
 unfold i_endOf at hm
 refine rg G ?_
 obtain ⟨e1, h2, hm⟩ := obind hm
 obtain ⟨r1, h3, hm⟩ := obind hm
 refine ds G [] (hD 7 h2 (hC 10 (i_total_c h3) h0)) ?_
 cases hm
 exact rt [] []
noncomputable def i_areTrips_M : MS Timetable Bool := ⟨.r, i_areTrips, fun y => dV y, fun _ => [], fun _ _ => []⟩
theorem i_areTrips_c {t y} (hm : i_areTrips t = some y) : i_areTrips_M.C t y := i_areTrips_M.c t hm
theorem i_areTrips_ok : FnOK Try.prog 164 i_areTrips_M.S := by
 refine fm tt i_areTrips_M [fo i_isLine_ok, fo i_IsValidTime_ok, fo i_endOf_ok] Try.call164 Try.func164 rfl Try.results164 Try.ntmps164 ?_
 rintro t y cx G hm
 have hm : i_areTrips t = some y := hm
 unfold i_areTrips at hm
 refine rg G (Ok_seq (rs G (hN 2 t.Trips h0) ?_))
 refine cd hm (fun hm => ?_) (fun hm => ?_)
 ·refine rg G ?_
  cases hm
  exact rt [] []
 ·refine X_skip (thN (rg G (Ok_seq (rs G (hN 2 t.Trips h0) ?_))))
  refine tF hm (fun _ => ⟨[], [], 32⟩) (fun v3 hr hm => ?_) ?_
  ·refine Ok_block (lp G hm (fun (v, v1) => ⟨[(1, .ref 16 0), (3, dV v), (11, dV t.Trips), (12, dV (t.Trips.length : Int)), (13, dV v1)], [bX 16 [dV t.Network.Stops, dV t.Network.Lines, dV t.Trips]], 48⟩) ?_)
   rintro ⟨v, v1⟩ r0 hb hm
   rw [i_areTrips_L1] at hm
   refine rg G (Ok_seq (cd hm (fun hm => ?_) (fun hm => ?_)))
   ·refine X_skip (thN (Ok_seq (Ok_block ?_)))
    obtain ⟨e, h, hm⟩ := obind hm
    refine rs G (hD 0 h h0) ?_
    refine Ok_seq (jn hm (fun v2 => ⟨[(1, .ref 16 0), (5, .ref 32 0), (11, dV t.Trips), (12, dV (t.Trips.length : Int)), (13, dV v1), (46, dV v2)], [bX 16 [dV t.Network.Stops, dV t.Network.Lines, dV t.Trips], bX 32 [dV e.Id, dV e.Line, dV e.Start]], 64⟩) (fun v2 hm => ?_) ?_)
    ·rcases bf hm with ⟨hb1, hm⟩ | ⟨hb1, hm⟩
     ·refine re G (hO 4 (.b true) (hP hb1 h0)) ?_
      exact wJ G hm
     ·rcases bf hm with ⟨hb2, hm⟩ | ⟨hb2, hm⟩
      ·refine re G (hO 4 (.b false) (hP hb1 (hO 9 (.b true) (hP hb2 h0)))) ?_
       exact wJ G hm
      ·obtain ⟨r, h1, hm⟩ := obind hm
       rcases bf hm with ⟨hb3, hm⟩ | ⟨hb3, hm⟩
       ·refine re G (hO 4 (.b false) (hP hb1 (hO 9 (.b false) (hP hb2 (hC 14 (i_isLine_c h1) (hO 17 (.b true) (hP hb3 h0))))))) ?_
        exact wJ G hm
       ·obtain ⟨r1, h2, hm⟩ := obind hm
        rcases bf hm with ⟨hb4, hm⟩ | ⟨hb4, hm⟩
        ·refine re G (hO 4 (.b false) (hP hb1 (hO 9 (.b false) (hP hb2 (hC 14 (i_isLine_c h1) (hO 17 (.b false) (hP hb3 (hC 20 (i_IsValidTime_c h2) (hO 23 (.b true) (hP hb4 h0)))))))))) ?_
         exact wJ G hm
        ·obtain ⟨r2, h3, hm⟩ := obind hm
         obtain ⟨r3, h4, hm⟩ := obind hm
         refine re G (hO 4 (.b false) (hP hb1 (hO 9 (.b false) (hP hb2 (hC 14 (i_isLine_c h1) (hO 17 (.b false) (hP hb3 (hC 20 (i_IsValidTime_c h2) (hO 23 (.b false) (hP hb4 (hC 26 (i_endOf_c h3) (hC 27 (i_IsValidTime_c h4) h0)))))))))))) ?_
         exact wJ G hm
    rintro v2 hm
    refine cd hm (fun hm => ?_) (fun hm => ?_)
    ·refine rg G ?_
     have hm := eL hm hb hr
     cases hm
     exact rt [] []
    ·exact X_skip (thN (rh G (ibN (thN (rh G (wL G hm))))))
   ·exact Ok_exit (thE (thE (ibE (wE G hm hb))))
  rintro ⟨⟩ hm s hw
  refine thN (Ok_weak hw ?_)
  refine rg G ?_
  cases hm
  exact rt [] []
noncomputable def i_IsValidTimetable_M : MS Timetable Bool := ⟨.r, i_IsValidTimetable, fun y => dV y, fun _ => [], fun _ _ => []⟩
theorem i_IsValidTimetable_c {t y} (hm : i_IsValidTimetable t = some y) : i_IsValidTimetable_M.C t y := i_IsValidTimetable_M.c t hm
theorem i_IsValidTimetable_ok : FnOK Try.prog 50 i_IsValidTimetable_M.S := by
 refine fm tt i_IsValidTimetable_M [fo i_IsValidNetwork_ok, fo i_areTrips_ok] Try.call50 Try.func50 rfl Try.results50 Try.ntmps50 ?_
 rintro t y cx G hm
 have hm : i_IsValidTimetable t = some y := hm
 unfold i_IsValidTimetable at hm
 refine rg G ?_
 obtain ⟨r, h, hm⟩ := obind hm
 refine jn hm (fun v => ⟨[(2, dV v)], [], 32⟩) (fun v hm => ?_) ?_
 ·rcases bf hm with ⟨hb, hm⟩ | ⟨hb, hm⟩
  ·obtain ⟨r1, h1, hm⟩ := obind hm
   refine re G (hC 2 (i_IsValidNetwork_c h) (hO 3 (.b true) (hP hb (hC 5 (i_areTrips_c h1) h0)))) ?_
   exact wJ G hm
  ·refine re G (hC 2 (i_IsValidNetwork_c h) (hO 3 (.b false) (hP hb h0))) ?_
   exact wJ G hm
 rintro v hm
 cases hm
 exact rt [] []
noncomputable def slices_Clone_string_M : MS ((List ByteArray)) ((List ByteArray)) := ⟨.r, slices_Clone_string, fun _ => .own 0, fun y => [arO 9 y], fun _ _ => []⟩
theorem slices_Clone_string_c {s y} (hm : slices_Clone_string s = some y) : slices_Clone_string_M.C s y := slices_Clone_string_M.c s hm
theorem slices_Clone_string_ok : FnOK Try.prog 315 slices_Clone_string_M.S := by
 refine fm tt slices_Clone_string_M [] Try.call315 Try.func315 rfl Try.results315 Try.ntmps315 ?_
 rintro s y cx G hm
 have hm : slices_Clone_string s = some y := hm
 unfold slices_Clone_string at hm
 obtain ⟨u, h, hm⟩ := obind hm
 cases hm
 refine rg G (Ok_seq (X_nil_seq G.t.ty G.ok 1 (ds := List.map Enc.e s) (es := 1) [] .nil (by kernel_rfl) (by rfl) (by rfl) (by kernel_rfl) ?_))
 intro b hb
 refine X_cond b (by kernel_rfl) (fun hc => ?_) (fun hc => ?_)
 ·have hl : s = [] := by
   cases s with
   | nil => rfl
   | cons a r => have := hb (by simp); rw [hc] at this; cases this
  subst hl
  refine rg G (Ok_weak (Wk_J (x' := ⟨[(2, .own 16)], [(16, some (.arr 9 1 []))], 32⟩) G.hL ⟨[(2, [.o 16])], [], [(16, 9, 1, [])], 32⟩ (by kernel_rfl)) ?_)
  exact rt [16] []
 ·refine sN (rs G (hA 2 16 h h0) ?_)
  exact rt [96] []
noncomputable def slices_Clone_int_M : MS ((List Int)) ((List Int)) := ⟨.r, slices_Clone_int, fun _ => .own 0, fun y => [arO 3 y], fun _ _ => []⟩
theorem slices_Clone_int_c {s y} (hm : slices_Clone_int s = some y) : slices_Clone_int_M.C s y := slices_Clone_int_M.c s hm
theorem slices_Clone_int_ok : FnOK Try.prog 138 slices_Clone_int_M.S := by
 refine fm tt slices_Clone_int_M [] Try.call138 Try.func138 rfl Try.results138 Try.ntmps138 ?_
 rintro s y cx G hm
 have hm : slices_Clone_int s = some y := hm
 unfold slices_Clone_int at hm
 obtain ⟨u, h, hm⟩ := obind hm
 cases hm
 refine rg G (Ok_seq (X_nil_seq G.t.ty G.ok 1 (ds := List.map Enc.e s) (es := 1) [] .nil (by kernel_rfl) (by rfl) (by rfl) (by kernel_rfl) ?_))
 intro b hb
 refine X_cond b (by kernel_rfl) (fun hc => ?_) (fun hc => ?_)
 ·have hl : s = [] := by
   cases s with
   | nil => rfl
   | cons a r => have := hb (by simp); rw [hc] at this; cases this
  subst hl
  refine rg G (Ok_weak (Wk_J (x' := ⟨[(2, .own 16)], [(16, some (.arr 3 1 []))], 32⟩) G.hL ⟨[(2, [.o 16])], [], [(16, 3, 1, [])], 32⟩ (by kernel_rfl)) ?_)
  exact rt [16] []
 ·refine sN (rs G (hA 2 8 h h0) ?_)
  exact rt [96] []
noncomputable def i_copyLine_M : MS Line Line := ⟨.r, i_copyLine, fun y => .aggv [dV y.Name, .own 0, .own 1], fun y => [arO 3 y.Stops, arO 3 y.Runs], fun _ _ => []⟩
theorem i_copyLine_c {l y} (hm : i_copyLine l = some y) : i_copyLine_M.C l y := i_copyLine_M.c l hm
theorem i_copyLine_ok : FnOK Try.prog 316 i_copyLine_M.S := by
 refine fm tt i_copyLine_M [fo slices_Clone_int_ok] Try.call316 Try.func316 rfl Try.results316 Try.ntmps316 ?_
 rintro l y cx G hm
 have hm : i_copyLine l = some y := hm
 unfold i_copyLine at hm
 refine rg G ?_
 obtain ⟨r2, h2, hm⟩ := obind hm
 obtain ⟨r3, h3, hm⟩ := obind hm
 refine ds G [(9, [32, 112, 160])] (hC 4 (slices_Clone_int_c h2) (hC 7 (slices_Clone_int_c h3) h0)) ?_
 cases hm
 exact rt [112, 160] []
noncomputable def i_copyNetwork_M : MS Network Network := ⟨.r, i_copyNetwork, fun _ => .aggv [.own 0, .own 1], fun y => [arO 9 y.Stops, taO 236 [none, some 3, some 3] y.Lines], fun _ _ => []⟩
theorem i_copyNetwork_c {n y} (hm : i_copyNetwork n = some y) : i_copyNetwork_M.C n y := i_copyNetwork_M.c n hm
theorem i_copyNetwork_ok : FnOK Try.prog 264 i_copyNetwork_M.S := by
 refine fm tt i_copyNetwork_M [fo slices_Clone_string_ok, fo i_copyLine_ok] Try.call264 Try.func264 rfl Try.results264 Try.ntmps264 ?_
 rintro n y cx G hm
 have hm : i_copyNetwork n = some y := hm
 unfold i_copyNetwork at hm
 refine rg G ?_
 obtain ⟨r1, h2, hm⟩ := obind hm
 obtain ⟨u1, h3, hm⟩ := obind hm
 refine ds G [(9, [80, 144, 176])] (hC 2 (slices_Clone_string_c h2) (hN 5 n.Lines (hO 6 (.l (List.map Enc.e (List.replicate (n.Lines.length : Int).toNat ((⟨ByteArray.empty, ([] : List Int), ([] : List Int)⟩ : Line) : Line)))) (hP (mk_p (b := 64) (chk_t h3) rfl) (hP (rep_m Enc.e (n.Lines.length : Int).toNat ((⟨ByteArray.empty, ([] : List Int), ([] : List Int)⟩ : Line) : Line)) h0))))) ?_
 refine Ok_seq (rs G (hN 2 n.Lines h0) ?_)
 refine tl hm (fun v2 => ⟨[(2, .ref 16 0), (3, .ref 32 0)], [bX 16 [.dat (.sc (.slice none 0 0)), .dat (.sc (.slice none 0 0))], bX 32 [.own 48, .own 64], aX 48 9 r1, tX 64 236 [none, some 3, some 3] v2 64 none], 96⟩) (fun v2 hm => ?_) ?_
 ·refine Ok_block (lp G hm (fun (v, v1) => ⟨[(2, .ref 16 0), (3, .ref 32 0), (15, dV n.Lines), (16, dV (n.Lines.length : Int)), (17, dV v)], [bX 16 [.dat (.sc (.slice none 0 0)), .dat (.sc (.slice none 0 0))], bX 32 [.own 48, .own 64], aX 48 9 r1, tX 64 236 [none, some 3, some 3] v1 64 none], 96⟩) ?_)
  rintro ⟨v, v1⟩ r0 hb hm
  rw [i_copyNetwork_L1] at hm
  refine rg G (Ok_seq (cd hm (fun hm => ?_) (fun hm => ?_)))
  ·refine X_skip (thN (Ok_seq (Ok_block ?_)))
   obtain ⟨e, h4, hm⟩ := obind hm
   refine rs G (hD 1 h4 h0) ?_
   obtain ⟨r3, h7, hm⟩ := obind hm
   obtain ⟨e2, h8, hm⟩ := obind hm
   refine de G [(6, [64, 272, 273])] (hC 4 (i_copyLine_c h7) (hD 5 h8 (hS 6 h8 r3 h0))) ?_
   exact ibN (thN (rh G (wL G hm)))
  ·exact Ok_exit (thE (thE (ibE (wD G hm hb))))
 rintro v2 hm s hw
 refine thN (Ok_weak hw ?_)
 refine rg G ?_
 cases hm
 exact rt [48, 64] []
noncomputable def slices_Clone_Trip_M : MS ((List Trip)) ((List Trip)) := ⟨.r, slices_Clone_Trip, fun _ => .own 0, fun y => [arO 81 y], fun _ _ => []⟩
theorem slices_Clone_Trip_c {s y} (hm : slices_Clone_Trip s = some y) : slices_Clone_Trip_M.C s y := slices_Clone_Trip_M.c s hm
theorem slices_Clone_Trip_ok : FnOK Try.prog 265 slices_Clone_Trip_M.S := by
 refine fm tt slices_Clone_Trip_M [] Try.call265 Try.func265 rfl Try.results265 Try.ntmps265 ?_
 rintro s y cx G hm
 have hm : slices_Clone_Trip s = some y := hm
 unfold slices_Clone_Trip at hm
 obtain ⟨u, h, hm⟩ := obind hm
 cases hm
 refine rg G (Ok_seq (X_nil_seq G.t.ty G.ok 1 (ds := List.map Enc.e s) (es := 3) [] .nil (by kernel_rfl) (by rfl) (by rfl) (by kernel_rfl) ?_))
 intro b hb
 refine X_cond b (by kernel_rfl) (fun hc => ?_) (fun hc => ?_)
 ·have hl : s = [] := by
   cases s with
   | nil => rfl
   | cons a r => have := hb (by simp); rw [hc] at this; cases this
  subst hl
  refine rg G (Ok_weak (Wk_J (x' := ⟨[(2, .own 16)], [(16, some (.arr 81 3 []))], 32⟩) G.hL ⟨[(2, [.o 16])], [], [(16, 81, 3, [])], 32⟩ (by kernel_rfl)) ?_)
  exact rt [16] []
 ·refine sN (rs G (hA 2 24 h h0) ?_)
  exact rt [96] []
noncomputable def i_copyTimetable_M : MS Timetable Timetable := ⟨.r, i_copyTimetable, fun _ => .aggv [.own 0, .own 1, .own 2], fun y => [arO 9 y.Network.Stops, taO 236 [none, some 3, some 3] y.Network.Lines, arO 81 y.Trips], fun _ _ => []⟩
theorem i_copyTimetable_c {t y} (hm : i_copyTimetable t = some y) : i_copyTimetable_M.C t y := i_copyTimetable_M.c t hm
theorem i_copyTimetable_ok : FnOK Try.prog 170 i_copyTimetable_M.S := by
 refine fm tt i_copyTimetable_M [fo i_copyNetwork_ok, fo slices_Clone_Trip_ok] Try.call170 Try.func170 rfl Try.results170 Try.ntmps170 ?_
 rintro t y cx G hm
 have hm : i_copyTimetable t = some y := hm
 unfold i_copyTimetable at hm
 refine rg G ?_
 obtain ⟨r2, h2, hm⟩ := obind hm
 obtain ⟨r3, h3, hm⟩ := obind hm
 refine ds G [(7, [32, 80, 81, 128])] (hC 2 (i_copyNetwork_c h2) (hC 5 (slices_Clone_Trip_c h3) h0)) ?_
 cases hm
 exact rt [80, 81, 128] []
noncomputable def i_tripIndex_1_M : MS (Trip × Int) Bool := ⟨.x .r .b, fun x => i_tripIndex_1 x.1 x.2, fun y => dV y, fun _ => [], fun x _ => [bxO x.2]⟩
theorem i_tripIndex_1_c {x c1 y} (hm : i_tripIndex_1 x c1 = some y) : i_tripIndex_1_M.C (x, c1) y := i_tripIndex_1_M.c (x, c1) hm
theorem i_tripIndex_1_ok : FnOK Try.prog 261 i_tripIndex_1_M.S := by
 refine fm tt i_tripIndex_1_M [] Try.call261 Try.func261 rfl Try.results261 Try.ntmps261 ?_
 rintro ⟨x, c1⟩ y cx G hm
 have hm : i_tripIndex_1 x c1 = some y := hm
 unfold i_tripIndex_1 at hm
 refine rg G (rg G ?_)
 cases hm
 exact rt [] []
noncomputable def slices_IndexFunc_Trip__i_tripIndex_1_M : MS ((List Trip) × Int) Int := ⟨⟨[.rd, .fn 261 [.bx]], fun x => [Enc.e x.1, .agg [.sc undef]], fun x => [bxO x.2], 1, 1, fun _ => rfl, fun _ => rfl, rfl, (by
  rintro ⟨a0, a1⟩ ⟨b0, b1⟩ h hO
  have q0 : a0 = b0 := qI 0 h
  have q1 : a1 = b1 := Enc.inj _ _ (congrArg (fun l => (obD l 0).getD 0 (.sc undef)) hO)
  subst q0; subst q1; rfl)⟩, fun x => slices_IndexFunc_Trip__i_tripIndex_1 x.1 x.2, fun y => dV y, fun _ => [], fun x _ => [bxO x.2]⟩
theorem slices_IndexFunc_Trip__i_tripIndex_1_c {s c1 y} (hm : slices_IndexFunc_Trip__i_tripIndex_1 s c1 = some y) : slices_IndexFunc_Trip__i_tripIndex_1_M.C (s, c1) y := slices_IndexFunc_Trip__i_tripIndex_1_M.c (s, c1) hm
theorem slices_IndexFunc_Trip__i_tripIndex_1_ok : FnOK Try.prog 260 slices_IndexFunc_Trip__i_tripIndex_1_M.S := by
 refine fm tt slices_IndexFunc_Trip__i_tripIndex_1_M [fo i_tripIndex_1_ok] Try.call260 Try.func260 rfl Try.results260 Try.ntmps260 ?_
 rintro ⟨s, c1⟩ y cx G hm
 have hm : slices_IndexFunc_Trip__i_tripIndex_1 s c1 = some y := hm
 obtain ⟨f, hf_f⟩ : ∃ q, (fun (z0 : Trip) => i_tripIndex_1 z0 c1) = q := ⟨_, rfl⟩
 have hm : slices_IndexFunc_Trip s f = some y := by rw [← hf_f]; exact hm
 unfold slices_IndexFunc_Trip at hm
 refine rg G (Ok_seq (rs G (hN 1 s h0) ?_))
 refine tF hm (fun _ => ⟨[(1, .fn 261 [.ref 0 0])], [bX 0 [dV c1]], 48⟩) (fun v1 hr hm => ?_) ?_
 ·refine Ok_block (lp G hm (fun v => ⟨[(0, dV s), (1, .fn 261 [.ref 0 0]), (7, dV (s.length : Int)), (8, dV v)], [bX 0 [dV c1]], 48⟩) ?_)
  rintro v r0 hb hm
  rw [slices_IndexFunc_Trip_L1] at hm
  refine rg G (Ok_seq (cd hm (fun hm => ?_) (fun hm => ?_)))
  ·refine X_skip (thN (Ok_seq (Ok_block (rg G ?_))))
   obtain ⟨e, h, hm⟩ := obind hm
   obtain ⟨r, h1, hm⟩ := obind hm
   have h1 : i_tripIndex_1 e c1 = some r := by rw [← hf_f] at h1; exact h1
   refine rs G (hD 3 h (hC 5 (i_tripIndex_1_c h1) h0)) ?_
   refine cd hm (fun hm => ?_) (fun hm => ?_)
   ·refine rg G ?_
    have hm := eL hm hb hr
    cases hm
    exact rt [] []
   ·exact X_skip (ibN (thN (rh G (wL G hm))))
  ·exact Ok_exit (thE (thE (ibE (wE G hm hb))))
 rintro ⟨⟩ hm s1 hw
 refine thN (Ok_weak hw ?_)
 refine rg G ?_
 cases hm
 exact rt [] []
noncomputable def i_tripIndex_M : MS (Timetable × Int) Int := ⟨.x .r .r, fun x => i_tripIndex x.1 x.2, fun y => dV y, fun _ => [], fun _ _ => []⟩
theorem i_tripIndex_c {t id y} (hm : i_tripIndex t id = some y) : i_tripIndex_M.C (t, id) y := i_tripIndex_M.c (t, id) hm
theorem i_tripIndex_ok : FnOK Try.prog 165 i_tripIndex_M.S := by
 refine fm tt i_tripIndex_M [fo slices_IndexFunc_Trip__i_tripIndex_1_ok] Try.call165 Try.func165 rfl Try.results165 Try.ntmps165 ?_
 rintro ⟨t, id⟩ y cx G hm
 have hm : i_tripIndex t id = some y := hm
 unfold i_tripIndex at hm
 refine rg G ?_
 obtain ⟨r, h, hm⟩ := obind hm
 refine rs G (hC 3 (slices_IndexFunc_Trip__i_tripIndex_1_c h) h0) ?_
 cases hm
 exact rt [] []
noncomputable def i_freeId_M : MS Timetable Int := ⟨.r, i_freeId, fun y => dV y, fun _ => [], fun _ _ => []⟩
theorem i_freeId_c {t y} (hm : i_freeId t = some y) : i_freeId_M.C t y := i_freeId_M.c t hm
theorem i_freeId_ok : FnOK Try.prog 221 i_freeId_M.S := by
 refine fm tt i_freeId_M [fo i_tripIndex_ok] Try.call221 Try.func221 rfl Try.results221 Try.ntmps221 ?_
 rintro t y cx G hm
 have hm : i_freeId t = some y := hm
 unfold i_freeId at hm
 refine rg G (rg G (jn hm (fun v1 => ⟨[(3, dV v1)], [], 32⟩) (fun v1 hm => ?_) ?_))
 ·refine Ok_block (lp G hm (fun v => ⟨[(1, .ref 16 0), (3, dV v)], [bX 16 [dV t.Network.Stops, dV t.Network.Lines, dV t.Trips]], 48⟩) ?_)
  rintro v r0 hb hm
  rw [i_freeId_L1] at hm
  refine Ok_seq ?_
  obtain ⟨r, h, hm⟩ := obind hm
  refine rs G (hC 2 (i_tripIndex_c h) h0) ?_
  refine cd hm (fun hm => ?_) (fun hm => ?_)
  ·exact X_skip (thN (Ok_block (rh G (ibN (wL G hm)))))
  ·exact Ok_exit (thE (thE (ibE (wD G hm hb))))
 rintro v1 hm
 refine rg G ?_
 cases hm
 exact rt [] []
noncomputable def slices_Insert_Trip_m_M : MS ((List Trip) × Int × (List Trip)) ((List Trip)) := ⟨.x (.m 81) (.x .r (.m 81)), fun x => slices_Insert_Trip_m x.1 x.2.1 x.2.2, fun _ => .own 0, fun y => [arO 81 y], fun _ _ => []⟩
theorem slices_Insert_Trip_m_c {s i v y} (hm : slices_Insert_Trip_m s i v = some y) : slices_Insert_Trip_m_M.C (s, i, v) y := slices_Insert_Trip_m_M.c (s, i, v) hm
def slices_Insert_Trip_m_R : Go.Shelf.Ren := ⟨fun x => bif Nat.beq x 29 then 313 else bif Nat.beq x 30 then 314 else x, fun x => bif Nat.beq x 24 then 67 else bif Nat.beq x 9 then 81 else bif Nat.beq x 3 then 3 else bif Nat.beq x 4 then 4 else x, fun x => x⟩
theorem slices_Insert_Trip_m_F : Try.f256 = { Go.Proofs.Body2.n22 slices_Insert_Trip_m_R with name := "slices.Insert[[]loop.example/g00900/impl.Trip,loop.example/g00900/impl.Trip]", targs := #[67, 81] } := by kernel_rfl
theorem slices_Insert_Trip_m_ok : FnOK Try.prog 256 slices_Insert_Trip_m_M.S := insOK (α := Trip) (x := tyE81) tt slices_Insert_Trip_m_R Try.call256 (Try.func256.trans (congrArg some slices_Insert_Trip_m_F)) (by kernel_rfl) (by kernel_rfl) (by kernel_rfl) (by kernel_rfl) (by kernel_rfl) Try.func313 (by kernel_rfl) (by kernel_rfl) (by kernel_rfl) (by kernel_rfl)
noncomputable def i_withTrip_M : MS (Timetable × Trip) Timetable := ⟨.x .r .r, fun x => i_withTrip x.1 x.2, fun _ => .aggv [.own 0, .own 1, .own 2], fun y => [arO 9 y.Network.Stops, taO 236 [none, some 3, some 3] y.Network.Lines, arO 81 y.Trips], fun _ _ => []⟩
theorem i_withTrip_c {t x y} (hm : i_withTrip t x = some y) : i_withTrip_M.C (t, x) y := i_withTrip_M.c (t, x) hm
theorem i_withTrip_ok : FnOK Try.prog 160 i_withTrip_M.S := by
 refine fm tt i_withTrip_M [fo i_copyTimetable_ok, fo slices_Insert_Trip_m_ok] Try.call160 Try.func160 rfl Try.results160 Try.ntmps160 ?_
 rintro ⟨t, x⟩ y cx G hm
 have hm : i_withTrip t x = some y := hm
 unfold i_withTrip at hm
 refine rg G (rg G (jn hm (fun v2 => ⟨[(2, .ref 16 0), (3, .ref 32 0), (4, .ref 48 0), (5, dV v2)], [bX 16 [dV t.Network.Stops, dV t.Network.Lines, dV t.Trips], bX 32 [dV x.Id, dV x.Line, dV x.Start], bX 48 [.dat (.sc (.slice none 0 0)), .dat (.sc (.slice none 0 0)), .dat (.sc (.slice none 0 0))]], 80⟩) (fun v2 hm => ?_) ?_))
 ·refine Ok_block (lp G hm (fun v => ⟨[(2, .ref 16 0), (3, .ref 32 0), (4, .ref 48 0), (5, dV v)], [bX 16 [dV t.Network.Stops, dV t.Network.Lines, dV t.Trips], bX 32 [dV x.Id, dV x.Line, dV x.Start], bX 48 [.dat (.sc (.slice none 0 0)), .dat (.sc (.slice none 0 0)), .dat (.sc (.slice none 0 0))]], 80⟩) ?_)
  rintro v r0 hb hm
  rw [i_withTrip_L1] at hm
  refine Ok_seq (jn hm (fun v1 => ⟨[(2, .ref 16 0), (3, .ref 32 0), (4, .ref 48 0), (5, dV v), (22, dV v1)], [bX 16 [dV t.Network.Stops, dV t.Network.Lines, dV t.Trips], bX 32 [dV x.Id, dV x.Line, dV x.Start], bX 48 [.dat (.sc (.slice none 0 0)), .dat (.sc (.slice none 0 0)), .dat (.sc (.slice none 0 0))]], 80⟩) (fun v1 hm => ?_) ?_)
  ·rcases bf hm with ⟨hb1, hm⟩ | ⟨hb1, hm⟩
   ·obtain ⟨e1, h1, hm⟩ := obind hm
    refine de G [] (hN 3 t.Trips (hO 5 (.b true) (hP hb1 (hD 9 h1 h0)))) ?_
    exact wJ G hm
   ·refine de G [] (hN 3 t.Trips (hO 5 (.b false) (hP hb1 h0))) ?_
    exact wJ G hm
  rintro v1 hm
  refine cd hm (fun hm => ?_) (fun hm => ?_)
  ·exact X_skip (thN (Ok_block (rh G (ibN (wL G hm)))))
  ·exact Ok_exit (thE (thE (ibE (wD G hm hb))))
 rintro v2 hm
 obtain ⟨r, h2, hm⟩ := obind hm
 refine rs G (hC 1 (i_copyTimetable_c h2) h0) ?_
 obtain ⟨r1, h3, hm⟩ := obind hm
 refine rs G (hC 5 (slices_Insert_Trip_m_c h3) h0) ?_
 refine rg G ?_
 cases hm
 exact rt [96, 97, 224] []
noncomputable def i_RepeatTrips_M : MS (Timetable × Int × Int × Int × Int) (Timetable × Int × Bool) := ⟨.x .r (.x .r (.x .r (.x .r .r))), fun x => i_RepeatTrips x.1 x.2.1 x.2.2.1 x.2.2.2.1 x.2.2.2.2, fun y => .tup [dV y.1, dV y.2.1, dV y.2.2], fun _ => [], fun _ _ => []⟩
theorem i_RepeatTrips_c {t line from_ to headway y} (hm : i_RepeatTrips t line from_ to headway = some y) : i_RepeatTrips_M.C (t, line, from_, to, headway) y := i_RepeatTrips_M.c (t, line, from_, to, headway) hm
theorem i_RepeatTrips_ok : FnOK Try.prog 94 i_RepeatTrips_M.S := by
 refine fm tt i_RepeatTrips_M [fo i_IsValidTimetable_ok, fo i_isLine_ok, fo i_IsValidTime_ok, fo i_copyTimetable_ok, fo i_freeId_ok, fo i_withTrip_ok, fo i_areTrips_ok] Try.call94 Try.func94 rfl Try.results94 Try.ntmps94 ?_
 rintro ⟨t, line, from_, to, headway⟩ y cx G hm
 have hm : i_RepeatTrips t line from_ to headway = some y := hm
 unfold i_RepeatTrips at hm
 refine rg G (Ok_seq ?_)
 obtain ⟨r, h, hm⟩ := obind hm
 refine jn hm (fun v => ⟨[(1, dV line), (2, dV from_), (3, dV to), (4, dV headway), (5, .ref 16 0), (10, .ref 32 0), (34, dV v)], [bX 16 [dV t.Network.Stops, dV t.Network.Lines, dV t.Trips], bX 32 [.dat (.sc (.slice none 0 0)), .dat (.sc (.slice none 0 0)), .dat (.sc (.slice none 0 0))]], 64⟩) (fun v hm => ?_) ?_
 ·rcases bf hm with ⟨hb, hm⟩ | ⟨hb, hm⟩
  ·refine re G (hC 1 (i_IsValidTimetable_c h) (hO 3 (.b true) (hP hb h0))) ?_
   exact wJ G hm
  ·obtain ⟨r1, h1, hm⟩ := obind hm
   rcases bf hm with ⟨hb1, hm⟩ | ⟨hb1, hm⟩
   ·refine re G (hC 1 (i_IsValidTimetable_c h) (hO 3 (.b false) (hP hb (hC 7 (i_isLine_c h1) (hO 10 (.b true) (hP hb1 h0)))))) ?_
    exact wJ G hm
   ·rcases bf hm with ⟨hb2, hm⟩ | ⟨hb2, hm⟩
    ·refine re G (hC 1 (i_IsValidTimetable_c h) (hO 3 (.b false) (hP hb (hC 7 (i_isLine_c h1) (hO 10 (.b false) (hP hb1 (hO 14 (.b true) (hP hb2 h0)))))))) ?_
     exact wJ G hm
    ·obtain ⟨r2, h2, hm⟩ := obind hm
     refine re G (hC 1 (i_IsValidTimetable_c h) (hO 3 (.b false) (hP hb (hC 7 (i_isLine_c h1) (hO 10 (.b false) (hP hb1 (hO 14 (.b false) (hP hb2 (hC 16 (i_IsValidTime_c h2) h0))))))))) ?_
     exact wJ G hm
 rintro v hm
 refine cd hm (fun hm => ?_) (fun hm => ?_)
 ·refine rg G ?_
  cases hm
  exact rt [] [[.z 1, .z 3, .z 3]]
 ·refine X_skip (thN ?_)
  obtain ⟨r3, h3, hm⟩ := obind hm
  refine rs G (hC 1 (i_copyTimetable_c h3) h0) ?_
  refine jF hm (fun (v1, v2, v3, v4) => ⟨[(10, .ref 16 0), (13, .ref 32 0), (14, dV v1)], [bX 16 [.dat (.sc (.slice none 0 0)), .dat (.sc (.slice none 0 0)), .dat (.sc (.slice none 0 0))], bX 32 [.own 48, .own 64, .own 80], aX 48 9 v2, tX 64 236 [none, some 3, some 3] v3 64 none, aX 80 81 v4], 112⟩) (fun v15 hr hm => ?_) ?_
  ·refine rg G (tF hm (fun (v10, v11, v12, v13) => ⟨[(10, .ref 16 0), (13, .ref 32 0), (14, dV v10)], [bX 16 [.dat (.sc (.slice none 0 0)), .dat (.sc (.slice none 0 0)), .dat (.sc (.slice none 0 0))], bX 32 [.own 48, .own 64, .own 80], aX 48 9 v11, tX 64 236 [none, some 3, some 3] v12 64 none, aX 80 81 v13], 112⟩) (fun v14 hr1 hm => ?_) ?_)
   ·refine Ok_block (lp G hm (fun (v5, v6, v7, v8, v9) => ⟨[(1, dV line), (3, dV to), (4, dV headway), (10, .ref 16 0), (13, .ref 32 0), (14, dV v5), (15, dV v6)], [bX 16 [.dat (.sc (.slice none 0 0)), .dat (.sc (.slice none 0 0)), .dat (.sc (.slice none 0 0))], bX 32 [.own 48, .own 64, .own 80], aX 48 9 v7, tX 64 236 [none, some 3, some 3] v8 64 none, aX 80 81 v9], 112⟩) ?_)
    rintro ⟨v5, v6, v7, v8, v9⟩ r0 hb3 hm
    rw [i_RepeatTrips_L1] at hm
    refine Ok_seq (rg G (cd hm (fun hm => ?_) (fun hm => ?_)))
    ·refine X_skip (thN (Ok_seq (Ok_block (Ok_weak (Wk_J (x' := (⟨[(1, dV line), (3, dV to), (4, dV headway), (10, .ref 16 0), (13, .ref 32 0), (14, dV v5), (15, dV v6)], [bX 16 [.dat (.sc (.slice none 0 0)), .dat (.sc (.slice none 0 0)), .dat (.sc (.slice none 0 0))], bX 32 [dV v7, dV v8, dV v9]], 64⟩ : X)) G.hL ⟨[(1, []), (3, []), (4, []), (10, []), (13, []), (14, []), (15, [])], [(16, 16, []), (32, 32, [])], [], 64⟩ (by kernel_rfl)) ?_))))
     obtain ⟨r6, h6, hm⟩ := obind hm
     obtain ⟨r7, h7, hm⟩ := obind hm
     refine ds G [(7, [32, 160, 161, 162])] (hC 2 (i_freeId_c h6) (hC 6 (i_withTrip_c h7) h0)) ?_
     refine rg G (Ok_seq ?_)
     obtain ⟨r8, h8, hm⟩ := obind hm
     refine rs G (hC 1 (i_areTrips_c h8) h0) ?_
     refine cd hm (fun hm => ?_) (fun hm => ?_)
     ·refine rg G ?_
      have hm := eL hm hb3 hr1
      have hm := eR hm hr
      cases hm
      exact rt [] [[.z 1, .z 3, .z 3]]
     ·refine X_skip (thN (rg G (cd hm (fun hm => ?_) (fun hm => ?_))))
      ·exact Ok_exit (ibX rfl (thE (thE (ibE (wE G hm hb3)))))
      ·exact X_skip (ibN (thN (rh G (wL G hm))))
    ·exact Ok_exit (thE (thE (ibE (wE G hm hb3))))
   rintro ⟨v10, v11, v12, v13⟩ hm s hw
   exact wFp hm (Wk.trans hw (Wk_J G.hL ⟨[(10, []), (13, []), (14, [])], [(16, 16, []), (32, 32, []), (48, 48, []), (64, 64, []), (80, 80, [])], [], 112⟩ (by kernel_rfl)))
  rintro ⟨v1, v2, v3, v4⟩ hm
  refine rg G ?_
  cases hm
  exact rt [] []
noncomputable def s_l1In_M : MS (Int × Int × Int) Bool := ⟨.x .r (.x .r .r), fun x => s_l1In x.1 x.2.1 x.2.2, fun y => dV y, fun _ => [], fun _ _ => []⟩
theorem s_l1In_c {x a b y} (hm : s_l1In x a b = some y) : s_l1In_M.C (x, a, b) y := s_l1In_M.c (x, a, b) hm
theorem s_l1In_ok : FnOK Try.prog 111 s_l1In_M.S := by
 refine fm tt s_l1In_M [] Try.call111 Try.func111 rfl Try.results111 Try.ntmps111 ?_
 rintro ⟨x, a, b⟩ y cx G hm
 have hm : s_l1In x a b = some y := hm
 unfold s_l1In at hm
 refine rg G (jn hm (fun v => ⟨[(6, dV v)], [], 32⟩) (fun v hm => ?_) ?_)
 ·rcases bf hm with ⟨hb, hm⟩ | ⟨hb, hm⟩
  ·refine re G (hO 3 (.b true) (hP hb h0)) ?_
   exact wJ G hm
  ·refine re G (hO 3 (.b false) (hP hb h0)) ?_
   exact wJ G hm
 rintro v hm
 cases hm
 exact rt [] []
noncomputable def s_l2Name_M : MS ByteArray Bool := ⟨.r, s_l2Name, fun y => dV y, fun _ => [], fun _ _ => []⟩
theorem s_l2Name_c {s y} (hm : s_l2Name s = some y) : s_l2Name_M.C s y := s_l2Name_M.c s hm
theorem s_l2Name_ok : FnOK Try.prog 198 s_l2Name_M.S := by
 refine fm tt s_l2Name_M [fo s_l1In_ok] Try.call198 Try.func198 rfl Try.results198 Try.ntmps198 ?_
 rintro s y cx G hm
 have hm : s_l2Name s = some y := hm
 unfold s_l2Name at hm
 refine rg G (Ok_seq ?_)
 obtain ⟨r, h, hm⟩ := obind hm
 refine jn hm (fun v => ⟨[(0, dV s), (17, dV v)], [], 32⟩) (fun v hm => ?_) ?_
 ·rcases bf hm with ⟨hb, hm⟩ | ⟨hb, hm⟩
  ·refine re G (hC 2 (s_l1In_c h) (hO 4 (.b true) (hP hb h0))) ?_
   exact wJ G hm
  ·obtain ⟨u, h1, hm⟩ := obind hm
   rcases bf hm with ⟨hb1, hm⟩ | ⟨hb1, hm⟩
   ·refine re G (hC 2 (s_l1In_c h) (hO 4 (.b false) (hP hb (hK h1 (hO 9 (.b true) (hP hb1 h0)))))) ?_
    exact wJ G hm
   ·obtain ⟨u1, h2, hm⟩ := obind hm
    refine re G (hC 2 (s_l1In_c h) (hO 4 (.b false) (hP hb (hK h1 (hO 9 (.b false) (hP hb1 (hK h2 h0))))))) ?_
    exact wJ G hm
 rintro v hm
 refine cd hm (fun hm => ?_) (fun hm => ?_)
 ·refine rg G ?_
  cases hm
  exact rt [] []
 ·refine X_skip (thN (Ok_seq (rg G (tF hm (fun _ => ⟨[], [], 32⟩) (fun v3 hr hm => ?_) ?_))))
  ·refine Ok_block (lp G hm (fun v1 => ⟨[(0, dV s), (3, dV v1)], [], 32⟩) ?_)
   rintro v1 r0 hb2 hm
   rw [s_l2Name_L1] at hm
   refine Ok_seq (rg G (cd hm (fun hm => ?_) (fun hm => ?_)))
   ·refine X_skip (thN (Ok_seq (Ok_block ?_)))
    obtain ⟨u2, h3, hm⟩ := obind hm
    refine jn hm (fun v2 => ⟨[(0, dV s), (3, dV v1), (45, dV v2)], [], 32⟩) (fun v2 hm => ?_) ?_
    ·rcases bf hm with ⟨hb3, hm⟩ | ⟨hb3, hm⟩
     ·obtain ⟨u3, h4, hm⟩ := obind hm
      rcases bf hm with ⟨hb4, hm⟩ | ⟨hb4, hm⟩
      ·refine re G (hK h3 (hO 4 (.b true) (hP hb3 (hK h4 (hO 15 (.b true) (hP hb4 h0)))))) ?_
       exact wJ G hm
      ·obtain ⟨u4, h5, hm⟩ := obind hm
       refine re G (hK h3 (hO 4 (.b true) (hP hb3 (hK h4 (hO 15 (.b false) (hP hb4 (hK h5 h0))))))) ?_
       exact wJ G hm
     ·obtain ⟨u5, h6, hm⟩ := obind hm
      rcases bf hm with ⟨hb5, hm⟩ | ⟨hb5, hm⟩
      ·obtain ⟨u6, h7, hm⟩ := obind hm
       rcases bf hm with ⟨hb6, hm⟩ | ⟨hb6, hm⟩
       ·refine re G (hK h3 (hO 4 (.b false) (hP hb3 (hK h6 (hO 10 (.b true) (hP hb5 (hK h7 (hO 15 (.b true) (hP hb6 h0))))))))) ?_
        exact wJ G hm
       ·obtain ⟨u7, h8, hm⟩ := obind hm
        refine re G (hK h3 (hO 4 (.b false) (hP hb3 (hK h6 (hO 10 (.b true) (hP hb5 (hK h7 (hO 15 (.b false) (hP hb6 (hK h8 h0)))))))))) ?_
        exact wJ G hm
      ·refine re G (hK h3 (hO 4 (.b false) (hP hb3 (hK h6 (hO 10 (.b false) (hP hb5 h0)))))) ?_
       exact wJ G hm
    rintro v2 hm
    refine cd hm (fun hm => ?_) (fun hm => ?_)
    ·refine rg G ?_
     have hm := eL hm hb2 hr
     cases hm
     exact rt [] []
    ·exact X_skip (ibN (thN (rh G (wL G hm))))
   ·exact Ok_exit (thE (thE (ibE (wE G hm hb2))))
  rintro ⟨⟩ hm s1 hw
  refine thN (Ok_weak hw ?_)
  refine rg G ?_
  cases hm
  exact rt [] []
noncomputable def s_l2Find_M : MS ((List ByteArray) × ByteArray) Int := ⟨.x .r .r, fun x => s_l2Find x.1 x.2, fun y => dV y, fun _ => [], fun _ _ => []⟩
theorem s_l2Find_c {list name y} (hm : s_l2Find list name = some y) : s_l2Find_M.C (list, name) y := s_l2Find_M.c (list, name) hm
theorem s_l2Find_ok : FnOK Try.prog 301 s_l2Find_M.S := by
 refine fm tt s_l2Find_M [] Try.call301 Try.func301 rfl Try.results301 Try.ntmps301 ?_
 rintro ⟨list, name⟩ y cx G hm
 have hm : s_l2Find list name = some y := hm
 unfold s_l2Find at hm
 refine rg G (Ok_seq (rg G (tF hm (fun _ => ⟨[], [], 32⟩) (fun v1 hr hm => ?_) ?_)))
 ·refine Ok_block (lp G hm (fun v => ⟨[(0, dV list), (1, dV name), (5, dV v)], [], 32⟩) ?_)
  rintro v r0 hb hm
  rw [s_l2Find_L1] at hm
  refine Ok_seq (rs G (hN 2 list h0) ?_)
  refine cd hm (fun hm => ?_) (fun hm => ?_)
  ·refine X_skip (thN (Ok_seq (Ok_block ?_)))
   obtain ⟨e, h, hm⟩ := obind hm
   refine rs G (hD 2 h h0) ?_
   refine cd hm (fun hm => ?_) (fun hm => ?_)
   ·refine rg G ?_
    have hm := eL hm hb hr
    cases hm
    exact rt [] []
   ·exact X_skip (ibN (thN (rh G (wL G hm))))
  ·exact Ok_exit (thE (thE (ibE (wE G hm hb))))
 rintro ⟨⟩ hm s hw
 refine thN (Ok_weak hw ?_)
 refine rg G ?_
 cases hm
 exact rt [] []
noncomputable def s_l2Line_M : MS (Line × Int) Bool := ⟨.x .r .r, fun x => s_l2Line x.1 x.2, fun y => dV y, fun _ => [], fun _ _ => []⟩
theorem s_l2Line_c {x stops y} (hm : s_l2Line x stops = some y) : s_l2Line_M.C (x, stops) y := s_l2Line_M.c (x, stops) hm
theorem s_l2Line_ok : FnOK Try.prog 302 s_l2Line_M.S := by
 refine fm tt s_l2Line_M [fo s_l2Name_ok, fo s_l1In_ok, fo s_l2Place_ok] Try.call302 Try.func302 rfl Try.results302 Try.ntmps302 ?_
 rintro ⟨x, stops⟩ y cx G hm
 have hm : s_l2Line x stops = some y := hm
 unfold s_l2Line at hm
 refine rg G (Ok_seq ?_)
 obtain ⟨r, h, hm⟩ := obind hm
 refine jn hm (fun v => ⟨[(1, dV stops), (2, .ref 16 0), (27, dV v)], [bX 16 [dV x.Name, dV x.Stops, dV x.Runs]], 48⟩) (fun v hm => ?_) ?_
 ·rcases bf hm with ⟨hb, hm⟩ | ⟨hb, hm⟩
  ·refine re G (hC 2 (s_l2Name_c h) (hO 4 (.b true) (hP hb h0))) ?_
   exact wJ G hm
  ·obtain ⟨r1, h1, hm⟩ := obind hm
   rcases bf hm with ⟨hb1, hm⟩ | ⟨hb1, hm⟩
   ·refine re G (hC 2 (s_l2Name_c h) (hO 4 (.b false) (hP hb (hN 7 x.Stops (hC 8 (s_l1In_c h1) (hO 11 (.b true) (hP hb1 h0))))))) ?_
    exact wJ G hm
   ·refine re G (hC 2 (s_l2Name_c h) (hO 4 (.b false) (hP hb (hN 7 x.Stops (hC 8 (s_l1In_c h1) (hO 11 (.b false) (hP hb1 (hN 14 x.Runs (hN 17 x.Stops h0))))))))) ?_
    exact wJ G hm
 rintro v hm
 refine cd hm (fun hm => ?_) (fun hm => ?_)
 ·refine rg G ?_
  cases hm
  exact rt [] []
 ·refine X_skip (thN (Ok_seq (rg G (tF hm (fun _ => ⟨[(2, .ref 16 0)], [bX 16 [dV x.Name, dV x.Stops, dV x.Runs]], 48⟩) (fun v5 hr hm => ?_) ?_))))
  ·refine Ok_block (lp G hm (fun v1 => ⟨[(1, dV stops), (2, .ref 16 0), (5, dV v1)], [bX 16 [dV x.Name, dV x.Stops, dV x.Runs]], 48⟩) ?_)
   rintro v1 r0 hb2 hm
   rw [s_l2Line_L1] at hm
   refine Ok_seq (rs G (hN 3 x.Stops h0) ?_)
   refine cd hm (fun hm => ?_) (fun hm => ?_)
   ·refine X_skip (thN (Ok_seq (Ok_block ?_)))
    obtain ⟨e2, h6, hm⟩ := obind hm
    obtain ⟨r4, h7, hm⟩ := obind hm
    refine jn hm (fun v2 => ⟨[(1, dV stops), (2, .ref 16 0), (5, dV v1), (54, dV v2)], [bX 16 [dV x.Name, dV x.Stops, dV x.Runs]], 48⟩) (fun v2 hm => ?_) ?_
    ·rcases bf hm with ⟨hb3, hm⟩ | ⟨hb3, hm⟩
     ·refine de G [] (hD 3 h6 (hC 7 (s_l1In_c h7) (hO 9 (.b true) (hP hb3 h0)))) ?_
      exact wJ G hm
     ·obtain ⟨e3, h8, hm⟩ := obind hm
      obtain ⟨r5, h9, hm⟩ := obind hm
      refine de G [] (hD 3 h6 (hC 7 (s_l1In_c h7) (hO 9 (.b false) (hP hb3 (hD 14 h8 (hC 16 (s_l2Place_c h9) h0)))))) ?_
      exact wJ G hm
    rintro v2 hm
    refine cd hm (fun hm => ?_) (fun hm => ?_)
    ·refine rg G ?_
     have hm := eL hm hb2 hr
     cases hm
     exact rt [] []
    ·exact X_skip (ibN (thN (rh G (wL G hm))))
   ·exact Ok_exit (thE (thE (ibE (wE G hm hb2))))
  rintro ⟨⟩ hm s hw
  refine thN (Ok_weak hw ?_)
  refine Ok_seq (rg G (tF hm (fun _ => ⟨[], [], 32⟩) (fun v4 hr1 hm => ?_) ?_))
  ·refine Ok_block (lp G hm (fun v3 => ⟨[(2, .ref 16 0), (6, dV v3)], [bX 16 [dV x.Name, dV x.Stops, dV x.Runs]], 48⟩) ?_)
   rintro v3 r0 hb4 hm
   rw [s_l2Line_L2] at hm
   refine Ok_seq (rs G (hN 3 x.Runs h0) ?_)
   refine cd hm (fun hm => ?_) (fun hm => ?_)
   ·refine X_skip (thN (Ok_seq (Ok_block ?_)))
    obtain ⟨e5, h10, hm⟩ := obind hm
    obtain ⟨r7, h11, hm⟩ := obind hm
    refine rs G (hD 3 h10 (hC 5 (s_l1In_c h11) h0)) ?_
    refine cd hm (fun hm => ?_) (fun hm => ?_)
    ·refine rg G ?_
     have hm := eL hm hb4 hr1
     cases hm
     exact rt [] []
    ·exact X_skip (ibN (thN (rh G (wL G hm))))
   ·exact Ok_exit (thE (thE (ibE (wE G hm hb4))))
  rintro ⟨⟩ hm s1 hw1
  refine thN (Ok_weak hw1 ?_)
  refine rg G ?_
  cases hm
  exact rt [] []
noncomputable def s_l2LineNamed_M : MS (Network × ByteArray) Int := ⟨.x .r .r, fun x => s_l2LineNamed x.1 x.2, fun y => dV y, fun _ => [], fun _ _ => []⟩
theorem s_l2LineNamed_c {n name y} (hm : s_l2LineNamed n name = some y) : s_l2LineNamed_M.C (n, name) y := s_l2LineNamed_M.c (n, name) hm
theorem s_l2LineNamed_ok : FnOK Try.prog 303 s_l2LineNamed_M.S := by
 refine fm tt s_l2LineNamed_M [] Try.call303 Try.func303 rfl Try.results303 Try.ntmps303 ?_
 rintro ⟨n, name⟩ y cx G hm
 have hm : s_l2LineNamed n name = some y := hm
 unfold s_l2LineNamed at hm
 refine rg G (Ok_seq (rg G (tF hm (fun _ => ⟨[], [], 32⟩) (fun v1 hr hm => ?_) ?_)))
 ·refine Ok_block (lp G hm (fun v => ⟨[(1, dV name), (2, .ref 16 0), (5, dV v)], [bX 16 [dV n.Stops, dV n.Lines]], 48⟩) ?_)
  rintro v r0 hb hm
  rw [s_l2LineNamed_L1] at hm
  refine Ok_seq (rs G (hN 3 n.Lines h0) ?_)
  refine cd hm (fun hm => ?_) (fun hm => ?_)
  ·refine X_skip (thN (Ok_seq (Ok_block ?_)))
   obtain ⟨e, h, hm⟩ := obind hm
   refine rs G (hD 3 h h0) ?_
   refine cd hm (fun hm => ?_) (fun hm => ?_)
   ·refine rg G ?_
    have hm := eL hm hb hr
    cases hm
    exact rt [] []
   ·exact X_skip (ibN (thN (rh G (wL G hm))))
  ·exact Ok_exit (thE (thE (ibE (wE G hm hb))))
 rintro ⟨⟩ hm s hw
 refine thN (Ok_weak hw ?_)
 refine rg G ?_
 cases hm
 exact rt [] []
noncomputable def s_l2Good_M : MS Network Bool := ⟨.r, s_l2Good, fun y => dV y, fun _ => [], fun _ _ => []⟩
theorem s_l2Good_c {n y} (hm : s_l2Good n = some y) : s_l2Good_M.C n y := s_l2Good_M.c n hm
theorem s_l2Good_ok : FnOK Try.prog 236 s_l2Good_M.S := by
 refine fm tt s_l2Good_M [fo s_l1In_ok, fo s_l2Name_ok, fo s_l2Find_ok, fo s_l2Line_ok, fo s_l2LineNamed_ok] Try.call236 Try.func236 rfl Try.results236 Try.ntmps236 ?_
 rintro n y cx G hm
 have hm : s_l2Good n = some y := hm
 unfold s_l2Good at hm
 refine rg G (Ok_seq ?_)
 obtain ⟨r, h, hm⟩ := obind hm
 refine jn hm (fun v => ⟨[(1, .ref 16 0), (16, dV v)], [bX 16 [dV n.Stops, dV n.Lines]], 48⟩) (fun v hm => ?_) ?_
 ·rcases bf hm with ⟨hb, hm⟩ | ⟨hb, hm⟩
  ·refine re G (hN 2 n.Stops (hC 3 (s_l1In_c h) (hO 5 (.b true) (hP hb h0)))) ?_
   exact wJ G hm
  ·obtain ⟨r1, h1, hm⟩ := obind hm
   refine re G (hN 2 n.Stops (hC 3 (s_l1In_c h) (hO 5 (.b false) (hP hb (hN 8 n.Lines (hC 9 (s_l1In_c h1) h0)))))) ?_
   exact wJ G hm
 rintro v hm
 refine cd hm (fun hm => ?_) (fun hm => ?_)
 ·refine rg G ?_
  cases hm
  exact rt [] []
 ·refine X_skip (thN (Ok_seq (rg G (tF hm (fun _ => ⟨[(1, .ref 16 0)], [bX 16 [dV n.Stops, dV n.Lines]], 48⟩) (fun v5 hr hm => ?_) ?_))))
  ·refine Ok_block (lp G hm (fun i => ⟨[(1, .ref 16 0), (3, dV i)], [bX 16 [dV n.Stops, dV n.Lines]], 48⟩) ?_)
   rintro i r0 hb1 hm
   rw [s_l2Good_L1] at hm
   refine Ok_seq (rs G (hN 3 n.Stops h0) ?_)
   refine cd hm (fun hm => ?_) (fun hm => ?_)
   ·refine X_skip (thN (Ok_seq (Ok_block ?_)))
    obtain ⟨e2, h6, hm⟩ := obind hm
    obtain ⟨r4, h7, hm⟩ := obind hm
    refine jn hm (fun v1 => ⟨[(1, .ref 16 0), (3, dV i), (42, dV v1)], [bX 16 [dV n.Stops, dV n.Lines]], 48⟩) (fun v1 hm => ?_) ?_
    ·rcases bf hm with ⟨hb2, hm⟩ | ⟨hb2, hm⟩
     ·refine de G [] (hD 3 h6 (hC 5 (s_l2Name_c h7) (hO 7 (.b true) (hP hb2 h0)))) ?_
      exact wJ G hm
     ·obtain ⟨e3, h8, hm⟩ := obind hm
      obtain ⟨r5, h9, hm⟩ := obind hm
      refine de G [] (hD 3 h6 (hC 5 (s_l2Name_c h7) (hO 7 (.b false) (hP hb2 (hD 13 h8 (hC 15 (s_l2Find_c h9) h0)))))) ?_
      exact wJ G hm
    rintro v1 hm
    refine cd hm (fun hm => ?_) (fun hm => ?_)
    ·refine rg G ?_
     have hm := eL hm hb1 hr
     cases hm
     exact rt [] []
    ·exact X_skip (ibN (thN (rh G (wL G hm))))
   ·exact Ok_exit (thE (thE (ibE (wE G hm hb1))))
  rintro ⟨⟩ hm s hw
  refine thN (Ok_weak hw ?_)
  refine Ok_seq (rg G (tF hm (fun _ => ⟨[], [], 32⟩) (fun v4 hr1 hm => ?_) ?_))
  ·refine Ok_block (lp G hm (fun v2 => ⟨[(1, .ref 16 0), (4, dV v2)], [bX 16 [dV n.Stops, dV n.Lines]], 48⟩) ?_)
   rintro v2 r0 hb3 hm
   rw [s_l2Good_L2] at hm
   refine Ok_seq (rs G (hN 3 n.Lines h0) ?_)
   refine cd hm (fun hm => ?_) (fun hm => ?_)
   ·refine X_skip (thN (Ok_seq (Ok_block ?_)))
    obtain ⟨e7, h14, hm⟩ := obind hm
    obtain ⟨r9, h15, hm⟩ := obind hm
    refine jn hm (fun v3 => ⟨[(1, .ref 16 0), (4, dV v2), (71, dV v3)], [bX 16 [dV n.Stops, dV n.Lines]], 48⟩) (fun v3 hm => ?_) ?_
    ·rcases bf hm with ⟨hb4, hm⟩ | ⟨hb4, hm⟩
     ·refine de G [] (hD 3 h14 (hN 7 n.Stops (hC 8 (s_l2Line_c h15) (hO 10 (.b true) (hP hb4 h0))))) ?_
      exact wJ G hm
     ·obtain ⟨e8, h16, hm⟩ := obind hm
      obtain ⟨r10, h17, hm⟩ := obind hm
      refine de G [] (hD 3 h14 (hN 7 n.Stops (hC 8 (s_l2Line_c h15) (hO 10 (.b false) (hP hb4 (hD 15 h16 (hC 18 (s_l2LineNamed_c h17) h0))))))) ?_
      exact wJ G hm
    rintro v3 hm
    refine cd hm (fun hm => ?_) (fun hm => ?_)
    ·refine rg G ?_
     have hm := eL hm hb3 hr1
     cases hm
     exact rt [] []
    ·exact X_skip (ibN (thN (rh G (wL G hm))))
   ·exact Ok_exit (thE (thE (ibE (wE G hm hb3))))
  rintro ⟨⟩ hm s1 hw1
  refine thN (Ok_weak hw1 ?_)
  refine rg G ?_
  cases hm
  exact rt [] []
noncomputable def s_l4Time_M : MS Int Bool := ⟨.r, s_l4Time, fun y => dV y, fun _ => [], fun _ _ => []⟩
theorem s_l4Time_c {t y} (hm : s_l4Time t = some y) : s_l4Time_M.C t y := s_l4Time_M.c t hm
theorem s_l4Time_ok : FnOK Try.prog 195 s_l4Time_M.S := by
 refine fm tt s_l4Time_M [fo s_l1In_ok] Try.call195 Try.func195 rfl Try.results195 Try.ntmps195 ?_
 rintro t y cx G hm
 have hm : s_l4Time t = some y := hm
 unfold s_l4Time at hm
 refine rg G ?_
 obtain ⟨r, h, hm⟩ := obind hm
 refine rs G (hC 1 (s_l1In_c h) h0) ?_
 cases hm
 exact rt [] []
noncomputable def s_l5Line_M : MS (Timetable × Int) Line := ⟨.x .r .r, fun x => s_l5Line x.1 x.2, fun y => dV y, fun _ => [], fun _ _ => []⟩
theorem s_l5Line_c {t i y} (hm : s_l5Line t i = some y) : s_l5Line_M.C (t, i) y := s_l5Line_M.c (t, i) hm
theorem s_l5Line_ok : FnOK Try.prog 308 s_l5Line_M.S := by
 refine fm tt s_l5Line_M [] Try.call308 Try.func308 rfl Try.results308 Try.ntmps308 ?_
 rintro ⟨t, i⟩ y cx G hm
 have hm : s_l5Line t i = some y := hm
 unfold s_l5Line at hm
 refine rg G ?_
 obtain ⟨e2, h2, hm⟩ := obind hm
 obtain ⟨e3, h3, hm⟩ := obind hm
 refine ds G [(11, [32])] (hD 6 h2 (hD 9 h3 h0)) ?_
 cases hm
 exact rt [] []
noncomputable def s_l5Stops_M : MS (Timetable × Int) ((List Int)) := ⟨.x .r .r, fun x => s_l5Stops x.1 x.2, fun y => dV y, fun _ => [], fun _ _ => []⟩
theorem s_l5Stops_c {t i y} (hm : s_l5Stops t i = some y) : s_l5Stops_M.C (t, i) y := s_l5Stops_M.c (t, i) hm
theorem s_l5Stops_ok : FnOK Try.prog 249 s_l5Stops_M.S := by
 refine fm tt s_l5Stops_M [fo s_l5Line_ok] Try.call249 Try.func249 rfl Try.results249 Try.ntmps249 ?_
 rintro ⟨t, i⟩ y cx G hm
 have hm : s_l5Stops t i = some y := hm
 unfold s_l5Stops at hm
 refine rg G ?_
 obtain ⟨r, h, hm⟩ := obind hm
 refine rs G (hC 2 (s_l5Line_c h) h0) ?_
 cases hm
 exact rt [] []
noncomputable def s_l2Run_M : MS (Line × Int × Int) Int := ⟨.x .r (.x .r .r), fun x => s_l2Run x.1 x.2.1 x.2.2, fun y => dV y, fun _ => [], fun _ _ => []⟩
theorem s_l2Run_c {x from_ to y} (hm : s_l2Run x from_ to = some y) : s_l2Run_M.C (x, from_, to) y := s_l2Run_M.c (x, from_, to) hm
theorem s_l2Run_ok : FnOK Try.prog 309 s_l2Run_M.S := by
 refine fm tt s_l2Run_M [] Try.call309 Try.func309 rfl Try.results309 Try.ntmps309 ?_
 rintro ⟨x, from_, to⟩ y cx G hm
 have hm : s_l2Run x from_ to = some y := hm
 unfold s_l2Run at hm
 refine rg G (rg G (Ok_seq (rg G (tl hm (fun v2 => ⟨[(7, dV v2)], [], 32⟩) (fun v2 hm => ?_) ?_))))
 ·refine Ok_block (lp G hm (fun (v, v1) => ⟨[(2, dV to), (3, .ref 16 0), (7, dV v), (8, dV v1)], [bX 16 [dV x.Name, dV x.Stops, dV x.Runs]], 48⟩) ?_)
  rintro ⟨v, v1⟩ r0 hb hm
  rw [s_l2Run_L1] at hm
  refine Ok_seq (rg G (cd hm (fun hm => ?_) (fun hm => ?_)))
  ·refine X_skip (thN (Ok_seq (Ok_block ?_)))
   obtain ⟨e, h, hm⟩ := obind hm
   refine re G (hD 4 h h0) ?_
   exact ibN (thN (rh G (wL G hm)))
  ·exact Ok_exit (thE (thE (ibE (wD G hm hb))))
 rintro v2 hm s hw
 refine thN (Ok_weak hw ?_)
 refine rg G ?_
 cases hm
 exact rt [] []
noncomputable def s_l5At_M : MS (Timetable × Int × Int) Int := ⟨.x .r (.x .r .r), fun x => s_l5At x.1 x.2.1 x.2.2, fun y => dV y, fun _ => [], fun _ _ => []⟩
theorem s_l5At_c {t i k y} (hm : s_l5At t i k = some y) : s_l5At_M.C (t, i, k) y := s_l5At_M.c (t, i, k) hm
theorem s_l5At_ok : FnOK Try.prog 250 s_l5At_M.S := by
 refine fm tt s_l5At_M [fo s_l5Line_ok, fo s_l2Run_ok] Try.call250 Try.func250 rfl Try.results250 Try.ntmps250 ?_
 rintro ⟨t, i, k⟩ y cx G hm
 have hm : s_l5At t i k = some y := hm
 unfold s_l5At at hm
 refine rg G ?_
 obtain ⟨e1, h3, hm⟩ := obind hm
 obtain ⟨r2, h4, hm⟩ := obind hm
 obtain ⟨r3, h5, hm⟩ := obind hm
 refine ds G [] (hD 3 h3 (hC 8 (s_l5Line_c h4) (hC 10 (s_l2Run_c h5) h0))) ?_
 cases hm
 exact rt [] []
noncomputable def s_l5End_M : MS (Timetable × Int) Int := ⟨.x .r .r, fun x => s_l5End x.1 x.2, fun y => dV y, fun _ => [], fun _ _ => []⟩
theorem s_l5End_c {t i y} (hm : s_l5End t i = some y) : s_l5End_M.C (t, i) y := s_l5End_M.c (t, i) hm
theorem s_l5End_ok : FnOK Try.prog 257 s_l5End_M.S := by
 refine fm tt s_l5End_M [fo s_l5Stops_ok, fo s_l5At_ok] Try.call257 Try.func257 rfl Try.results257 Try.ntmps257 ?_
 rintro ⟨t, i⟩ y cx G hm
 have hm : s_l5End t i = some y := hm
 unfold s_l5End at hm
 refine rg G ?_
 obtain ⟨r2, h2, hm⟩ := obind hm
 obtain ⟨r3, h3, hm⟩ := obind hm
 refine ds G [] (hC 4 (s_l5Stops_c h2) (hN 5 r2 (hC 7 (s_l5At_c h3) h0))) ?_
 cases hm
 exact rt [] []
noncomputable def s_l5Good_M : MS Timetable Bool := ⟨.r, s_l5Good, fun y => dV y, fun _ => [], fun _ _ => []⟩
theorem s_l5Good_c {t y} (hm : s_l5Good t = some y) : s_l5Good_M.C t y := s_l5Good_M.c t hm
theorem s_l5Good_ok : FnOK Try.prog 161 s_l5Good_M.S := by
 refine fm tt s_l5Good_M [fo s_l2Good_ok, fo s_l1In_ok, fo s_l4Time_ok, fo s_l5End_ok] Try.call161 Try.func161 rfl Try.results161 Try.ntmps161 ?_
 rintro t y cx G hm
 have hm : s_l5Good t = some y := hm
 unfold s_l5Good at hm
 refine rg G (Ok_seq ?_)
 obtain ⟨r, h, hm⟩ := obind hm
 refine jn hm (fun v => ⟨[(1, .ref 16 0), (14, dV v)], [bX 16 [dV t.Network.Stops, dV t.Network.Lines, dV t.Trips]], 48⟩) (fun v hm => ?_) ?_
 ·rcases bf hm with ⟨hb, hm⟩ | ⟨hb, hm⟩
  ·refine re G (hC 2 (s_l2Good_c h) (hO 4 (.b true) (hP hb h0))) ?_
   exact wJ G hm
  ·refine re G (hC 2 (s_l2Good_c h) (hO 4 (.b false) (hP hb (hN 7 t.Trips h0)))) ?_
   exact wJ G hm
 rintro v hm
 refine cd hm (fun hm => ?_) (fun hm => ?_)
 ·refine rg G ?_
  cases hm
  exact rt [] []
 ·refine X_skip (thN (Ok_seq (rg G (tF hm (fun _ => ⟨[], [], 32⟩) (fun v2 hr hm => ?_) ?_))))
  ·refine Ok_block (lp G hm (fun x => ⟨[(1, .ref 16 0), (3, dV x)], [bX 16 [dV t.Network.Stops, dV t.Network.Lines, dV t.Trips]], 48⟩) ?_)
   rintro x r0 hb1 hm
   rw [s_l5Good_L1] at hm
   refine Ok_seq (rs G (hN 3 t.Trips h0) ?_)
   refine cd hm (fun hm => ?_) (fun hm => ?_)
   ·refine X_skip (thN (Ok_seq (Ok_block ?_)))
    obtain ⟨e, h1, hm⟩ := obind hm
    refine rs G (hD 3 h1 h0) ?_
    obtain ⟨r6, h8, hm⟩ := obind hm
    refine jn hm (fun v1 => ⟨[(1, .ref 16 0), (3, dV x), (70, dV v1)], [bX 16 [dV t.Network.Stops, dV t.Network.Lines, dV t.Trips]], 48⟩) (fun v1 hm => ?_) ?_
    ·rcases bf hm with ⟨hb2, hm⟩ | ⟨hb2, hm⟩
     ·refine de G [] (hC 2 (s_l1In_c h8) (hO 4 (.b true) (hP hb2 h0))) ?_
      exact wJ G hm
     ·obtain ⟨r7, h9, hm⟩ := obind hm
      rcases bf hm with ⟨hb3, hm⟩ | ⟨hb3, hm⟩
      ·refine de G [] (hC 2 (s_l1In_c h8) (hO 4 (.b false) (hP hb2 (hN 10 t.Network.Lines (hC 12 (s_l1In_c h9) (hO 15 (.b true) (hP hb3 h0))))))) ?_
       exact wJ G hm
      ·obtain ⟨r8, h10, hm⟩ := obind hm
       rcases bf hm with ⟨hb4, hm⟩ | ⟨hb4, hm⟩
       ·refine de G [] (hC 2 (s_l1In_c h8) (hO 4 (.b false) (hP hb2 (hN 10 t.Network.Lines (hC 12 (s_l1In_c h9) (hO 15 (.b false) (hP hb3 (hC 18 (s_l4Time_c h10) (hO 21 (.b true) (hP hb4 h0)))))))))) ?_
        exact wJ G hm
       ·obtain ⟨r9, h11, hm⟩ := obind hm
        obtain ⟨r10, h12, hm⟩ := obind hm
        rcases bf hm with ⟨hb5, hm⟩ | ⟨hb5, hm⟩
        ·refine de G [] (hC 2 (s_l1In_c h8) (hO 4 (.b false) (hP hb2 (hN 10 t.Network.Lines (hC 12 (s_l1In_c h9) (hO 15 (.b false) (hP hb3 (hC 18 (s_l4Time_c h10) (hO 21 (.b false) (hP hb4 (hC 24 (s_l5End_c h11) (hC 25 (s_l4Time_c h12) (hO 28 (.b true) (hP hb5 h0)))))))))))))) ?_
         exact wJ G hm
        ·rcases bf hm with ⟨hb6, hm⟩ | ⟨hb6, hm⟩
         ·obtain ⟨e2, h13, hm⟩ := obind hm
          refine de G [] (hC 2 (s_l1In_c h8) (hO 4 (.b false) (hP hb2 (hN 10 t.Network.Lines (hC 12 (s_l1In_c h9) (hO 15 (.b false) (hP hb3 (hC 18 (s_l4Time_c h10) (hO 21 (.b false) (hP hb4 (hC 24 (s_l5End_c h11) (hC 25 (s_l4Time_c h12) (hO 28 (.b false) (hP hb5 (hO 31 (.b true) (hP hb6 (hD 36 h13 h0))))))))))))))))) ?_
          exact wJ G hm
         ·refine de G [] (hC 2 (s_l1In_c h8) (hO 4 (.b false) (hP hb2 (hN 10 t.Network.Lines (hC 12 (s_l1In_c h9) (hO 15 (.b false) (hP hb3 (hC 18 (s_l4Time_c h10) (hO 21 (.b false) (hP hb4 (hC 24 (s_l5End_c h11) (hC 25 (s_l4Time_c h12) (hO 28 (.b false) (hP hb5 (hO 31 (.b false) (hP hb6 h0)))))))))))))))) ?_
          exact wJ G hm
    rintro v1 hm
    refine cd hm (fun hm => ?_) (fun hm => ?_)
    ·refine rg G ?_
     have hm := eL hm hb1 hr
     cases hm
     exact rt [] []
    ·exact X_skip (ibN (thN (rh G (wL G hm))))
   ·exact Ok_exit (thE (thE (ibE (wE G hm hb1))))
  rintro ⟨⟩ hm s hw
  refine thN (Ok_weak hw ?_)
  refine rg G ?_
  cases hm
  exact rt [] []
noncomputable def s_l5Own_M : MS Timetable Timetable := ⟨.r, s_l5Own, fun _ => .aggv [.own 0, .own 1, .own 2], fun y => [arO 9 y.Network.Stops, arO 236 y.Network.Lines, arO 81 y.Trips], fun _ _ => []⟩
theorem s_l5Own_c {t y} (hm : s_l5Own t = some y) : s_l5Own_M.C t y := s_l5Own_M.c t hm
theorem s_l5Own_ok : FnOK Try.prog 172 s_l5Own_M.S := by
 refine fm tt s_l5Own_M [fo s_l2Own_ok] Try.call172 Try.func172 rfl Try.results172 Try.ntmps172 ?_
 rintro t y cx G hm
 have hm : s_l5Own t = some y := hm
 unfold s_l5Own at hm
 refine rg G ?_
 obtain ⟨r1, h2, hm⟩ := obind hm
 obtain ⟨u1, h3, hm⟩ := obind hm
 refine ds G [(6, [96]), (8, [32, 80, 81, 144])] (hC 2 (s_l2Own_c h2) (hA 6 24 h3 h0)) ?_
 cases hm
 exact rt [80, 81, 144] []
noncomputable def s_l5Id_M : MS Timetable Int := ⟨.r, s_l5Id, fun y => dV y, fun _ => [], fun _ _ => []⟩
theorem s_l5Id_c {t y} (hm : s_l5Id t = some y) : s_l5Id_M.C t y := s_l5Id_M.c t hm
theorem s_l5Id_ok : FnOK Try.prog 222 s_l5Id_M.S := by
 refine fm tt s_l5Id_M [] Try.call222 Try.func222 rfl Try.results222 Try.ntmps222 ?_
 rintro t y cx G hm
 have hm : s_l5Id t = some y := hm
 unfold s_l5Id at hm
 refine rg G (rg G (Ok_seq (rg G (tl hm (fun i1 => ⟨[(3, dV i1)], [], 32⟩) (fun i1 hm => ?_) ?_))))
 ·refine Ok_block (lp G hm (fun (i, v) => ⟨[(1, .ref 16 0), (3, dV i), (4, dV v)], [bX 16 [dV t.Network.Stops, dV t.Network.Lines, dV t.Trips]], 48⟩) ?_)
  rintro ⟨i, v⟩ r0 hb hm
  rw [s_l5Id_L1] at hm
  refine Ok_seq (jn hm (fun v1 => ⟨[(1, .ref 16 0), (3, dV i), (4, dV v), (19, dV v1)], [bX 16 [dV t.Network.Stops, dV t.Network.Lines, dV t.Trips]], 48⟩) (fun v1 hm => ?_) ?_)
  ·rcases bf hm with ⟨hb1, hm⟩ | ⟨hb1, hm⟩
   ·obtain ⟨e, h, hm⟩ := obind hm
    refine re G (hN 3 t.Trips (hO 5 (.b true) (hP hb1 (hD 9 h h0)))) ?_
    exact wJ G hm
   ·refine re G (hN 3 t.Trips (hO 5 (.b false) (hP hb1 h0))) ?_
    exact wJ G hm
  rintro v1 hm
  refine cd hm (fun hm => ?_) (fun hm => ?_)
  ·exact X_skip (thN (Ok_seq (Ok_block (rh G (ibN (thN (rh G (wL G hm))))))))
  ·exact Ok_exit (thE (thE (ibE (wD G hm hb))))
 rintro i1 hm s hw
 refine thN (Ok_weak hw ?_)
 refine rg G ?_
 cases hm
 exact rt [] []
noncomputable def s_l5Put_M : MS (Timetable × Trip) Timetable := ⟨.x .r .r, fun x => s_l5Put x.1 x.2, fun _ => .aggv [.own 0, .own 1, .own 2], fun y => [arO 9 y.Network.Stops, arO 236 y.Network.Lines, arO 81 y.Trips], fun _ _ => []⟩
theorem s_l5Put_c {t x y} (hm : s_l5Put t x = some y) : s_l5Put_M.C (t, x) y := s_l5Put_M.c (t, x) hm
theorem s_l5Put_ok : FnOK Try.prog 162 s_l5Put_M.S := by
 refine fm tt s_l5Put_M [fo s_l5Own_ok] Try.call162 Try.func162 rfl Try.results162 Try.ntmps162 ?_
 rintro ⟨t, x⟩ y cx G hm
 have hm : s_l5Put t x = some y := hm
 unfold s_l5Put at hm
 refine rg G (rg G (jn hm (fun v2 => ⟨[(2, .ref 16 0), (3, .ref 32 0), (4, .ref 48 0), (5, dV v2)], [bX 16 [dV t.Network.Stops, dV t.Network.Lines, dV t.Trips], bX 32 [dV x.Id, dV x.Line, dV x.Start], bX 48 [.dat (.sc (.slice none 0 0)), .dat (.sc (.slice none 0 0)), .dat (.sc (.slice none 0 0))]], 80⟩) (fun v2 hm => ?_) ?_))
 ·refine Ok_block (lp G hm (fun v => ⟨[(2, .ref 16 0), (3, .ref 32 0), (4, .ref 48 0), (5, dV v)], [bX 16 [dV t.Network.Stops, dV t.Network.Lines, dV t.Trips], bX 32 [dV x.Id, dV x.Line, dV x.Start], bX 48 [.dat (.sc (.slice none 0 0)), .dat (.sc (.slice none 0 0)), .dat (.sc (.slice none 0 0))]], 80⟩) ?_)
  rintro v r0 hb hm
  rw [s_l5Put_L1] at hm
  refine Ok_seq (jn hm (fun v1 => ⟨[(2, .ref 16 0), (3, .ref 32 0), (4, .ref 48 0), (5, dV v), (22, dV v1)], [bX 16 [dV t.Network.Stops, dV t.Network.Lines, dV t.Trips], bX 32 [dV x.Id, dV x.Line, dV x.Start], bX 48 [.dat (.sc (.slice none 0 0)), .dat (.sc (.slice none 0 0)), .dat (.sc (.slice none 0 0))]], 80⟩) (fun v1 hm => ?_) ?_)
  ·rcases bf hm with ⟨hb1, hm⟩ | ⟨hb1, hm⟩
   ·obtain ⟨e1, h1, hm⟩ := obind hm
    refine de G [] (hN 3 t.Trips (hO 5 (.b true) (hP hb1 (hD 9 h1 h0)))) ?_
    exact wJ G hm
   ·refine de G [] (hN 3 t.Trips (hO 5 (.b false) (hP hb1 h0))) ?_
    exact wJ G hm
  rintro v1 hm
  refine cd hm (fun hm => ?_) (fun hm => ?_)
  ·exact X_skip (thN (Ok_block (rh G (ibN (wL G hm)))))
  ·exact Ok_exit (thE (thE (ibE (wD G hm hb))))
 rintro v2 hm
 obtain ⟨r, h2, hm⟩ := obind hm
 refine rs G (hC 1 (s_l5Own_c h2) h0) ?_
 obtain ⟨u5, h8, hm⟩ := obind hm
 obtain ⟨u6, h9, hm⟩ := obind hm
 obtain ⟨u7, h10, hm⟩ := obind hm
 obtain ⟨u8, h11, hm⟩ := obind hm
 obtain ⟨u9, h12, hm⟩ := obind hm
 refine ds G [(4, []), (5, [144]), (8, [224, 256]), (12, []), (13, [272]), (15, [112, 352])] (hU 4 h8 (hA 5 24 h9 (hA 8 24 h10 (hV 12 h11 (hA 13 24 h12 h0))))) ?_
 refine rg G ?_
 cases hm
 exact rt [96, 97, 352] []
noncomputable def s_RepeatTrips_M : MS (Timetable × Int × Int × Int × Int) (Timetable × Int × Bool) := ⟨.x .r (.x .r (.x .r (.x .r .r))), fun x => s_RepeatTrips x.1 x.2.1 x.2.2.1 x.2.2.2.1 x.2.2.2.2, fun y => .tup [dV y.1, dV y.2.1, dV y.2.2], fun _ => [], fun _ _ => []⟩
theorem s_RepeatTrips_c {t line from_ to headway y} (hm : s_RepeatTrips t line from_ to headway = some y) : s_RepeatTrips_M.C (t, line, from_, to, headway) y := s_RepeatTrips_M.c (t, line, from_, to, headway) hm
theorem s_RepeatTrips_ok : FnOK Try.prog 95 s_RepeatTrips_M.S := by
 refine fm tt s_RepeatTrips_M [fo s_l5Good_ok, fo s_l1In_ok, fo s_l4Time_ok, fo s_l5Own_ok, fo s_l5Id_ok, fo s_l5Put_ok] Try.call95 Try.func95 rfl Try.results95 Try.ntmps95 ?_
 rintro ⟨t, line, from_, to, headway⟩ y cx G hm
 have hm : s_RepeatTrips t line from_ to headway = some y := hm
 unfold s_RepeatTrips at hm
 refine rg G (Ok_seq ?_)
 obtain ⟨r, h, hm⟩ := obind hm
 refine jn hm (fun v => ⟨[(1, dV line), (2, dV from_), (3, dV to), (4, dV headway), (5, .ref 16 0), (10, .ref 32 0), (37, dV v)], [bX 16 [dV t.Network.Stops, dV t.Network.Lines, dV t.Trips], bX 32 [.dat (.sc (.slice none 0 0)), .dat (.sc (.slice none 0 0)), .dat (.sc (.slice none 0 0))]], 64⟩) (fun v hm => ?_) ?_
 ·rcases bf hm with ⟨hb, hm⟩ | ⟨hb, hm⟩
  ·refine re G (hC 1 (s_l5Good_c h) (hO 3 (.b true) (hP hb h0))) ?_
   exact wJ G hm
  ·obtain ⟨r1, h1, hm⟩ := obind hm
   rcases bf hm with ⟨hb1, hm⟩ | ⟨hb1, hm⟩
   ·refine re G (hC 1 (s_l5Good_c h) (hO 3 (.b false) (hP hb (hN 8 t.Network.Lines (hC 10 (s_l1In_c h1) (hO 13 (.b true) (hP hb1 h0))))))) ?_
    exact wJ G hm
   ·obtain ⟨r2, h2, hm⟩ := obind hm
    rcases bf hm with ⟨hb2, hm⟩ | ⟨hb2, hm⟩
    ·refine re G (hC 1 (s_l5Good_c h) (hO 3 (.b false) (hP hb (hN 8 t.Network.Lines (hC 10 (s_l1In_c h1) (hO 13 (.b false) (hP hb1 (hC 15 (s_l4Time_c h2) (hO 18 (.b true) (hP hb2 h0)))))))))) ?_
     exact wJ G hm
    ·refine re G (hC 1 (s_l5Good_c h) (hO 3 (.b false) (hP hb (hN 8 t.Network.Lines (hC 10 (s_l1In_c h1) (hO 13 (.b false) (hP hb1 (hC 15 (s_l4Time_c h2) (hO 18 (.b false) (hP hb2 h0)))))))))) ?_
     exact wJ G hm
 rintro v hm
 refine cd hm (fun hm => ?_) (fun hm => ?_)
 ·refine rg G ?_
  cases hm
  exact rt [] [[.z 1, .z 3, .z 3]]
 ·refine X_skip (thN ?_)
  obtain ⟨r3, h3, hm⟩ := obind hm
  refine rs G (hC 1 (s_l5Own_c h3) h0) ?_
  refine rg G (jF hm (fun (v1, v2, v3, v4) => ⟨[(10, .ref 16 0), (13, .ref 32 0), (14, dV v1)], [bX 16 [.dat (.sc (.slice none 0 0)), .dat (.sc (.slice none 0 0)), .dat (.sc (.slice none 0 0))], bX 32 [.own 48, .own 64, .own 80], aX 48 9 v2, aX 64 236 v3, aX 80 81 v4], 112⟩) (fun v15 hr hm => ?_) ?_)
  ·refine rg G (tF hm (fun (v10, v11, v12, v13) => ⟨[(10, .ref 16 0), (13, .ref 32 0), (14, dV v10)], [bX 16 [.dat (.sc (.slice none 0 0)), .dat (.sc (.slice none 0 0)), .dat (.sc (.slice none 0 0))], bX 32 [.own 48, .own 64, .own 80], aX 48 9 v11, aX 64 236 v12, aX 80 81 v13], 112⟩) (fun v14 hr1 hm => ?_) ?_)
   ·refine Ok_block (lp G hm (fun (v5, v6, v7, v8, v9) => ⟨[(1, dV line), (2, dV from_), (3, dV to), (4, dV headway), (10, .ref 16 0), (13, .ref 32 0), (14, dV v5), (15, dV v6)], [bX 16 [.dat (.sc (.slice none 0 0)), .dat (.sc (.slice none 0 0)), .dat (.sc (.slice none 0 0))], bX 32 [.own 48, .own 64, .own 80], aX 48 9 v7, aX 64 236 v8, aX 80 81 v9], 112⟩) ?_)
    rintro ⟨v5, v6, v7, v8, v9⟩ r0 hb3 hm
    rw [s_RepeatTrips_L1] at hm
    refine Ok_seq (rg G (cd hm (fun hm => ?_) (fun hm => ?_)))
    ·refine X_skip (thN (Ok_seq (Ok_block (Ok_weak (Wk_J (x' := (⟨[(1, dV line), (2, dV from_), (3, dV to), (4, dV headway), (10, .ref 16 0), (13, .ref 32 0), (14, dV v5), (15, dV v6)], [bX 16 [.dat (.sc (.slice none 0 0)), .dat (.sc (.slice none 0 0)), .dat (.sc (.slice none 0 0))], bX 32 [dV v7, dV v8, dV v9]], 64⟩ : X)) G.hL ⟨[(1, []), (2, []), (3, []), (4, []), (10, []), (13, []), (14, []), (15, [])], [(16, 16, []), (32, 32, [])], [], 64⟩ (by kernel_rfl)) ?_))))
     obtain ⟨r6, h6, hm⟩ := obind hm
     obtain ⟨r7, h7, hm⟩ := obind hm
     refine ds G [(7, [32, 160, 161, 162])] (hC 2 (s_l5Id_c h6) (hC 6 (s_l5Put_c h7) h0)) ?_
     refine rg G (Ok_seq ?_)
     obtain ⟨r8, h8, hm⟩ := obind hm
     refine rs G (hC 1 (s_l5Good_c h8) h0) ?_
     refine cd hm (fun hm => ?_) (fun hm => ?_)
     ·refine rg G ?_
      have hm := eL hm hb3 hr1
      have hm := eR hm hr
      cases hm
      exact rt [] [[.z 1, .z 3, .z 3]]
     ·refine X_skip (thN (rg G (cd hm (fun hm => ?_) (fun hm => ?_))))
      ·exact Ok_exit (ibX rfl (thE (thE (ibE (wE G hm hb3)))))
      ·exact X_skip (ibN (thN (rh G (wL G hm))))
    ·exact Ok_exit (thE (thE (ibE (wE G hm hb3))))
   rintro ⟨v10, v11, v12, v13⟩ hm s hw
   exact wFp hm (Wk.trans hw (Wk_J G.hL ⟨[(10, []), (13, []), (14, [])], [(16, 16, []), (32, 32, []), (48, 48, []), (64, 64, []), (80, 80, [])], [], 112⟩ (by kernel_rfl)))
  rintro ⟨v1, v2, v3, v4⟩ hm
  refine rg G ?_
  cases hm
  exact rt [] []
noncomputable def v_vTexts_M : MS ((List ByteArray) × (List ByteArray)) Bool := ⟨.x .r .r, fun x => v_vTexts x.1 x.2, fun y => dV y, fun _ => [], fun _ _ => []⟩
theorem v_vTexts_c {a b y} (hm : v_vTexts a b = some y) : v_vTexts_M.C (a, b) y := v_vTexts_M.c (a, b) hm
theorem v_vTexts_ok : FnOK Try.prog 258 v_vTexts_M.S := by
 refine fm tt v_vTexts_M [] Try.call258 Try.func258 rfl Try.results258 Try.ntmps258 ?_
 rintro ⟨a, b⟩ y cx G hm
 have hm : v_vTexts a b = some y := hm
 unfold v_vTexts at hm
 refine rg G (Ok_seq (rs G (hN 1 a (hN 3 b h0)) ?_))
 refine cd hm (fun hm => ?_) (fun hm => ?_)
 ·refine rg G ?_
  cases hm
  exact rt [] []
 ·refine X_skip (thN (Ok_seq (rg G (tF hm (fun _ => ⟨[], [], 32⟩) (fun v1 hr hm => ?_) ?_))))
  ·refine Ok_block (lp G hm (fun v => ⟨[(0, dV a), (1, dV b), (5, dV v)], [], 32⟩) ?_)
   rintro v r0 hb hm
   rw [v_vTexts_L1] at hm
   refine Ok_seq (rs G (hN 2 a h0) ?_)
   refine cd hm (fun hm => ?_) (fun hm => ?_)
   ·refine X_skip (thN (Ok_seq (Ok_block ?_)))
    obtain ⟨e2, h2, hm⟩ := obind hm
    obtain ⟨e3, h3, hm⟩ := obind hm
    refine ds G [] (hD 2 h2 (hD 6 h3 h0)) ?_
    refine cd hm (fun hm => ?_) (fun hm => ?_)
    ·refine rg G ?_
     have hm := eL hm hb hr
     cases hm
     exact rt [] []
    ·exact X_skip (ibN (thN (rh G (wL G hm))))
   ·exact Ok_exit (thE (thE (ibE (wE G hm hb))))
  rintro ⟨⟩ hm s hw
  refine thN (Ok_weak hw ?_)
  refine rg G ?_
  cases hm
  exact rt [] []
noncomputable def v_vInts_M : MS ((List Int) × (List Int)) Bool := ⟨.x .r .r, fun x => v_vInts x.1 x.2, fun y => dV y, fun _ => [], fun _ _ => []⟩
theorem v_vInts_c {a b y} (hm : v_vInts a b = some y) : v_vInts_M.C (a, b) y := v_vInts_M.c (a, b) hm
theorem v_vInts_ok : FnOK Try.prog 213 v_vInts_M.S := by
 refine fm tt v_vInts_M [] Try.call213 Try.func213 rfl Try.results213 Try.ntmps213 ?_
 rintro ⟨a, b⟩ y cx G hm
 have hm : v_vInts a b = some y := hm
 unfold v_vInts at hm
 refine rg G (Ok_seq (rs G (hN 1 a (hN 3 b h0)) ?_))
 refine cd hm (fun hm => ?_) (fun hm => ?_)
 ·refine rg G ?_
  cases hm
  exact rt [] []
 ·refine X_skip (thN (Ok_seq (rg G (tF hm (fun _ => ⟨[], [], 32⟩) (fun v1 hr hm => ?_) ?_))))
  ·refine Ok_block (lp G hm (fun v => ⟨[(0, dV a), (1, dV b), (5, dV v)], [], 32⟩) ?_)
   rintro v r0 hb hm
   rw [v_vInts_L1] at hm
   refine Ok_seq (rs G (hN 2 a h0) ?_)
   refine cd hm (fun hm => ?_) (fun hm => ?_)
   ·refine X_skip (thN (Ok_seq (Ok_block ?_)))
    obtain ⟨e2, h2, hm⟩ := obind hm
    obtain ⟨e3, h3, hm⟩ := obind hm
    refine ds G [] (hD 2 h2 (hD 6 h3 h0)) ?_
    refine cd hm (fun hm => ?_) (fun hm => ?_)
    ·refine rg G ?_
     have hm := eL hm hb hr
     cases hm
     exact rt [] []
    ·exact X_skip (ibN (thN (rh G (wL G hm))))
   ·exact Ok_exit (thE (thE (ibE (wE G hm hb))))
  rintro ⟨⟩ hm s hw
  refine thN (Ok_weak hw ?_)
  refine rg G ?_
  cases hm
  exact rt [] []
noncomputable def v_vNetwork_M : MS (Network × Network) Bool := ⟨.x .r .r, fun x => v_vNetwork x.1 x.2, fun y => dV y, fun _ => [], fun _ _ => []⟩
theorem v_vNetwork_c {a b y} (hm : v_vNetwork a b = some y) : v_vNetwork_M.C (a, b) y := v_vNetwork_M.c (a, b) hm
theorem v_vNetwork_ok : FnOK Try.prog 163 v_vNetwork_M.S := by
 refine fm tt v_vNetwork_M [fo v_vTexts_ok, fo v_vInts_ok] Try.call163 Try.func163 rfl Try.results163 Try.ntmps163 ?_
 rintro ⟨a, b⟩ y cx G hm
 have hm : v_vNetwork a b = some y := hm
 unfold v_vNetwork at hm
 refine rg G (Ok_seq ?_)
 obtain ⟨r, h, hm⟩ := obind hm
 refine jn hm (fun v => ⟨[(2, .ref 16 0), (3, .ref 32 0), (20, dV v)], [bX 16 [dV a.Stops, dV a.Lines], bX 32 [dV b.Stops, dV b.Lines]], 64⟩) (fun v hm => ?_) ?_
 ·rcases bf hm with ⟨hb, hm⟩ | ⟨hb, hm⟩
  ·refine re G (hC 4 (v_vTexts_c h) (hO 6 (.b true) (hP hb h0))) ?_
   exact wJ G hm
  ·refine re G (hC 4 (v_vTexts_c h) (hO 6 (.b false) (hP hb (hN 9 a.Lines (hN 12 b.Lines h0))))) ?_
   exact wJ G hm
 rintro v hm
 refine cd hm (fun hm => ?_) (fun hm => ?_)
 ·refine rg G ?_
  cases hm
  exact rt [] []
 ·refine X_skip (thN (Ok_seq (rg G (tF hm (fun _ => ⟨[], [], 32⟩) (fun v3 hr hm => ?_) ?_))))
  ·refine Ok_block (lp G hm (fun v1 => ⟨[(2, .ref 16 0), (3, .ref 32 0), (5, dV v1)], [bX 16 [dV a.Stops, dV a.Lines], bX 32 [dV b.Stops, dV b.Lines]], 64⟩) ?_)
   rintro v1 r0 hb1 hm
   rw [v_vNetwork_L1] at hm
   refine Ok_seq (rs G (hN 3 a.Lines h0) ?_)
   refine cd hm (fun hm => ?_) (fun hm => ?_)
   ·refine X_skip (thN (Ok_seq (Ok_block ?_)))
    obtain ⟨e6, h9, hm⟩ := obind hm
    obtain ⟨e7, h10, hm⟩ := obind hm
    refine jn hm (fun v2 => ⟨[(2, .ref 16 0), (3, .ref 32 0), (5, dV v1), (72, dV v2)], [bX 16 [dV a.Stops, dV a.Lines], bX 32 [dV b.Stops, dV b.Lines]], 64⟩) (fun v2 hm => ?_) ?_
    ·rcases bf hm with ⟨hb2, hm⟩ | ⟨hb2, hm⟩
     ·refine de G [] (hD 3 h9 (hD 9 h10 (hO 13 (.b true) (hP hb2 h0)))) ?_
      exact wJ G hm
     ·obtain ⟨e8, h11, hm⟩ := obind hm
      obtain ⟨e9, h12, hm⟩ := obind hm
      obtain ⟨r3, h13, hm⟩ := obind hm
      rcases bf hm with ⟨hb3, hm⟩ | ⟨hb3, hm⟩
      ·refine de G [] (hD 3 h9 (hD 9 h10 (hO 13 (.b false) (hP hb2 (hD 17 h11 (hD 23 h12 (hC 26 (v_vInts_c h13) (hO 29 (.b true) (hP hb3 h0))))))))) ?_
       exact wJ G hm
      ·obtain ⟨e10, h14, hm⟩ := obind hm
       obtain ⟨e11, h15, hm⟩ := obind hm
       obtain ⟨r4, h16, hm⟩ := obind hm
       refine de G [] (hD 3 h9 (hD 9 h10 (hO 13 (.b false) (hP hb2 (hD 17 h11 (hD 23 h12 (hC 26 (v_vInts_c h13) (hO 29 (.b false) (hP hb3 (hD 33 h14 (hD 39 h15 (hC 42 (v_vInts_c h16) h0)))))))))))) ?_
       exact wJ G hm
    rintro v2 hm
    refine cd hm (fun hm => ?_) (fun hm => ?_)
    ·refine rg G ?_
     have hm := eL hm hb1 hr
     cases hm
     exact rt [] []
    ·exact X_skip (ibN (thN (rh G (wL G hm))))
   ·exact Ok_exit (thE (thE (ibE (wE G hm hb1))))
  rintro ⟨⟩ hm s hw
  refine thN (Ok_weak hw ?_)
  refine rg G ?_
  cases hm
  exact rt [] []
noncomputable def v_vTimetable_M : MS (Timetable × Timetable) Bool := ⟨.x .r .r, fun x => v_vTimetable x.1 x.2, fun y => dV y, fun _ => [], fun _ _ => []⟩
theorem v_vTimetable_c {a b y} (hm : v_vTimetable a b = some y) : v_vTimetable_M.C (a, b) y := v_vTimetable_M.c (a, b) hm
theorem v_vTimetable_ok : FnOK Try.prog 49 v_vTimetable_M.S := by
 refine fm tt v_vTimetable_M [fo v_vNetwork_ok] Try.call49 Try.func49 rfl Try.results49 Try.ntmps49 ?_
 rintro ⟨a, b⟩ y cx G hm
 have hm : v_vTimetable a b = some y := hm
 unfold v_vTimetable at hm
 refine rg G (Ok_seq ?_)
 obtain ⟨r, h, hm⟩ := obind hm
 refine jn hm (fun v => ⟨[(2, .ref 16 0), (3, .ref 32 0), (20, dV v)], [bX 16 [dV a.Network.Stops, dV a.Network.Lines, dV a.Trips], bX 32 [dV b.Network.Stops, dV b.Network.Lines, dV b.Trips]], 64⟩) (fun v hm => ?_) ?_
 ·rcases bf hm with ⟨hb, hm⟩ | ⟨hb, hm⟩
  ·refine re G (hC 4 (v_vNetwork_c h) (hO 6 (.b true) (hP hb h0))) ?_
   exact wJ G hm
  ·refine re G (hC 4 (v_vNetwork_c h) (hO 6 (.b false) (hP hb (hN 9 a.Trips (hN 12 b.Trips h0))))) ?_
   exact wJ G hm
 rintro v hm
 refine cd hm (fun hm => ?_) (fun hm => ?_)
 ·refine rg G ?_
  cases hm
  exact rt [] []
 ·refine X_skip (thN (Ok_seq (rg G (tF hm (fun _ => ⟨[], [], 32⟩) (fun v2 hr hm => ?_) ?_))))
  ·refine Ok_block (lp G hm (fun v1 => ⟨[(2, .ref 16 0), (3, .ref 32 0), (5, dV v1)], [bX 16 [dV a.Network.Stops, dV a.Network.Lines, dV a.Trips], bX 32 [dV b.Network.Stops, dV b.Network.Lines, dV b.Trips]], 64⟩) ?_)
   rintro v1 r0 hb1 hm
   rw [v_vTimetable_L1] at hm
   refine Ok_seq (rs G (hN 3 a.Trips h0) ?_)
   refine cd hm (fun hm => ?_) (fun hm => ?_)
   ·refine X_skip (thN (Ok_seq (Ok_block ?_)))
    obtain ⟨e2, h3, hm⟩ := obind hm
    obtain ⟨e3, h4, hm⟩ := obind hm
    refine ds G [] (hD 3 h3 (hD 8 h4 h0)) ?_
    refine cd hm (fun hm => ?_) (fun hm => ?_)
    ·refine rg G ?_
     have hm := eL hm hb1 hr
     cases hm
     exact rt [] []
    ·exact X_skip (ibN (thN (rh G (wL G hm))))
   ·exact Ok_exit (thE (thE (ibE (wE G hm hb1))))
  rintro ⟨⟩ hm s hw
  refine thN (Ok_weak hw ?_)
  refine rg G ?_
  cases hm
  exact rt [] []
noncomputable def cmp_isNaN_int_M : MS Int Bool := ⟨.r, cmp_isNaN_int, fun y => dV y, fun _ => [], fun _ _ => []⟩
theorem cmp_isNaN_int_c {x y} (hm : cmp_isNaN_int x = some y) : cmp_isNaN_int_M.C x y := cmp_isNaN_int_M.c x hm
theorem cmp_isNaN_int_ok : FnOK Try.prog 270 cmp_isNaN_int_M.S := by
 refine fm tt cmp_isNaN_int_M [] Try.call270 Try.func270 rfl Try.results270 Try.ntmps270 ?_
 rintro x y cx G hm
 have hm : cmp_isNaN_int x = some y := hm
 unfold cmp_isNaN_int at hm
 refine rg G (rg G ?_)
 cases hm
 exact rt [] []
noncomputable def cmp_Compare_int_M : MS (Int × Int) Int := ⟨.x .r .r, fun x => cmp_Compare_int x.1 x.2, fun y => dV y, fun _ => [], fun _ _ => []⟩
theorem cmp_Compare_int_c {x y_ y} (hm : cmp_Compare_int x y_ = some y) : cmp_Compare_int_M.C (x, y_) y := cmp_Compare_int_M.c (x, y_) hm
theorem cmp_Compare_int_ok : FnOK Try.prog 187 cmp_Compare_int_M.S := by
 refine fm tt cmp_Compare_int_M [fo cmp_isNaN_int_ok] Try.call187 Try.func187 rfl Try.results187 Try.ntmps187 ?_
 rintro ⟨x, y_⟩ y cx G hm
 have hm : cmp_Compare_int x y_ = some y := hm
 unfold cmp_Compare_int at hm
 refine rg G ?_
 obtain ⟨r, h, hm⟩ := obind hm
 refine rs G (hC 1 (cmp_isNaN_int_c h) h0) ?_
 obtain ⟨r1, h1, hm⟩ := obind hm
 refine rs G (hC 1 (cmp_isNaN_int_c h1) h0) ?_
 refine Ok_seq (rg G (cd hm (fun hm => ?_) (fun hm => ?_)))
 ·refine Ok_seq (rg G (cd hm (fun hm => ?_) (fun hm => ?_)))
  ·refine rg G ?_
   cases hm
   exact rt [] []
  ·refine X_skip (thN (rg G ?_))
   cases hm
   exact rt [] []
 ·refine X_skip (thN (Ok_seq (rg G (cd hm (fun hm => ?_) (fun hm => ?_)))))
  ·refine rg G ?_
   cases hm
   exact rt [] []
  ·refine X_skip (thN (Ok_seq (rg G (cd hm (fun hm => ?_) (fun hm => ?_)))))
   ·refine rg G ?_
    cases hm
    exact rt [] []
   ·refine X_skip (thN (Ok_seq (rg G (cd hm (fun hm => ?_) (fun hm => ?_)))))
    ·refine rg G ?_
     cases hm
     exact rt [] []
    ·refine X_skip (thN (rg G ?_))
     cases hm
     exact rt [] []
noncomputable def i_tripsOf_1_M : MS (Trip × Trip) Int := ⟨.x .r .r, fun x => i_tripsOf_1 x.1 x.2, fun y => dV y, fun _ => [], fun _ _ => []⟩
theorem i_tripsOf_1_c {a b y} (hm : i_tripsOf_1 a b = some y) : i_tripsOf_1_M.C (a, b) y := i_tripsOf_1_M.c (a, b) hm
theorem i_tripsOf_1_ok : FnOK Try.prog 291 i_tripsOf_1_M.S := by
 refine fm tt i_tripsOf_1_M [fo cmp_Compare_int_ok] Try.call291 Try.func291 rfl Try.results291 Try.ntmps291 ?_
 rintro ⟨a, b⟩ y cx G hm
 have hm : i_tripsOf_1 a b = some y := hm
 unfold i_tripsOf_1 at hm
 refine rg G ?_
 obtain ⟨r, h, hm⟩ := obind hm
 refine rs G (hC 4 (cmp_Compare_int_c h) h0) ?_
 cases hm
 exact rt [] []
noncomputable def slices_insertionSortCmpFunc_Trip_w__i_tripsOf_1_M : MS ((List Trip) × Int × Int) ((List Trip)) := ⟨⟨[.sl, .rd, .rd, .fn 291 []], fun x => [.sc undef, Enc.e x.2.1, Enc.e x.2.2, .agg []], fun x => [arO 81 x.1], 1, 1, fun _ => rfl, fun _ => rfl, rfl, (by
  rintro ⟨a0, a1, a2⟩ ⟨b0, b1, b2⟩ h hO
  have q0 : a0 = b0 := Enc.inj _ _ (congrArg (fun l => D.sl 3 (obL l 0)) hO)
  have q1 : a1 = b1 := qI 1 h
  have q2 : a2 = b2 := qI 2 h
  subst q0; subst q1; subst q2; rfl)⟩, fun x => slices_insertionSortCmpFunc_Trip_w__i_tripsOf_1 x.1 x.2.1 x.2.2, fun _ => .tup [], fun _ => [], fun _ y => [arO 81 y]⟩
theorem slices_insertionSortCmpFunc_Trip_w__i_tripsOf_1_c {data a b y} (hm : slices_insertionSortCmpFunc_Trip_w__i_tripsOf_1 data a b = some y) : slices_insertionSortCmpFunc_Trip_w__i_tripsOf_1_M.C (data, a, b) y := slices_insertionSortCmpFunc_Trip_w__i_tripsOf_1_M.c (data, a, b) hm
theorem slices_insertionSortCmpFunc_Trip_w__i_tripsOf_1_ok : FnOK Try.prog 329 slices_insertionSortCmpFunc_Trip_w__i_tripsOf_1_M.S := by
 refine fm tt slices_insertionSortCmpFunc_Trip_w__i_tripsOf_1_M [fo i_tripsOf_1_ok] Try.call329 Try.func329 rfl Try.results329 Try.ntmps329 ?_
 rintro ⟨data, a, b⟩ y cx G hm
 have hm : slices_insertionSortCmpFunc_Trip_w__i_tripsOf_1 data a b = some y := hm
 obtain ⟨cmp, hf_cmp⟩ : ∃ q, (fun (z0 : Trip) (z1 : Trip) => i_tripsOf_1 z0 z1) = q := ⟨_, rfl⟩
 have hm : slices_insertionSortCmpFunc_Trip_w data a b cmp = some y := by rw [← hf_cmp]; exact hm
 unfold slices_insertionSortCmpFunc_Trip_w at hm
 refine rg G (Ok_block (lp G hm (fun (v, data1) => ⟨[(0, .own 0), (1, dV a), (2, dV b), (3, .fn 291 []), (8, dV v)], [aX 0 81 data1], 48⟩) ?_))
 rintro ⟨v, data1⟩ r0 hb hm
 rw [slices_insertionSortCmpFunc_Trip_w_L2] at hm
 refine Ok_seq (rg G (cd hm (fun hm => ?_) (fun hm => ?_)))
 ·refine X_skip (thN (Ok_seq (Ok_block (rg G (tl hm (fun data3 => ⟨[(0, .own 0), (1, dV a), (2, dV b), (3, .fn 291 []), (8, dV v)], [aX 0 81 data3], 48⟩) (fun data3 hm => ?_) ?_)))))
  ·refine Ok_block (lp G hm (fun (v1, data2) => ⟨[(0, .own 0), (1, dV a), (2, dV b), (3, .fn 291 []), (8, dV v), (9, dV v1)], [aX 0 81 data2], 48⟩) ?_)
   rintro ⟨v1, data2⟩ r0 hb1 hm
   rw [slices_insertionSortCmpFunc_Trip_w_L1] at hm
   refine Ok_seq (jn hm (fun v2 => ⟨[(0, .own 0), (1, dV a), (2, dV b), (3, .fn 291 []), (8, dV v), (9, dV v1), (34, dV v2)], [aX 0 81 data2], 48⟩) (fun v2 hm => ?_) ?_)
   ·rcases bf hm with ⟨hb2, hm⟩ | ⟨hb2, hm⟩
    ·obtain ⟨e2, h3, hm⟩ := obind hm
     obtain ⟨e3, h4, hm⟩ := obind hm
     obtain ⟨r1, h5, hm⟩ := obind hm
     have h5 : i_tripsOf_1 e2 e3 = some r1 := by rw [← hf_cmp] at h5; exact h5
     refine de G [(14, [])] (hO 3 (.b true) (hP hb2 (hD 7 h3 (hE 8 h3 (hD 12 h4 (hE 13 h4 (hC 14 (i_tripsOf_1_c h5) h0))))))) ?_
     exact wJ G hm
    ·refine de G [(14, [])] (hO 3 (.b false) (hP hb2 h0)) ?_
     exact wJ G hm
   rintro v2 hm
   refine cd hm (fun hm => ?_) (fun hm => ?_)
   ·refine X_skip (thN (Ok_seq (Ok_block ?_)))
    obtain ⟨e8, h10, hm⟩ := obind hm
    obtain ⟨e9, h11, hm⟩ := obind hm
    obtain ⟨e10, h12, hm⟩ := obind hm
    obtain ⟨e11, h13, hm⟩ := obind hm
    refine de G [(15, [0]), (17, [0])] (hD 8 h10 (hE 9 h10 (hD 12 h11 (hE 13 h11 (hD 14 h12 (hS 15 h12 e8 (hD 16 h13 (hS 17 h13 e9 h0)))))))) ?_
    exact ibN (thN (rh G (wL G hm)))
   ·exact Ok_exit (thE (thE (ibE (wD G hm hb1))))
  rintro data3 hm s hw
  refine ibN (thN (Ok_weak hw ?_))
  exact rh G (wL G hm)
 ·have hm := eD hm hb
  refine Ok_exit (thE (thE (ibE ?_)))
  cases hm
  exact fN [] []
noncomputable def slices_swapRangeCmpFunc_Trip_w__i_tripsOf_1_M : MS ((List Trip) × Int × Int × Int) ((List Trip)) := ⟨⟨[.sl, .rd, .rd, .rd, .fn 291 []], fun x => [.sc undef, Enc.e x.2.1, Enc.e x.2.2.1, Enc.e x.2.2.2, .agg []], fun x => [arO 81 x.1], 1, 1, fun _ => rfl, fun _ => rfl, rfl, (by
  rintro ⟨a0, a1, a2, a3⟩ ⟨b0, b1, b2, b3⟩ h hO
  have q0 : a0 = b0 := Enc.inj _ _ (congrArg (fun l => D.sl 3 (obL l 0)) hO)
  have q1 : a1 = b1 := qI 1 h
  have q2 : a2 = b2 := qI 2 h
  have q3 : a3 = b3 := qI 3 h
  subst q0; subst q1; subst q2; subst q3; rfl)⟩, fun x => slices_swapRangeCmpFunc_Trip_w__i_tripsOf_1 x.1 x.2.1 x.2.2.1 x.2.2.2, fun _ => .tup [], fun _ => [], fun _ y => [arO 81 y]⟩
theorem slices_swapRangeCmpFunc_Trip_w__i_tripsOf_1_c {data a b n y} (hm : slices_swapRangeCmpFunc_Trip_w__i_tripsOf_1 data a b n = some y) : slices_swapRangeCmpFunc_Trip_w__i_tripsOf_1_M.C (data, a, b, n) y := slices_swapRangeCmpFunc_Trip_w__i_tripsOf_1_M.c (data, a, b, n) hm
theorem slices_swapRangeCmpFunc_Trip_w__i_tripsOf_1_ok : FnOK Try.prog 338 slices_swapRangeCmpFunc_Trip_w__i_tripsOf_1_M.S := by
 refine fm tt slices_swapRangeCmpFunc_Trip_w__i_tripsOf_1_M [] Try.call338 Try.func338 rfl Try.results338 Try.ntmps338 ?_
 rintro ⟨data, a, b, n⟩ y cx G hm
 have hm : slices_swapRangeCmpFunc_Trip_w__i_tripsOf_1 data a b n = some y := hm
 obtain ⟨cmp, hf_cmp⟩ : ∃ q, (fun (z0 : Trip) (z1 : Trip) => i_tripsOf_1 z0 z1) = q := ⟨_, rfl⟩
 have hm : slices_swapRangeCmpFunc_Trip_w data a b n cmp = some y := by rw [← hf_cmp]; exact hm
 unfold slices_swapRangeCmpFunc_Trip_w at hm
 refine rg G (Ok_block (lp G hm (fun (v, data1) => ⟨[(0, .own 0), (1, dV a), (2, dV b), (3, dV n), (4, .fn 291 []), (10, dV v)], [aX 0 81 data1], 48⟩) ?_))
 rintro ⟨v, data1⟩ r0 hb hm
 rw [slices_swapRangeCmpFunc_Trip_w_L1] at hm
 refine Ok_seq (rg G (cd hm (fun hm => ?_) (fun hm => ?_)))
 ·refine X_skip (thN (Ok_seq (Ok_block ?_)))
  obtain ⟨e4, h4, hm⟩ := obind hm
  obtain ⟨e5, h5, hm⟩ := obind hm
  obtain ⟨e6, h6, hm⟩ := obind hm
  obtain ⟨e7, h7, hm⟩ := obind hm
  refine de G [(21, [0]), (23, [0])] (hD 12 h4 (hE 13 h4 (hD 18 h5 (hE 19 h5 (hD 20 h6 (hS 21 h6 e4 (hD 22 h7 (hS 23 h7 e5 h0)))))))) ?_
  exact ibN (thN (rh G (wL G hm)))
 ·have hm := eD hm hb
  refine Ok_exit (thE (thE (ibE ?_)))
  cases hm
  exact fN [] []
noncomputable def slices_rotateCmpFunc_Trip_w__i_tripsOf_1_M : MS ((List Trip) × Int × Int × Int) ((List Trip)) := ⟨⟨[.sl, .rd, .rd, .rd, .fn 291 []], fun x => [.sc undef, Enc.e x.2.1, Enc.e x.2.2.1, Enc.e x.2.2.2, .agg []], fun x => [arO 81 x.1], 1, 1, fun _ => rfl, fun _ => rfl, rfl, (by
  rintro ⟨a0, a1, a2, a3⟩ ⟨b0, b1, b2, b3⟩ h hO
  have q0 : a0 = b0 := Enc.inj _ _ (congrArg (fun l => D.sl 3 (obL l 0)) hO)
  have q1 : a1 = b1 := qI 1 h
  have q2 : a2 = b2 := qI 2 h
  have q3 : a3 = b3 := qI 3 h
  subst q0; subst q1; subst q2; subst q3; rfl)⟩, fun x => slices_rotateCmpFunc_Trip_w__i_tripsOf_1 x.1 x.2.1 x.2.2.1 x.2.2.2, fun _ => .tup [], fun _ => [], fun _ y => [arO 81 y]⟩
theorem slices_rotateCmpFunc_Trip_w__i_tripsOf_1_c {data a m b y} (hm : slices_rotateCmpFunc_Trip_w__i_tripsOf_1 data a m b = some y) : slices_rotateCmpFunc_Trip_w__i_tripsOf_1_M.C (data, a, m, b) y := slices_rotateCmpFunc_Trip_w__i_tripsOf_1_M.c (data, a, m, b) hm
theorem slices_rotateCmpFunc_Trip_w__i_tripsOf_1_ok : FnOK Try.prog 335 slices_rotateCmpFunc_Trip_w__i_tripsOf_1_M.S := by
 refine fm tt slices_rotateCmpFunc_Trip_w__i_tripsOf_1_M [fo slices_swapRangeCmpFunc_Trip_w__i_tripsOf_1_ok] Try.call335 Try.func335 rfl Try.results335 Try.ntmps335 ?_
 rintro ⟨data, a, m, b⟩ y cx G hm
 have hm : slices_rotateCmpFunc_Trip_w__i_tripsOf_1 data a m b = some y := hm
 obtain ⟨cmp, hf_cmp⟩ : ∃ q, (fun (z0 : Trip) (z1 : Trip) => i_tripsOf_1 z0 z1) = q := ⟨_, rfl⟩
 have hm : slices_rotateCmpFunc_Trip_w data a m b cmp = some y := by rw [← hf_cmp]; exact hm
 unfold slices_rotateCmpFunc_Trip_w at hm
 refine rg G (rg G (jn hm (fun (v2, data2) => ⟨[(0, .own 0), (2, dV m), (4, .fn 291 []), (10, dV v2)], [aX 0 81 data2], 48⟩) (fun vv hm => ?_) ?_))
 ·refine Ok_block (lp G hm (fun (v, v1, data1) => ⟨[(0, .own 0), (2, dV m), (4, .fn 291 []), (10, dV v), (11, dV v1)], [aX 0 81 data1], 48⟩) ?_)
  rintro ⟨v, v1, data1⟩ r0 hb hm
  rw [slices_rotateCmpFunc_Trip_w_L1] at hm
  refine Ok_seq (rg G (cd hm (fun hm => ?_) (fun hm => ?_)))
  ·refine X_skip (thN (Ok_block (rg G (cd hm (fun hm => ?_) (fun hm => ?_)))))
   ·obtain ⟨r, h, hm⟩ := obind hm
    have h : slices_swapRangeCmpFunc_Trip_w__i_tripsOf_1 data1 (w64 (m - v)) m v1 = some r := by rw [← hf_cmp] at h; exact h
    refine rs G (hC 7 (slices_swapRangeCmpFunc_Trip_w__i_tripsOf_1_c h) h0) ?_
    exact rh G (ibN (wL G hm))
   ·obtain ⟨r1, h1, hm⟩ := obind hm
    have h1 : slices_swapRangeCmpFunc_Trip_w__i_tripsOf_1 data1 (w64 (m - v)) (w64 ((w64 (m + v1)) - v)) v = some r1 := by rw [← hf_cmp] at h1; exact h1
    refine rs G (hC 11 (slices_swapRangeCmpFunc_Trip_w__i_tripsOf_1_c h1) h0) ?_
    exact rh G (ibN (wL G hm))
  ·exact Ok_exit (thE (thE (ibE (wD G hm hb))))
 rintro ⟨v2, data2⟩ hm
 obtain ⟨r2, h2, hm⟩ := obind hm
 have h2 : slices_swapRangeCmpFunc_Trip_w__i_tripsOf_1 data2 (w64 (m - v2)) m v2 = some r2 := by rw [← hf_cmp] at h2; exact h2
 refine re G (hC 7 (slices_swapRangeCmpFunc_Trip_w__i_tripsOf_1_c h2) h0) ?_
 cases hm
 exact fN [] []
noncomputable def slices_symMergeCmpFunc_Trip_w__i_tripsOf_1_MR (rec_ : (List Trip) → Int → Int → Int → Option ((List Trip))) : MS ((List Trip) × Int × Int × Int) ((List Trip)) := ⟨⟨[.sl, .rd, .rd, .rd, .fn 291 []], fun x => [.sc undef, Enc.e x.2.1, Enc.e x.2.2.1, Enc.e x.2.2.2, .agg []], fun x => [arO 81 x.1], 1, 1, fun _ => rfl, fun _ => rfl, rfl, (by
  rintro ⟨a0, a1, a2, a3⟩ ⟨b0, b1, b2, b3⟩ h hO
  have q0 : a0 = b0 := Enc.inj _ _ (congrArg (fun l => D.sl 3 (obL l 0)) hO)
  have q1 : a1 = b1 := qI 1 h
  have q2 : a2 = b2 := qI 2 h
  have q3 : a3 = b3 := qI 3 h
  subst q0; subst q1; subst q2; subst q3; rfl)⟩, fun x => rec_ x.1 x.2.1 x.2.2.1 x.2.2.2, fun _ => .tup [], fun _ => [], fun _ y => [arO 81 y]⟩
noncomputable def slices_symMergeCmpFunc_Trip_w__i_tripsOf_1_M : MS ((List Trip) × Int × Int × Int) ((List Trip)) := slices_symMergeCmpFunc_Trip_w__i_tripsOf_1_MR slices_symMergeCmpFunc_Trip_w__i_tripsOf_1
theorem slices_symMergeCmpFunc_Trip_w__i_tripsOf_1_c {data a m b y} (hm : slices_symMergeCmpFunc_Trip_w__i_tripsOf_1 data a m b = some y) : slices_symMergeCmpFunc_Trip_w__i_tripsOf_1_M.C (data, a, m, b) y := slices_symMergeCmpFunc_Trip_w__i_tripsOf_1_M.c (data, a, m, b) hm
theorem slices_symMergeCmpFunc_Trip_w__i_tripsOf_1_cR {rec_ : (List Trip) → Int → Int → Int → Option ((List Trip))} {data a m b y} (hm : rec_ data a m b = some y) : (slices_symMergeCmpFunc_Trip_w__i_tripsOf_1_MR rec_).C (data, a, m, b) y := (slices_symMergeCmpFunc_Trip_w__i_tripsOf_1_MR rec_).c (data, a, m, b) hm
theorem slices_symMergeCmpFunc_Trip_w__i_tripsOf_1_okF {rec_ : (List Trip) → Int → Int → Int → Option ((List Trip))} (hrec : FnOK Try.prog 330 (slices_symMergeCmpFunc_Trip_w__i_tripsOf_1_MR rec_).S) : FnOK Try.prog 330 (slices_symMergeCmpFunc_Trip_w__i_tripsOf_1_MR (slices_symMergeCmpFunc_Trip_w__i_tripsOf_1_F rec_)).S := by
 refine fm tt (slices_symMergeCmpFunc_Trip_w__i_tripsOf_1_MR (slices_symMergeCmpFunc_Trip_w__i_tripsOf_1_F rec_)) [fo hrec, fo i_tripsOf_1_ok, fo slices_rotateCmpFunc_Trip_w__i_tripsOf_1_ok] Try.call330 Try.func330 rfl Try.results330 Try.ntmps330 ?_
 rintro ⟨data, a, m, b⟩ y cx G hm
 have hm : slices_symMergeCmpFunc_Trip_w__i_tripsOf_1_F rec_ data a m b = some y := hm
 unfold slices_symMergeCmpFunc_Trip_w__i_tripsOf_1_F at hm
 refine Ok_seq (rg G (cd hm (fun hm => ?_) (fun hm => ?_)))
 ·refine rg G (rg G (jn hm (fun j1 => ⟨[(0, .own 0), (1, dV a), (4, .fn 291 []), (10, dV j1)], [aX 0 81 data], 48⟩) (fun j1 hm => ?_) ?_))
  ·refine Ok_block (lp G hm (fun (j, h) => ⟨[(0, .own 0), (1, dV a), (4, .fn 291 []), (10, dV j), (11, dV h)], [aX 0 81 data], 48⟩) ?_)
   rintro ⟨j, h⟩ r0 hb hm
   rw [slices_symMergeCmpFunc_Trip_w__i_tripsOf_1_L1] at hm
   refine Ok_seq (rg G (cd hm (fun hm => ?_) (fun hm => ?_)))
   ·refine X_skip (thN (Ok_block ?_))
    obtain ⟨u, h1, hm⟩ := obind hm
    refine rs G (hK h1 h0) ?_
    obtain ⟨e2, h5, hm⟩ := obind hm
    obtain ⟨e3, h6, hm⟩ := obind hm
    obtain ⟨r1, h7, hm⟩ := obind hm
    refine ds G [(9, [])] (hD 3 h5 (hE 4 h5 (hD 7 h6 (hE 8 h6 (hC 9 (i_tripsOf_1_c h7) h0))))) ?_
    refine cd hm (fun hm => ?_) (fun hm => ?_)
    ·exact rh G (ibN (wL G hm))
    ·exact rh G (ibN (wL G hm))
   ·exact Ok_exit (thE (thE (ibE (wD G hm hb))))
  rintro j1 hm
  refine Ok_seq (rg G (tl hm (fun data2 => ⟨[(0, .own 0), (4, .fn 291 [])], [aX 0 81 data2], 48⟩) (fun data2 hm => ?_) ?_))
  ·refine Ok_block (lp G hm (fun (mid, data1) => ⟨[(0, .own 0), (4, .fn 291 []), (10, dV j1), (13, dV mid)], [aX 0 81 data1], 48⟩) ?_)
   rintro ⟨mid, data1⟩ r0 hb1 hm
   rw [slices_symMergeCmpFunc_Trip_w__i_tripsOf_1_L2] at hm
   refine Ok_seq (rg G (cd hm (fun hm => ?_) (fun hm => ?_)))
   ·refine X_skip (thN (Ok_seq (Ok_block ?_)))
    obtain ⟨e8, h12, hm⟩ := obind hm
    obtain ⟨e9, h13, hm⟩ := obind hm
    obtain ⟨e10, h14, hm⟩ := obind hm
    obtain ⟨e11, h15, hm⟩ := obind hm
    refine de G [(15, [0]), (17, [0])] (hD 8 h12 (hE 9 h12 (hD 12 h13 (hE 13 h13 (hD 14 h14 (hS 15 h14 e8 (hD 16 h15 (hS 17 h15 e9 h0)))))))) ?_
    exact ibN (thN (rh G (wL G hm)))
   ·exact Ok_exit (thE (thE (ibE (wD G hm hb1))))
  rintro data2 hm s hw
  refine thN (Ok_weak hw ?_)
  cases hm
  exact rt [] []
 ·refine X_skip (thN (Ok_seq (rg G (cd hm (fun hm => ?_) (fun hm => ?_)))))
  ·refine rg G (rg G (jn hm (fun n1 => ⟨[(0, .own 0), (2, dV m), (4, .fn 291 []), (14, dV n1)], [aX 0 81 data], 48⟩) (fun n1 hm => ?_) ?_))
   ·refine Ok_block (lp G hm (fun (n, start) => ⟨[(0, .own 0), (2, dV m), (4, .fn 291 []), (14, dV n), (15, dV start)], [aX 0 81 data], 48⟩) ?_)
    rintro ⟨n, start⟩ r0 hb2 hm
    rw [slices_symMergeCmpFunc_Trip_w__i_tripsOf_1_L3] at hm
    refine Ok_seq (rg G (cd hm (fun hm => ?_) (fun hm => ?_)))
    ·refine X_skip (thN (Ok_block ?_))
     obtain ⟨u1, h16, hm⟩ := obind hm
     refine rs G (hK h16 h0) ?_
     obtain ⟨e14, h20, hm⟩ := obind hm
     obtain ⟨e15, h21, hm⟩ := obind hm
     obtain ⟨r3, h22, hm⟩ := obind hm
     refine ds G [(9, [])] (hD 3 h20 (hE 4 h20 (hD 7 h21 (hE 8 h21 (hC 9 (i_tripsOf_1_c h22) h0))))) ?_
     refine cd hm (fun hm => ?_) (fun hm => ?_)
     ·exact rh G (ibN (wL G hm))
     ·exact rh G (ibN (wL G hm))
    ·exact Ok_exit (thE (thE (ibE (wD G hm hb2))))
   rintro n1 hm
   refine Ok_seq (rg G (tl hm (fun data4 => ⟨[(0, .own 0), (4, .fn 291 [])], [aX 0 81 data4], 48⟩) (fun data4 hm => ?_) ?_))
   ·refine Ok_block (lp G hm (fun (p, data3) => ⟨[(0, .own 0), (4, .fn 291 []), (14, dV n1), (17, dV p)], [aX 0 81 data3], 48⟩) ?_)
    rintro ⟨p, data3⟩ r0 hb3 hm
    rw [slices_symMergeCmpFunc_Trip_w__i_tripsOf_1_L4] at hm
    refine Ok_seq (rg G (cd hm (fun hm => ?_) (fun hm => ?_)))
    ·refine X_skip (thN (Ok_seq (Ok_block ?_)))
     obtain ⟨e20, h27, hm⟩ := obind hm
     obtain ⟨e21, h28, hm⟩ := obind hm
     obtain ⟨e22, h29, hm⟩ := obind hm
     obtain ⟨e23, h30, hm⟩ := obind hm
     refine de G [(15, [0]), (17, [0])] (hD 8 h27 (hE 9 h27 (hD 12 h28 (hE 13 h28 (hD 14 h29 (hS 15 h29 e20 (hD 16 h30 (hS 17 h30 e21 h0)))))))) ?_
     exact ibN (thN (rh G (wL G hm)))
    ·exact Ok_exit (thE (thE (ibE (wD G hm hb3))))
   rintro data4 hm s1 hw1
   refine thN (Ok_weak hw1 ?_)
   cases hm
   exact rt [] []
  ·refine X_skip (thN ?_)
   obtain ⟨u2, h31, hm⟩ := obind hm
   refine rs G (hK h31 h0) ?_
   refine rg G (rg G (jn hm (fun (v, v1) => ⟨[(0, .own 0), (1, dV a), (2, dV m), (3, dV b), (4, .fn 291 []), (18, dV (w64 (((IntKind.u64.wrap ((w64 (a + b)))).fdiv (2 ^ (min (1 : Int).toNat (IntKind.u64).bits)))))), (19, dV (w64 ((w64 (((IntKind.u64.wrap ((w64 (a + b)))).fdiv (2 ^ (min (1 : Int).toNat (IntKind.u64).bits))))) + m))), (20, dV v), (21, dV v1)], [aX 0 81 data], 48⟩) (fun vv hm => ?_) ?_))
   ·refine rg G (cd hm (fun hm => ?_) (fun hm => ?_))
    ·exact rg G (rh G (wJ G hm))
    ·exact rg G (rh G (wJ G hm))
   rintro ⟨v, v1⟩ hm
   refine rg G (jn hm (fun v4 => ⟨[(0, .own 0), (1, dV a), (2, dV m), (3, dV b), (4, .fn 291 []), (18, dV (w64 (((IntKind.u64.wrap ((w64 (a + b)))).fdiv (2 ^ (min (1 : Int).toNat (IntKind.u64).bits)))))), (19, dV (w64 ((w64 (((IntKind.u64.wrap ((w64 (a + b)))).fdiv (2 ^ (min (1 : Int).toNat (IntKind.u64).bits))))) + m))), (20, dV v4)], [aX 0 81 data], 48⟩) (fun v4 hm => ?_) ?_)
   ·refine Ok_block (lp G hm (fun (v2, v3) => ⟨[(0, .own 0), (1, dV a), (2, dV m), (3, dV b), (4, .fn 291 []), (18, dV (w64 (((IntKind.u64.wrap ((w64 (a + b)))).fdiv (2 ^ (min (1 : Int).toNat (IntKind.u64).bits)))))), (19, dV (w64 ((w64 (((IntKind.u64.wrap ((w64 (a + b)))).fdiv (2 ^ (min (1 : Int).toNat (IntKind.u64).bits))))) + m))), (20, dV v2), (21, dV v3), (22, dV (w64 ((w64 ((w64 (((IntKind.u64.wrap ((w64 (a + b)))).fdiv (2 ^ (min (1 : Int).toNat (IntKind.u64).bits))))) + m)) - 1)))], [aX 0 81 data], 48⟩) ?_)
    rintro ⟨v2, v3⟩ r0 hb4 hm
    rw [slices_symMergeCmpFunc_Trip_w__i_tripsOf_1_L5] at hm
    refine Ok_seq (rg G (cd hm (fun hm => ?_) (fun hm => ?_)))
    ·refine X_skip (thN (Ok_block ?_))
     obtain ⟨u3, h32, hm⟩ := obind hm
     refine rs G (hK h32 h0) ?_
     obtain ⟨e26, h36, hm⟩ := obind hm
     obtain ⟨e27, h37, hm⟩ := obind hm
     obtain ⟨r5, h38, hm⟩ := obind hm
     refine ds G [(11, [])] (hD 5 h36 (hE 6 h36 (hD 9 h37 (hE 10 h37 (hC 11 (i_tripsOf_1_c h38) h0))))) ?_
     refine cd hm (fun hm => ?_) (fun hm => ?_)
     ·exact rh G (ibN (wL G hm))
     ·exact rh G (ibN (wL G hm))
    ·exact Ok_exit (thE (thE (ibE (wD G hm hb4))))
   rintro v4 hm
   refine rg G (jn hm (fun data5 => ⟨[(0, .own 0), (1, dV a), (3, dV b), (4, .fn 291 []), (18, dV (w64 (((IntKind.u64.wrap ((w64 (a + b)))).fdiv (2 ^ (min (1 : Int).toNat (IntKind.u64).bits)))))), (20, dV v4), (24, dV (w64 ((w64 ((w64 (((IntKind.u64.wrap ((w64 (a + b)))).fdiv (2 ^ (min (1 : Int).toNat (IntKind.u64).bits))))) + m)) - v4)))], [aX 0 81 data5], 48⟩) (fun data5 hm => ?_) ?_)
   ·refine jn hm (fun v5 => ⟨[(0, .own 0), (1, dV a), (2, dV m), (3, dV b), (4, .fn 291 []), (18, dV (w64 (((IntKind.u64.wrap ((w64 (a + b)))).fdiv (2 ^ (min (1 : Int).toNat (IntKind.u64).bits)))))), (20, dV v4), (24, dV (w64 ((w64 ((w64 (((IntKind.u64.wrap ((w64 (a + b)))).fdiv (2 ^ (min (1 : Int).toNat (IntKind.u64).bits))))) + m)) - v4))), (185, dV v5)], [aX 0 81 data], 48⟩) (fun v5 hm => ?_) ?_
    ·rcases bf hm with ⟨hb5, hm⟩ | ⟨hb5, hm⟩
     ·refine re G (hO 3 (.b true) (hP hb5 h0)) ?_
      exact wJ G hm
     ·refine re G (hO 3 (.b false) (hP hb5 h0)) ?_
      exact wJ G hm
    rintro v5 hm
    refine cd hm (fun hm => ?_) (fun hm => ?_)
    ·obtain ⟨r6, h39, hm⟩ := obind hm
     refine re G (hC 5 (slices_rotateCmpFunc_Trip_w__i_tripsOf_1_c h39) h0) ?_
     exact wJ G hm
    ·exact X_skip (wJ G hm)
   rintro data5 hm
   refine jn hm (fun data6 => ⟨[(0, .own 0), (3, dV b), (4, .fn 291 []), (18, dV (w64 (((IntKind.u64.wrap ((w64 (a + b)))).fdiv (2 ^ (min (1 : Int).toNat (IntKind.u64).bits)))))), (24, dV (w64 ((w64 ((w64 (((IntKind.u64.wrap ((w64 (a + b)))).fdiv (2 ^ (min (1 : Int).toNat (IntKind.u64).bits))))) + m)) - v4)))], [aX 0 81 data6], 48⟩) (fun data6 hm => ?_) ?_
   ·refine jn hm (fun v6 => ⟨[(0, .own 0), (1, dV a), (3, dV b), (4, .fn 291 []), (18, dV (w64 (((IntKind.u64.wrap ((w64 (a + b)))).fdiv (2 ^ (min (1 : Int).toNat (IntKind.u64).bits)))))), (20, dV v4), (24, dV (w64 ((w64 ((w64 (((IntKind.u64.wrap ((w64 (a + b)))).fdiv (2 ^ (min (1 : Int).toNat (IntKind.u64).bits))))) + m)) - v4))), (199, dV v6)], [aX 0 81 data5], 48⟩) (fun v6 hm => ?_) ?_
    ·rcases bf hm with ⟨hb6, hm⟩ | ⟨hb6, hm⟩
     ·refine re G (hO 3 (.b true) (hP hb6 h0)) ?_
      exact wJ G hm
     ·refine re G (hO 3 (.b false) (hP hb6 h0)) ?_
      exact wJ G hm
    rintro v6 hm
    refine cd hm (fun hm => ?_) (fun hm => ?_)
    ·obtain ⟨r7, h40, hm⟩ := obind hm
     refine re G (hC 5 (slices_symMergeCmpFunc_Trip_w__i_tripsOf_1_cR h40) h0) ?_
     exact wJ G hm
    ·exact X_skip (wJ G hm)
   rintro data6 hm
   refine jn hm (fun v7 => ⟨[(0, .own 0), (3, dV b), (4, .fn 291 []), (18, dV (w64 (((IntKind.u64.wrap ((w64 (a + b)))).fdiv (2 ^ (min (1 : Int).toNat (IntKind.u64).bits)))))), (24, dV (w64 ((w64 ((w64 (((IntKind.u64.wrap ((w64 (a + b)))).fdiv (2 ^ (min (1 : Int).toNat (IntKind.u64).bits))))) + m)) - v4))), (213, dV v7)], [aX 0 81 data6], 48⟩) (fun v7 hm => ?_) ?_
   ·rcases bf hm with ⟨hb7, hm⟩ | ⟨hb7, hm⟩
    ·refine re G (hO 3 (.b true) (hP hb7 h0)) ?_
     exact wJ G hm
    ·refine re G (hO 3 (.b false) (hP hb7 h0)) ?_
     exact wJ G hm
   rintro v7 hm
   refine cd hm (fun hm => ?_) (fun hm => ?_)
   ·obtain ⟨r8, h41, hm⟩ := obind hm
    refine re G (hC 5 (slices_symMergeCmpFunc_Trip_w__i_tripsOf_1_cR h41) h0) ?_
    cases hm
    exact fN [] []
   ·refine X_skip ?_
    cases hm
    exact fN [] []
theorem slices_symMergeCmpFunc_Trip_w__i_tripsOf_1_okn : ∀ k, FnOK Try.prog 330 (slices_symMergeCmpFunc_Trip_w__i_tripsOf_1_MR (slices_symMergeCmpFunc_Trip_w__i_tripsOf_1_k k)).S
 | 0 => ⟨fun args w => Try.call330 args w, fun vs w F ds obs κ hp => by obtain ⟨x, y, _, _, h⟩ := hp; cases h⟩
 | k + 1 => slices_symMergeCmpFunc_Trip_w__i_tripsOf_1_okF (slices_symMergeCmpFunc_Trip_w__i_tripsOf_1_okn k)
theorem slices_symMergeCmpFunc_Trip_w__i_tripsOf_1_ok : FnOK Try.prog 330 slices_symMergeCmpFunc_Trip_w__i_tripsOf_1_M.S := slices_symMergeCmpFunc_Trip_w__i_tripsOf_1_okn 4294967296
noncomputable def slices_stableCmpFunc_Trip_w__i_tripsOf_1_M : MS ((List Trip) × Int) ((List Trip)) := ⟨⟨[.sl, .rd, .fn 291 []], fun x => [.sc undef, Enc.e x.2, .agg []], fun x => [arO 81 x.1], 1, 1, fun _ => rfl, fun _ => rfl, rfl, (by
  rintro ⟨a0, a1⟩ ⟨b0, b1⟩ h hO
  have q0 : a0 = b0 := Enc.inj _ _ (congrArg (fun l => D.sl 3 (obL l 0)) hO)
  have q1 : a1 = b1 := qI 1 h
  subst q0; subst q1; rfl)⟩, fun x => slices_stableCmpFunc_Trip_w__i_tripsOf_1 x.1 x.2, fun _ => .tup [], fun _ => [], fun _ y => [arO 81 y]⟩
theorem slices_stableCmpFunc_Trip_w__i_tripsOf_1_c {data n y} (hm : slices_stableCmpFunc_Trip_w__i_tripsOf_1 data n = some y) : slices_stableCmpFunc_Trip_w__i_tripsOf_1_M.C (data, n) y := slices_stableCmpFunc_Trip_w__i_tripsOf_1_M.c (data, n) hm
theorem slices_stableCmpFunc_Trip_w__i_tripsOf_1_ok : FnOK Try.prog 322 slices_stableCmpFunc_Trip_w__i_tripsOf_1_M.S := by
 refine fm tt slices_stableCmpFunc_Trip_w__i_tripsOf_1_M [fo slices_insertionSortCmpFunc_Trip_w__i_tripsOf_1_ok, fo slices_symMergeCmpFunc_Trip_w__i_tripsOf_1_ok] Try.call322 Try.func322 rfl Try.results322 Try.ntmps322 ?_
 rintro ⟨data, n⟩ y cx G hm
 have hm : slices_stableCmpFunc_Trip_w__i_tripsOf_1 data n = some y := hm
 unfold slices_stableCmpFunc_Trip_w__i_tripsOf_1 at hm
 refine rg G (rg G (jn hm (fun (v2, data2) => ⟨[(0, .own 0), (1, dV n), (2, .fn 291 []), (6, kV .i64 20), (7, dV v2)], [aX 0 81 data2], 48⟩) (fun vv1 hm => ?_) ?_))
 ·refine Ok_block (lp G hm (fun (v, v1, data1) => ⟨[(0, .own 0), (1, dV n), (2, .fn 291 []), (6, kV .i64 20), (7, dV v), (8, dV v1)], [aX 0 81 data1], 48⟩) ?_)
  rintro ⟨v, v1, data1⟩ r0 hb hm
  rw [slices_stableCmpFunc_Trip_w__i_tripsOf_1_L1] at hm
  refine Ok_seq (rg G (cd hm (fun hm => ?_) (fun hm => ?_)))
  ·refine X_skip (thN (Ok_block ?_))
   obtain ⟨r, h, hm⟩ := obind hm
   refine rs G (hC 4 (slices_insertionSortCmpFunc_Trip_w__i_tripsOf_1_c h) h0) ?_
   exact rg G (rh G (ibN (wL G hm)))
  ·exact Ok_exit (thE (thE (ibE (wD G hm hb))))
 rintro ⟨v2, data2⟩ hm
 obtain ⟨r1, h1, hm⟩ := obind hm
 refine rs G (hC 4 (slices_insertionSortCmpFunc_Trip_w__i_tripsOf_1_c h1) h0) ?_
 refine Ok_block (lp G hm (fun (m, data3) => ⟨[(0, .own 0), (1, dV n), (2, .fn 291 []), (6, dV m)], [aX 0 81 data3], 48⟩) ?_)
 rintro ⟨m, data3⟩ r0 hb1 hm
 rw [slices_stableCmpFunc_Trip_w__i_tripsOf_1_L3] at hm
 refine Ok_seq (rg G (cd hm (fun hm => ?_) (fun hm => ?_)))
 ·refine X_skip (thN (Ok_block (rg G (jn hm (fun (v5, data5) => ⟨[(0, .own 0), (1, dV n), (2, .fn 291 []), (6, dV m), (7, dV v5)], [aX 0 81 data5], 48⟩) (fun vv hm => ?_) ?_))))
  ·refine Ok_block (lp G hm (fun (v3, v4, data4) => ⟨[(0, .own 0), (1, dV n), (2, .fn 291 []), (6, dV m), (7, dV v3), (8, dV v4)], [aX 0 81 data4], 48⟩) ?_)
   rintro ⟨v3, v4, data4⟩ r0 hb2 hm
   rw [slices_stableCmpFunc_Trip_w__i_tripsOf_1_L2] at hm
   refine Ok_seq (rg G (cd hm (fun hm => ?_) (fun hm => ?_)))
   ·refine X_skip (thN (Ok_block ?_))
    obtain ⟨r2, h2, hm⟩ := obind hm
    refine rs G (hC 7 (slices_symMergeCmpFunc_Trip_w__i_tripsOf_1_c h2) h0) ?_
    exact rg G (rh G (ibN (wL G hm)))
   ·exact Ok_exit (thE (thE (ibE (wD G hm hb2))))
  rintro ⟨v5, data5⟩ hm
  refine jn hm (fun data6 => ⟨[(0, .own 0), (1, dV n), (2, .fn 291 []), (6, dV m)], [aX 0 81 data6], 48⟩) (fun data6 hm => ?_) ?_
  ·refine rg G (rg G (cd hm (fun hm => ?_) (fun hm => ?_)))
   ·obtain ⟨r3, h3, hm⟩ := obind hm
    refine re G (hC 5 (slices_symMergeCmpFunc_Trip_w__i_tripsOf_1_c h3) h0) ?_
    exact wJ G hm
   ·exact X_skip (wJ G hm)
  rintro data6 hm
  exact rh G (ibN (wL G hm))
 ·have hm := eD hm hb1
  refine Ok_exit (thE (thE (ibE ?_)))
  cases hm
  exact fN [] []
noncomputable def slices_SortStableFunc_Trip_w__i_tripsOf_1_M : MS ((List Trip)) ((List Trip)) := ⟨⟨[.sl, .fn 291 []], fun x => [.sc undef, .agg []], fun x => [arO 81 x], 1, 1, fun _ => rfl, fun _ => rfl, rfl, (by
  rintro a0 b0 h hO
  have q0 : a0 = b0 := Enc.inj _ _ (congrArg (fun l => D.sl 3 (obL l 0)) hO)
  subst q0; rfl)⟩, slices_SortStableFunc_Trip_w__i_tripsOf_1, fun _ => .tup [], fun _ => [], fun _ y => [arO 81 y]⟩
theorem slices_SortStableFunc_Trip_w__i_tripsOf_1_c {x y} (hm : slices_SortStableFunc_Trip_w__i_tripsOf_1 x = some y) : slices_SortStableFunc_Trip_w__i_tripsOf_1_M.C x y := slices_SortStableFunc_Trip_w__i_tripsOf_1_M.c x hm
theorem slices_SortStableFunc_Trip_w__i_tripsOf_1_ok : FnOK Try.prog 290 slices_SortStableFunc_Trip_w__i_tripsOf_1_M.S := by
 refine fm tt slices_SortStableFunc_Trip_w__i_tripsOf_1_M [fo slices_stableCmpFunc_Trip_w__i_tripsOf_1_ok] Try.call290 Try.func290 rfl Try.results290 Try.ntmps290 ?_
 rintro x y cx G hm
 have hm : slices_SortStableFunc_Trip_w__i_tripsOf_1 x = some y := hm
 unfold slices_SortStableFunc_Trip_w__i_tripsOf_1 at hm
 obtain ⟨r, h, hm⟩ := obind hm
 refine re G (hN 2 x (hC 4 (slices_stableCmpFunc_Trip_w__i_tripsOf_1_c h) h0)) ?_
 cases hm
 exact fN [] []
noncomputable def i_tripsOf_M : MS (Timetable × Int) ((List Trip)) := ⟨.x .r .r, fun x => i_tripsOf x.1 x.2, fun _ => .own 0, fun y => [arO 81 y], fun _ _ => []⟩
theorem i_tripsOf_c {t line y} (hm : i_tripsOf t line = some y) : i_tripsOf_M.C (t, line) y := i_tripsOf_M.c (t, line) hm
theorem i_tripsOf_ok : FnOK Try.prog 223 i_tripsOf_M.S := by
 refine fm tt i_tripsOf_M [fo slices_SortStableFunc_Trip_w__i_tripsOf_1_ok] Try.call223 Try.func223 rfl Try.results223 Try.ntmps223 ?_
 rintro ⟨t, line⟩ y cx G hm
 have hm : i_tripsOf t line = some y := hm
 unfold i_tripsOf at hm
 refine rg G (rg G (Ok_seq (rs G (hN 2 t.Trips h0) ?_)))
 refine tl hm (fun x2 => ⟨[(5, .own 16)], [aX 16 81 x2], 48⟩) (fun x2 hm => ?_) ?_
 ·refine Ok_block (lpP hm (fun (v, x) => ⟨[(1, dV line), (5, .own 16), (9, dV t.Trips), (10, dV (t.Trips.length : Int)), (11, dV v)], [aX 16 81 x], 48⟩) (Wk_J G.hL ⟨[(1, []), (5, [.o 16]), (9, []), (10, []), (11, [])], [], [(16, 81, 3, [])], 48⟩ (by kernel_rfl)) ?_)
  rintro ⟨v, x⟩ r0 hb hm
  rw [i_tripsOf_L1] at hm
  refine rg G (Ok_seq (cd hm (fun hm => ?_) (fun hm => ?_)))
  ·refine X_skip (thN (jn hm (fun x1 => ⟨[(1, dV line), (5, .own 16), (9, dV t.Trips), (10, dV (t.Trips.length : Int)), (11, dV v)], [aX 16 81 x1], 48⟩) (fun x1 hm => ?_) ?_))
   ·refine Ok_block ?_
    obtain ⟨e, h, hm⟩ := obind hm
    refine rs G (hD 0 h h0) ?_
    refine rg G (cd hm (fun hm => ?_) (fun hm => ?_))
    ·obtain ⟨u, h1, hm⟩ := obind hm
     refine re G (hA 3 24 h1 h0) ?_
     exact ibN (wJ G hm)
    ·exact X_skip (ibN (wJ G hm))
   rintro x1 hm
   exact rh G (wL G hm)
  ·exact Ok_exit (thE (thE (ibE (wD G hm hb))))
 rintro x2 hm s hw
 refine thN (Ok_weak hw ?_)
 obtain ⟨r, h2, hm⟩ := obind hm
 refine rs G (hC 1 (slices_SortStableFunc_Trip_w__i_tripsOf_1_c h2) h0) ?_
 refine rg G ?_
 cases hm
 exact rt [16] []
noncomputable def i_HeadwaysOf_M : MS (Timetable × Int) ((List Int) × Bool) := ⟨.x .r .r, fun x => i_HeadwaysOf x.1 x.2, fun y => .tup [dV y.1, dV y.2], fun _ => [], fun _ _ => []⟩
theorem i_HeadwaysOf_c {t line y} (hm : i_HeadwaysOf t line = some y) : i_HeadwaysOf_M.C (t, line) y := i_HeadwaysOf_M.c (t, line) hm
theorem i_HeadwaysOf_ok : FnOK Try.prog 96 i_HeadwaysOf_M.S := by
 refine fm tt i_HeadwaysOf_M [fo i_IsValidTimetable_ok, fo i_isLine_ok, fo i_tripsOf_ok] Try.call96 Try.func96 rfl Try.results96 Try.ntmps96 ?_
 rintro ⟨t, line⟩ y cx G hm
 have hm : i_HeadwaysOf t line = some y := hm
 unfold i_HeadwaysOf at hm
 refine rg G (Ok_seq ?_)
 obtain ⟨r, h, hm⟩ := obind hm
 refine jn hm (fun v => ⟨[(1, dV line), (2, .ref 16 0), (18, dV v)], [bX 16 [dV t.Network.Stops, dV t.Network.Lines, dV t.Trips]], 48⟩) (fun v hm => ?_) ?_
 ·rcases bf hm with ⟨hb, hm⟩ | ⟨hb, hm⟩
  ·refine re G (hC 1 (i_IsValidTimetable_c h) (hO 3 (.b true) (hP hb h0))) ?_
   exact wJ G hm
  ·obtain ⟨r1, h1, hm⟩ := obind hm
   refine re G (hC 1 (i_IsValidTimetable_c h) (hO 3 (.b false) (hP hb (hC 7 (i_isLine_c h1) h0)))) ?_
   exact wJ G hm
 rintro v hm
 refine cd hm (fun hm => ?_) (fun hm => ?_)
 ·refine rg G ?_
  cases hm
  exact rt [] [[.z 1]]
 ·refine X_skip (thN (rg G ?_))
  obtain ⟨r2, h2, hm⟩ := obind hm
  refine rs G (hC 2 (i_tripsOf_c h2) h0) ?_
  refine Ok_seq (rg G (tl hm (fun i1 => ⟨[(6, .own 16)], [aX 16 3 i1], 48⟩) (fun i1 hm => ?_) ?_))
  ·refine Ok_block (lpP hm (fun (v1, i) => ⟨[(6, .own 16), (7, .own 32), (8, dV v1)], [aX 16 3 i, aX 32 81 r2], 64⟩) (Wk_J G.hL ⟨[(6, [.o 16]), (7, []), (8, [])], [(32, 96, [])], [(16, 3, 1, [])], 64⟩ (by kernel_rfl)) ?_)
   rintro ⟨v1, i⟩ r0 hb1 hm
   rw [i_HeadwaysOf_L1] at hm
   refine Ok_seq (rs G (hN 2 r2 h0) ?_)
   refine cd hm (fun hm => ?_) (fun hm => ?_)
   ·refine X_skip (thN (Ok_seq (Ok_block ?_)))
    obtain ⟨e2, h6, hm⟩ := obind hm
    obtain ⟨e3, h7, hm⟩ := obind hm
    obtain ⟨u1, h8, hm⟩ := obind hm
    refine de G [(14, [16, 336])] (hD 3 h6 (hE 5 h6 (hD 9 h7 (hE 11 h7 (hA 14 8 h8 h0))))) ?_
    exact ibN (thN (rh G (wL G hm)))
   ·exact Ok_exit (thE (thE (ibE (wD G hm hb1))))
  rintro i1 hm s hw
  refine thN (Ok_weak hw ?_)
  refine rg G ?_
  cases hm
  exact rt [] []
noncomputable def v_FnRepeat_M : MS ((List UInt8)) Bool := ⟨.r, v_FnRepeat, fun y => dV y, fun _ => [], fun _ _ => []⟩
theorem v_FnRepeat_c {code y} (hm : v_FnRepeat code = some y) : v_FnRepeat_M.C code y := v_FnRepeat_M.c code hm
theorem v_FnRepeat_ok : FnOK Try.prog 10 v_FnRepeat_M.S := by
 refine fm tt v_FnRepeat_M [fo v_vBig_ok, fo s_DrawRepeatTrips_ok, fo i_RepeatTrips_ok, fo s_RepeatTrips_ok, fo v_vTimetable_ok, fo i_HeadwaysOf_ok] Try.call10 Try.func10 rfl Try.results10 Try.ntmps10 ?_
 rintro code y cx G hm
 have hm : v_FnRepeat code = some y := hm
 unfold v_FnRepeat at hm
 refine rg G (Ok_seq ?_)
 obtain ⟨r, h, hm⟩ := obind hm
 refine rs G (hC 1 (v_vBig_c h) h0) ?_
 refine cd hm (fun hm => ?_) (fun hm => ?_)
 ·refine rg G ?_
  cases hm
  exact rt [] []
 ·refine X_skip (thN ?_)
  obtain ⟨r1, h1, hm⟩ := obind hm
  refine rs G (hC 1 (s_DrawRepeatTrips_c h1) h0) ?_
  obtain ⟨r2, h2, hm⟩ := obind hm
  refine rs G (hO 5 (.fz [80, 81] [] []) (hC 5 (i_RepeatTrips_c h2) h0)) ?_
  obtain ⟨r3, h3, hm⟩ := obind hm
  refine rs G (hC 5 (s_RepeatTrips_c h3) h0) ?_
  refine Ok_seq (jn hm (fun v => ⟨[(3, .ref 16 0), (4, dV r1.2.1), (7, dV r1.2.2.2.2), (8, .ref 32 0), (9, dV r2.2.1), (10, dV r2.2.2), (61, dV v)], [bX 16 [dV r1.1.Network.Stops, dV r1.1.Network.Lines, dV r1.1.Trips], bX 32 [dV r2.1.Network.Stops, dV r2.1.Network.Lines, dV r2.1.Trips]], 64⟩) (fun v hm => ?_) ?_)
  ·rcases bf hm with ⟨hb, hm⟩ | ⟨hb, hm⟩
   ·refine re G (hO 3 (.b true) (hP hb h0)) ?_
    exact wJ G hm
   ·rcases bf hm with ⟨hb1, hm⟩ | ⟨hb1, hm⟩
    ·refine re G (hO 3 (.b false) (hP hb (hO 8 (.b true) (hP hb1 h0)))) ?_
     exact wJ G hm
    ·obtain ⟨r4, h4, hm⟩ := obind hm
     refine re G (hO 3 (.b false) (hP hb (hO 8 (.b false) (hP hb1 (hC 11 (v_vTimetable_c h4) h0))))) ?_
     exact wJ G hm
  rintro v hm
  refine cd hm (fun hm => ?_) (fun hm => ?_)
  ·refine rg G ?_
   cases hm
   exact rt [] []
  ·refine X_skip (thN (Ok_seq (rg G (cd hm (fun hm => ?_) (fun hm => ?_)))))
   ·refine rg G ?_
    cases hm
    exact rt [] []
   ·refine X_skip (thN ?_)
    obtain ⟨r5, h5, hm⟩ := obind hm
    refine rs G (hC 2 (i_HeadwaysOf_c h5) h0) ?_
    refine rg G (Ok_seq (rg G (tl hm (fun i1 => ⟨[(3, .ref 16 0), (7, dV r1.2.2.2.2), (8, .ref 32 0), (9, dV r2.2.1), (15, dV r5.2), (16, dV i1)], [bX 16 [dV r1.1.Network.Stops, dV r1.1.Network.Lines, dV r1.1.Trips], bX 32 [dV r2.1.Network.Stops, dV r2.1.Network.Lines, dV r2.1.Trips]], 64⟩) (fun i1 hm => ?_) ?_)))
    ·refine Ok_block (lp G hm (fun (i, v1) => ⟨[(3, .ref 16 0), (7, dV r1.2.2.2.2), (8, .ref 32 0), (9, dV r2.2.1), (14, dV r5.1), (15, dV r5.2), (16, dV i), (17, dV v1)], [bX 16 [dV r1.1.Network.Stops, dV r1.1.Network.Lines, dV r1.1.Trips], bX 32 [dV r2.1.Network.Stops, dV r2.1.Network.Lines, dV r2.1.Trips]], 64⟩) ?_)
     rintro ⟨i, v1⟩ r0 hb2 hm
     rw [v_FnRepeat_L1] at hm
     refine Ok_seq (rs G (hN 2 r5.1 h0) ?_)
     refine cd hm (fun hm => ?_) (fun hm => ?_)
     ·refine X_skip (thN (Ok_seq (Ok_block ?_)))
      obtain ⟨e, h6, hm⟩ := obind hm
      refine re G (hD 3 h6 h0) ?_
      exact ibN (thN (rh G (wL G hm)))
     ·exact Ok_exit (thE (thE (ibE (wD G hm hb2))))
    rintro i1 hm s hw
    refine thN (Ok_weak hw ?_)
    refine jn hm (fun t => ⟨[(2, dV t)], [], 32⟩) (fun t hm => ?_) ?_
    ·rcases bf hm with ⟨hb3, hm⟩ | ⟨hb3, hm⟩
     ·rcases bf hm with ⟨hb4, hm⟩ | ⟨hb4, hm⟩
      ·rcases bf hm with ⟨hb5, hm⟩ | ⟨hb5, hm⟩
       ·refine re G (hO 1 (.b true) (hP hb3 (hN 4 r2.1.Trips (hN 7 r1.1.Trips (hO 12 (.b true) (hP hb4 (hO 15 (.b true) (hP hb5 h0)))))))) ?_
        exact wJ G hm
       ·refine re G (hO 1 (.b true) (hP hb3 (hN 4 r2.1.Trips (hN 7 r1.1.Trips (hO 12 (.b true) (hP hb4 (hO 15 (.b false) (hP hb5 h0)))))))) ?_
        exact wJ G hm
      ·refine re G (hO 1 (.b true) (hP hb3 (hN 4 r2.1.Trips (hN 7 r1.1.Trips (hO 12 (.b false) (hP hb4 h0)))))) ?_
       exact wJ G hm
     ·refine re G (hO 1 (.b false) (hP hb3 h0)) ?_
      exact wJ G hm
    rintro t hm
    cases hm
    exact rt [] []
end Go.Proofs.Ytfknbpimkleimaa
