/- Each function computes what its model says. Made by program (dec.py). -/
import Derived.Test.YtdocbkbpjdjlpaaTy
import Derived.Test.YtdocbkbpjdjlpaaAbC
import Derived.Test.YtdocbkbpjdjlpaaPaM
namespace Go.Proofs.Ytdocbkbpjdjlpaa
open Go Go.Ab
set_option maxRecDepth 100000
set_option maxHeartbeats 4000000
set_option linter.unusedVariables false
set_option linter.unusedSimpArgs false
theorem tt : TT Try.prog ty := ⟨by kernel_rfl, ty_ok⟩
abbrev tJ : Inv := .none
noncomputable def v_vBig_M : MS ((List UInt8)) Bool := ⟨.r, v_vBig, fun y => dV y, fun _ => [], fun _ _ => []⟩
theorem v_vBig_c {code y} (hm : v_vBig code = some y) : v_vBig_M.C code y := v_vBig_M.c code hm
theorem v_vBig_ok : FnOK Try.prog tJ 52 v_vBig_M.S := by
 refine fm tt v_vBig_M [] Try.call52 Try.func52 rfl Try.results52 Try.ntmps52 ?_
 rintro code y cx G hm
 have hm : v_vBig code = some y := hm
 unfold v_vBig at hm
 refine rg G (rs G (hN 1 code h0) ?_)
 cases hm
 exact rt [] []
noncomputable def s_l1Cur_next_M : MS l1Cur (Int × l1Cur) := ⟨.b 129, s_l1Cur_next, fun y => dV y.1, fun _ => [], fun _ y => [bxO 129 y.2]⟩
theorem s_l1Cur_next_c {c y} (hm : s_l1Cur_next c = some y) : s_l1Cur_next_M.C c y := s_l1Cur_next_M.c c hm
theorem s_l1Cur_next_ok : FnOK Try.prog tJ 155 s_l1Cur_next_M.S := by
 refine fm tt s_l1Cur_next_M [] Try.call155 Try.func155 rfl Try.results155 Try.ntmps155 ?_
 rintro c y cx G hm
 have hm : s_l1Cur_next c = some y := hm
 unfold s_l1Cur_next at hm
 refine rg G (rg G (jn hm (fun v => ⟨[(0, .ref 0 0), (3, dV v)], [bX 0 129 [dV c.code_, dV c.at_, kV .u64 c.seed_.v]], 48⟩) (fun v hm => ?_) ?_))
 ·refine ds G [] (hN 8 c.code_ h0) ?_
  refine cd hm (fun hm => ?_) (fun hm => ?_)
  ·obtain ⟨e1, h1, hm⟩ := obind hm
   refine de G [] (hD 8 h1 h0) ?_
   exact wJ G hm
  ·exact X_skip (wJ G hm)
 rintro v hm
 refine rg G (rg G (Ok_seq (ds G [] (hN 8 c.code_ h0) ?_)))
 refine cd hm (fun hm => ?_) (fun hm => ?_)
 ·refine rg G ?_
  cases hm
  exact rt [] []
 ·refine X_skip (thN ?_)
  obtain ⟨u, h2, hm⟩ := obind hm
  refine rs G (hK h2 h0) ?_
  cases hm
  exact rt [] []
noncomputable def s_l1Cur_pick_M : MS (l1Cur × Int) (Int × l1Cur) := ⟨.x (.b 129) .r, fun x => s_l1Cur_pick x.1 x.2, fun y => dV y.1, fun _ => [], fun _ y => [bxO 129 y.2]⟩
theorem s_l1Cur_pick_c {c n y} (hm : s_l1Cur_pick c n = some y) : s_l1Cur_pick_M.C (c, n) y := s_l1Cur_pick_M.c (c, n) hm
theorem s_l1Cur_pick_ok : FnOK Try.prog tJ 77 s_l1Cur_pick_M.S := by
 refine fm tt s_l1Cur_pick_M [fo s_l1Cur_next_ok] Try.call77 Try.func77 rfl Try.results77 Try.ntmps77 ?_
 rintro ⟨c, n⟩ y cx G hm
 have hm : s_l1Cur_pick c n = some y := hm
 unfold s_l1Cur_pick at hm
 refine rg G (Ok_seq (rg G (cd hm (fun hm => ?_) (fun hm => ?_))))
 ·refine rg G ?_
  cases hm
  exact rt [] []
 ·refine X_skip (thN ?_)
  obtain ⟨r, h, hm⟩ := obind hm
  refine rs G (hC 1 (s_l1Cur_next_c h) h0) ?_
  refine jn hm (fun (v, v1, v2, v3) => ⟨[(0, .ref 0 0), (1, dV n), (5, dV v)], [bX 0 129 [dV v1, dV v2, kV .u64 v3]], 48⟩) (fun vv hm => ?_) ?_
  ·refine rg G (cd hm (fun hm => ?_) (fun hm => ?_))
   ·obtain ⟨r1, h1, hm⟩ := obind hm
    refine re G (hC 3 (s_l1Cur_next_c h1) h0) ?_
    exact wJ G hm
   ·exact X_skip (wJ G hm)
  rintro ⟨v, v1, v2, v3⟩ hm
  obtain ⟨u, h2, hm⟩ := obind hm
  refine rs G (hK h2 h0) ?_
  cases hm
  exact rt [] []
noncomputable def s_l1Cur_one_M : MS (l1Cur × Int) (Bool × l1Cur) := ⟨.x (.b 129) .r, fun x => s_l1Cur_one x.1 x.2, fun y => dV y.1, fun _ => [], fun _ y => [bxO 129 y.2]⟩
theorem s_l1Cur_one_c {c n y} (hm : s_l1Cur_one c n = some y) : s_l1Cur_one_M.C (c, n) y := s_l1Cur_one_M.c (c, n) hm
theorem s_l1Cur_one_ok : FnOK Try.prog tJ 156 s_l1Cur_one_M.S := by
 refine fm tt s_l1Cur_one_M [fo s_l1Cur_pick_ok] Try.call156 Try.func156 rfl Try.results156 Try.ntmps156 ?_
 rintro ⟨c, n⟩ y cx G hm
 have hm : s_l1Cur_one c n = some y := hm
 unfold s_l1Cur_one at hm
 refine rg G ?_
 obtain ⟨r, h, hm⟩ := obind hm
 refine rs G (hC 2 (s_l1Cur_pick_c h) h0) ?_
 cases hm
 exact rt [] []
noncomputable def s_l1Num_MR (rec_ : Int → Option (ByteArray)) : MS Int ByteArray := ⟨.r, rec_, fun y => dV y, fun _ => [], fun _ _ => []⟩
noncomputable def s_l1Num_M : MS Int ByteArray := s_l1Num_MR s_l1Num
theorem s_l1Num_c {n y} (hm : s_l1Num n = some y) : s_l1Num_M.C n y := s_l1Num_M.c n hm
theorem s_l1Num_cR {rec_ : Int → Option (ByteArray)} {n y} (hm : rec_ n = some y) : (s_l1Num_MR rec_).C n y := (s_l1Num_MR rec_).c n hm
theorem s_l1Num_okF {rec_ : Int → Option (ByteArray)} (hrec : FnOK Try.prog tJ 213 (s_l1Num_MR rec_).S) : FnOK Try.prog tJ 213 (s_l1Num_MR (s_l1Num_F rec_)).S := by
 refine fm tt (s_l1Num_MR (s_l1Num_F rec_)) [fo hrec] Try.call213 Try.func213 rfl Try.results213 Try.ntmps213 ?_
 rintro n y cx G hm
 have hm : s_l1Num_F rec_ n = some y := hm
 unfold s_l1Num_F at hm
 refine rg G (Ok_seq (rg G (cd hm (fun hm => ?_) (fun hm => ?_))))
 ·obtain ⟨r, h, hm⟩ := obind hm
  obtain ⟨u, h1, hm⟩ := obind hm
  refine rs G (hC 2 (s_l1Num_cR h) (hP (cat_p (chk_t h1)) h0)) ?_
  cases hm
  exact rt [] []
 ·refine X_skip (thN (Ok_seq (rg G (cd hm (fun hm => ?_) (fun hm => ?_)))))
  ·obtain ⟨u1, h2, hm⟩ := obind hm
   refine rs G (hK h2 h0) ?_
   cases hm
   exact rt [] []
  ·refine X_skip (thN ?_)
   obtain ⟨u7, h9, hm⟩ := obind hm
   obtain ⟨r2, h10, hm⟩ := obind hm
   obtain ⟨u8, h11, hm⟩ := obind hm
   obtain ⟨u9, h12, hm⟩ := obind hm
   obtain ⟨u10, h13, hm⟩ := obind hm
   obtain ⟨u11, h14, hm⟩ := obind hm
   refine ds G [] (hK h9 (hC 2 (s_l1Num_cR h10) (hK h11 (hK h12 (hK h13 (hP (cat_p (chk_t h14)) h0)))))) ?_
   cases hm
   exact rt [] []
theorem s_l1Num_okn : ∀ k, FnOK Try.prog tJ 213 (s_l1Num_MR (s_l1Num_k k)).S
 | 0 => ⟨fun args w => Try.call213 args w, fun vs w F ds obs κ hp => by obtain ⟨x, y, _, _, h⟩ := hp; cases h⟩
 | k + 1 => s_l1Num_okF (s_l1Num_okn k)
theorem s_l1Num_ok : FnOK Try.prog tJ 213 s_l1Num_M.S := s_l1Num_okn 4294967296
noncomputable def s_l2Place_M : MS (Line × Int) Int := ⟨.x .r .r, fun x => s_l2Place x.1 x.2, fun y => dV y, fun _ => [], fun _ _ => []⟩
theorem s_l2Place_c {x stop y} (hm : s_l2Place x stop = some y) : s_l2Place_M.C (x, stop) y := s_l2Place_M.c (x, stop) hm
theorem s_l2Place_ok : FnOK Try.prog tJ 95 s_l2Place_M.S := by
 refine fm tt s_l2Place_M [] Try.call95 Try.func95 rfl Try.results95 Try.ntmps95 ?_
 rintro ⟨x, stop⟩ y cx G hm
 have hm : s_l2Place x stop = some y := hm
 unfold s_l2Place at hm
 refine rg G (Ok_seq (rg G (tF hm (fun _ => ⟨[], [], 32⟩) (fun v1 hr hm => ?_) ?_)))
 ·refine Ok_block (lp G hm (fun v => ⟨[(1, dV stop), (2, .ref 16 0), (5, dV v)], [bX 16 146 [dV x.Name, dV x.Stops, dV x.Runs]], 48⟩) ?_)
  rintro v r0 hb hm
  rw [s_l2Place_L1] at hm
  refine Ok_seq (rs G (hN 3 x.Stops h0) ?_)
  refine cd hm (fun hm => ?_) (fun hm => ?_)
  ·refine X_skip (thN (Ok_seq (Ok_block ?_)))
   obtain ⟨e, h, hm⟩ := obind hm
   refine rs G (hD 3 h h0) ?_
   refine cd hm (fun hm => ?_) (fun hm => ?_)
   ·refine rg G ?_
    have hm := eL hm hb hr
    cases hm
    exact rt [] []
   ·exact X_skip (ibN (thN (rh G (wL G hm))))
  ·exact Ok_exit (thE (thE (ibE (wE G hm hb))))
 rintro ⟨⟩ hm s hw
 refine thN (Ok_weak hw ?_)
 refine rg G ?_
 cases hm
 exact rt [] []
noncomputable def s_l1Cur_line_M : MS (l1Cur × ByteArray × Int) (Line × l1Cur) := ⟨.x (.b 129) (.x .r .r), fun x => s_l1Cur_line x.1 x.2.1 x.2.2, fun y => .aggv [dV y.1.Name, .own 0, .own 1], fun y => [arO 3 y.1.Stops, arO 3 y.1.Runs], fun _ y => [bxO 129 y.2]⟩
theorem s_l1Cur_line_c {c name stops y} (hm : s_l1Cur_line c name stops = some y) : s_l1Cur_line_M.C (c, name, stops) y := s_l1Cur_line_M.c (c, name, stops) hm
theorem s_l1Cur_line_ok : FnOK Try.prog tJ 212 s_l1Cur_line_M.S := by
 refine fm tt s_l1Cur_line_M [fo s_l1Cur_pick_ok, fo s_l2Place_ok] Try.call212 Try.func212 rfl Try.results212 Try.ntmps212 ?_
 rintro ⟨c, name, stops⟩ y cx G hm
 have hm : s_l1Cur_line c name stops = some y := hm
 unfold s_l1Cur_line at hm
 refine rg G (rg G ?_)
 obtain ⟨r, h, hm⟩ := obind hm
 refine rs G (hC 2 (s_l1Cur_pick_c h) h0) ?_
 refine Ok_seq ?_
 obtain ⟨r1, h1, hm⟩ := obind hm
 refine rs G (hC 1 (s_l1Cur_pick_c h1) h0) ?_
 refine tl hm (fun (v7, v8, v9, v10) => ⟨[(0, .ref 0 0), (2, dV stops), (6, .ref 32 0), (7, .ref 48 0)], [bX 0 129 [dV v7, dV v8, kV .u64 v9], bX 32 146 [dV ByteArray.empty, .dat (.sc (.slice none 0 0)), .dat (.sc (.slice none 0 0))], bX 48 146 [dV name, .own 64, .dat (.sc (.slice none 0 0))], aX 64 3 v10], 96⟩) (fun vv1 hm => ?_) ?_
 ·refine Ok_block (lpP hm (fun (v, v1, v2, v3, v4, v5) => ⟨[(0, .ref 0 0), (2, dV stops), (6, .ref 32 0), (7, .ref 48 0), (8, dV v), (9, dV v1)], [bX 0 129 [dV v2, dV v3, kV .u64 v4], bX 32 146 [dV ByteArray.empty, .dat (.sc (.slice none 0 0)), .dat (.sc (.slice none 0 0))], bX 48 146 [dV name, .own 64, .dat (.sc (.slice none 0 0))], aX 64 3 v5], 96⟩) (Wk_J G.hL ⟨[(0, []), (2, []), (6, []), (7, []), (8, []), (9, [])], [(0, 0, []), (32, 16, []), (48, 64, [.k, .o 64])], [(64, 3, 1, [])], 96⟩ (by kernel_rfl)) ?_)
  rintro ⟨v, v1, v2, v3, v4, v5⟩ r0 hb hm
  rw [s_l1Cur_line_L1] at hm
  refine Ok_seq (rg G (cd hm (fun hm => ?_) (fun hm => ?_)))
  ·refine X_skip (thN (Ok_seq (Ok_block (jn hm (fun v6 => ⟨[(0, .ref 0 0), (2, dV stops), (6, .ref 32 0), (7, .ref 48 0), (8, dV v), (9, dV v1)], [bX 0 129 [dV v2, dV v3, kV .u64 v4], bX 32 146 [dV ByteArray.empty, .dat (.sc (.slice none 0 0)), .dat (.sc (.slice none 0 0))], bX 48 146 [dV name, .own 64, .dat (.sc (.slice none 0 0))], aX 64 3 v6], 96⟩) (fun v6 hm => ?_) ?_))))
   ·obtain ⟨r2, h2, hm⟩ := obind hm
    refine rs G (hC 2 (s_l2Place_c h2) h0) ?_
    refine cd hm (fun hm => ?_) (fun hm => ?_)
    ·obtain ⟨u, h3, hm⟩ := obind hm
     refine re G (hA 4 8 h3 h0) ?_
     exact wJ G hm
    ·exact X_skip (wJ G hm)
   rintro v6 hm
   obtain ⟨r3, h4, hm⟩ := obind hm
   obtain ⟨u1, h5, hm⟩ := obind hm
   refine re G (hC 3 (s_l1Cur_pick_c h4) (hK h5 h0)) ?_
   exact ibN (thN (rh G (wL G hm)))
  ·exact Ok_exit (thE (thE (ibE (wD G hm hb))))
 rintro ⟨v7, v8, v9, v10⟩ hm s hw
 refine thN (Ok_weak hw ?_)
 refine jn hm (fun v11 => ⟨[(0, .ref 0 0), (6, .ref 32 0), (7, .ref 48 0)], [bX 0 129 [dV v7, dV v8, kV .u64 v9], bX 32 146 [dV ByteArray.empty, .dat (.sc (.slice none 0 0)), .dat (.sc (.slice none 0 0))], bX 48 146 [dV name, .own 64, .dat (.sc (.slice none 0 0))], aX 64 3 v11], 96⟩) (fun v11 hm => ?_) ?_
 ·refine rs G (hN 2 v10 h0) ?_
  refine cd hm (fun hm => ?_) (fun hm => ?_)
  ·obtain ⟨e1, h9, hm⟩ := obind hm
   obtain ⟨u4, h10, hm⟩ := obind hm
   obtain ⟨u5, h11, hm⟩ := obind hm
   refine de G [(10, [64, 304]), (12, [48, 320])] (hD 4 h9 (hE 5 h9 (hK h10 (hA 10 8 h11 h0)))) ?_
   exact wJ G hm
  ·exact X_skip (wJ G hm)
 rintro v11 hm
 refine Ok_seq (rg G (tl hm (fun (v17, v18, v19, v20) => ⟨[(0, .ref 0 0), (6, .ref 32 0), (7, .ref 48 0)], [bX 0 129 [dV v17, dV v18, kV .u64 v19], bX 32 146 [dV ByteArray.empty, .dat (.sc (.slice none 0 0)), .dat (.sc (.slice none 0 0))], bX 48 146 [dV name, .own 64, .own 80], aX 64 3 v11, aX 80 3 v20], 112⟩) (fun vv hm => ?_) ?_))
 ·refine Ok_block (lpP hm (fun (v12, v13, v14, v15, v16) => ⟨[(0, .ref 0 0), (6, .ref 32 0), (7, .ref 48 0), (10, dV v12)], [bX 0 129 [dV v13, dV v14, kV .u64 v15], bX 32 146 [dV ByteArray.empty, .dat (.sc (.slice none 0 0)), .dat (.sc (.slice none 0 0))], bX 48 146 [dV name, .own 64, .own 80], aX 64 3 v11, aX 80 3 v16], 112⟩) (Wk_J G.hL ⟨[(0, []), (6, []), (7, []), (10, [])], [(0, 0, []), (32, 32, []), (48, 48, [.k, .k, .o 80]), (64, 64, [])], [(80, 3, 1, [])], 112⟩ (by kernel_rfl)) ?_)
  rintro ⟨v12, v13, v14, v15, v16⟩ r0 hb1 hm
  rw [s_l1Cur_line_L2] at hm
  refine Ok_seq (rs G (hN 3 v11 h0) ?_)
  refine cd hm (fun hm => ?_) (fun hm => ?_)
  ·refine X_skip (thN (Ok_seq (Ok_block ?_)))
   obtain ⟨r5, h14, hm⟩ := obind hm
   obtain ⟨u7, h15, hm⟩ := obind hm
   refine de G [(3, [0]), (6, [80, 272]), (8, [48, 288])] (hC 3 (s_l1Cur_pick_c h14) (hA 6 8 h15 h0)) ?_
   exact ibN (thN (rh G (wL G hm)))
  ·exact Ok_exit (thE (thE (ibE (wD G hm hb1))))
 rintro ⟨v17, v18, v19, v20⟩ hm s1 hw1
 refine thN (Ok_weak hw1 ?_)
 refine rg G ?_
 cases hm
 exact rt [64, 80] []
noncomputable def s_l1Cur_line_f_M : MS (l1Cur × ByteArray × Int) (Line × l1Cur) := ⟨.x (.b 129) (.x .r .r), fun x => s_l1Cur_line_f x.1 x.2.1 x.2.2, fun y => dV y.1, fun _ => [], fun _ y => [bxO 129 y.2]⟩
theorem s_l1Cur_line_f_c {c name stops y} (hm : s_l1Cur_line_f c name stops = some y) : s_l1Cur_line_f_M.C (c, name, stops) y := s_l1Cur_line_f_M.c (c, name, stops) hm
theorem s_l1Cur_line_f_ok : FnOK Try.prog tJ 212 s_l1Cur_line_f_M.S := by
 refine fm tt s_l1Cur_line_f_M [fo s_l1Cur_pick_ok, fo s_l2Place_ok] Try.call212 Try.func212 rfl Try.results212 Try.ntmps212 ?_
 rintro ⟨c, name, stops⟩ y cx G hm
 have hm : s_l1Cur_line_f c name stops = some y := hm
 unfold s_l1Cur_line_f at hm
 refine rg G (rg G ?_)
 obtain ⟨r, h, hm⟩ := obind hm
 refine rs G (hC 2 (s_l1Cur_pick_c h) h0) ?_
 refine Ok_seq ?_
 obtain ⟨r1, h1, hm⟩ := obind hm
 refine rs G (hC 1 (s_l1Cur_pick_c h1) h0) ?_
 refine tl hm (fun (v7, v8, v9, v10) => ⟨[(0, .ref 0 0), (2, dV stops), (6, .ref 32 0), (7, .ref 48 0)], [bX 0 129 [dV v7, dV v8, kV .u64 v9], bX 32 146 [dV ByteArray.empty, .dat (.sc (.slice none 0 0)), .dat (.sc (.slice none 0 0))], bX 48 146 [dV name, .own 64, .dat (.sc (.slice none 0 0))], aX 64 3 v10], 96⟩) (fun vv1 hm => ?_) ?_
 ·refine Ok_block (lpP hm (fun (v, v1, v2, v3, v4, v5) => ⟨[(0, .ref 0 0), (2, dV stops), (6, .ref 32 0), (7, .ref 48 0), (8, dV v), (9, dV v1)], [bX 0 129 [dV v2, dV v3, kV .u64 v4], bX 32 146 [dV ByteArray.empty, .dat (.sc (.slice none 0 0)), .dat (.sc (.slice none 0 0))], bX 48 146 [dV name, .own 64, .dat (.sc (.slice none 0 0))], aX 64 3 v5], 96⟩) (Wk_J G.hL ⟨[(0, []), (2, []), (6, []), (7, []), (8, []), (9, [])], [(0, 0, []), (32, 16, []), (48, 64, [.k, .o 64])], [(64, 3, 1, [])], 96⟩ (by kernel_rfl)) ?_)
  rintro ⟨v, v1, v2, v3, v4, v5⟩ r0 hb hm
  rw [s_l1Cur_line_f_L1] at hm
  refine Ok_seq (rg G (cd hm (fun hm => ?_) (fun hm => ?_)))
  ·refine X_skip (thN (Ok_seq (Ok_block (jn hm (fun v6 => ⟨[(0, .ref 0 0), (2, dV stops), (6, .ref 32 0), (7, .ref 48 0), (8, dV v), (9, dV v1)], [bX 0 129 [dV v2, dV v3, kV .u64 v4], bX 32 146 [dV ByteArray.empty, .dat (.sc (.slice none 0 0)), .dat (.sc (.slice none 0 0))], bX 48 146 [dV name, .own 64, .dat (.sc (.slice none 0 0))], aX 64 3 v6], 96⟩) (fun v6 hm => ?_) ?_))))
   ·obtain ⟨r2, h2, hm⟩ := obind hm
    refine rs G (hC 2 (s_l2Place_c h2) h0) ?_
    refine cd hm (fun hm => ?_) (fun hm => ?_)
    ·obtain ⟨u, h3, hm⟩ := obind hm
     refine re G (hA 4 8 h3 h0) ?_
     exact wJ G hm
    ·exact X_skip (wJ G hm)
   rintro v6 hm
   obtain ⟨r3, h4, hm⟩ := obind hm
   obtain ⟨u1, h5, hm⟩ := obind hm
   refine re G (hC 3 (s_l1Cur_pick_c h4) (hK h5 h0)) ?_
   exact ibN (thN (rh G (wL G hm)))
  ·exact Ok_exit (thE (thE (ibE (wD G hm hb))))
 rintro ⟨v7, v8, v9, v10⟩ hm s hw
 refine thN (Ok_weak hw ?_)
 refine jn hm (fun v11 => ⟨[(0, .ref 0 0), (6, .ref 32 0), (7, .ref 48 0)], [bX 0 129 [dV v7, dV v8, kV .u64 v9], bX 32 146 [dV ByteArray.empty, .dat (.sc (.slice none 0 0)), .dat (.sc (.slice none 0 0))], bX 48 146 [dV name, .own 64, .dat (.sc (.slice none 0 0))], aX 64 3 v11], 96⟩) (fun v11 hm => ?_) ?_
 ·refine rs G (hN 2 v10 h0) ?_
  refine cd hm (fun hm => ?_) (fun hm => ?_)
  ·obtain ⟨e1, h9, hm⟩ := obind hm
   obtain ⟨u4, h10, hm⟩ := obind hm
   obtain ⟨u5, h11, hm⟩ := obind hm
   refine de G [(10, [64, 304]), (12, [48, 320])] (hD 4 h9 (hE 5 h9 (hK h10 (hA 10 8 h11 h0)))) ?_
   exact wJ G hm
  ·exact X_skip (wJ G hm)
 rintro v11 hm
 refine Ok_seq (rg G (tl hm (fun (v17, v18, v19, v20) => ⟨[(0, .ref 0 0), (6, .ref 32 0), (7, .ref 48 0)], [bX 0 129 [dV v17, dV v18, kV .u64 v19], bX 32 146 [dV ByteArray.empty, .dat (.sc (.slice none 0 0)), .dat (.sc (.slice none 0 0))], bX 48 146 [dV name, .own 64, .own 80], aX 64 3 v11, aX 80 3 v20], 112⟩) (fun vv hm => ?_) ?_))
 ·refine Ok_block (lpP hm (fun (v12, v13, v14, v15, v16) => ⟨[(0, .ref 0 0), (6, .ref 32 0), (7, .ref 48 0), (10, dV v12)], [bX 0 129 [dV v13, dV v14, kV .u64 v15], bX 32 146 [dV ByteArray.empty, .dat (.sc (.slice none 0 0)), .dat (.sc (.slice none 0 0))], bX 48 146 [dV name, .own 64, .own 80], aX 64 3 v11, aX 80 3 v16], 112⟩) (Wk_J G.hL ⟨[(0, []), (6, []), (7, []), (10, [])], [(0, 0, []), (32, 32, []), (48, 48, [.k, .k, .o 80]), (64, 64, [])], [(80, 3, 1, [])], 112⟩ (by kernel_rfl)) ?_)
  rintro ⟨v12, v13, v14, v15, v16⟩ r0 hb1 hm
  rw [s_l1Cur_line_f_L2] at hm
  refine Ok_seq (rs G (hN 3 v11 h0) ?_)
  refine cd hm (fun hm => ?_) (fun hm => ?_)
  ·refine X_skip (thN (Ok_seq (Ok_block ?_)))
   obtain ⟨r5, h14, hm⟩ := obind hm
   obtain ⟨u7, h15, hm⟩ := obind hm
   refine de G [(3, [0]), (6, [80, 272]), (8, [48, 288])] (hC 3 (s_l1Cur_pick_c h14) (hA 6 8 h15 h0)) ?_
   exact ibN (thN (rh G (wL G hm)))
  ·exact Ok_exit (thE (thE (ibE (wD G hm hb1))))
 rintro ⟨v17, v18, v19, v20⟩ hm s1 hw1
 refine thN (Ok_weak hw1 ?_)
 refine rg G ?_
 cases hm
 exact rt [] []
noncomputable def s_l2Back_f_M : MS ((List Int)) ((List Int)) := ⟨.r, s_l2Back_f, fun y => dV y, fun _ => [], fun _ _ => []⟩
theorem s_l2Back_f_c {list y} (hm : s_l2Back_f list = some y) : s_l2Back_f_M.C list y := s_l2Back_f_M.c list hm
theorem s_l2Back_f_ok : FnOK Try.prog tJ 228 s_l2Back_f_M.S := by
 refine fm tt s_l2Back_f_M [] Try.call228 Try.func228 rfl Try.results228 Try.ntmps228 ?_
 rintro list y cx G hm
 have hm : s_l2Back_f list = some y := hm
 unfold s_l2Back_f at hm
 refine rg G (rg G (Ok_seq (rs G (hN 1 list h0) ?_)))
 refine tl hm (fun i1 => ⟨[(3, .own 16)], [aX 16 3 i1], 48⟩) (fun i1 hm => ?_) ?_
 ·refine Ok_block (lp G hm (fun (v, i) => ⟨[(0, dV list), (3, .own 16), (4, dV v)], [aX 16 3 i], 48⟩) ?_)
  rintro ⟨v, i⟩ r0 hb hm
  rw [s_l2Back_f_L1] at hm
  refine Ok_seq (rg G (cd hm (fun hm => ?_) (fun hm => ?_)))
  ·refine X_skip (thN (Ok_seq (Ok_block ?_)))
   obtain ⟨e, h, hm⟩ := obind hm
   obtain ⟨u, h1, hm⟩ := obind hm
   refine re G (hD 3 h (hA 6 8 h1 h0)) ?_
   exact ibN (thN (rh G (wL G hm)))
  ·exact Ok_exit (thE (thE (ibE (wD G hm hb))))
 rintro i1 hm s hw
 refine thN (Ok_weak hw ?_)
 refine rg G ?_
 cases hm
 exact rt [] []
noncomputable def s_l1Own_M : MS ((List Int)) ((List Int)) := ⟨.r, s_l1Own, fun _ => .own 0, fun y => [arO 3 y], fun _ _ => []⟩
theorem s_l1Own_c {l y} (hm : s_l1Own l = some y) : s_l1Own_M.C l y := s_l1Own_M.c l hm
theorem s_l1Own_ok : FnOK Try.prog tJ 197 s_l1Own_M.S := by
 refine fm tt s_l1Own_M [] Try.call197 Try.func197 rfl Try.results197 Try.ntmps197 ?_
 rintro l y cx G hm
 have hm : s_l1Own l = some y := hm
 unfold s_l1Own at hm
 refine rg G ?_
 obtain ⟨u, h, hm⟩ := obind hm
 refine rs G (hA 2 8 h h0) ?_
 cases hm
 exact rt [64] []
noncomputable def s_l1Own_f_M : MS ((List Int)) ((List Int)) := ⟨.r, s_l1Own_f, fun y => dV y, fun _ => [], fun _ _ => []⟩
theorem s_l1Own_f_c {l y} (hm : s_l1Own_f l = some y) : s_l1Own_f_M.C l y := s_l1Own_f_M.c l hm
theorem s_l1Own_f_ok : FnOK Try.prog tJ 197 s_l1Own_f_M.S := by
 refine fm tt s_l1Own_f_M [] Try.call197 Try.func197 rfl Try.results197 Try.ntmps197 ?_
 rintro l y cx G hm
 have hm : s_l1Own_f l = some y := hm
 unfold s_l1Own_f at hm
 refine rg G ?_
 obtain ⟨u, h, hm⟩ := obind hm
 refine rs G (hA 2 8 h h0) ?_
 cases hm
 exact rt [] []
noncomputable def s_l2Own_M : MS Network Network := ⟨.r, s_l2Own, fun _ => .aggv [.own 0, .own 1], fun y => [arO 9 y.Stops, arO 146 y.Lines], fun _ _ => []⟩
theorem s_l2Own_c {n y} (hm : s_l2Own n = some y) : s_l2Own_M.C n y := s_l2Own_M.c n hm
theorem s_l2Own_ok : FnOK Try.prog tJ 139 s_l2Own_M.S := by
 refine fm tt s_l2Own_M [fo s_l1Own_f_ok] Try.call139 Try.func139 rfl Try.results139 Try.ntmps139 ?_
 rintro n y cx G hm
 have hm : s_l2Own n = some y := hm
 unfold s_l2Own at hm
 refine rg G ?_
 obtain ⟨u, h, hm⟩ := obind hm
 refine rs G (hA 3 16 h h0) ?_
 refine Ok_seq (rg G (tl hm (fun v2 => ⟨[(2, .ref 16 0), (3, .ref 32 0)], [bX 16 32 [.dat (.sc (.slice none 0 0)), .dat (.sc (.slice none 0 0))], bX 32 32 [.own 48, .own 64], aX 48 9 (([] : List ByteArray) ++ n.Stops), aX 64 146 v2], 96⟩) (fun v2 hm => ?_) ?_))
 ·refine Ok_block (lpP hm (fun (v, v1) => ⟨[(1, .ref 16 0), (2, .ref 32 0), (3, .ref 48 0), (4, dV v)], [bX 16 32 [dV n.Stops, dV n.Lines], bX 32 32 [.dat (.sc (.slice none 0 0)), .dat (.sc (.slice none 0 0))], bX 48 32 [.own 64, .own 80], aX 64 9 (([] : List ByteArray) ++ n.Stops), aX 80 146 v1], 112⟩) (Wk_J G.hL ⟨[(1, []), (2, []), (3, []), (4, [])], [(16, 16, []), (32, 32, []), (48, 128, [.k, .o 80]), (64, 96, [])], [(80, 146, 3, [])], 112⟩ (by kernel_rfl)) ?_)
  rintro ⟨v, v1⟩ r0 hb hm
  rw [s_l2Own_L1] at hm
  refine Ok_seq (rs G (hN 3 n.Lines h0) ?_)
  refine cd hm (fun hm => ?_) (fun hm => ?_)
  ·refine X_skip (thN (Ok_seq (Ok_block ?_)))
   obtain ⟨e3, h7, hm⟩ := obind hm
   obtain ⟨e4, h8, hm⟩ := obind hm
   obtain ⟨r2, h9, hm⟩ := obind hm
   obtain ⟨e5, h10, hm⟩ := obind hm
   obtain ⟨r3, h11, hm⟩ := obind hm
   obtain ⟨u2, h12, hm⟩ := obind hm
   refine de G [(23, []), (24, [80, 560]), (26, [48, 576])] (hD 5 h7 (hD 11 h8 (hC 14 (s_l1Own_f_c h9) (hD 18 h10 (hC 21 (s_l1Own_f_c h11) (hA 24 64 h12 h0)))))) ?_
   exact ibN (thN (rh G (wL G hm)))
  ·exact Ok_exit (thE (thE (ibE (wD G hm hb))))
 rintro v2 hm s hw
 refine thN (Ok_weak hw ?_)
 refine rg G ?_
 cases hm
 exact rt [48, 64] []
noncomputable def s_l1Cur_network_M : MS l1Cur (Network × l1Cur) := ⟨.b 129, s_l1Cur_network, fun _ => .aggv [.own 0, .own 1], fun y => [arO 9 y.1.Stops, arO 146 y.1.Lines], fun _ y => [bxO 129 y.2]⟩
theorem s_l1Cur_network_c {c y} (hm : s_l1Cur_network c = some y) : s_l1Cur_network_M.C c y := s_l1Cur_network_M.c c hm
theorem s_l1Cur_network_ok : FnOK Try.prog tJ 210 s_l1Cur_network_M.S := by
 refine fm tt s_l1Cur_network_M [fo s_l1Cur_pick_ok, fo s_l1Num_ok, fo s_l1Cur_line_f_ok, fo s_l1Cur_one_ok, fo s_l2Back_f_ok, fo s_l2Own_ok] Try.call210 Try.func210 rfl Try.results210 Try.ntmps210 ?_
 rintro c y cx G hm
 have hm : s_l1Cur_network c = some y := hm
 unfold s_l1Cur_network at hm
 refine rg G ?_
 obtain ⟨r, h, hm⟩ := obind hm
 refine rs G (hC 1 (s_l1Cur_pick_c h) h0) ?_
 obtain ⟨u, h1, hm⟩ := obind hm
 refine rs G (hO 2 (.fz [96] [] []) (hU 2 h1 h0)) ?_
 refine Ok_seq ?_
 obtain ⟨r1, h2, hm⟩ := obind hm
 refine rs G (hC 1 (s_l1Cur_pick_c h2) h0) ?_
 refine tl hm (fun (v4, v5, v6, v7) => ⟨[(0, .ref 0 0), (2, .ref 32 0), (4, .ref 48 0)], [bX 0 129 [dV v4, dV v5, kV .u64 v6], bX 32 32 [.dat (.sc (.slice none 0 0)), .dat (.sc (.slice none 0 0))], bX 48 32 [dV ((([(str [112, 111, 114, 116]), (str [109, 105, 108, 108]), (str [112, 97, 114, 107]), (str [104, 97, 108, 108]), (str [100, 111, 99, 107]), (str [102, 97, 105, 114])] : List ByteArray).take (w64 (2 + r.1)).toNat).drop (0 : Int).toNat), .own 64], aX 64 146 v7], 96⟩) (fun vv1 hm => ?_) ?_
 ·refine Ok_block (lpP hm (fun (x, v, v1, v2, v3) => ⟨[(0, .ref 0 0), (2, .ref 32 0), (3, dV (w64 (2 + r.1))), (4, .ref 48 0), (5, dV x)], [bX 0 129 [dV v, dV v1, kV .u64 v2], bX 32 32 [.dat (.sc (.slice none 0 0)), .dat (.sc (.slice none 0 0))], bX 48 32 [dV ((([(str [112, 111, 114, 116]), (str [109, 105, 108, 108]), (str [112, 97, 114, 107]), (str [104, 97, 108, 108]), (str [100, 111, 99, 107]), (str [102, 97, 105, 114])] : List ByteArray).take (w64 (2 + r.1)).toNat).drop (0 : Int).toNat), .own 64], aX 64 146 v3], 96⟩) (Wk_J G.hL ⟨[(0, []), (2, []), (3, []), (4, []), (5, [])], [(0, 0, []), (32, 16, []), (48, 160, [.k, .o 64])], [(64, 146, 3, [])], 96⟩ (by kernel_rfl)) ?_)
  rintro ⟨x, v, v1, v2, v3⟩ r0 hb hm
  rw [s_l1Cur_network_L1] at hm
  refine Ok_seq (rg G (cd hm (fun hm => ?_) (fun hm => ?_)))
  ·refine X_skip (thN (Ok_seq (Ok_block ?_)))
   obtain ⟨r4, h7, hm⟩ := obind hm
   obtain ⟨u3, h8, hm⟩ := obind hm
   obtain ⟨r5, h9, hm⟩ := obind hm
   obtain ⟨u4, h10, hm⟩ := obind hm
   refine de G [(7, [0]), (8, []), (9, [64, 256]), (11, [48, 272])] (hC 4 (s_l1Num_c h7) (hP (cat_p (chk_t h8)) (hC 7 (s_l1Cur_line_f_c h9) (hA 9 64 h10 h0)))) ?_
   exact ibN (thN (rh G (wL G hm)))
  ·exact Ok_exit (thE (thE (ibE (wD G hm hb))))
 rintro ⟨v4, v5, v6, v7⟩ hm s hw
 refine thN (Ok_weak hw ?_)
 refine jn hm (fun (v8, v9, v10, v11) => ⟨[(0, .ref 0 0), (2, .ref 32 0), (4, .ref 48 0)], [bX 0 129 [dV v8, dV v9, kV .u64 v10], bX 32 32 [.dat (.sc (.slice none 0 0)), .dat (.sc (.slice none 0 0))], bX 48 32 [dV ((([(str [112, 111, 114, 116]), (str [109, 105, 108, 108]), (str [112, 97, 114, 107]), (str [104, 97, 108, 108]), (str [100, 111, 99, 107]), (str [102, 97, 105, 114])] : List ByteArray).take (w64 (2 + r.1)).toNat).drop (0 : Int).toNat), .own 64], aX 64 146 v11], 96⟩) (fun vv hm => ?_) ?_
 ·obtain ⟨r6, h11, hm⟩ := obind hm
  refine rs G (hC 1 (s_l1Cur_one_c h11) h0) ?_
  refine cd hm (fun hm => ?_) (fun hm => ?_)
  ·obtain ⟨e, h12, hm⟩ := obind hm
   refine rs G (hD 2 h12 (hE 3 h12 h0)) ?_
   obtain ⟨r9, h16, hm⟩ := obind hm
   obtain ⟨r10, h17, hm⟩ := obind hm
   obtain ⟨u6, h18, hm⟩ := obind hm
   refine de G [(9, []), (10, [64, 368]), (12, [48, 384])] (hC 4 (s_l2Back_f_c h16) (hC 7 (s_l2Back_f_c h17) (hA 10 64 h18 h0))) ?_
   exact wJ G hm
  ·exact X_skip (wJ G hm)
 rintro ⟨v8, v9, v10, v11⟩ hm
 obtain ⟨r11, h19, hm⟩ := obind hm
 refine rs G (hO 1 (.fz [64] [] []) (hC 1 (s_l2Own_c h19) h0)) ?_
 cases hm
 exact rt [112, 113] []
noncomputable def s_l1Cur_timetable_M : MS l1Cur (Timetable × l1Cur) := ⟨.b 129, s_l1Cur_timetable, fun _ => .aggv [.own 0, .own 1, .own 2], fun y => [arO 9 y.1.Network.Stops, arO 146 y.1.Network.Lines, arO 167 y.1.Trips], fun _ y => [bxO 129 y.2]⟩
theorem s_l1Cur_timetable_c {c y} (hm : s_l1Cur_timetable c = some y) : s_l1Cur_timetable_M.C c y := s_l1Cur_timetable_M.c c hm
theorem s_l1Cur_timetable_ok : FnOK Try.prog tJ 163 s_l1Cur_timetable_M.S := by
 refine fm tt s_l1Cur_timetable_M [fo s_l1Cur_network_ok, fo s_l1Cur_pick_ok] Try.call163 Try.func163 rfl Try.results163 Try.ntmps163 ?_
 rintro c y cx G hm
 have hm : s_l1Cur_timetable c = some y := hm
 unfold s_l1Cur_timetable at hm
 refine rg G ?_
 obtain ⟨r, h, hm⟩ := obind hm
 refine rs G (hC 1 (s_l1Cur_network_c h) h0) ?_
 refine rg G (Ok_seq ?_)
 obtain ⟨r1, h1, hm⟩ := obind hm
 refine rs G (hC 1 (s_l1Cur_pick_c h1) h0) ?_
 refine tl hm (fun (v5, v6, v7, v8) => ⟨[(0, .ref 0 0), (2, .ref 32 0), (3, .ref 48 0)], [bX 0 129 [dV v5, dV v6, kV .u64 v7], bX 32 35 [.dat (.sc (.slice none 0 0)), .dat (.sc (.slice none 0 0)), .dat (.sc (.slice none 0 0))], bX 48 35 [.own 64, .own 80, .own 96], aX 64 9 r.1.Stops, aX 80 146 r.1.Lines, aX 96 167 v8], 128⟩) (fun vv hm => ?_) ?_
 ·refine Ok_block (lpP hm (fun (n, v, v1, v2, v3, v4) => ⟨[(0, .ref 0 0), (2, .ref 32 0), (3, .ref 48 0), (4, dV n), (5, dV v)], [bX 0 129 [dV v1, dV v2, kV .u64 v3], bX 32 35 [.dat (.sc (.slice none 0 0)), .dat (.sc (.slice none 0 0)), .dat (.sc (.slice none 0 0))], bX 48 35 [.own 64, .own 80, .own 96], aX 64 9 r.1.Stops, aX 80 146 r.1.Lines, aX 96 167 v4], 128⟩) (Wk_J G.hL ⟨[(0, []), (2, []), (3, []), (4, []), (5, [])], [(0, 0, []), (32, 16, []), (48, 80, [.k, .k, .o 96]), (64, 48, []), (80, 49, [])], [(96, 167, 3, [])], 128⟩ (by kernel_rfl)) ?_)
  rintro ⟨n, v, v1, v2, v3, v4⟩ r0 hb hm
  rw [s_l1Cur_timetable_L1] at hm
  refine Ok_seq (rg G (cd hm (fun hm => ?_) (fun hm => ?_)))
  ·refine X_skip (thN (Ok_seq (Ok_block ?_)))
   obtain ⟨r2, h2, hm⟩ := obind hm
   refine rs G (hC 3 (s_l1Cur_pick_c h2) h0) ?_
   obtain ⟨r5, h6, hm⟩ := obind hm
   obtain ⟨r6, h7, hm⟩ := obind hm
   obtain ⟨u1, h8, hm⟩ := obind hm
   refine de G [(8, [0]), (10, [0]), (15, [96, 480]), (17, [48, 496])] (hN 7 r.1.Lines (hC 8 (s_l1Cur_pick_c h6) (hC 10 (s_l1Cur_pick_c h7) (hA 15 24 h8 h0)))) ?_
   exact ibN (thN (rh G (wL G hm)))
  ·exact Ok_exit (thE (thE (ibE (wD G hm hb))))
 rintro ⟨v5, v6, v7, v8⟩ hm s hw
 refine thN (Ok_weak hw ?_)
 refine rg G ?_
 cases hm
 exact rt [64, 80, 96] []
noncomputable def s_l1Cur_among_M : MS (l1Cur × (List Int)) (Int × l1Cur) := ⟨.x (.b 129) .r, fun x => s_l1Cur_among x.1 x.2, fun y => dV y.1, fun _ => [], fun _ y => [bxO 129 y.2]⟩
theorem s_l1Cur_among_c {c list y} (hm : s_l1Cur_among c list = some y) : s_l1Cur_among_M.C (c, list) y := s_l1Cur_among_M.c (c, list) hm
theorem s_l1Cur_among_ok : FnOK Try.prog tJ 89 s_l1Cur_among_M.S := by
 refine fm tt s_l1Cur_among_M [fo s_l1Cur_pick_ok] Try.call89 Try.func89 rfl Try.results89 Try.ntmps89 ?_
 rintro ⟨c, list⟩ y cx G hm
 have hm : s_l1Cur_among c list = some y := hm
 unfold s_l1Cur_among at hm
 refine rg G ?_
 obtain ⟨r, h, hm⟩ := obind hm
 obtain ⟨e, h1, hm⟩ := obind hm
 refine rs G (hN 3 list (hC 4 (s_l1Cur_pick_c h) (hD 5 h1 h0))) ?_
 cases hm
 exact rt [] []
noncomputable def s_l1Cur_of_w_M : MS (l1Cur × (List ByteArray)) (ByteArray × l1Cur) := ⟨.x (.b 129) (.s 9), fun x => s_l1Cur_of_w x.1 x.2, fun y => dV y.1, fun _ => [], fun x y => [bxO 129 y.2, arO 9 x.2]⟩
theorem s_l1Cur_of_w_c {c list y} (hm : s_l1Cur_of_w c list = some y) : s_l1Cur_of_w_M.C (c, list) y := s_l1Cur_of_w_M.c (c, list) hm
theorem s_l1Cur_of_w_ok : FnOK Try.prog tJ 211 s_l1Cur_of_w_M.S := by
 refine fm tt s_l1Cur_of_w_M [fo s_l1Cur_pick_ok] Try.call211 Try.func211 rfl Try.results211 Try.ntmps211 ?_
 rintro ⟨c, list⟩ y cx G hm
 have hm : s_l1Cur_of_w c list = some y := hm
 unfold s_l1Cur_of_w at hm
 refine rg G ?_
 obtain ⟨r, h, hm⟩ := obind hm
 obtain ⟨e, h1, hm⟩ := obind hm
 refine rs G (hN 3 list (hC 4 (s_l1Cur_pick_c h) (hD 5 h1 (hE 6 h1 h0)))) ?_
 cases hm
 exact rt [] []
noncomputable def s_l2Own_t_M : MS Network Network := ⟨.r, s_l2Own_t, fun _ => .aggv [.own 0, .own 1], fun y => [arO 9 y.Stops, taO 146 [none, some 3, some 3] y.Lines], fun _ _ => []⟩
theorem s_l2Own_t_c {n y} (hm : s_l2Own_t n = some y) : s_l2Own_t_M.C n y := s_l2Own_t_M.c n hm
theorem s_l2Own_t_ok : FnOK Try.prog tJ 139 s_l2Own_t_M.S := by
 refine fm tt s_l2Own_t_M [fo s_l1Own_ok] Try.call139 Try.func139 rfl Try.results139 Try.ntmps139 ?_
 rintro n y cx G hm
 have hm : s_l2Own_t n = some y := hm
 unfold s_l2Own_t at hm
 refine rg G ?_
 obtain ⟨u, h, hm⟩ := obind hm
 refine rs G (hA 3 16 h h0) ?_
 refine Ok_seq (rg G (tl hm (fun v2 => ⟨[(2, .ref 16 0), (3, .ref 32 0)], [bX 16 32 [.dat (.sc (.slice none 0 0)), .dat (.sc (.slice none 0 0))], bX 32 32 [.own 48, .own 64], aX 48 9 (([] : List ByteArray) ++ n.Stops), tX 64 146 [none, some 3, some 3] v2 64 none], 96⟩) (fun v2 hm => ?_) ?_))
 ·refine Ok_block (lpP hm (fun (v, v1) => ⟨[(1, .ref 16 0), (2, .ref 32 0), (3, .ref 48 0), (4, dV v)], [bX 16 32 [dV n.Stops, dV n.Lines], bX 32 32 [.dat (.sc (.slice none 0 0)), .dat (.sc (.slice none 0 0))], bX 48 32 [.own 64, .own 80], aX 64 9 (([] : List ByteArray) ++ n.Stops), tX 80 146 [none, some 3, some 3] v1 80 none], 112⟩) (Wk_J G.hL ⟨[(1, []), (2, []), (3, []), (4, [])], [(16, 16, []), (32, 32, []), (48, 128, [.k, .o 80]), (64, 96, [])], [(80, 146, 3, [none, some 3, some 3])], 112⟩ (by kernel_rfl)) ?_)
  rintro ⟨v, v1⟩ r0 hb hm
  rw [s_l2Own_t_L1] at hm
  refine Ok_seq (rs G (hN 3 n.Lines h0) ?_)
  refine cd hm (fun hm => ?_) (fun hm => ?_)
  ·refine X_skip (thN (Ok_seq (Ok_block ?_)))
   obtain ⟨e3, h7, hm⟩ := obind hm
   obtain ⟨e4, h8, hm⟩ := obind hm
   obtain ⟨r2, h9, hm⟩ := obind hm
   obtain ⟨e5, h10, hm⟩ := obind hm
   obtain ⟨r3, h11, hm⟩ := obind hm
   obtain ⟨u2, h12, hm⟩ := obind hm
   refine de G [(23, [416, 528]), (24, [80, 560]), (26, [48, 576])] (hD 5 h7 (hD 11 h8 (hC 14 (s_l1Own_c h9) (hD 18 h10 (hC 21 (s_l1Own_c h11) (hP (nodupB_ok (l := [416, 528]) rfl) (hA 24 64 h12 h0))))))) ?_
   exact ibN (thN (rh G (wL G hm)))
  ·exact Ok_exit (thE (thE (ibE (wD G hm hb))))
 rintro v2 hm s hw
 refine thN (Ok_weak hw ?_)
 refine rg G ?_
 cases hm
 exact rt [48, 64] []
noncomputable def s_l1Cur_network_t_M : MS l1Cur (Network × l1Cur) := ⟨.b 129, s_l1Cur_network_t, fun _ => .aggv [.own 0, .own 1], fun y => [arO 9 y.1.Stops, taO 146 [none, some 3, some 3] y.1.Lines], fun _ y => [bxO 129 y.2]⟩
theorem s_l1Cur_network_t_c {c y} (hm : s_l1Cur_network_t c = some y) : s_l1Cur_network_t_M.C c y := s_l1Cur_network_t_M.c c hm
theorem s_l1Cur_network_t_ok : FnOK Try.prog tJ 210 s_l1Cur_network_t_M.S := by
 refine fm tt s_l1Cur_network_t_M [fo s_l1Cur_pick_ok, fo s_l1Num_ok, fo s_l1Cur_line_f_ok, fo s_l1Cur_one_ok, fo s_l2Back_f_ok, fo s_l2Own_t_ok] Try.call210 Try.func210 rfl Try.results210 Try.ntmps210 ?_
 rintro c y cx G hm
 have hm : s_l1Cur_network_t c = some y := hm
 unfold s_l1Cur_network_t at hm
 refine rg G ?_
 obtain ⟨r, h, hm⟩ := obind hm
 refine rs G (hC 1 (s_l1Cur_pick_c h) h0) ?_
 obtain ⟨u, h1, hm⟩ := obind hm
 refine rs G (hO 2 (.fz [96] [] []) (hU 2 h1 h0)) ?_
 refine Ok_seq ?_
 obtain ⟨r1, h2, hm⟩ := obind hm
 refine rs G (hC 1 (s_l1Cur_pick_c h2) h0) ?_
 refine tl hm (fun (v4, v5, v6, v7) => ⟨[(0, .ref 0 0), (2, .ref 32 0), (4, .ref 48 0)], [bX 0 129 [dV v4, dV v5, kV .u64 v6], bX 32 32 [.dat (.sc (.slice none 0 0)), .dat (.sc (.slice none 0 0))], bX 48 32 [dV ((([(str [112, 111, 114, 116]), (str [109, 105, 108, 108]), (str [112, 97, 114, 107]), (str [104, 97, 108, 108]), (str [100, 111, 99, 107]), (str [102, 97, 105, 114])] : List ByteArray).take (w64 (2 + r.1)).toNat).drop (0 : Int).toNat), .own 64], aX 64 146 v7], 96⟩) (fun vv1 hm => ?_) ?_
 ·refine Ok_block (lpP hm (fun (x, v, v1, v2, v3) => ⟨[(0, .ref 0 0), (2, .ref 32 0), (3, dV (w64 (2 + r.1))), (4, .ref 48 0), (5, dV x)], [bX 0 129 [dV v, dV v1, kV .u64 v2], bX 32 32 [.dat (.sc (.slice none 0 0)), .dat (.sc (.slice none 0 0))], bX 48 32 [dV ((([(str [112, 111, 114, 116]), (str [109, 105, 108, 108]), (str [112, 97, 114, 107]), (str [104, 97, 108, 108]), (str [100, 111, 99, 107]), (str [102, 97, 105, 114])] : List ByteArray).take (w64 (2 + r.1)).toNat).drop (0 : Int).toNat), .own 64], aX 64 146 v3], 96⟩) (Wk_J G.hL ⟨[(0, []), (2, []), (3, []), (4, []), (5, [])], [(0, 0, []), (32, 16, []), (48, 160, [.k, .o 64])], [(64, 146, 3, [])], 96⟩ (by kernel_rfl)) ?_)
  rintro ⟨x, v, v1, v2, v3⟩ r0 hb hm
  rw [s_l1Cur_network_t_L1] at hm
  refine Ok_seq (rg G (cd hm (fun hm => ?_) (fun hm => ?_)))
  ·refine X_skip (thN (Ok_seq (Ok_block ?_)))
   obtain ⟨r4, h7, hm⟩ := obind hm
   obtain ⟨u3, h8, hm⟩ := obind hm
   obtain ⟨r5, h9, hm⟩ := obind hm
   obtain ⟨u4, h10, hm⟩ := obind hm
   refine de G [(7, [0]), (8, []), (9, [64, 256]), (11, [48, 272])] (hC 4 (s_l1Num_c h7) (hP (cat_p (chk_t h8)) (hC 7 (s_l1Cur_line_f_c h9) (hA 9 64 h10 h0)))) ?_
   exact ibN (thN (rh G (wL G hm)))
  ·exact Ok_exit (thE (thE (ibE (wD G hm hb))))
 rintro ⟨v4, v5, v6, v7⟩ hm s hw
 refine thN (Ok_weak hw ?_)
 refine jn hm (fun (v8, v9, v10, v11) => ⟨[(0, .ref 0 0), (2, .ref 32 0), (4, .ref 48 0)], [bX 0 129 [dV v8, dV v9, kV .u64 v10], bX 32 32 [.dat (.sc (.slice none 0 0)), .dat (.sc (.slice none 0 0))], bX 48 32 [dV ((([(str [112, 111, 114, 116]), (str [109, 105, 108, 108]), (str [112, 97, 114, 107]), (str [104, 97, 108, 108]), (str [100, 111, 99, 107]), (str [102, 97, 105, 114])] : List ByteArray).take (w64 (2 + r.1)).toNat).drop (0 : Int).toNat), .own 64], aX 64 146 v11], 96⟩) (fun vv hm => ?_) ?_
 ·obtain ⟨r6, h11, hm⟩ := obind hm
  refine rs G (hC 1 (s_l1Cur_one_c h11) h0) ?_
  refine cd hm (fun hm => ?_) (fun hm => ?_)
  ·obtain ⟨e, h12, hm⟩ := obind hm
   refine rs G (hD 2 h12 (hE 3 h12 h0)) ?_
   obtain ⟨r9, h16, hm⟩ := obind hm
   obtain ⟨r10, h17, hm⟩ := obind hm
   obtain ⟨u6, h18, hm⟩ := obind hm
   refine de G [(9, []), (10, [64, 368]), (12, [48, 384])] (hC 4 (s_l2Back_f_c h16) (hC 7 (s_l2Back_f_c h17) (hA 10 64 h18 h0))) ?_
   exact wJ G hm
  ·exact X_skip (wJ G hm)
 rintro ⟨v8, v9, v10, v11⟩ hm
 obtain ⟨r11, h19, hm⟩ := obind hm
 refine rs G (hO 1 (.fz [64] [] []) (hC 1 (s_l2Own_t_c h19) h0)) ?_
 cases hm
 exact rt [112, 113] []
noncomputable def s_l1Cur_among_w_M : MS (l1Cur × (List Int)) (Int × l1Cur) := ⟨.x (.b 129) (.s 3), fun x => s_l1Cur_among_w x.1 x.2, fun y => dV y.1, fun _ => [], fun x y => [bxO 129 y.2, arO 3 x.2]⟩
theorem s_l1Cur_among_w_c {c list y} (hm : s_l1Cur_among_w c list = some y) : s_l1Cur_among_w_M.C (c, list) y := s_l1Cur_among_w_M.c (c, list) hm
theorem s_l1Cur_among_w_ok : FnOK Try.prog tJ 89 s_l1Cur_among_w_M.S := by
 refine fm tt s_l1Cur_among_w_M [fo s_l1Cur_pick_ok] Try.call89 Try.func89 rfl Try.results89 Try.ntmps89 ?_
 rintro ⟨c, list⟩ y cx G hm
 have hm : s_l1Cur_among_w c list = some y := hm
 unfold s_l1Cur_among_w at hm
 refine rg G ?_
 obtain ⟨r, h, hm⟩ := obind hm
 obtain ⟨e, h1, hm⟩ := obind hm
 refine rs G (hN 3 list (hC 4 (s_l1Cur_pick_c h) (hD 5 h1 (hE 6 h1 h0)))) ?_
 cases hm
 exact rt [] []
noncomputable def s_l1Cur_anyNetwork_M : MS l1Cur (Network × l1Cur) := ⟨.b 129, s_l1Cur_anyNetwork, fun y => .aggv [.own 0, dV y.1.Lines], fun y => [arO 9 y.1.Stops], fun _ y => [bxO 129 y.2]⟩
theorem s_l1Cur_anyNetwork_c {c y} (hm : s_l1Cur_anyNetwork c = some y) : s_l1Cur_anyNetwork_M.C c y := s_l1Cur_anyNetwork_M.c c hm
theorem s_l1Cur_anyNetwork_ok : FnOK Try.prog tJ 154 s_l1Cur_anyNetwork_M.S := by
 refine fm tt s_l1Cur_anyNetwork_M [fo s_l1Cur_network_t_ok, fo s_l1Cur_pick_ok, fo s_l1Cur_of_w_ok, fo s_l1Cur_among_w_ok, fo s_l1Num_ok, fo s_l1Cur_line_ok] Try.call154 Try.func154 rfl Try.results154 Try.ntmps154 ?_
 rintro c y cx G hm
 have hm : s_l1Cur_anyNetwork c = some y := hm
 unfold s_l1Cur_anyNetwork at hm
 refine rg G ?_
 obtain ⟨r, h, hm⟩ := obind hm
 refine rs G (hC 1 (s_l1Cur_network_t_c h) h0) ?_
 obtain ⟨r1, h1, hm⟩ := obind hm
 refine rs G (hN 3 r.1.Lines (hC 4 (s_l1Cur_pick_c h1) h0)) ?_
 obtain ⟨e, h2, hm⟩ := obind hm
 refine rs G (hD 3 h2 (hE 4 h2 h0)) ?_
 refine jF hm (fun (v, v1, v2, v3, v4, v5, v6) => ⟨[(0, .ref 0 0), (2, .ref 32 0), (3, .ref 48 0), (4, dV r1.1), (5, .ref 64 0)], [bX 0 129 [dV v, dV v1, kV .u64 v2], bX 32 32 [.dat (.sc (.slice none 0 0)), .dat (.sc (.slice none 0 0))], bX 48 32 [.own 80, .own 96], bX 64 146 [dV v3, .row 96 96 r1.1.toNat 1, .own 112], aX 80 9 v4, tX 96 146 [none, some 3, some 3] v5 96 (some (r1.1.toNat, 2)), aX 112 3 v6], 144⟩) (fun v17 hr hm => ?_) ?_
 ·obtain ⟨r2, h3, hm⟩ := obind hm
  refine rs G (hC 1 (s_l1Cur_pick_c h3) h0) ?_
  refine Ok_block (rg G (cd hm (fun hm => ?_) (fun hm => ?_)))
  ·obtain ⟨r4, h6, hm⟩ := obind hm
   obtain ⟨e2, h7, hm⟩ := obind hm
   refine de G [(4, [0, 416]), (6, [48])] (hC 4 (s_l1Cur_of_w_c h6) (hD 5 h7 (hS 6 h7 r4.1 h0))) ?_
   exact ibN (wFp hm (Wk.trans (Wk_S (.c 272 2) (Enc.e e) (.cons (idx_m2 (f := Enc.e) (l := r.1.Lines) (i := r1.1) h2) .nil) (by kernel_rfl)) (Wk_J G.hL ⟨[(0, []), (2, []), (3, []), (4, []), (5, [])], [(0, 0, []), (32, 16, []), (48, 64, []), (64, 272, []), (80, 48, []), (96, 49, []), (112, 480, [])], [], 144⟩ (by kernel_rfl))))
  ·refine rg G (cd hm (fun hm => ?_) (fun hm => ?_))
   ·obtain ⟨r5, h8, hm⟩ := obind hm
    refine re G (hC 2 (s_l1Cur_of_w_c h8) h0) ?_
    exact ibN (wFp hm (Wk.trans (Wk_S (.c 272 2) (Enc.e e) (.cons (idx_m2 (f := Enc.e) (l := r.1.Lines) (i := r1.1) h2) .nil) (by kernel_rfl)) (Wk_J G.hL ⟨[(0, []), (2, []), (3, []), (4, []), (5, [])], [(0, 0, []), (32, 16, []), (48, 64, []), (64, 272, []), (80, 48, []), (96, 49, []), (112, 480, [])], [], 144⟩ (by kernel_rfl))))
   ·refine rg G (cd hm (fun hm => ?_) (fun hm => ?_))
    ·obtain ⟨r8, h12, hm⟩ := obind hm
     obtain ⟨r9, h13, hm⟩ := obind hm
     obtain ⟨e4, h14, hm⟩ := obind hm
     refine de G [(6, [0]), (8, [0]), (11, [49])] (hO 5 (.dn (Enc.e e) (e.Stops.length : Int)) (hP (idx_m2 (f := Enc.e) h2) (hP (len_m Enc.e e.Stops) (hC 6 (s_l1Cur_pick_c h12) (hC 8 (s_l1Cur_pick_c h13) (hE 10 h2 (hP (idx_b (f := Enc.e) h14) (hO 11 (.sd2 (Enc.e e) (Enc.e e4) (List.map Enc.e (e.Stops.set r8.1.toNat (w64 (r9.1 - 1)))) (List.map Enc.e (r.1.Lines.set r1.1.toNat (⟨e.Name, (e.Stops.set r8.1.toNat (w64 (r9.1 - 1))), e.Runs⟩ : Line)))) (hP (idx_m2 (f := Enc.e) h2) (hP (idx_m2 (f := Enc.e) h14) (hP (set_m Enc.e e.Stops r8.1.toNat (w64 (r9.1 - 1))) (hP (set_m Enc.e r.1.Lines r1.1.toNat (⟨e.Name, (e.Stops.set r8.1.toNat (w64 (r9.1 - 1))), e.Runs⟩ : Line)) h0)))))))))))) ?_
     exact ibN (wFp hm (Wk.trans (Wk_S (.c 272 2) (Enc.e (⟨e.Name, (e.Stops.set r8.1.toNat (w64 (r9.1 - 1))), e.Runs⟩ : Line)) (.cons (idx_m2 (f := Enc.e) (l := (r.1.Lines.set r1.1.toNat (⟨e.Name, (e.Stops.set r8.1.toNat (w64 (r9.1 - 1))), e.Runs⟩ : Line))) (i := r1.1) (idx_set (y := (⟨e.Name, (e.Stops.set r8.1.toNat (w64 (r9.1 - 1))), e.Runs⟩ : Line)) h2)) .nil) (by kernel_rfl)) (Wk_J G.hL ⟨[(0, []), (2, []), (3, []), (4, []), (5, [])], [(0, 0, []), (32, 16, []), (48, 64, []), (64, 272, []), (80, 48, []), (96, 49, []), (112, 624, [])], [], 144⟩ (by kernel_rfl))))
    ·refine rg G (cd hm (fun hm => ?_) (fun hm => ?_))
     ·obtain ⟨r12, h18, hm⟩ := obind hm
      obtain ⟨r13, h19, hm⟩ := obind hm
      obtain ⟨e6, h20, hm⟩ := obind hm
      refine de G [(6, [0]), (9, [0, 592]), (11, [49])] (hO 5 (.dn (Enc.e e) (e.Runs.length : Int)) (hP (idx_m2 (f := Enc.e) h2) (hP (len_m Enc.e e.Runs) (hC 6 (s_l1Cur_pick_c h18) (hC 9 (s_l1Cur_among_w_c h19) (hE 10 h2 (hP (idx_b (f := Enc.e) h20) (hO 11 (.sd2 (Enc.e e) (Enc.e e6) (List.map Enc.e (e.Runs.set r12.1.toNat r13.1)) (List.map Enc.e (r.1.Lines.set r1.1.toNat (⟨e.Name, e.Stops, (e.Runs.set r12.1.toNat r13.1)⟩ : Line)))) (hP (idx_m2 (f := Enc.e) h2) (hP (idx_m2 (f := Enc.e) h20) (hP (set_m Enc.e e.Runs r12.1.toNat r13.1) (hP (set_m Enc.e r.1.Lines r1.1.toNat (⟨e.Name, e.Stops, (e.Runs.set r12.1.toNat r13.1)⟩ : Line)) h0)))))))))))) ?_
      exact ibN (wFp hm (Wk.trans (Wk_S (.c 272 2) (Enc.e (⟨e.Name, e.Stops, (e.Runs.set r12.1.toNat r13.1)⟩ : Line)) (.cons (idx_m2 (f := Enc.e) (l := (r.1.Lines.set r1.1.toNat (⟨e.Name, e.Stops, (e.Runs.set r12.1.toNat r13.1)⟩ : Line))) (i := r1.1) (idx_set (y := (⟨e.Name, e.Stops, (e.Runs.set r12.1.toNat r13.1)⟩ : Line)) h2)) .nil) (by kernel_rfl)) (Wk_J G.hL ⟨[(0, []), (2, []), (3, []), (4, []), (5, [])], [(0, 0, []), (32, 16, []), (48, 64, []), (64, 272, []), (80, 48, []), (96, 49, []), (112, 656, [])], [], 144⟩ (by kernel_rfl))))
     ·refine rg G (cd hm (fun hm => ?_) (fun hm => ?_))
      ·obtain ⟨u, h21, hm⟩ := obind hm
       refine re G (hO 3 (.sd (Enc.e e) (List.map Enc.e (e.Runs ++ ([3] : List Int)))) (hP (idx_m2 (f := Enc.e) h2) (hP (app_p (f := Enc.e) (g := Enc.e) (l := e.Runs) (r := ([3] : List Int)) (b := 8) (chk_t h21) rfl) (hP (app_m Enc.e e.Runs ([3] : List Int)) h0)))) ?_
       exact ibN (wF G hm)
      ·refine rg G (cd hm (fun hm => ?_) (fun hm => ?_))
       ·refine rg G (rg G ?_)
        have hm := eR hm hr
        cases hm
        exact rt [48] []
       ·refine rg G (cd hm (fun hm => ?_) (fun hm => ?_))
        ·refine Ok_seq (rg G (tl hm (fun (v13, v14, v15, v16) => ⟨[(0, .ref 0 0), (2, .ref 32 0), (3, .ref 48 0)], [bX 0 129 [dV v13, dV v14, kV .u64 v15], bX 32 32 [.dat (.sc (.slice none 0 0)), .dat (.sc (.slice none 0 0))], bX 48 32 [.own 64, .own 80], aX 64 9 r.1.Stops, tX 80 146 [none, some 3, some 3] v16 80 none], 112⟩) (fun vv hm => ?_) ?_))
         ·refine Ok_block (lp G hm (fun (v7, v8, v9, v10, v11) => ⟨[(0, .ref 0 0), (2, .ref 32 0), (3, .ref 48 0), (6, dV v7)], [bX 0 129 [dV v8, dV v9, kV .u64 v10], bX 32 32 [.dat (.sc (.slice none 0 0)), .dat (.sc (.slice none 0 0))], bX 48 32 [.own 64, .own 80], aX 64 9 r.1.Stops, tX 80 146 [none, some 3, some 3] v11 80 none], 112⟩) ?_)
          rintro ⟨v7, v8, v9, v10, v11⟩ r0 hb hm
          rw [s_l1Cur_anyNetwork_L1] at hm
          refine Ok_seq ?_
          obtain ⟨r16, h23, hm⟩ := obind hm
          refine jn hm (fun v12 => ⟨[(0, .ref 0 0), (2, .ref 32 0), (3, .ref 48 0), (6, dV v7), (85, dV v12)], [bX 0 129 [dV r16.2.code_, dV r16.2.at_, kV .u64 r16.2.seed_.v], bX 32 32 [.dat (.sc (.slice none 0 0)), .dat (.sc (.slice none 0 0))], bX 48 32 [.own 64, .own 80], aX 64 9 r.1.Stops, tX 80 146 [none, some 3, some 3] v11 80 none], 112⟩) (fun v12 hm => ?_) ?_
          ·rcases bf hm with ⟨hb1, hm⟩ | ⟨hb1, hm⟩
           ·refine de G [(4, [0])] (hN 2 v11 (hC 4 (s_l1Cur_pick_c h23) (hO 7 (.b true) (hP hb1 h0)))) ?_
            exact wJ G hm
           ·refine de G [(4, [0])] (hN 2 v11 (hC 4 (s_l1Cur_pick_c h23) (hO 7 (.b false) (hP hb1 h0)))) ?_
            exact wJ G hm
          rintro v12 hm
          refine cd hm (fun hm => ?_) (fun hm => ?_)
          ·refine X_skip (thN (Ok_seq (Ok_block ?_)))
           obtain ⟨r19, h28, hm⟩ := obind hm
           obtain ⟨u3, h29, hm⟩ := obind hm
           obtain ⟨r20, h30, hm⟩ := obind hm
           obtain ⟨u4, h31, hm⟩ := obind hm
           refine de G [(9, [0]), (10, [256, 257]), (11, [80, 272]), (13, [48, 288])] (hC 4 (s_l1Num_c h28) (hP (cat_p (chk_t h29)) (hN 8 r.1.Stops (hC 9 (s_l1Cur_line_c h30) (hP (nodupB_ok (l := [256, 257]) rfl) (hA 11 64 h31 h0)))))) ?_
           exact ibN (thN (rh G (wL G hm)))
          ·exact Ok_exit (thE (thE (ibE (wD G hm hb))))
         rintro ⟨v13, v14, v15, v16⟩ hm s hw
         refine thN (Ok_weak hw ?_)
         refine rg G ?_
         have hm := eR hm hr
         cases hm
         exact rt [64] []
        ·exact X_skip (ibN (wFp hm (Wk.trans (Wk_S (.c 272 2) (Enc.e e) (.cons (idx_m2 (f := Enc.e) (l := r.1.Lines) (i := r1.1) h2) .nil) (by kernel_rfl)) (Wk_J G.hL ⟨[(0, []), (2, []), (3, []), (4, []), (5, [])], [(0, 0, []), (32, 16, []), (48, 64, []), (64, 272, []), (80, 48, []), (96, 49, []), (112, 560, [])], [], 144⟩ (by kernel_rfl)))))
 rintro ⟨v, v1, v2, v3, v4, v5, v6⟩ hm
 obtain ⟨e9, h32, hm⟩ := obind hm
 refine rs G (hD 4 h32 (hS 5 h32 (⟨v3, e9.Stops, v6⟩ : Line) (hP (Eq.refl r1.1.toNat) (hP (Eq.refl r1.1.toNat) h0)))) ?_
 refine rg G ?_
 cases hm
 exact rt [80] []
noncomputable def s_l1Cur_anyTimetable_M : MS l1Cur (Timetable × l1Cur) := ⟨.b 129, s_l1Cur_anyTimetable, fun y => .aggv [.own 0, dV y.1.Network.Lines, .own 1], fun y => [arO 9 y.1.Network.Stops, arO 167 y.1.Trips], fun _ y => [bxO 129 y.2]⟩
theorem s_l1Cur_anyTimetable_c {c y} (hm : s_l1Cur_anyTimetable c = some y) : s_l1Cur_anyTimetable_M.C c y := s_l1Cur_anyTimetable_M.c c hm
theorem s_l1Cur_anyTimetable_ok : FnOK Try.prog tJ 100 s_l1Cur_anyTimetable_M.S := by
 refine fm tt s_l1Cur_anyTimetable_M [fo s_l1Cur_timetable_ok, fo s_l1Cur_pick_ok, fo s_l1Cur_among_ok, fo s_l1Cur_anyNetwork_ok] Try.call100 Try.func100 rfl Try.results100 Try.ntmps100 ?_
 rintro c y cx G hm
 have hm : s_l1Cur_anyTimetable c = some y := hm
 unfold s_l1Cur_anyTimetable at hm
 refine rg G ?_
 obtain ⟨r, h, hm⟩ := obind hm
 refine rs G (hC 1 (s_l1Cur_timetable_c h) h0) ?_
 refine Ok_seq (rs G (hN 2 r.1.Trips h0) ?_)
 refine cd hm (fun hm => ?_) (fun hm => ?_)
 ·refine rg G ?_
  cases hm
  exact rt [48, 50] []
 ·refine X_skip (thN ?_)
  obtain ⟨r1, h1, hm⟩ := obind hm
  refine rs G (hN 3 r.1.Trips (hC 4 (s_l1Cur_pick_c h1) h0)) ?_
  obtain ⟨e, h2, hm⟩ := obind hm
  refine rs G (hD 3 h2 (hE 4 h2 h0)) ?_
  refine jF hm (fun (v, v1, v2, v3, v4, v5, v6, v7) => ⟨[(0, .ref 0 0), (2, .ref 32 0), (3, .ref 48 0), (4, dV r1.1), (5, .ref 64 0)], [bX 0 129 [dV v, dV v1, kV .u64 v2], bX 32 35 [.dat (.sc (.slice none 0 0)), .dat (.sc (.slice none 0 0)), .dat (.sc (.slice none 0 0))], bX 48 35 [.own 80, dV v3, .own 96], bX 64 167 [dV v4, dV v5, dV v6], aX 80 9 v7, aX 96 167 r.1.Trips], 128⟩) (fun v18 hr hm => ?_) ?_
  ·obtain ⟨r2, h3, hm⟩ := obind hm
   refine rs G (hC 1 (s_l1Cur_pick_c h3) h0) ?_
   refine Ok_block (rg G (cd hm (fun hm => ?_) (fun hm => ?_)))
   ·obtain ⟨r3, h4, hm⟩ := obind hm
    refine re G (hO 2 (.fz [448] [] []) (hC 2 (s_l1Cur_among_c h4) h0)) ?_
    exact ibN (wF G hm)
   ·refine rg G (cd hm (fun hm => ?_) (fun hm => ?_))
    ·obtain ⟨r4, h5, hm⟩ := obind hm
     refine re G (hC 1 (s_l1Cur_pick_c h5) h0) ?_
     exact ibN (wF G hm)
    ·refine rg G (cd hm (fun hm => ?_) (fun hm => ?_))
     ·obtain ⟨r5, h6, hm⟩ := obind hm
      refine re G (hO 2 (.fz [512] [] []) (hC 2 (s_l1Cur_among_c h6) h0)) ?_
      exact ibN (wF G hm)
     ·refine rg G (cd hm (fun hm => ?_) (fun hm => ?_))
      ·obtain ⟨r6, h7, hm⟩ := obind hm
       refine re G (hC 1 (s_l1Cur_anyNetwork_c h7) h0) ?_
       exact ibN (wF G hm)
      ·refine rg G (cd hm (fun hm => ?_) (fun hm => ?_))
       ·refine Ok_seq (rg G (tl hm (fun (v14, v15, v16, v17) => ⟨[(0, .ref 0 0), (2, .ref 32 0), (3, .ref 48 0)], [bX 0 129 [dV v14, dV v15, kV .u64 v16], bX 32 35 [.dat (.sc (.slice none 0 0)), .dat (.sc (.slice none 0 0)), .dat (.sc (.slice none 0 0))], bX 48 35 [.own 64, .own 80, .own 96], aX 64 9 r.1.Network.Stops, aX 80 146 r.1.Network.Lines, aX 96 167 v17], 128⟩) (fun vv hm => ?_) ?_))
        ·refine Ok_block (lp G hm (fun (v8, v9, v10, v11, v12) => ⟨[(0, .ref 0 0), (2, .ref 32 0), (3, .ref 48 0), (6, dV v8)], [bX 0 129 [dV v9, dV v10, kV .u64 v11], bX 32 35 [.dat (.sc (.slice none 0 0)), .dat (.sc (.slice none 0 0)), .dat (.sc (.slice none 0 0))], bX 48 35 [.own 64, .own 80, .own 96], aX 64 9 r.1.Network.Stops, aX 80 146 r.1.Network.Lines, aX 96 167 v12], 128⟩) ?_)
         rintro ⟨v8, v9, v10, v11, v12⟩ r0 hb hm
         rw [s_l1Cur_anyTimetable_L1] at hm
         refine Ok_seq ?_
         obtain ⟨r8, h9, hm⟩ := obind hm
         refine jn hm (fun v13 => ⟨[(0, .ref 0 0), (2, .ref 32 0), (3, .ref 48 0), (6, dV v8), (61, dV v13)], [bX 0 129 [dV r8.2.code_, dV r8.2.at_, kV .u64 r8.2.seed_.v], bX 32 35 [.dat (.sc (.slice none 0 0)), .dat (.sc (.slice none 0 0)), .dat (.sc (.slice none 0 0))], bX 48 35 [.own 64, .own 80, .own 96], aX 64 9 r.1.Network.Stops, aX 80 146 r.1.Network.Lines, aX 96 167 v12], 128⟩) (fun v13 hm => ?_) ?_
         ·rcases bf hm with ⟨hb1, hm⟩ | ⟨hb1, hm⟩
          ·refine de G [(4, [0])] (hN 2 v12 (hC 4 (s_l1Cur_pick_c h9) (hO 7 (.b true) (hP hb1 h0)))) ?_
           exact wJ G hm
          ·refine de G [(4, [0])] (hN 2 v12 (hC 4 (s_l1Cur_pick_c h9) (hO 7 (.b false) (hP hb1 h0)))) ?_
           exact wJ G hm
         rintro v13 hm
         refine cd hm (fun hm => ?_) (fun hm => ?_)
         ·refine X_skip (thN (Ok_seq (Ok_block ?_)))
          obtain ⟨u, h10, hm⟩ := obind hm
          refine re G (hA 8 24 h10 h0) ?_
          exact ibN (thN (rh G (wL G hm)))
         ·exact Ok_exit (thE (thE (ibE (wD G hm hb))))
        rintro ⟨v14, v15, v16, v17⟩ hm s hw
        refine thN (Ok_weak hw ?_)
        refine rg G ?_
        have hm := eR hm hr
        cases hm
        exact rt [64, 96] []
       ·exact X_skip (ibN (wF G hm))
  rintro ⟨v, v1, v2, v3, v4, v5, v6, v7⟩ hm
  obtain ⟨e2, h11, hm⟩ := obind hm
  refine rs G (hD 4 h11 (hS 5 h11 (⟨v4, v5, v6⟩ : Trip) h0)) ?_
  refine rg G ?_
  cases hm
  exact rt [80, 96] []
noncomputable def s_l1Most_M : MS (Int × Int) Int := ⟨.x .r .r, fun x => s_l1Most x.1 x.2, fun y => dV y, fun _ => [], fun _ _ => []⟩
theorem s_l1Most_c {a b y} (hm : s_l1Most a b = some y) : s_l1Most_M.C (a, b) y := s_l1Most_M.c (a, b) hm
theorem s_l1Most_ok : FnOK Try.prog tJ 88 s_l1Most_M.S := by
 refine fm tt s_l1Most_M [] Try.call88 Try.func88 rfl Try.results88 Try.ntmps88 ?_
 rintro ⟨a, b⟩ y cx G hm
 have hm : s_l1Most a b = some y := hm
 unfold s_l1Most at hm
 refine rg G (Ok_seq (rg G (cd hm (fun hm => ?_) (fun hm => ?_))))
 ·refine rg G ?_
  cases hm
  exact rt [] []
 ·refine X_skip (thN (rg G ?_))
  cases hm
  exact rt [] []
noncomputable def s_l1Cur_trips_M : MS l1Cur (Timetable × l1Cur) := ⟨.b 129, s_l1Cur_trips, fun y => .aggv [.own 0, dV y.1.Network.Lines, .own 1], fun y => [arO 9 y.1.Network.Stops, arO 167 y.1.Trips], fun _ y => [bxO 129 y.2]⟩
theorem s_l1Cur_trips_c {c y} (hm : s_l1Cur_trips c = some y) : s_l1Cur_trips_M.C c y := s_l1Cur_trips_M.c c hm
theorem s_l1Cur_trips_ok : FnOK Try.prog tJ 184 s_l1Cur_trips_M.S := by
 refine fm tt s_l1Cur_trips_M [fo s_l1Cur_one_ok, fo s_l1Cur_anyTimetable_ok, fo s_l1Cur_network_ok, fo s_l1Cur_pick_ok, fo s_l1Most_ok] Try.call184 Try.func184 rfl Try.results184 Try.ntmps184 ?_
 rintro c y cx G hm
 have hm : s_l1Cur_trips c = some y := hm
 unfold s_l1Cur_trips at hm
 refine rg G (Ok_seq ?_)
 obtain ⟨r, h, hm⟩ := obind hm
 refine rs G (hC 1 (s_l1Cur_one_c h) h0) ?_
 refine cd hm (fun hm => ?_) (fun hm => ?_)
 ·obtain ⟨r1, h1, hm⟩ := obind hm
  refine rs G (hC 1 (s_l1Cur_anyTimetable_c h1) h0) ?_
  cases hm
  exact rt [80, 81] []
 ·refine X_skip (thN ?_)
  obtain ⟨r2, h2, hm⟩ := obind hm
  refine rs G (hC 1 (s_l1Cur_network_c h2) h0) ?_
  refine Ok_seq ?_
  obtain ⟨r3, h3, hm⟩ := obind hm
  refine rs G (hC 1 (s_l1Cur_pick_c h3) h0) ?_
  refine tl hm (fun (v4, v5, v6, v7) => ⟨[(0, .ref 0 0), (2, .ref 32 0), (3, .ref 48 0)], [bX 0 129 [dV v4, dV v5, kV .u64 v6], bX 32 35 [.dat (.sc (.slice none 0 0)), .dat (.sc (.slice none 0 0)), .dat (.sc (.slice none 0 0))], bX 48 35 [.own 64, .own 80, .own 96], aX 64 9 r2.1.Stops, aX 80 146 r2.1.Lines, aX 96 167 v7], 128⟩) (fun vv hm => ?_) ?_
  ·refine Ok_block (lpP hm (fun (i, v, v1, v2, v3) => ⟨[(0, .ref 0 0), (2, .ref 32 0), (3, .ref 48 0), (4, dV i)], [bX 0 129 [dV v, dV v1, kV .u64 v2], bX 32 35 [.dat (.sc (.slice none 0 0)), .dat (.sc (.slice none 0 0)), .dat (.sc (.slice none 0 0))], bX 48 35 [.own 64, .own 80, .own 96], aX 64 9 r2.1.Stops, aX 80 146 r2.1.Lines, aX 96 167 v3], 128⟩) (Wk_J G.hL ⟨[(0, []), (2, []), (3, []), (4, [])], [(0, 0, []), (32, 16, []), (48, 112, [.k, .k, .o 96]), (64, 80, []), (80, 81, [])], [(96, 167, 3, [])], 128⟩ (by kernel_rfl)) ?_)
   rintro ⟨i, v, v1, v2, v3⟩ r0 hb hm
   rw [s_l1Cur_trips_L1] at hm
   refine Ok_seq (rg G (cd hm (fun hm => ?_) (fun hm => ?_)))
   ·refine X_skip (thN (Ok_seq (Ok_block ?_)))
    obtain ⟨r7, h8, hm⟩ := obind hm
    obtain ⟨r8, h9, hm⟩ := obind hm
    obtain ⟨r9, h10, hm⟩ := obind hm
    obtain ⟨u1, h11, hm⟩ := obind hm
    refine de G [(11, [0]), (19, [0]), (21, [0]), (26, [96, 560]), (28, [48, 576])] (hN 4 v3 (hN 8 v3 (hC 11 (s_l1Cur_pick_c h8) (hN 18 r2.1.Lines (hC 19 (s_l1Cur_pick_c h9) (hC 21 (s_l1Cur_pick_c h10) (hA 26 24 h11 h0))))))) ?_
    exact ibN (thN (rh G (wL G hm)))
   ·exact Ok_exit (thE (thE (ibE (wD G hm hb))))
  rintro ⟨v4, v5, v6, v7⟩ hm s hw
  refine thN (Ok_weak hw ?_)
  refine Ok_seq (rg G (tl hm (fun v9 => ⟨[(0, .ref 0 0), (2, .ref 32 0), (3, .ref 48 0)], [bX 0 129 [dV v4, dV v5, kV .u64 v6], bX 32 35 [.dat (.sc (.slice none 0 0)), .dat (.sc (.slice none 0 0)), .dat (.sc (.slice none 0 0))], bX 48 35 [.own 64, .own 80, .own 96], aX 64 9 r2.1.Stops, aX 80 146 r2.1.Lines, aX 96 167 v9], 128⟩) (fun v9 hm => ?_) ?_))
  ·refine Ok_block (lp G hm (fun (x, v8) => ⟨[(0, .ref 0 0), (2, .ref 32 0), (3, .ref 48 0), (5, dV x)], [bX 0 129 [dV v4, dV v5, kV .u64 v6], bX 32 35 [.dat (.sc (.slice none 0 0)), .dat (.sc (.slice none 0 0)), .dat (.sc (.slice none 0 0))], bX 48 35 [.own 64, .own 80, .own 96], aX 64 9 r2.1.Stops, aX 80 146 r2.1.Lines, aX 96 167 v8], 128⟩) ?_)
   rintro ⟨x, v8⟩ r0 hb1 hm
   rw [s_l1Cur_trips_L2] at hm
   refine Ok_seq (rs G (hN 3 v8 h0) ?_)
   refine cd hm (fun hm => ?_) (fun hm => ?_)
   ·refine X_skip (thN (Ok_seq (Ok_block ?_)))
    obtain ⟨e, h12, hm⟩ := obind hm
    refine rs G (hD 3 h12 (hE 4 h12 h0)) ?_
    obtain ⟨e2, h15, hm⟩ := obind hm
    obtain ⟨r11, h16, hm⟩ := obind hm
    refine ds G [(12, [288])] (hD 6 h15 (hE 8 h15 (hC 10 (s_l1Most_c h16) h0))) ?_
    obtain ⟨e3, h17, hm⟩ := obind hm
    refine re G (hD 4 h17 (hS 5 h17 (⟨r11, e.Line, e.Start⟩ : Trip) h0)) ?_
    exact ibN (thN (rh G (wL G hm)))
   ·exact Ok_exit (thE (thE (ibE (wD G hm hb1))))
  rintro v9 hm s1 hw1
  refine thN (Ok_weak hw1 ?_)
  refine rg G ?_
  cases hm
  exact rt [64, 96] []
noncomputable def s_l1Cur_change_M : MS l1Cur (Int × l1Cur) := ⟨.b 129, s_l1Cur_change, fun y => dV y.1, fun _ => [], fun _ y => [bxO 129 y.2]⟩
theorem s_l1Cur_change_c {c y} (hm : s_l1Cur_change c = some y) : s_l1Cur_change_M.C c y := s_l1Cur_change_M.c c hm
theorem s_l1Cur_change_ok : FnOK Try.prog tJ 185 s_l1Cur_change_M.S := by
 refine fm tt s_l1Cur_change_M [fo s_l1Cur_among_ok] Try.call185 Try.func185 rfl Try.results185 Try.ntmps185 ?_
 rintro c y cx G hm
 have hm : s_l1Cur_change c = some y := hm
 unfold s_l1Cur_change at hm
 refine rg G ?_
 obtain ⟨r, h, hm⟩ := obind hm
 refine rs G (hO 2 (.fz [48] [] []) (hC 2 (s_l1Cur_among_c h) h0)) ?_
 cases hm
 exact rt [] []
noncomputable def s_l1Cur_time_M : MS l1Cur (Int × l1Cur) := ⟨.b 129, s_l1Cur_time, fun y => dV y.1, fun _ => [], fun _ y => [bxO 129 y.2]⟩
theorem s_l1Cur_time_c {c y} (hm : s_l1Cur_time c = some y) : s_l1Cur_time_M.C c y := s_l1Cur_time_M.c c hm
theorem s_l1Cur_time_ok : FnOK Try.prog tJ 186 s_l1Cur_time_M.S := by
 refine fm tt s_l1Cur_time_M [fo s_l1Cur_one_ok, fo s_l1Cur_among_ok, fo s_l1Cur_pick_ok] Try.call186 Try.func186 rfl Try.results186 Try.ntmps186 ?_
 rintro c y cx G hm
 have hm : s_l1Cur_time c = some y := hm
 unfold s_l1Cur_time at hm
 refine rg G (Ok_seq ?_)
 obtain ⟨r, h, hm⟩ := obind hm
 refine rs G (hC 1 (s_l1Cur_one_c h) h0) ?_
 refine cd hm (fun hm => ?_) (fun hm => ?_)
 ·obtain ⟨r1, h1, hm⟩ := obind hm
  refine rs G (hO 2 (.fz [80] [] []) (hC 2 (s_l1Cur_among_c h1) h0)) ?_
  cases hm
  exact rt [] []
 ·refine X_skip (thN ?_)
  obtain ⟨r2, h2, hm⟩ := obind hm
  refine rs G (hC 1 (s_l1Cur_pick_c h2) h0) ?_
  cases hm
  exact rt [] []
noncomputable def s_l1Cur_query_M : MS l1Cur (Timetable × Int × Int × Int × Int × l1Cur) := ⟨.b 129, s_l1Cur_query, fun y => .tup [.aggv [.own 0, dV y.1.Network.Lines, .own 1], dV y.2.1, dV y.2.2.1, dV y.2.2.2.1, dV y.2.2.2.2.1], fun y => [arO 9 y.1.Network.Stops, arO 167 y.1.Trips], fun _ y => [bxO 129 y.2.2.2.2.2]⟩
theorem s_l1Cur_query_c {c y} (hm : s_l1Cur_query c = some y) : s_l1Cur_query_M.C c y := s_l1Cur_query_M.c c hm
theorem s_l1Cur_query_ok : FnOK Try.prog tJ 130 s_l1Cur_query_M.S := by
 refine fm tt s_l1Cur_query_M [fo s_l1Cur_trips_ok, fo s_l1Cur_one_ok, fo s_l1Cur_change_ok, fo s_l1Cur_pick_ok, fo s_l1Cur_time_ok] Try.call130 Try.func130 rfl Try.results130 Try.ntmps130 ?_
 rintro c y cx G hm
 have hm : s_l1Cur_query c = some y := hm
 unfold s_l1Cur_query at hm
 refine rg G ?_
 obtain ⟨r, h, hm⟩ := obind hm
 refine rs G (hC 1 (s_l1Cur_trips_c h) h0) ?_
 refine rs G (hN 3 r.1.Network.Stops h0) ?_
 refine Ok_seq (jn hm (fun (v, v1, v2, v3) => ⟨[(0, .ref 0 0), (2, .ref 32 0), (7, .ref 48 0), (8, dV (r.1.Network.Stops.length : Int)), (21, dV v)], [bX 0 129 [dV v1, dV v2, kV .u64 v3], bX 32 35 [.dat (.sc (.slice none 0 0)), .dat (.sc (.slice none 0 0)), .dat (.sc (.slice none 0 0))], bX 48 35 [.own 64, dV r.1.Network.Lines, .own 80], aX 64 9 r.1.Network.Stops, aX 80 167 r.1.Trips], 112⟩) (fun vv hm => ?_) ?_)
 ·rcases bf hm with ⟨hb, hm⟩ | ⟨hb, hm⟩
  ·refine re G (hO 2 (.b true) (hP hb h0)) ?_
   exact wJ G hm
  ·obtain ⟨r1, h1, hm⟩ := obind hm
   refine re G (hO 2 (.b false) (hP hb (hC 4 (s_l1Cur_one_c h1) h0))) ?_
   exact wJ G hm
 rintro ⟨v, v1, v2, v3⟩ hm
 refine cd hm (fun hm => ?_) (fun hm => ?_)
 ·obtain ⟨r6, h6, hm⟩ := obind hm
  obtain ⟨r7, h7, hm⟩ := obind hm
  obtain ⟨r8, h8, hm⟩ := obind hm
  obtain ⟨r9, h9, hm⟩ := obind hm
  refine ds G [(2, [0]), (4, [0]), (7, [0]), (10, [0]), (11, [32, 64, 80])] (hC 2 (s_l1Cur_change_c h6) (hC 4 (s_l1Cur_pick_c h7) (hC 7 (s_l1Cur_pick_c h8) (hC 10 (s_l1Cur_time_c h9) h0)))) ?_
  cases hm
  exact rt [64, 80] []
 ·refine X_skip (thN ?_)
  obtain ⟨r10, h10, hm⟩ := obind hm
  refine rs G (hC 2 (s_l1Cur_pick_c h10) h0) ?_
  obtain ⟨r14, h15, hm⟩ := obind hm
  obtain ⟨r15, h16, hm⟩ := obind hm
  obtain ⟨u1, h17, hm⟩ := obind hm
  obtain ⟨r16, h18, hm⟩ := obind hm
  refine ds G [(2, [0]), (9, [0]), (14, [0]), (17, [32, 64, 80])] (hC 2 (s_l1Cur_change_c h15) (hC 9 (s_l1Cur_pick_c h16) (hK h17 (hC 14 (s_l1Cur_pick_c h18) h0)))) ?_
  cases hm
  exact rt [64, 80] []
noncomputable def s_DrawEarliestJourney_M : MS ((List UInt8)) (Timetable × Int × Int × Int × Int) := ⟨.r, s_DrawEarliestJourney, fun y => .tup [.aggv [.own 0, dV y.1.Network.Lines, .own 1], dV y.2.1, dV y.2.2.1, dV y.2.2.2.1, dV y.2.2.2.2], fun y => [arO 9 y.1.Network.Stops, arO 167 y.1.Trips], fun _ _ => []⟩
theorem s_DrawEarliestJourney_c {code y} (hm : s_DrawEarliestJourney code = some y) : s_DrawEarliestJourney_M.C code y := s_DrawEarliestJourney_M.c code hm
theorem s_DrawEarliestJourney_ok : FnOK Try.prog tJ 119 s_DrawEarliestJourney_M.S := by
 refine fm tt s_DrawEarliestJourney_M [fo s_l1Cur_query_ok] Try.call119 Try.func119 rfl Try.results119 Try.ntmps119 ?_
 rintro code y cx G hm
 have hm : s_DrawEarliestJourney code = some y := hm
 unfold s_DrawEarliestJourney at hm
 refine rg G (rg G ?_)
 obtain ⟨r, h, hm⟩ := obind hm
 refine rs G (hC 1 (s_l1Cur_query_c h) h0) ?_
 cases hm
 exact rt [176, 177] []
noncomputable def s_DrawParetoJourneys_M : MS ((List UInt8)) (Timetable × Int × Int × Int × Int) := ⟨.r, s_DrawParetoJourneys, fun y => .tup [.aggv [.own 0, dV y.1.Network.Lines, .own 1], dV y.2.1, dV y.2.2.1, dV y.2.2.2.1, dV y.2.2.2.2], fun y => [arO 9 y.1.Network.Stops, arO 167 y.1.Trips], fun _ _ => []⟩
theorem s_DrawParetoJourneys_c {code y} (hm : s_DrawParetoJourneys code = some y) : s_DrawParetoJourneys_M.C code y := s_DrawParetoJourneys_M.c code hm
theorem s_DrawParetoJourneys_ok : FnOK Try.prog tJ 53 s_DrawParetoJourneys_M.S := by
 refine fm tt s_DrawParetoJourneys_M [fo s_DrawEarliestJourney_ok] Try.call53 Try.func53 rfl Try.results53 Try.ntmps53 ?_
 rintro code y cx G hm
 have hm : s_DrawParetoJourneys code = some y := hm
 unfold s_DrawParetoJourneys at hm
 refine rg G ?_
 obtain ⟨r, h, hm⟩ := obind hm
 refine rs G (hC 1 (s_DrawEarliestJourney_c h) h0) ?_
 cases hm
 exact rt [112, 113] []
noncomputable def i_within_M : MS (Int × Int × Int) Bool := ⟨.x .r (.x .r .r), fun x => i_within x.1 x.2.1 x.2.2, fun y => dV y, fun _ => [], fun _ _ => []⟩
theorem i_within_c {n lo hi y} (hm : i_within n lo hi = some y) : i_within_M.C (n, lo, hi) y := i_within_M.c (n, lo, hi) hm
theorem i_within_ok : FnOK Try.prog tJ 91 i_within_M.S := by
 refine fm tt i_within_M [] Try.call91 Try.func91 rfl Try.results91 Try.ntmps91 ?_
 rintro ⟨n, lo, hi⟩ y cx G hm
 have hm : i_within n lo hi = some y := hm
 unfold i_within at hm
 refine rg G (jn hm (fun v => ⟨[(6, dV v)], [], 32⟩) (fun v hm => ?_) ?_)
 ·rcases bf hm with ⟨hb, hm⟩ | ⟨hb, hm⟩
  ·refine re G (hO 3 (.b true) (hP hb h0)) ?_
   exact wJ G hm
  ·refine re G (hO 3 (.b false) (hP hb h0)) ?_
   exact wJ G hm
 rintro v hm
 cases hm
 exact rt [] []
noncomputable def i_isName_M : MS ByteArray Bool := ⟨.r, i_isName, fun y => dV y, fun _ => [], fun _ _ => []⟩
theorem i_isName_c {s y} (hm : i_isName s = some y) : i_isName_M.C s y := i_isName_M.c s hm
theorem i_isName_ok : FnOK Try.prog tJ 231 i_isName_M.S := by
 refine fm tt i_isName_M [] Try.call231 Try.func231 rfl Try.results231 Try.ntmps231 ?_
 rintro s y cx G hm
 have hm : i_isName s = some y := hm
 unfold i_isName at hm
 refine rg G (Ok_seq (jn hm (fun v => ⟨[(0, dV s), (12, dV v)], [], 32⟩) (fun v hm => ?_) ?_))
 ·rcases bf hm with ⟨hb, hm⟩ | ⟨hb, hm⟩
  ·refine re G (hO 3 (.b true) (hP hb h0)) ?_
   exact wJ G hm
  ·refine re G (hO 3 (.b false) (hP hb h0)) ?_
   exact wJ G hm
 rintro v hm
 refine cd hm (fun hm => ?_) (fun hm => ?_)
 ·refine rg G ?_
  cases hm
  exact rt [] []
 ·refine X_skip (thN (Ok_seq (rg G (tF hm (fun _ => ⟨[], [], 32⟩) (fun v4 hr hm => ?_) ?_))))
  ·refine Ok_block (lp G hm (fun v1 => ⟨[(0, dV s), (14, dV (s.size : Int)), (15, dV v1)], [], 32⟩) ?_)
   rintro v1 r0 hb1 hm
   rw [i_isName_L1] at hm
   refine rg G (Ok_seq (cd hm (fun hm => ?_) (fun hm => ?_)))
   ·refine X_skip (thN (Ok_seq (Ok_block (rg G ?_))))
    obtain ⟨u, h, hm⟩ := obind hm
    refine jn hm (fun v2 => ⟨[(0, dV s), (3, dV v1), (4, dV v2), (14, dV (s.size : Int)), (15, dV v1)], [], 32⟩) (fun v2 hm => ?_) ?_
    ·rcases bf hm with ⟨hb2, hm⟩ | ⟨hb2, hm⟩
     ·obtain ⟨u1, h1, hm⟩ := obind hm
      refine re G (hK h (hO 4 (.b true) (hP hb2 (hK h1 h0)))) ?_
      exact wJ G hm
     ·refine re G (hK h (hO 4 (.b false) (hP hb2 h0))) ?_
      exact wJ G hm
    rintro v2 hm
    refine jn hm (fun v3 => ⟨[(0, dV s), (14, dV (s.size : Int)), (15, dV v1), (45, dV v3)], [], 32⟩) (fun v3 hm => ?_) ?_
    ·rcases bf hm with ⟨hb3, hm⟩ | ⟨hb3, hm⟩
     ·rcases bf hm with ⟨hb4, hm⟩ | ⟨hb4, hm⟩
      ·refine re G (hO 2 (.b true) (hP hb3 (hO 5 (.b true) (hP hb4 h0)))) ?_
       exact wJ G hm
      ·obtain ⟨u2, h2, hm⟩ := obind hm
       rcases bf hm with ⟨hb5, hm⟩ | ⟨hb5, hm⟩
       ·refine re G (hO 2 (.b true) (hP hb3 (hO 5 (.b false) (hP hb4 (hK h2 (hO 11 (.b true) (hP hb5 h0))))))) ?_
        exact wJ G hm
       ·obtain ⟨u3, h3, hm⟩ := obind hm
        refine re G (hO 2 (.b true) (hP hb3 (hO 5 (.b false) (hP hb4 (hK h2 (hO 11 (.b false) (hP hb5 (hK h3 h0)))))))) ?_
        exact wJ G hm
     ·refine re G (hO 2 (.b false) (hP hb3 h0)) ?_
      exact wJ G hm
    rintro v3 hm
    refine cd hm (fun hm => ?_) (fun hm => ?_)
    ·refine rg G ?_
     have hm := eL hm hb1 hr
     cases hm
     exact rt [] []
    ·exact X_skip (ibN (thN (rh G (wL G hm))))
   ·exact Ok_exit (thE (thE (ibE (wE G hm hb1))))
  rintro ⟨⟩ hm s1 hw
  refine thN (Ok_weak hw ?_)
  refine rg G ?_
  cases hm
  exact rt [] []
noncomputable def slices_Index_string_M : MS ((List ByteArray) × ByteArray) Int := ⟨.x .r .r, fun x => slices_Index_string x.1 x.2, fun y => dV y, fun _ => [], fun _ _ => []⟩
theorem slices_Index_string_c {s v y} (hm : slices_Index_string s v = some y) : slices_Index_string_M.C (s, v) y := slices_Index_string_M.c (s, v) hm
theorem slices_Index_string_ok : FnOK Try.prog tJ 232 slices_Index_string_M.S := by
 refine fm tt slices_Index_string_M [] Try.call232 Try.func232 rfl Try.results232 Try.ntmps232 ?_
 rintro ⟨s, v⟩ y cx G hm
 have hm : slices_Index_string s v = some y := hm
 unfold slices_Index_string at hm
 refine rg G (Ok_seq (rs G (hN 1 s h0) ?_))
 refine tF hm (fun _ => ⟨[], [], 32⟩) (fun v2 hr hm => ?_) ?_
 ·refine Ok_block (lp G hm (fun v1 => ⟨[(0, dV s), (1, dV v), (7, dV (s.length : Int)), (8, dV v1)], [], 32⟩) ?_)
  rintro v1 r0 hb hm
  rw [slices_Index_string_L1] at hm
  refine rg G (Ok_seq (cd hm (fun hm => ?_) (fun hm => ?_)))
  ·refine X_skip (thN (Ok_seq (Ok_block (rg G ?_))))
   obtain ⟨e, h, hm⟩ := obind hm
   refine rs G (hD 3 h h0) ?_
   refine cd hm (fun hm => ?_) (fun hm => ?_)
   ·refine rg G ?_
    have hm := eL hm hb hr
    cases hm
    exact rt [] []
   ·exact X_skip (ibN (thN (rh G (wL G hm))))
  ·exact Ok_exit (thE (thE (ibE (wE G hm hb))))
 rintro ⟨⟩ hm s1 hw
 refine thN (Ok_weak hw ?_)
 refine rg G ?_
 cases hm
 exact rt [] []
noncomputable def i_areNames_M : MS ((List ByteArray)) Bool := ⟨.r, i_areNames, fun y => dV y, fun _ => [], fun _ _ => []⟩
theorem i_areNames_c {names y} (hm : i_areNames names = some y) : i_areNames_M.C names y := i_areNames_M.c names hm
theorem i_areNames_ok : FnOK Try.prog tJ 199 i_areNames_M.S := by
 refine fm tt i_areNames_M [fo i_isName_ok, fo slices_Index_string_ok] Try.call199 Try.func199 rfl Try.results199 Try.ntmps199 ?_
 rintro names y cx G hm
 have hm : i_areNames names = some y := hm
 unfold i_areNames at hm
 refine rg G (Ok_seq (rs G (hN 1 names h0) ?_))
 refine tF hm (fun _ => ⟨[], [], 32⟩) (fun v2 hr hm => ?_) ?_
 ·refine Ok_block (lp G hm (fun v => ⟨[(0, dV names), (5, dV names), (6, dV (names.length : Int)), (7, dV v)], [], 32⟩) ?_)
  rintro v r0 hb hm
  rw [i_areNames_L1] at hm
  refine rg G (Ok_seq (cd hm (fun hm => ?_) (fun hm => ?_)))
  ·refine X_skip (thN (Ok_seq (Ok_block ?_)))
   obtain ⟨e, h, hm⟩ := obind hm
   refine rs G (hD 1 h h0) ?_
   obtain ⟨r, h1, hm⟩ := obind hm
   refine jn hm (fun v1 => ⟨[(0, dV names), (5, dV names), (6, dV (names.length : Int)), (7, dV v), (21, dV v1)], [], 32⟩) (fun v1 hm => ?_) ?_
   ·rcases bf hm with ⟨hb1, hm⟩ | ⟨hb1, hm⟩
    ·refine re G (hC 1 (i_isName_c h1) (hO 3 (.b true) (hP hb1 h0))) ?_
     exact wJ G hm
    ·obtain ⟨r1, h2, hm⟩ := obind hm
     refine re G (hC 1 (i_isName_c h1) (hO 3 (.b false) (hP hb1 (hC 6 (slices_Index_string_c h2) h0)))) ?_
     exact wJ G hm
   rintro v1 hm
   refine cd hm (fun hm => ?_) (fun hm => ?_)
   ·refine rg G ?_
    have hm := eL hm hb hr
    cases hm
    exact rt [] []
   ·exact X_skip (ibN (thN (rh G (wL G hm))))
  ·exact Ok_exit (thE (thE (ibE (wE G hm hb))))
 rintro ⟨⟩ hm s hw
 refine thN (Ok_weak hw ?_)
 refine rg G ?_
 cases hm
 exact rt [] []
noncomputable def i_lineNames_M : MS Network ((List ByteArray)) := ⟨.r, i_lineNames, fun _ => .own 0, fun y => [arO 9 y], fun _ _ => []⟩
theorem i_lineNames_c {n y} (hm : i_lineNames n = some y) : i_lineNames_M.C n y := i_lineNames_M.c n hm
theorem i_lineNames_ok : FnOK Try.prog tJ 200 i_lineNames_M.S := by
 refine fm tt i_lineNames_M [] Try.call200 Try.func200 rfl Try.results200 Try.ntmps200 ?_
 rintro n y cx G hm
 have hm : i_lineNames n = some y := hm
 unfold i_lineNames at hm
 refine rg G ?_
 obtain ⟨u, h, hm⟩ := obind hm
 refine rs G (hN 2 n.Lines (hO 3 (.l (List.map Enc.e (List.replicate (n.Lines.length : Int).toNat (ByteArray.empty : ByteArray)))) (hP (mk_p (b := 16) (chk_t h) rfl) (hP (rep_m Enc.e (n.Lines.length : Int).toNat (ByteArray.empty : ByteArray)) h0)))) ?_
 refine Ok_seq (rs G (hN 2 n.Lines h0) ?_)
 refine tl hm (fun i1 => ⟨[(3, .own 16)], [aX 16 9 i1], 48⟩) (fun i1 hm => ?_) ?_
 ·refine Ok_block (lp G hm (fun (v, i) => ⟨[(3, .own 16), (11, dV n.Lines), (12, dV (n.Lines.length : Int)), (13, dV v)], [aX 16 9 i], 48⟩) ?_)
  rintro ⟨v, i⟩ r0 hb hm
  rw [i_lineNames_L1] at hm
  refine rg G (Ok_seq (cd hm (fun hm => ?_) (fun hm => ?_)))
  ·refine X_skip (thN (Ok_seq (Ok_block ?_)))
   obtain ⟨e, h1, hm⟩ := obind hm
   refine rs G (hD 1 h1 h0) ?_
   obtain ⟨e1, h2, hm⟩ := obind hm
   refine re G (hD 4 h2 (hS 5 h2 e.Name h0)) ?_
   exact ibN (thN (rh G (wL G hm)))
  ·exact Ok_exit (thE (thE (ibE (wD G hm hb))))
 rintro i1 hm s hw
 refine thN (Ok_weak hw ?_)
 refine rg G ?_
 cases hm
 exact rt [16] []
noncomputable def i_isStop_M : MS (Network × Int) Bool := ⟨.x .r .r, fun x => i_isStop x.1 x.2, fun y => dV y, fun _ => [], fun _ _ => []⟩
theorem i_isStop_c {n stop y} (hm : i_isStop n stop = some y) : i_isStop_M.C (n, stop) y := i_isStop_M.c (n, stop) hm
theorem i_isStop_ok : FnOK Try.prog tJ 107 i_isStop_M.S := by
 refine fm tt i_isStop_M [] Try.call107 Try.func107 rfl Try.results107 Try.ntmps107 ?_
 rintro ⟨n, stop⟩ y cx G hm
 have hm : i_isStop n stop = some y := hm
 unfold i_isStop at hm
 refine rg G (jn hm (fun v => ⟨[(4, dV v)], [], 32⟩) (fun v hm => ?_) ?_)
 ·rcases bf hm with ⟨hb, hm⟩ | ⟨hb, hm⟩
  ·refine re G (hO 2 (.b true) (hP hb (hN 6 n.Stops h0))) ?_
   exact wJ G hm
  ·refine re G (hO 2 (.b false) (hP hb h0)) ?_
   exact wJ G hm
 rintro v hm
 cases hm
 exact rt [] []
noncomputable def slices_Index_int_M : MS ((List Int) × Int) Int := ⟨.x .r .r, fun x => slices_Index_int x.1 x.2, fun y => dV y, fun _ => [], fun _ _ => []⟩
theorem slices_Index_int_c {s v y} (hm : slices_Index_int s v = some y) : slices_Index_int_M.C (s, v) y := slices_Index_int_M.c (s, v) hm
theorem slices_Index_int_ok : FnOK Try.prog tJ 160 slices_Index_int_M.S := by
 refine fm tt slices_Index_int_M [] Try.call160 Try.func160 rfl Try.results160 Try.ntmps160 ?_
 rintro ⟨s, v⟩ y cx G hm
 have hm : slices_Index_int s v = some y := hm
 unfold slices_Index_int at hm
 refine rg G (Ok_seq (rs G (hN 1 s h0) ?_))
 refine tF hm (fun _ => ⟨[], [], 32⟩) (fun v2 hr hm => ?_) ?_
 ·refine Ok_block (lp G hm (fun v1 => ⟨[(0, dV s), (1, dV v), (7, dV (s.length : Int)), (8, dV v1)], [], 32⟩) ?_)
  rintro v1 r0 hb hm
  rw [slices_Index_int_L1] at hm
  refine rg G (Ok_seq (cd hm (fun hm => ?_) (fun hm => ?_)))
  ·refine X_skip (thN (Ok_seq (Ok_block (rg G ?_))))
   obtain ⟨e, h, hm⟩ := obind hm
   refine rs G (hD 3 h h0) ?_
   refine cd hm (fun hm => ?_) (fun hm => ?_)
   ·refine rg G ?_
    have hm := eL hm hb hr
    cases hm
    exact rt [] []
   ·exact X_skip (ibN (thN (rh G (wL G hm))))
  ·exact Ok_exit (thE (thE (ibE (wE G hm hb))))
 rintro ⟨⟩ hm s1 hw
 refine thN (Ok_weak hw ?_)
 refine rg G ?_
 cases hm
 exact rt [] []
noncomputable def i_isValidLine_M : MS (Network × Line) Bool := ⟨.x .r .r, fun x => i_isValidLine x.1 x.2, fun y => dV y, fun _ => [], fun _ _ => []⟩
theorem i_isValidLine_c {n l y} (hm : i_isValidLine n l = some y) : i_isValidLine_M.C (n, l) y := i_isValidLine_M.c (n, l) hm
theorem i_isValidLine_ok : FnOK Try.prog tJ 201 i_isValidLine_M.S := by
 refine fm tt i_isValidLine_M [fo i_within_ok, fo i_isStop_ok, fo slices_Index_int_ok] Try.call201 Try.func201 rfl Try.results201 Try.ntmps201 ?_
 rintro ⟨n, l⟩ y cx G hm
 have hm : i_isValidLine n l = some y := hm
 unfold i_isValidLine at hm
 refine rg G (Ok_seq ?_)
 obtain ⟨r, h, hm⟩ := obind hm
 refine jn hm (fun v => ⟨[(2, .ref 16 0), (3, .ref 32 0), (23, dV v)], [bX 16 32 [dV n.Stops, dV n.Lines], bX 32 146 [dV l.Name, dV l.Stops, dV l.Runs]], 64⟩) (fun v hm => ?_) ?_
 ·rcases bf hm with ⟨hb, hm⟩ | ⟨hb, hm⟩
  ·refine re G (hN 2 l.Stops (hC 3 (i_within_c h) (hO 5 (.b true) (hP hb h0)))) ?_
   exact wJ G hm
  ·refine re G (hN 2 l.Stops (hC 3 (i_within_c h) (hO 5 (.b false) (hP hb (hN 8 l.Runs (hN 11 l.Stops h0)))))) ?_
   exact wJ G hm
 rintro v hm
 refine cd hm (fun hm => ?_) (fun hm => ?_)
 ·refine rg G ?_
  cases hm
  exact rt [] []
 ·refine X_skip (thN (Ok_seq (rs G (hN 2 l.Stops h0) ?_)))
  refine tF hm (fun _ => ⟨[(3, .ref 16 0)], [bX 16 146 [dV l.Name, dV l.Stops, dV l.Runs]], 48⟩) (fun v5 hr hm => ?_) ?_
  ·refine Ok_block (lp G hm (fun v1 => ⟨[(2, .ref 16 0), (3, .ref 32 0), (25, dV l.Stops), (26, dV (l.Stops.length : Int)), (27, dV v1)], [bX 16 32 [dV n.Stops, dV n.Lines], bX 32 146 [dV l.Name, dV l.Stops, dV l.Runs]], 64⟩) ?_)
   rintro v1 r0 hb1 hm
   rw [i_isValidLine_L1] at hm
   refine rg G (Ok_seq (cd hm (fun hm => ?_) (fun hm => ?_)))
   ·refine X_skip (thN (Ok_seq (Ok_block ?_)))
    obtain ⟨e, h1, hm⟩ := obind hm
    refine rs G (hD 1 h1 h0) ?_
    obtain ⟨r1, h2, hm⟩ := obind hm
    refine jn hm (fun v2 => ⟨[(2, .ref 16 0), (3, .ref 32 0), (25, dV l.Stops), (26, dV (l.Stops.length : Int)), (27, dV v1), (43, dV v2)], [bX 16 32 [dV n.Stops, dV n.Lines], bX 32 146 [dV l.Name, dV l.Stops, dV l.Runs]], 64⟩) (fun v2 hm => ?_) ?_
    ·rcases bf hm with ⟨hb2, hm⟩ | ⟨hb2, hm⟩
     ·refine re G (hC 2 (i_isStop_c h2) (hO 4 (.b true) (hP hb2 h0))) ?_
      exact wJ G hm
     ·obtain ⟨r2, h3, hm⟩ := obind hm
      refine re G (hC 2 (i_isStop_c h2) (hO 4 (.b false) (hP hb2 (hC 8 (slices_Index_int_c h3) h0)))) ?_
      exact wJ G hm
    rintro v2 hm
    refine cd hm (fun hm => ?_) (fun hm => ?_)
    ·refine rg G ?_
     have hm := eL hm hb1 hr
     cases hm
     exact rt [] []
    ·exact X_skip (ibN (thN (rh G (wL G hm))))
   ·exact Ok_exit (thE (thE (ibE (wE G hm hb1))))
  rintro ⟨⟩ hm s hw
  refine thN (Ok_weak hw ?_)
  refine Ok_seq (rs G (hN 2 l.Runs h0) ?_)
  refine tF hm (fun _ => ⟨[], [], 32⟩) (fun v4 hr1 hm => ?_) ?_
  ·refine Ok_block (lp G hm (fun v3 => ⟨[(46, dV l.Runs), (47, dV (l.Runs.length : Int)), (48, dV v3)], [], 32⟩) ?_)
   rintro v3 r0 hb3 hm
   rw [i_isValidLine_L2] at hm
   refine rg G (Ok_seq (cd hm (fun hm => ?_) (fun hm => ?_)))
   ·refine X_skip (thN (Ok_seq (Ok_block ?_)))
    obtain ⟨e2, h4, hm⟩ := obind hm
    refine rs G (hD 0 h4 h0) ?_
    obtain ⟨r4, h5, hm⟩ := obind hm
    refine rs G (hC 1 (i_within_c h5) h0) ?_
    refine cd hm (fun hm => ?_) (fun hm => ?_)
    ·refine rg G ?_
     have hm := eL hm hb3 hr1
     cases hm
     exact rt [] []
    ·exact X_skip (ibN (thN (rh G (wL G hm))))
   ·exact Ok_exit (thE (thE (ibE (wE G hm hb3))))
  rintro ⟨⟩ hm s1 hw1
  refine thN (Ok_weak hw1 ?_)
  refine rg G ?_
  cases hm
  exact rt [] []
noncomputable def i_IsValidNetwork_M : MS Network Bool := ⟨.r, i_IsValidNetwork, fun y => dV y, fun _ => [], fun _ _ => []⟩
theorem i_IsValidNetwork_c {n y} (hm : i_IsValidNetwork n = some y) : i_IsValidNetwork_M.C n y := i_IsValidNetwork_M.c n hm
theorem i_IsValidNetwork_ok : FnOK Try.prog tJ 143 i_IsValidNetwork_M.S := by
 refine fm tt i_IsValidNetwork_M [fo i_within_ok, fo i_areNames_ok, fo i_lineNames_ok, fo i_isValidLine_ok] Try.call143 Try.func143 rfl Try.results143 Try.ntmps143 ?_
 rintro n y cx G hm
 have hm : i_IsValidNetwork n = some y := hm
 unfold i_IsValidNetwork at hm
 refine rg G (Ok_seq ?_)
 obtain ⟨r, h, hm⟩ := obind hm
 refine jn hm (fun v => ⟨[(1, .ref 16 0), (28, dV v)], [bX 16 32 [dV n.Stops, dV n.Lines]], 48⟩) (fun v hm => ?_) ?_
 ·rcases bf hm with ⟨hb, hm⟩ | ⟨hb, hm⟩
  ·refine re G (hN 2 n.Stops (hC 3 (i_within_c h) (hO 5 (.b true) (hP hb h0)))) ?_
   exact wJ G hm
  ·obtain ⟨r1, h1, hm⟩ := obind hm
   rcases bf hm with ⟨hb1, hm⟩ | ⟨hb1, hm⟩
   ·refine re G (hN 2 n.Stops (hC 3 (i_within_c h) (hO 5 (.b false) (hP hb (hN 8 n.Lines (hC 9 (i_within_c h1) (hO 12 (.b true) (hP hb1 h0)))))))) ?_
    exact wJ G hm
   ·obtain ⟨r2, h2, hm⟩ := obind hm
    rcases bf hm with ⟨hb2, hm⟩ | ⟨hb2, hm⟩
    ·refine re G (hN 2 n.Stops (hC 3 (i_within_c h) (hO 5 (.b false) (hP hb (hN 8 n.Lines (hC 9 (i_within_c h1) (hO 12 (.b false) (hP hb1 (hC 15 (i_areNames_c h2) (hO 18 (.b true) (hP hb2 h0))))))))))) ?_
     exact wJ G hm
    ·obtain ⟨r3, h3, hm⟩ := obind hm
     obtain ⟨r4, h4, hm⟩ := obind hm
     refine re G (hN 2 n.Stops (hC 3 (i_within_c h) (hO 5 (.b false) (hP hb (hN 8 n.Lines (hC 9 (i_within_c h1) (hO 12 (.b false) (hP hb1 (hC 15 (i_areNames_c h2) (hO 18 (.b false) (hP hb2 (hC 20 (i_lineNames_c h3) (hC 21 (i_areNames_c h4) h0))))))))))))) ?_
     exact wJ G hm
 rintro v hm
 refine cd hm (fun hm => ?_) (fun hm => ?_)
 ·refine rg G ?_
  cases hm
  exact rt [] []
 ·refine X_skip (thN (Ok_seq (rs G (hN 2 n.Lines h0) ?_)))
  refine tF hm (fun _ => ⟨[], [], 32⟩) (fun v2 hr hm => ?_) ?_
  ·refine Ok_block (lp G hm (fun v1 => ⟨[(1, .ref 16 0), (30, dV n.Lines), (31, dV (n.Lines.length : Int)), (32, dV v1)], [bX 16 32 [dV n.Stops, dV n.Lines]], 48⟩) ?_)
   rintro v1 r0 hb3 hm
   rw [i_IsValidNetwork_L1] at hm
   refine rg G (Ok_seq (cd hm (fun hm => ?_) (fun hm => ?_)))
   ·refine X_skip (thN (Ok_seq (Ok_block ?_)))
    obtain ⟨e, h5, hm⟩ := obind hm
    refine rs G (hD 0 h5 h0) ?_
    obtain ⟨r5, h6, hm⟩ := obind hm
    refine rs G (hC 2 (i_isValidLine_c h6) h0) ?_
    refine cd hm (fun hm => ?_) (fun hm => ?_)
    ·refine rg G ?_
     have hm := eL hm hb3 hr
     cases hm
     exact rt [] []
    ·exact X_skip (ibN (thN (rh G (wL G hm))))
   ·exact Ok_exit (thE (thE (ibE (wE G hm hb3))))
  rintro ⟨⟩ hm s hw
  refine thN (Ok_weak hw ?_)
  refine rg G ?_
  cases hm
  exact rt [] []
noncomputable def i_isLine_M : MS (Network × Int) Bool := ⟨.x .r .r, fun x => i_isLine x.1 x.2, fun y => dV y, fun _ => [], fun _ _ => []⟩
theorem i_isLine_c {n line y} (hm : i_isLine n line = some y) : i_isLine_M.C (n, line) y := i_isLine_M.c (n, line) hm
theorem i_isLine_ok : FnOK Try.prog tJ 162 i_isLine_M.S := by
 refine fm tt i_isLine_M [] Try.call162 Try.func162 rfl Try.results162 Try.ntmps162 ?_
 rintro ⟨n, line⟩ y cx G hm
 have hm : i_isLine n line = some y := hm
 unfold i_isLine at hm
 refine rg G (jn hm (fun v => ⟨[(4, dV v)], [], 32⟩) (fun v hm => ?_) ?_)
 ·rcases bf hm with ⟨hb, hm⟩ | ⟨hb, hm⟩
  ·refine re G (hO 2 (.b true) (hP hb (hN 6 n.Lines h0))) ?_
   exact wJ G hm
  ·refine re G (hO 2 (.b false) (hP hb h0)) ?_
   exact wJ G hm
 rintro v hm
 cases hm
 exact rt [] []
noncomputable def i_IsValidTime_M : MS Int Bool := ⟨.r, i_IsValidTime, fun y => dV y, fun _ => [], fun _ _ => []⟩
theorem i_IsValidTime_c {t y} (hm : i_IsValidTime t = some y) : i_IsValidTime_M.C t y := i_IsValidTime_M.c t hm
theorem i_IsValidTime_ok : FnOK Try.prog tJ 121 i_IsValidTime_M.S := by
 refine fm tt i_IsValidTime_M [fo i_within_ok] Try.call121 Try.func121 rfl Try.results121 Try.ntmps121 ?_
 rintro t y cx G hm
 have hm : i_IsValidTime t = some y := hm
 unfold i_IsValidTime at hm
 refine rg G ?_
 obtain ⟨r, h, hm⟩ := obind hm
 refine rs G (hC 1 (i_within_c h) h0) ?_
 cases hm
 exact rt [] []
noncomputable def i_total_M : MS ((List Int)) Int := ⟨.r, i_total, fun y => dV y, fun _ => [], fun _ _ => []⟩
theorem i_total_c {list y} (hm : i_total list = some y) : i_total_M.C list y := i_total_M.c list hm
theorem i_total_ok : FnOK Try.prog tJ 109 i_total_M.S := by
 refine fm tt i_total_M [] Try.call109 Try.func109 rfl Try.results109 Try.ntmps109 ?_
 rintro list y cx G hm
 have hm : i_total list = some y := hm
 unfold i_total at hm
 refine rg G (rg G (Ok_seq (rs G (hN 1 list h0) ?_)))
 refine tl hm (fun v2 => ⟨[(3, dV v2)], [], 32⟩) (fun v2 hm => ?_) ?_
 ·refine Ok_block (lp G hm (fun (v, v1) => ⟨[(3, dV v), (6, dV list), (7, dV (list.length : Int)), (8, dV v1)], [], 32⟩) ?_)
  rintro ⟨v, v1⟩ r0 hb hm
  rw [i_total_L1] at hm
  refine rg G (Ok_seq (cd hm (fun hm => ?_) (fun hm => ?_)))
  ·refine X_skip (thN (Ok_seq (Ok_block ?_)))
   obtain ⟨e, h, hm⟩ := obind hm
   refine rs G (hD 0 h h0) ?_
   exact rh G (ibN (thN (rh G (wL G hm))))
  ·exact Ok_exit (thE (thE (ibE (wD G hm hb))))
 rintro v2 hm s hw
 refine thN (Ok_weak hw ?_)
 refine rg G ?_
 cases hm
 exact rt [] []
noncomputable def i_endOf_M : MS (Timetable × Trip) Int := ⟨.x .r .r, fun x => i_endOf x.1 x.2, fun y => dV y, fun _ => [], fun _ _ => []⟩
theorem i_endOf_c {t x y} (hm : i_endOf t x = some y) : i_endOf_M.C (t, x) y := i_endOf_M.c (t, x) hm
theorem i_endOf_ok : FnOK Try.prog tJ 202 i_endOf_M.S := by
 refine fm tt i_endOf_M [fo i_total_ok] Try.call202 Try.func202 rfl Try.results202 Try.ntmps202 ?_
 rintro ⟨t, x⟩ y cx G hm
 have hm : i_endOf t x = some y := hm
 unfold i_endOf at hm
 refine rg G ?_
 obtain ⟨e1, h2, hm⟩ := obind hm
 obtain ⟨r1, h3, hm⟩ := obind hm
 refine ds G [] (hD 7 h2 (hC 10 (i_total_c h3) h0)) ?_
 cases hm
 exact rt [] []
noncomputable def i_areTrips_M : MS Timetable Bool := ⟨.r, i_areTrips, fun y => dV y, fun _ => [], fun _ _ => []⟩
theorem i_areTrips_c {t y} (hm : i_areTrips t = some y) : i_areTrips_M.C t y := i_areTrips_M.c t hm
theorem i_areTrips_ok : FnOK Try.prog tJ 144 i_areTrips_M.S := by
 refine fm tt i_areTrips_M [fo i_isLine_ok, fo i_IsValidTime_ok, fo i_endOf_ok] Try.call144 Try.func144 rfl Try.results144 Try.ntmps144 ?_
 rintro t y cx G hm
 have hm : i_areTrips t = some y := hm
 unfold i_areTrips at hm
 refine rg G (Ok_seq (rs G (hN 2 t.Trips h0) ?_))
 refine cd hm (fun hm => ?_) (fun hm => ?_)
 ·refine rg G ?_
  cases hm
  exact rt [] []
 ·refine X_skip (thN (rg G (Ok_seq (rs G (hN 2 t.Trips h0) ?_))))
  refine tF hm (fun _ => ⟨[], [], 32⟩) (fun v3 hr hm => ?_) ?_
  ·refine Ok_block (lp G hm (fun (v, v1) => ⟨[(1, .ref 16 0), (3, dV v), (11, dV t.Trips), (12, dV (t.Trips.length : Int)), (13, dV v1)], [bX 16 35 [dV t.Network.Stops, dV t.Network.Lines, dV t.Trips]], 48⟩) ?_)
   rintro ⟨v, v1⟩ r0 hb hm
   rw [i_areTrips_L1] at hm
   refine rg G (Ok_seq (cd hm (fun hm => ?_) (fun hm => ?_)))
   ·refine X_skip (thN (Ok_seq (Ok_block ?_)))
    obtain ⟨e, h, hm⟩ := obind hm
    refine rs G (hD 0 h h0) ?_
    refine Ok_seq (jn hm (fun v2 => ⟨[(1, .ref 16 0), (5, .ref 32 0), (11, dV t.Trips), (12, dV (t.Trips.length : Int)), (13, dV v1), (46, dV v2)], [bX 16 35 [dV t.Network.Stops, dV t.Network.Lines, dV t.Trips], bX 32 167 [dV e.Id, dV e.Line, dV e.Start]], 64⟩) (fun v2 hm => ?_) ?_)
    ·rcases bf hm with ⟨hb1, hm⟩ | ⟨hb1, hm⟩
     ·refine re G (hO 4 (.b true) (hP hb1 h0)) ?_
      exact wJ G hm
     ·rcases bf hm with ⟨hb2, hm⟩ | ⟨hb2, hm⟩
      ·refine re G (hO 4 (.b false) (hP hb1 (hO 9 (.b true) (hP hb2 h0)))) ?_
       exact wJ G hm
      ·obtain ⟨r, h1, hm⟩ := obind hm
       rcases bf hm with ⟨hb3, hm⟩ | ⟨hb3, hm⟩
       ·refine re G (hO 4 (.b false) (hP hb1 (hO 9 (.b false) (hP hb2 (hC 14 (i_isLine_c h1) (hO 17 (.b true) (hP hb3 h0))))))) ?_
        exact wJ G hm
       ·obtain ⟨r1, h2, hm⟩ := obind hm
        rcases bf hm with ⟨hb4, hm⟩ | ⟨hb4, hm⟩
        ·refine re G (hO 4 (.b false) (hP hb1 (hO 9 (.b false) (hP hb2 (hC 14 (i_isLine_c h1) (hO 17 (.b false) (hP hb3 (hC 20 (i_IsValidTime_c h2) (hO 23 (.b true) (hP hb4 h0)))))))))) ?_
         exact wJ G hm
        ·obtain ⟨r2, h3, hm⟩ := obind hm
         obtain ⟨r3, h4, hm⟩ := obind hm
         refine re G (hO 4 (.b false) (hP hb1 (hO 9 (.b false) (hP hb2 (hC 14 (i_isLine_c h1) (hO 17 (.b false) (hP hb3 (hC 20 (i_IsValidTime_c h2) (hO 23 (.b false) (hP hb4 (hC 26 (i_endOf_c h3) (hC 27 (i_IsValidTime_c h4) h0)))))))))))) ?_
         exact wJ G hm
    rintro v2 hm
    refine cd hm (fun hm => ?_) (fun hm => ?_)
    ·refine rg G ?_
     have hm := eL hm hb hr
     cases hm
     exact rt [] []
    ·exact X_skip (thN (rh G (ibN (thN (rh G (wL G hm))))))
   ·exact Ok_exit (thE (thE (ibE (wE G hm hb))))
  rintro ⟨⟩ hm s hw
  refine thN (Ok_weak hw ?_)
  refine rg G ?_
  cases hm
  exact rt [] []
noncomputable def i_IsValidTimetable_M : MS Timetable Bool := ⟨.r, i_IsValidTimetable, fun y => dV y, fun _ => [], fun _ _ => []⟩
theorem i_IsValidTimetable_c {t y} (hm : i_IsValidTimetable t = some y) : i_IsValidTimetable_M.C t y := i_IsValidTimetable_M.c t hm
theorem i_IsValidTimetable_ok : FnOK Try.prog tJ 68 i_IsValidTimetable_M.S := by
 refine fm tt i_IsValidTimetable_M [fo i_IsValidNetwork_ok, fo i_areTrips_ok] Try.call68 Try.func68 rfl Try.results68 Try.ntmps68 ?_
 rintro t y cx G hm
 have hm : i_IsValidTimetable t = some y := hm
 unfold i_IsValidTimetable at hm
 refine rg G ?_
 obtain ⟨r, h, hm⟩ := obind hm
 refine jn hm (fun v => ⟨[(2, dV v)], [], 32⟩) (fun v hm => ?_) ?_
 ·rcases bf hm with ⟨hb, hm⟩ | ⟨hb, hm⟩
  ·obtain ⟨r1, h1, hm⟩ := obind hm
   refine re G (hC 2 (i_IsValidNetwork_c h) (hO 3 (.b true) (hP hb (hC 5 (i_areTrips_c h1) h0)))) ?_
   exact wJ G hm
  ·refine re G (hC 2 (i_IsValidNetwork_c h) (hO 3 (.b false) (hP hb h0))) ?_
   exact wJ G hm
 rintro v hm
 cases hm
 exact rt [] []
noncomputable def i_isChange_M : MS Int Bool := ⟨.r, i_isChange, fun y => dV y, fun _ => [], fun _ _ => []⟩
theorem i_isChange_c {change y} (hm : i_isChange change = some y) : i_isChange_M.C change y := i_isChange_M.c change hm
theorem i_isChange_ok : FnOK Try.prog tJ 126 i_isChange_M.S := by
 refine fm tt i_isChange_M [fo i_within_ok] Try.call126 Try.func126 rfl Try.results126 Try.ntmps126 ?_
 rintro change y cx G hm
 have hm : i_isChange change = some y := hm
 unfold i_isChange at hm
 refine rg G ?_
 obtain ⟨r, h, hm⟩ := obind hm
 refine rs G (hC 1 (i_within_c h) h0) ?_
 cases hm
 exact rt [] []
noncomputable def i_isPair_M : MS (Timetable × Int × Int × Int) Bool := ⟨.x .r (.x .r (.x .r .r)), fun x => i_isPair x.1 x.2.1 x.2.2.1 x.2.2.2, fun y => dV y, fun _ => [], fun _ _ => []⟩
theorem i_isPair_c {t change from_ to_ y} (hm : i_isPair t change from_ to_ = some y) : i_isPair_M.C (t, change, from_, to_) y := i_isPair_M.c (t, change, from_, to_) hm
theorem i_isPair_ok : FnOK Try.prog tJ 120 i_isPair_M.S := by
 refine fm tt i_isPair_M [fo i_IsValidTimetable_ok, fo i_isChange_ok, fo i_isStop_ok] Try.call120 Try.func120 rfl Try.results120 Try.ntmps120 ?_
 rintro ⟨t, change, from_, to_⟩ y cx G hm
 have hm : i_isPair t change from_ to_ = some y := hm
 unfold i_isPair at hm
 refine rg G ?_
 obtain ⟨r, h, hm⟩ := obind hm
 refine jn hm (fun v => ⟨[(8, dV v)], [], 32⟩) (fun v hm => ?_) ?_
 ·rcases bf hm with ⟨hb, hm⟩ | ⟨hb, hm⟩
  ·obtain ⟨r1, h1, hm⟩ := obind hm
   rcases bf hm with ⟨hb1, hm⟩ | ⟨hb1, hm⟩
   ·obtain ⟨r2, h2, hm⟩ := obind hm
    rcases bf hm with ⟨hb2, hm⟩ | ⟨hb2, hm⟩
    ·obtain ⟨r3, h3, hm⟩ := obind hm
     rcases bf hm with ⟨hb3, hm⟩ | ⟨hb3, hm⟩
     ·refine re G (hC 1 (i_IsValidTimetable_c h) (hO 2 (.b true) (hP hb (hC 4 (i_isChange_c h1) (hO 6 (.b true) (hP hb1 (hC 10 (i_isStop_c h2) (hO 12 (.b true) (hP hb2 (hC 16 (i_isStop_c h3) (hO 18 (.b true) (hP hb3 h0)))))))))))) ?_
      exact wJ G hm
     ·refine re G (hC 1 (i_IsValidTimetable_c h) (hO 2 (.b true) (hP hb (hC 4 (i_isChange_c h1) (hO 6 (.b true) (hP hb1 (hC 10 (i_isStop_c h2) (hO 12 (.b true) (hP hb2 (hC 16 (i_isStop_c h3) (hO 18 (.b false) (hP hb3 h0)))))))))))) ?_
      exact wJ G hm
    ·refine re G (hC 1 (i_IsValidTimetable_c h) (hO 2 (.b true) (hP hb (hC 4 (i_isChange_c h1) (hO 6 (.b true) (hP hb1 (hC 10 (i_isStop_c h2) (hO 12 (.b false) (hP hb2 h0))))))))) ?_
     exact wJ G hm
   ·refine re G (hC 1 (i_IsValidTimetable_c h) (hO 2 (.b true) (hP hb (hC 4 (i_isChange_c h1) (hO 6 (.b false) (hP hb1 h0)))))) ?_
    exact wJ G hm
  ·refine re G (hC 1 (i_IsValidTimetable_c h) (hO 2 (.b false) (hP hb h0))) ?_
   exact wJ G hm
 rintro v hm
 cases hm
 exact rt [] []
noncomputable def i_readyAt_M : MS (Timetable × Int × Int) ((List Int)) := ⟨.x .r (.x .r .r), fun x => i_readyAt x.1 x.2.1 x.2.2, fun _ => .own 0, fun y => [arO 3 y], fun _ _ => []⟩
theorem i_readyAt_c {t stop at_ y} (hm : i_readyAt t stop at_ = some y) : i_readyAt_M.C (t, stop, at_) y := i_readyAt_M.c (t, stop, at_) hm
theorem i_readyAt_ok : FnOK Try.prog tJ 176 i_readyAt_M.S := by
 refine fm tt i_readyAt_M [] Try.call176 Try.func176 rfl Try.results176 Try.ntmps176 ?_
 rintro ⟨t, stop, at_⟩ y cx G hm
 have hm : i_readyAt t stop at_ = some y := hm
 unfold i_readyAt at hm
 refine rg G ?_
 obtain ⟨u, h, hm⟩ := obind hm
 refine rs G (hN 3 t.Network.Stops (hO 4 (.l (List.map Enc.e (List.replicate (t.Network.Stops.length : Int).toNat (0 : Int)))) (hP (mk_p (b := 8) (chk_t h) rfl) (hP (rep_m Enc.e (t.Network.Stops.length : Int).toNat (0 : Int)) h0)))) ?_
 refine Ok_seq (rs G (hN 1 (List.replicate (t.Network.Stops.length : Int).toNat (0 : Int)) h0) ?_)
 refine tl hm (fun v2 => ⟨[(1, dV stop), (2, dV at_), (7, .own 16)], [aX 16 3 v2], 48⟩) (fun v2 hm => ?_) ?_
 ·refine Ok_block (lp G hm (fun (v, v1) => ⟨[(1, dV stop), (2, dV at_), (7, .own 16), (15, dV ((List.replicate (t.Network.Stops.length : Int).toNat (0 : Int)).length : Int)), (16, dV v)], [aX 16 3 v1], 48⟩) ?_)
  rintro ⟨v, v1⟩ r0 hb hm
  rw [i_readyAt_L1] at hm
  refine rg G (Ok_seq (cd hm (fun hm => ?_) (fun hm => ?_)))
  ·refine X_skip (thN (Ok_seq (Ok_block (rg G ?_))))
   obtain ⟨e, h1, hm⟩ := obind hm
   refine re G (hD 2 h1 (hS 3 h1 1073741824 h0)) ?_
   exact ibN (thN (rh G (wL G hm)))
  ·exact Ok_exit (thE (thE (ibE (wD G hm hb))))
 rintro v2 hm s hw
 refine thN (Ok_weak hw ?_)
 obtain ⟨e1, h2, hm⟩ := obind hm
 refine rs G (hD 3 h2 (hS 4 h2 at_ h0)) ?_
 refine rg G ?_
 cases hm
 exact rt [16] []
noncomputable def i_lineOf_M : MS (Timetable × Trip) Line := ⟨.x .r .r, fun x => i_lineOf x.1 x.2, fun y => dV y, fun _ => [], fun _ _ => []⟩
theorem i_lineOf_c {t x y} (hm : i_lineOf t x = some y) : i_lineOf_M.C (t, x) y := i_lineOf_M.c (t, x) hm
theorem i_lineOf_ok : FnOK Try.prog tJ 165 i_lineOf_M.S := by
 refine fm tt i_lineOf_M [] Try.call165 Try.func165 rfl Try.results165 Try.ntmps165 ?_
 rintro ⟨t, x⟩ y cx G hm
 have hm : i_lineOf t x = some y := hm
 unfold i_lineOf at hm
 refine rg G ?_
 obtain ⟨e, h, hm⟩ := obind hm
 refine rs G (hD 5 h h0) ?_
 cases hm
 exact rt [] []
noncomputable def i_stopTimes_M : MS (Timetable × Trip) ((List Int)) := ⟨.x .r .r, fun x => i_stopTimes x.1 x.2, fun _ => .own 0, fun y => [arO 3 y], fun _ _ => []⟩
theorem i_stopTimes_c {t x y} (hm : i_stopTimes t x = some y) : i_stopTimes_M.C (t, x) y := i_stopTimes_M.c (t, x) hm
theorem i_stopTimes_ok : FnOK Try.prog tJ 171 i_stopTimes_M.S := by
 refine fm tt i_stopTimes_M [fo i_lineOf_ok] Try.call171 Try.func171 rfl Try.results171 Try.ntmps171 ?_
 rintro ⟨t, x⟩ y cx G hm
 have hm : i_stopTimes t x = some y := hm
 unfold i_stopTimes at hm
 refine rg G (rg G (Ok_seq ?_))
 obtain ⟨r, h, hm⟩ := obind hm
 refine rs G (hC 2 (i_lineOf_c h) (hN 4 r.Runs h0)) ?_
 refine tl hm (fun r2 => ⟨[(5, .own 16)], [aX 16 3 r2], 48⟩) (fun r2 hm => ?_) ?_
 ·refine Ok_block (lp G hm (fun (v, r1) => ⟨[(5, .own 16), (14, dV r.Runs), (15, dV (r.Runs.length : Int)), (16, dV v)], [aX 16 3 r1], 48⟩) ?_)
  rintro ⟨v, r1⟩ r0 hb hm
  rw [i_stopTimes_L1] at hm
  refine rg G (Ok_seq (cd hm (fun hm => ?_) (fun hm => ?_)))
  ·refine X_skip (thN (Ok_seq (Ok_block ?_)))
   obtain ⟨e, h1, hm⟩ := obind hm
   refine rs G (hD 1 h1 h0) ?_
   obtain ⟨e1, h2, hm⟩ := obind hm
   obtain ⟨u, h3, hm⟩ := obind hm
   refine re G (hD 3 h2 (hE 4 h2 (hA 8 8 h3 h0))) ?_
   exact ibN (thN (rh G (wL G hm)))
  ·exact Ok_exit (thE (thE (ibE (wD G hm hb))))
 rintro r2 hm s hw
 refine thN (Ok_weak hw ?_)
 refine rg G ?_
 cases hm
 exact rt [16] []
noncomputable def i_ride_M : MS (Timetable × (List Int)) ((List Int)) := ⟨.x .r .r, fun x => i_ride x.1 x.2, fun _ => .own 0, fun y => [arO 3 y], fun _ _ => []⟩
theorem i_ride_c {t ready y} (hm : i_ride t ready = some y) : i_ride_M.C (t, ready) y := i_ride_M.c (t, ready) hm
theorem i_ride_ok : FnOK Try.prog tJ 219 i_ride_M.S := by
 refine fm tt i_ride_M [fo i_stopTimes_ok, fo i_lineOf_ok] Try.call219 Try.func219 rfl Try.results219 Try.ntmps219 ?_
 rintro ⟨t, ready⟩ y cx G hm
 have hm : i_ride t ready = some y := hm
 unfold i_ride at hm
 refine rg G ?_
 obtain ⟨u, h, hm⟩ := obind hm
 refine rs G (hN 1 ready (hO 2 (.l (List.map Enc.e (List.replicate (ready.length : Int).toNat (0 : Int)))) (hP (mk_p (b := 8) (chk_t h) rfl) (hP (rep_m Enc.e (ready.length : Int).toNat (0 : Int)) h0)))) ?_
 refine Ok_seq (rs G (hN 1 (List.replicate (ready.length : Int).toNat (0 : Int)) h0) ?_)
 refine tl hm (fun v2 => ⟨[(1, dV ready), (2, .ref 16 0), (5, .own 32)], [bX 16 35 [dV t.Network.Stops, dV t.Network.Lines, dV t.Trips], aX 32 3 v2], 64⟩) (fun v2 hm => ?_) ?_
 ·refine Ok_block (lp G hm (fun (v, v1) => ⟨[(1, dV ready), (2, .ref 16 0), (5, .own 32), (17, dV ((List.replicate (ready.length : Int).toNat (0 : Int)).length : Int)), (18, dV v)], [bX 16 35 [dV t.Network.Stops, dV t.Network.Lines, dV t.Trips], aX 32 3 v1], 64⟩) ?_)
  rintro ⟨v, v1⟩ r0 hb hm
  rw [i_ride_L1] at hm
  refine rg G (Ok_seq (cd hm (fun hm => ?_) (fun hm => ?_)))
  ·refine X_skip (thN (Ok_seq (Ok_block (rg G ?_))))
   obtain ⟨e, h1, hm⟩ := obind hm
   refine re G (hD 2 h1 (hS 3 h1 1073741824 h0)) ?_
   exact ibN (thN (rh G (wL G hm)))
  ·exact Ok_exit (thE (thE (ibE (wD G hm hb))))
 rintro v2 hm s hw
 refine thN (Ok_weak hw ?_)
 refine Ok_seq (rs G (hN 2 t.Trips h0) ?_)
 refine tl hm (fun v9 => ⟨[(5, .own 16)], [aX 16 3 v9], 48⟩) (fun v9 hm => ?_) ?_
 ·refine Ok_block (lp G hm (fun (v3, v4) => ⟨[(1, dV ready), (2, .ref 16 0), (5, .own 32), (26, dV t.Trips), (27, dV (t.Trips.length : Int)), (28, dV v3)], [bX 16 35 [dV t.Network.Stops, dV t.Network.Lines, dV t.Trips], aX 32 3 v4], 64⟩) ?_)
  rintro ⟨v3, v4⟩ r0 hb1 hm
  rw [i_ride_L3] at hm
  refine rg G (Ok_seq (cd hm (fun hm => ?_) (fun hm => ?_)))
  ·refine X_skip (thN (Ok_seq (Ok_block ?_)))
   obtain ⟨e1, h2, hm⟩ := obind hm
   refine rs G (hD 0 h2 h0) ?_
   obtain ⟨r, h3, hm⟩ := obind hm
   refine rs G (hC 2 (i_stopTimes_c h3) h0) ?_
   refine rg G ?_
   obtain ⟨r1, h4, hm⟩ := obind hm
   refine rs G (hC 2 (i_lineOf_c h4) (hN 4 r1.Stops h0)) ?_
   refine tl hm (fun v8 => ⟨[(1, dV ready), (2, .ref 16 0), (5, .own 32), (26, dV t.Trips), (27, dV (t.Trips.length : Int)), (28, dV v3)], [bX 16 35 [dV t.Network.Stops, dV t.Network.Lines, dV t.Trips], aX 32 3 v8], 64⟩) (fun v8 hm => ?_) ?_
   ·refine Ok_block (lp G hm (fun (s1, v5, v6) => ⟨[(1, dV ready), (2, .ref 16 0), (5, .own 32), (9, .own 48), (10, dV s1), (26, dV t.Trips), (27, dV (t.Trips.length : Int)), (28, dV v3), (38, dV r1.Stops), (39, dV (r1.Stops.length : Int)), (40, dV v5)], [bX 16 35 [dV t.Network.Stops, dV t.Network.Lines, dV t.Trips], aX 32 3 v6, aX 48 3 r], 80⟩) ?_)
    rintro ⟨s1, v5, v6⟩ r0 hb2 hm
    rw [i_ride_L2] at hm
    refine rg G (Ok_seq (cd hm (fun hm => ?_) (fun hm => ?_)))
    ·refine X_skip (thN (Ok_seq (Ok_block ?_)))
     obtain ⟨e2, h5, hm⟩ := obind hm
     refine rs G (hD 1 h5 h0) ?_
     refine jn hm (fun v7 => ⟨[(1, dV ready), (2, .ref 16 0), (5, .own 32), (9, .own 48), (10, dV s1), (11, dV v5), (12, dV e2), (26, dV t.Trips), (27, dV (t.Trips.length : Int)), (28, dV v3), (38, dV r1.Stops), (39, dV (r1.Stops.length : Int)), (40, dV v5)], [bX 16 35 [dV t.Network.Stops, dV t.Network.Lines, dV t.Trips], aX 32 3 v7, aX 48 3 r], 80⟩) (fun v7 hm => ?_) ?_
     ·refine rg G (cd hm (fun hm => ?_) (fun hm => ?_))
      ·obtain ⟨e6, h9, hm⟩ := obind hm
       obtain ⟨e7, h10, hm⟩ := obind hm
       obtain ⟨e8, h11, hm⟩ := obind hm
       refine de G [(12, [32])] (hD 4 h9 (hE 5 h9 (hD 8 h10 (hE 9 h10 (hD 11 h11 (hS 12 h11 (if e7 < e6 then e7 else e6) h0)))))) ?_
       exact wJ G hm
      ·exact X_skip (wJ G hm)
     rintro v7 hm
     rcases bf hm with ⟨hb3, hm⟩ | ⟨hb3, hm⟩
     ·refine de G [] (hO 1 (.b true) (hP hb3 h0)) ?_
      exact ibN (thN (rh G (wL G hm)))
     ·obtain ⟨e11, h14, hm⟩ := obind hm
      obtain ⟨e12, h15, hm⟩ := obind hm
      refine de G [] (hO 1 (.b false) (hP hb3 (hD 4 h14 (hD 8 h15 (hE 9 h15 h0))))) ?_
      exact ibN (thN (rh G (wL G hm)))
    ·exact Ok_exit (thE (thE (ibE (wD G hm hb2))))
   rintro v8 hm s2 hw1
   refine ibN (thN (Ok_weak hw1 ?_))
   exact rh G (wL G hm)
  ·exact Ok_exit (thE (thE (ibE (wD G hm hb1))))
 rintro v9 hm s3 hw2
 refine thN (Ok_weak hw2 ?_)
 refine rg G ?_
 cases hm
 exact rt [16] []
noncomputable def i_arrivals_M : MS (Timetable × Int × (List Int) × Int) ((List Int)) := ⟨.x .r (.x .r (.x .r .r)), fun x => i_arrivals x.1 x.2.1 x.2.2.1 x.2.2.2, fun _ => .own 0, fun y => [arO 3 y], fun _ _ => []⟩
theorem i_arrivals_c {t change ready legs y} (hm : i_arrivals t change ready legs = some y) : i_arrivals_M.C (t, change, ready, legs) y := i_arrivals_M.c (t, change, ready, legs) hm
theorem i_arrivals_ok : FnOK Try.prog tJ 175 i_arrivals_M.S := by
 refine fm tt i_arrivals_M [fo i_ride_ok] Try.call175 Try.func175 rfl Try.results175 Try.ntmps175 ?_
 rintro ⟨t, change, ready, legs⟩ y cx G hm
 have hm : i_arrivals t change ready legs = some y := hm
 unfold i_arrivals at hm
 refine rg G ?_
 obtain ⟨u, h, hm⟩ := obind hm
 refine rs G (hN 1 ready (hO 2 (.l (List.map Enc.e (List.replicate (ready.length : Int).toNat (0 : Int)))) (hP (mk_p (b := 8) (chk_t h) rfl) (hP (rep_m Enc.e (ready.length : Int).toNat (0 : Int)) h0)))) ?_
 refine Ok_seq (rs G (hN 1 (List.replicate (ready.length : Int).toNat (0 : Int)) h0) ?_)
 refine tl hm (fun a1 => ⟨[(1, dV change), (2, dV ready), (3, dV legs), (4, .ref 16 0), (9, .own 32)], [bX 16 35 [dV t.Network.Stops, dV t.Network.Lines, dV t.Trips], aX 32 3 a1], 64⟩) (fun a1 hm => ?_) ?_
 ·refine Ok_block (lp G hm (fun (v, a) => ⟨[(1, dV change), (2, dV ready), (3, dV legs), (4, .ref 16 0), (9, .own 32), (18, dV ((List.replicate (ready.length : Int).toNat (0 : Int)).length : Int)), (19, dV v)], [bX 16 35 [dV t.Network.Stops, dV t.Network.Lines, dV t.Trips], aX 32 3 a], 64⟩) ?_)
  rintro ⟨v, a⟩ r0 hb hm
  rw [i_arrivals_L1] at hm
  refine rg G (Ok_seq (cd hm (fun hm => ?_) (fun hm => ?_)))
  ·refine X_skip (thN (Ok_seq (Ok_block (rg G ?_))))
   obtain ⟨e, h1, hm⟩ := obind hm
   refine re G (hD 2 h1 (hS 3 h1 1073741824 h0)) ?_
   exact ibN (thN (rh G (wL G hm)))
  ·exact Ok_exit (thE (thE (ibE (wD G hm hb))))
 rintro a1 hm s hw
 refine thN (Ok_weak hw ?_)
 refine Ok_seq (rg G (tl hm (fun a6 => ⟨[(9, .own 16)], [aX 16 3 a6], 48⟩) (fun a6 hm => ?_) ?_))
 ·refine Ok_block (lp G hm (fun (ready1, v1, a2) => ⟨[(1, dV change), (2, dV ready1), (4, .ref 16 0), (9, .own 32), (26, dV legs), (27, dV v1)], [bX 16 35 [dV t.Network.Stops, dV t.Network.Lines, dV t.Trips], aX 32 3 a2], 64⟩) ?_)
  rintro ⟨ready1, v1, a2⟩ r0 hb1 hm
  rw [i_arrivals_L3] at hm
  refine rg G (Ok_seq (cd hm (fun hm => ?_) (fun hm => ?_)))
  ·refine X_skip (thN (Ok_seq (Ok_block ?_)))
   obtain ⟨r, h2, hm⟩ := obind hm
   refine rs G (hC 2 (i_ride_c h2) h0) ?_
   obtain ⟨u1, h3, hm⟩ := obind hm
   refine rs G (hN 1 a2 (hO 2 (.l (List.map Enc.e (List.replicate (a2.length : Int).toNat (0 : Int)))) (hP (mk_p (b := 8) (chk_t h3) rfl) (hP (rep_m Enc.e (a2.length : Int).toNat (0 : Int)) h0)))) ?_
   refine rs G (hN 1 r h0) ?_
   refine tl hm (fun (ready4, a5) => ⟨[(1, dV change), (2, .own 16), (4, .ref 32 0), (9, .own 48), (26, dV legs), (27, dV v1)], [aX 16 3 ready4, bX 32 35 [dV t.Network.Stops, dV t.Network.Lines, dV t.Trips], aX 48 3 a5], 80⟩) (fun vv1 hm => ?_) ?_
   ·refine Ok_block (lp G hm (fun (v2, ready2, a3) => ⟨[(1, dV change), (2, .own 16), (4, .ref 32 0), (9, .own 48), (26, dV legs), (27, dV v1), (35, .own 64), (36, dV (r.length : Int)), (37, dV v2)], [aX 16 3 ready2, bX 32 35 [dV t.Network.Stops, dV t.Network.Lines, dV t.Trips], aX 48 3 a3, aX 64 3 r], 96⟩) ?_)
    rintro ⟨v2, ready2, a3⟩ r0 hb2 hm
    rw [i_arrivals_L2] at hm
    refine rg G (Ok_seq (cd hm (fun hm => ?_) (fun hm => ?_)))
    ·refine X_skip (thN (jn hm (fun (ready3, a4) => ⟨[(1, dV change), (2, .own 16), (4, .ref 32 0), (9, .own 48), (26, dV legs), (27, dV v1), (35, .own 64), (36, dV (r.length : Int)), (37, dV v2)], [aX 16 3 ready3, bX 32 35 [dV t.Network.Stops, dV t.Network.Lines, dV t.Trips], aX 48 3 a4, aX 64 3 r], 96⟩) (fun vv hm => ?_) ?_))
     ·refine Ok_block ?_
      obtain ⟨e1, h4, hm⟩ := obind hm
      refine rs G (hD 1 h4 (hE 2 h4 h0)) ?_
      obtain ⟨e2, h5, hm⟩ := obind hm
      refine rs G (hD 2 h5 (hS 3 h5 1073741824 h0)) ?_
      obtain ⟨e3, h6, hm⟩ := obind hm
      refine rs G (hD 3 h6 (hE 4 h6 h0)) ?_
      refine cd hm (fun hm => ?_) (fun hm => ?_)
      ·obtain ⟨e4, h7, hm⟩ := obind hm
       refine rs G (hD 3 h7 (hS 4 h7 e1 h0)) ?_
       obtain ⟨e5, h8, hm⟩ := obind hm
       refine re G (hD 5 h8 (hS 6 h8 (w64 (e1 + change)) h0)) ?_
       exact ibN (wJ G hm)
      ·exact X_skip (ibN (wJ G hm))
     rintro ⟨ready3, a4⟩ hm
     exact rh G (wL G hm)
    ·exact Ok_exit (thE (thE (ibE (wD G hm hb2))))
   rintro ⟨ready4, a5⟩ hm s1 hw1
   refine ibN (thN (Ok_weak hw1 ?_))
   exact rh G (wL G hm)
  ·exact Ok_exit (thE (thE (ibE (wD G hm hb1))))
 rintro a6 hm s2 hw2
 refine thN (Ok_weak hw2 ?_)
 refine rg G ?_
 cases hm
 exact rt [16] []
noncomputable def i_fillLeg_M : MS (Timetable × Trip × Int × Int) (Leg × Bool) := ⟨.x .r (.x .r (.x .r .r)), fun x => i_fillLeg x.1 x.2.1 x.2.2.1 x.2.2.2, fun y => .tup [dV y.1, dV y.2], fun _ => [], fun _ _ => []⟩
theorem i_fillLeg_c {t x from_ to_ y} (hm : i_fillLeg t x from_ to_ = some y) : i_fillLeg_M.C (t, x, from_, to_) y := i_fillLeg_M.c (t, x, from_, to_) hm
theorem i_fillLeg_ok : FnOK Try.prog tJ 181 i_fillLeg_M.S := by
 refine fm tt i_fillLeg_M [fo i_lineOf_ok, fo slices_Index_int_ok, fo i_stopTimes_ok] Try.call181 Try.func181 rfl Try.results181 Try.ntmps181 ?_
 rintro ⟨t, x, from_, to_⟩ y cx G hm
 have hm : i_fillLeg t x from_ to_ = some y := hm
 unfold i_fillLeg at hm
 refine rg G ?_
 obtain ⟨r, h, hm⟩ := obind hm
 refine rs G (hC 2 (i_lineOf_c h) h0) ?_
 obtain ⟨r1, h1, hm⟩ := obind hm
 obtain ⟨r2, h2, hm⟩ := obind hm
 refine rs G (hC 2 (slices_Index_int_c h1) (hC 5 (slices_Index_int_c h2) h0)) ?_
 refine Ok_seq (jn hm (fun v => ⟨[(2, dV from_), (3, dV to_), (4, .ref 16 0), (5, .ref 32 0), (8, .ref 48 0), (11, dV r1), (12, dV r2), (30, dV v)], [bX 16 35 [dV t.Network.Stops, dV t.Network.Lines, dV t.Trips], bX 32 167 [dV x.Id, dV x.Line, dV x.Start], bX 48 104 [kV .i64 0, kV .i64 0, kV .i64 0, kV .i64 0, kV .i64 0]], 80⟩) (fun v hm => ?_) ?_)
 ·rcases bf hm with ⟨hb, hm⟩ | ⟨hb, hm⟩
  ·refine re G (hO 2 (.b true) (hP hb h0)) ?_
   exact wJ G hm
  ·refine re G (hO 2 (.b false) (hP hb h0)) ?_
   exact wJ G hm
 rintro v hm
 refine cd hm (fun hm => ?_) (fun hm => ?_)
 ·refine rg G ?_
  cases hm
  exact rt [] []
 ·refine X_skip (thN ?_)
  obtain ⟨r3, h3, hm⟩ := obind hm
  refine rs G (hC 2 (i_stopTimes_c h3) h0) ?_
  obtain ⟨e2, h6, hm⟩ := obind hm
  obtain ⟨e3, h7, hm⟩ := obind hm
  refine ds G [(13, [48])] (hD 6 h6 (hE 7 h6 (hD 10 h7 (hE 11 h7 h0)))) ?_
  cases hm
  exact rt [] []
noncomputable def i_firstLeg_M : MS (Timetable × Int × Int × Int × Int × Int × Int) Leg := ⟨.x .r (.x .r (.x .r (.x .r (.x .r (.x .r .r))))), fun x => i_firstLeg x.1 x.2.1 x.2.2.1 x.2.2.2.1 x.2.2.2.2.1 x.2.2.2.2.2.1 x.2.2.2.2.2.2, fun y => dV y, fun _ => [], fun _ _ => []⟩
theorem i_firstLeg_c {t change stop to_ ready by_ legs y} (hm : i_firstLeg t change stop to_ ready by_ legs = some y) : i_firstLeg_M.C (t, change, stop, to_, ready, by_, legs) y := i_firstLeg_M.c (t, change, stop, to_, ready, by_, legs) hm
theorem i_firstLeg_ok : FnOK Try.prog tJ 177 i_firstLeg_M.S := by
 refine fm tt i_firstLeg_M [fo i_fillLeg_ok, fo i_readyAt_ok, fo i_arrivals_ok] Try.call177 Try.func177 rfl Try.results177 Try.ntmps177 ?_
 rintro ⟨t, change, stop, to_, ready, by_, legs⟩ y cx G hm
 have hm : i_firstLeg t change stop to_ ready by_ legs = some y := hm
 unfold i_firstLeg at hm
 refine rg G (Ok_seq (rs G (hN 2 t.Trips h0) ?_))
 refine tF hm (fun _ => ⟨[(14, .ref 16 0)], [bX 16 104 [kV .i64 0, kV .i64 0, kV .i64 0, kV .i64 0, kV .i64 0]], 48⟩) (fun v7 hr hm => ?_) ?_
 ·refine Ok_block (lp G hm (fun v => ⟨[(1, dV change), (2, dV stop), (3, dV to_), (4, dV ready), (5, dV by_), (6, dV legs), (7, .ref 16 0), (14, .ref 32 0), (21, dV t.Trips), (22, dV (t.Trips.length : Int)), (23, dV v)], [bX 16 35 [dV t.Network.Stops, dV t.Network.Lines, dV t.Trips], bX 32 104 [kV .i64 0, kV .i64 0, kV .i64 0, kV .i64 0, kV .i64 0]], 64⟩) ?_)
  rintro v r0 hb hm
  rw [i_firstLeg_L2] at hm
  refine rg G (Ok_seq (cd hm (fun hm => ?_) (fun hm => ?_)))
  ·refine X_skip (thN (Ok_seq (Ok_block ?_)))
   obtain ⟨e, h, hm⟩ := obind hm
   refine rs G (hD 0 h h0) ?_
   refine rs G (hN 3 t.Network.Stops h0) ?_
   refine tF hm (fun _ => ⟨[(1, dV change), (2, dV stop), (3, dV to_), (4, dV ready), (5, dV by_), (6, dV legs), (7, .ref 16 0), (14, .ref 32 0), (21, dV t.Trips), (22, dV (t.Trips.length : Int)), (23, dV v)], [bX 16 35 [dV t.Network.Stops, dV t.Network.Lines, dV t.Trips], bX 32 104 [kV .i64 0, kV .i64 0, kV .i64 0, kV .i64 0, kV .i64 0]], 64⟩) (fun v6 hr1 hm => ?_) ?_
   ·refine Ok_block (lp G hm (fun v1 => ⟨[(1, dV change), (2, dV stop), (3, dV to_), (4, dV ready), (5, dV by_), (6, dV legs), (7, .ref 16 0), (14, .ref 32 0), (16, .ref 48 0), (21, dV t.Trips), (22, dV (t.Trips.length : Int)), (23, dV v), (30, dV (t.Network.Stops.length : Int)), (31, dV v1)], [bX 16 35 [dV t.Network.Stops, dV t.Network.Lines, dV t.Trips], bX 32 104 [kV .i64 0, kV .i64 0, kV .i64 0, kV .i64 0, kV .i64 0], bX 48 167 [dV e.Id, dV e.Line, dV e.Start]], 80⟩) ?_)
    rintro v1 r0 hb1 hm
    rw [i_firstLeg_L1] at hm
    refine rg G (Ok_seq (cd hm (fun hm => ?_) (fun hm => ?_)))
    ·refine X_skip (thN (jF hm (fun _ => ⟨[(1, dV change), (2, dV stop), (3, dV to_), (4, dV ready), (5, dV by_), (6, dV legs), (7, .ref 16 0), (14, .ref 32 0), (16, .ref 48 0), (21, dV t.Trips), (22, dV (t.Trips.length : Int)), (23, dV v), (30, dV (t.Network.Stops.length : Int)), (31, dV v1)], [bX 16 35 [dV t.Network.Stops, dV t.Network.Lines, dV t.Trips], bX 32 104 [kV .i64 0, kV .i64 0, kV .i64 0, kV .i64 0, kV .i64 0], bX 48 167 [dV e.Id, dV e.Line, dV e.Start]], 80⟩) (fun v5 hr2 hm => ?_) ?_))
     ·refine Ok_block (rg G ?_)
      obtain ⟨r, h1, hm⟩ := obind hm
      refine rs G (hC 4 (i_fillLeg_c h1) h0) ?_
      refine Ok_seq (jn hm (fun v2 => ⟨[(1, dV change), (2, dV stop), (3, dV to_), (4, dV ready), (5, dV by_), (6, dV legs), (7, .ref 16 0), (14, .ref 32 0), (16, .ref 48 0), (17, dV v1), (18, .ref 64 0), (21, dV t.Trips), (22, dV (t.Trips.length : Int)), (23, dV v), (30, dV (t.Network.Stops.length : Int)), (31, dV v1), (49, dV v2)], [bX 16 35 [dV t.Network.Stops, dV t.Network.Lines, dV t.Trips], bX 32 104 [kV .i64 0, kV .i64 0, kV .i64 0, kV .i64 0, kV .i64 0], bX 48 167 [dV e.Id, dV e.Line, dV e.Start], bX 64 104 [dV r.1.Trip, dV r.1.From, dV r.1.To, dV r.1.Depart, dV r.1.Arrive]], 96⟩) (fun v2 hm => ?_) ?_)
      ·rcases bf hm with ⟨hb2, hm⟩ | ⟨hb2, hm⟩
       ·refine re G (hO 2 (.b true) (hP hb2 h0)) ?_
        exact wJ G hm
       ·refine re G (hO 2 (.b false) (hP hb2 h0)) ?_
        exact wJ G hm
      rintro v2 hm
      refine cd hm (fun hm => ?_) (fun hm => ?_)
      ·exact Ok_exit (thE (ibE (wF G hm)))
      ·refine X_skip (thN (Ok_block (jn hm (fun v3 => ⟨[(1, dV change), (2, dV stop), (3, dV to_), (4, dV ready), (5, dV by_), (6, dV legs), (7, .ref 16 0), (14, .ref 32 0), (16, .ref 48 0), (17, dV v1), (18, .ref 64 0), (21, dV t.Trips), (22, dV (t.Trips.length : Int)), (23, dV v), (30, dV (t.Network.Stops.length : Int)), (31, dV v1), (50, dV v3)], [bX 16 35 [dV t.Network.Stops, dV t.Network.Lines, dV t.Trips], bX 32 104 [kV .i64 0, kV .i64 0, kV .i64 0, kV .i64 0, kV .i64 0], bX 48 167 [dV e.Id, dV e.Line, dV e.Start], bX 64 104 [dV r.1.Trip, dV r.1.From, dV r.1.To, dV r.1.Depart, dV r.1.Arrive]], 96⟩) (fun v3 hm => ?_) ?_)))
       ·rcases bf hm with ⟨hb3, hm⟩ | ⟨hb3, hm⟩
        ·rcases bf hm with ⟨hb4, hm⟩ | ⟨hb4, hm⟩
         ·refine re G (hO 2 (.b true) (hP hb3 (hO 7 (.b true) (hP hb4 h0)))) ?_
          exact wJ G hm
         ·refine re G (hO 2 (.b true) (hP hb3 (hO 7 (.b false) (hP hb4 h0)))) ?_
          exact wJ G hm
        ·refine re G (hO 2 (.b false) (hP hb3 h0)) ?_
         exact wJ G hm
       rintro v3 hm
       refine cd hm (fun hm => ?_) (fun hm => ?_)
       ·refine rg G ?_
        have hm := eR hm hr2
        have hm := eL hm hb1 hr1
        have hm := eL hm hb hr
        cases hm
        exact rt [] []
       ·refine jn hm (fun v4 => ⟨[(1, dV change), (2, dV stop), (3, dV to_), (4, dV ready), (5, dV by_), (6, dV legs), (7, .ref 16 0), (14, .ref 32 0), (16, .ref 48 0), (18, .ref 64 0), (21, dV t.Trips), (22, dV (t.Trips.length : Int)), (23, dV v), (30, dV (t.Network.Stops.length : Int)), (31, dV v1), (65, dV v4)], [bX 16 35 [dV t.Network.Stops, dV t.Network.Lines, dV t.Trips], bX 32 104 [kV .i64 0, kV .i64 0, kV .i64 0, kV .i64 0, kV .i64 0], bX 48 167 [dV e.Id, dV e.Line, dV e.Start], bX 64 104 [dV r.1.Trip, dV r.1.From, dV r.1.To, dV r.1.Depart, dV r.1.Arrive]], 96⟩) (fun v4 hm => ?_) ?_
        ·rcases bf hm with ⟨hb5, hm⟩ | ⟨hb5, hm⟩
         ·obtain ⟨r6, h5, hm⟩ := obind hm
          obtain ⟨r7, h6, hm⟩ := obind hm
          obtain ⟨e5, h7, hm⟩ := obind hm
          refine de G [] (hO 2 (.b true) (hP hb5 (hC 11 (i_readyAt_c h5) (hF 14 (i_arrivals_c h6) ⟨(flat_cons flat_arr flat_nil), flat_nil⟩ (hD 16 h7 (hE 17 h7 h0)))))) ?_
          exact wJ G hm
         ·refine de G [] (hO 2 (.b false) (hP hb5 h0)) ?_
          exact wJ G hm
        rintro v4 hm
        refine cd hm (fun hm => ?_) (fun hm => ?_)
        ·refine rg G ?_
         have hm := eR hm hr2
         have hm := eL hm hb1 hr1
         have hm := eL hm hb hr
         cases hm
         exact rt [] []
        ·exact X_skip (ibN (ibN (wF G hm)))
     rintro ⟨⟩ hm
     exact rh G (wL G hm)
    ·exact Ok_exit (thE (thE (ibE (wE G hm hb1))))
   rintro ⟨⟩ hm s hw
   refine ibN (thN (Ok_weak hw ?_))
   exact rh G (wL G hm)
  ·exact Ok_exit (thE (thE (ibE (wE G hm hb))))
 rintro ⟨⟩ hm s1 hw1
 refine thN (Ok_weak hw1 ?_)
 refine rg G ?_
 cases hm
 exact rt [] []
noncomputable def i_firstJourney_M : MS (Timetable × Int × Int × Int × Int × Int) ((Nl Leg)) := ⟨.x .r (.x .r (.x .r (.x .r (.x .r .r)))), fun x => i_firstJourney x.1 x.2.1 x.2.2.1 x.2.2.2.1 x.2.2.2.2.1 x.2.2.2.2.2, fun y => dV y, fun _ => [], fun _ _ => []⟩
theorem i_firstJourney_c {t change from_ to_ at_ most y} (hm : i_firstJourney t change from_ to_ at_ most = some y) : i_firstJourney_M.C (t, change, from_, to_, at_, most) y := i_firstJourney_M.c (t, change, from_, to_, at_, most) hm
theorem i_firstJourney_ok : FnOK Try.prog tJ 122 i_firstJourney_M.S := by
 refine fm tt i_firstJourney_M [fo i_readyAt_ok, fo i_arrivals_ok, fo i_firstLeg_ok] Try.call122 Try.func122 rfl Try.results122 Try.ntmps122 ?_
 rintro ⟨t, change, from_, to_, at_, most⟩ y cx G hm
 have hm : i_firstJourney t change from_ to_ at_ most = some y := hm
 unfold i_firstJourney at hm
 refine rg G ?_
 obtain ⟨r2, h3, hm⟩ := obind hm
 obtain ⟨r3, h4, hm⟩ := obind hm
 obtain ⟨e1, h5, hm⟩ := obind hm
 refine ds G [] (hC 5 (i_readyAt_c h3) (hF 7 (i_arrivals_c h4) ⟨(flat_cons flat_arr flat_nil), flat_nil⟩ (hD 9 h5 (hE 10 h5 h0)))) ?_
 refine Ok_seq (rg G (cd hm (fun hm => ?_) (fun hm => ?_)))
 ·refine rg G ?_
  cases hm
  exact rt [] []
 ·refine X_skip (thN (rg G (jn hm (fun v1 => ⟨[(1, dV change), (2, dV from_), (3, dV to_), (4, dV at_), (6, .ref 16 0), (13, dV e1), (14, dV v1)], [bX 16 35 [dV t.Network.Stops, dV t.Network.Lines, dV t.Trips]], 48⟩) (fun v1 hm => ?_) ?_)))
  ·refine Ok_block (lp G hm (fun v => ⟨[(1, dV change), (2, dV from_), (3, dV to_), (4, dV at_), (6, .ref 16 0), (13, dV e1), (14, dV v)], [bX 16 35 [dV t.Network.Stops, dV t.Network.Lines, dV t.Trips]], 48⟩) ?_)
   rintro v r0 hb hm
   rw [i_firstJourney_L1] at hm
   refine Ok_seq ?_
   obtain ⟨r6, h9, hm⟩ := obind hm
   obtain ⟨r7, h10, hm⟩ := obind hm
   obtain ⟨e3, h11, hm⟩ := obind hm
   refine ds G [] (hC 5 (i_readyAt_c h9) (hF 7 (i_arrivals_c h10) ⟨(flat_cons flat_arr flat_nil), flat_nil⟩ (hD 9 h11 (hE 10 h11 h0)))) ?_
   refine cd hm (fun hm => ?_) (fun hm => ?_)
   ·exact X_skip (thN (Ok_block (rh G (ibN (wL G hm)))))
   ·exact Ok_exit (thE (thE (ibE (wD G hm hb))))
  rintro v1 hm
  refine rg G (Ok_seq (rg G (tl hm (fun v6 => ⟨[(15, .own 16)], [aX 16 104 v6], 48⟩) (fun v6 hm => ?_) ?_)))
  ·refine Ok_block (lpP hm (fun (v2, v3, v4, v5) => ⟨[(1, dV change), (3, dV to_), (6, .ref 16 0), (13, dV e1), (14, dV v2), (15, .own 32), (16, dV v3), (17, dV v4)], [bX 16 35 [dV t.Network.Stops, dV t.Network.Lines, dV t.Trips], aX 32 104 v5], 64⟩) (Wk_J G.hL ⟨[(1, []), (3, []), (6, []), (13, []), (14, []), (15, [.o 32]), (16, []), (17, [])], [(16, 16, [])], [(32, 104, 5, [])], 64⟩ (by kernel_rfl)) ?_)
   rintro ⟨v2, v3, v4, v5⟩ r0 hb1 hm
   rw [i_firstJourney_L2] at hm
   refine Ok_seq (rg G (cd hm (fun hm => ?_) (fun hm => ?_)))
   ·refine X_skip (thN (Ok_seq (Ok_block ?_)))
    obtain ⟨r8, h12, hm⟩ := obind hm
    refine rs G (hC 7 (i_firstLeg_c h12) h0) ?_
    obtain ⟨u, h13, hm⟩ := obind hm
    refine rs G (hA 3 40 h13 h0) ?_
    refine de G [] h0 ?_
    exact ibN (thN (rh G (wL G hm)))
   ·exact Ok_exit (thE (thE (ibE (wD G hm hb1))))
  rintro v6 hm s hw
  refine thN (Ok_weak hw ?_)
  refine rg G ?_
  obtain ⟨u1, h14, hm⟩ := obind hm
  cases hm
  exact rtE [] [] (nl_av (chk_t h14))
noncomputable def i_ParetoJourneys_M : MS (Timetable × Int × Int × Int × Int) ((List (List Leg)) × Bool) := ⟨.x .r (.x .r (.x .r (.x .r .r))), fun x => i_ParetoJourneys x.1 x.2.1 x.2.2.1 x.2.2.2.1 x.2.2.2.2, fun y => .tup [dV y.1, dV y.2], fun _ => [], fun _ _ => []⟩
theorem i_ParetoJourneys_c {t change from_ to_ at_ y} (hm : i_ParetoJourneys t change from_ to_ at_ = some y) : i_ParetoJourneys_M.C (t, change, from_, to_, at_) y := i_ParetoJourneys_M.c (t, change, from_, to_, at_) hm
theorem i_ParetoJourneys_ok : FnOK Try.prog tJ 54 i_ParetoJourneys_M.S := by
 refine fm tt i_ParetoJourneys_M [fo i_isPair_ok, fo i_IsValidTime_ok, fo i_firstJourney_ok] Try.call54 Try.func54 rfl Try.results54 Try.ntmps54 ?_
 rintro ⟨t, change, from_, to_, at_⟩ y cx G hm
 have hm : i_ParetoJourneys t change from_ to_ at_ = some y := hm
 unfold i_ParetoJourneys at hm
 refine rg G (Ok_seq ?_)
 obtain ⟨r, h, hm⟩ := obind hm
 refine jn hm (fun v => ⟨[(1, dV change), (2, dV from_), (3, dV to_), (4, dV at_), (5, .ref 16 0), (26, dV v)], [bX 16 35 [dV t.Network.Stops, dV t.Network.Lines, dV t.Trips]], 48⟩) (fun v hm => ?_) ?_
 ·rcases bf hm with ⟨hb, hm⟩ | ⟨hb, hm⟩
  ·refine re G (hC 4 (i_isPair_c h) (hO 6 (.b true) (hP hb h0))) ?_
   exact wJ G hm
  ·obtain ⟨r1, h1, hm⟩ := obind hm
   refine re G (hC 4 (i_isPair_c h) (hO 6 (.b false) (hP hb (hC 8 (i_IsValidTime_c h1) h0)))) ?_
   exact wJ G hm
 rintro v hm
 refine cd hm (fun hm => ?_) (fun hm => ?_)
 ·refine rg G ?_
  cases hm
  exact rt [] [[.z 1]]
 ·refine X_skip (thN (rg G (rg G (Ok_seq (rg G (tl hm (fun v8 => ⟨[(12, .own 16)], [aX 16 101 v8], 48⟩) (fun v8 hm => ?_) ?_))))))
  ·refine Ok_block (lpP hm (fun (v1, v2, v3) => ⟨[(1, dV change), (2, dV from_), (3, dV to_), (4, dV at_), (5, .ref 16 0), (12, .own 32), (13, dV v1), (14, dV v2)], [bX 16 35 [dV t.Network.Stops, dV t.Network.Lines, dV t.Trips], aX 32 101 v3], 64⟩) (Wk_J G.hL ⟨[(1, []), (2, []), (3, []), (4, []), (5, []), (12, [.o 32]), (13, []), (14, [])], [(16, 16, [])], [(32, 101, 1, [])], 64⟩ (by kernel_rfl)) ?_)
   rintro ⟨v1, v2, v3⟩ r0 hb1 hm
   rw [i_ParetoJourneys_L1] at hm
   refine Ok_seq (rg G (cd hm (fun hm => ?_) (fun hm => ?_)))
   ·refine X_skip (thN (jn hm (fun (v4, v5) => ⟨[(1, dV change), (2, dV from_), (3, dV to_), (4, dV at_), (5, .ref 16 0), (12, .own 32), (13, dV v4), (14, dV v2)], [bX 16 35 [dV t.Network.Stops, dV t.Network.Lines, dV t.Trips], aX 32 101 v5], 64⟩) (fun vv1 hm => ?_) ?_))
    ·refine Ok_block ?_
     obtain ⟨r2, h2, hm⟩ := obind hm
     refine rs G (hC 6 (i_firstJourney_c h2) h0) ?_
     refine jn hm (fun (v6, v7) => ⟨[(1, dV change), (2, dV from_), (3, dV to_), (4, dV at_), (5, .ref 16 0), (12, .own 32), (13, dV v1), (14, dV v2), (15, dV v6), (50, dV v7)], [bX 16 35 [dV t.Network.Stops, dV t.Network.Lines, dV t.Trips], aX 32 101 v3], 64⟩) (fun vv hm => ?_) ?_
     ·rcases nlsp_t hm with ⟨rfl, hm⟩ | ⟨a, l, rfl, hm⟩
      ·exact rh G (wJ G hm)
      ·obtain ⟨e, h3, hm⟩ := obind hm
       refine re G (hN 5 (a :: l) (hD 7 h3 h0)) ?_
       exact wJ G hm
     rintro ⟨v6, v7⟩ hm
     refine cd hm (fun hm => ?_) (fun hm => ?_)
     ·obtain ⟨e1, h4, hm⟩ := obind hm
      refine rs G (hN 2 v6 (hD 4 h4 h0)) ?_
      obtain ⟨u, h5, hm⟩ := obind hm
      refine re G (hA 3 24 h5 h0) ?_
      exact ibN (wJ G hm)
     ·exact X_skip (ibN (wJ G hm))
    rintro ⟨v4, v5⟩ hm
    exact rh G (wL G hm)
   ·exact Ok_exit (thE (thE (ibE (wD G hm hb1))))
  rintro v8 hm s hw
  refine thN (Ok_weak hw ?_)
  refine rg G ?_
  cases hm
  exact rt [] []
noncomputable def s_l1In_M : MS (Int × Int × Int) Bool := ⟨.x .r (.x .r .r), fun x => s_l1In x.1 x.2.1 x.2.2, fun y => dV y, fun _ => [], fun _ _ => []⟩
theorem s_l1In_c {x a b y} (hm : s_l1In x a b = some y) : s_l1In_M.C (x, a, b) y := s_l1In_M.c (x, a, b) hm
theorem s_l1In_ok : FnOK Try.prog tJ 94 s_l1In_M.S := by
 refine fm tt s_l1In_M [] Try.call94 Try.func94 rfl Try.results94 Try.ntmps94 ?_
 rintro ⟨x, a, b⟩ y cx G hm
 have hm : s_l1In x a b = some y := hm
 unfold s_l1In at hm
 refine rg G (jn hm (fun v => ⟨[(6, dV v)], [], 32⟩) (fun v hm => ?_) ?_)
 ·rcases bf hm with ⟨hb, hm⟩ | ⟨hb, hm⟩
  ·refine re G (hO 3 (.b true) (hP hb h0)) ?_
   exact wJ G hm
  ·refine re G (hO 3 (.b false) (hP hb h0)) ?_
   exact wJ G hm
 rintro v hm
 cases hm
 exact rt [] []
noncomputable def s_l2Name_M : MS ByteArray Bool := ⟨.r, s_l2Name, fun y => dV y, fun _ => [], fun _ _ => []⟩
theorem s_l2Name_c {s y} (hm : s_l2Name s = some y) : s_l2Name_M.C s y := s_l2Name_M.c s hm
theorem s_l2Name_ok : FnOK Try.prog tJ 193 s_l2Name_M.S := by
 refine fm tt s_l2Name_M [fo s_l1In_ok] Try.call193 Try.func193 rfl Try.results193 Try.ntmps193 ?_
 rintro s y cx G hm
 have hm : s_l2Name s = some y := hm
 unfold s_l2Name at hm
 refine rg G (Ok_seq ?_)
 obtain ⟨r, h, hm⟩ := obind hm
 refine jn hm (fun v => ⟨[(0, dV s), (17, dV v)], [], 32⟩) (fun v hm => ?_) ?_
 ·rcases bf hm with ⟨hb, hm⟩ | ⟨hb, hm⟩
  ·refine re G (hC 2 (s_l1In_c h) (hO 4 (.b true) (hP hb h0))) ?_
   exact wJ G hm
  ·obtain ⟨u, h1, hm⟩ := obind hm
   rcases bf hm with ⟨hb1, hm⟩ | ⟨hb1, hm⟩
   ·refine re G (hC 2 (s_l1In_c h) (hO 4 (.b false) (hP hb (hK h1 (hO 9 (.b true) (hP hb1 h0)))))) ?_
    exact wJ G hm
   ·obtain ⟨u1, h2, hm⟩ := obind hm
    refine re G (hC 2 (s_l1In_c h) (hO 4 (.b false) (hP hb (hK h1 (hO 9 (.b false) (hP hb1 (hK h2 h0))))))) ?_
    exact wJ G hm
 rintro v hm
 refine cd hm (fun hm => ?_) (fun hm => ?_)
 ·refine rg G ?_
  cases hm
  exact rt [] []
 ·refine X_skip (thN (Ok_seq (rg G (tF hm (fun _ => ⟨[], [], 32⟩) (fun v3 hr hm => ?_) ?_))))
  ·refine Ok_block (lp G hm (fun v1 => ⟨[(0, dV s), (3, dV v1)], [], 32⟩) ?_)
   rintro v1 r0 hb2 hm
   rw [s_l2Name_L1] at hm
   refine Ok_seq (rg G (cd hm (fun hm => ?_) (fun hm => ?_)))
   ·refine X_skip (thN (Ok_seq (Ok_block ?_)))
    obtain ⟨u2, h3, hm⟩ := obind hm
    refine jn hm (fun v2 => ⟨[(0, dV s), (3, dV v1), (45, dV v2)], [], 32⟩) (fun v2 hm => ?_) ?_
    ·rcases bf hm with ⟨hb3, hm⟩ | ⟨hb3, hm⟩
     ·obtain ⟨u3, h4, hm⟩ := obind hm
      rcases bf hm with ⟨hb4, hm⟩ | ⟨hb4, hm⟩
      ·refine re G (hK h3 (hO 4 (.b true) (hP hb3 (hK h4 (hO 15 (.b true) (hP hb4 h0)))))) ?_
       exact wJ G hm
      ·obtain ⟨u4, h5, hm⟩ := obind hm
       refine re G (hK h3 (hO 4 (.b true) (hP hb3 (hK h4 (hO 15 (.b false) (hP hb4 (hK h5 h0))))))) ?_
       exact wJ G hm
     ·obtain ⟨u5, h6, hm⟩ := obind hm
      rcases bf hm with ⟨hb5, hm⟩ | ⟨hb5, hm⟩
      ·obtain ⟨u6, h7, hm⟩ := obind hm
       rcases bf hm with ⟨hb6, hm⟩ | ⟨hb6, hm⟩
       ·refine re G (hK h3 (hO 4 (.b false) (hP hb3 (hK h6 (hO 10 (.b true) (hP hb5 (hK h7 (hO 15 (.b true) (hP hb6 h0))))))))) ?_
        exact wJ G hm
       ·obtain ⟨u7, h8, hm⟩ := obind hm
        refine re G (hK h3 (hO 4 (.b false) (hP hb3 (hK h6 (hO 10 (.b true) (hP hb5 (hK h7 (hO 15 (.b false) (hP hb6 (hK h8 h0)))))))))) ?_
        exact wJ G hm
      ·refine re G (hK h3 (hO 4 (.b false) (hP hb3 (hK h6 (hO 10 (.b false) (hP hb5 h0)))))) ?_
       exact wJ G hm
    rintro v2 hm
    refine cd hm (fun hm => ?_) (fun hm => ?_)
    ·refine rg G ?_
     have hm := eL hm hb2 hr
     cases hm
     exact rt [] []
    ·exact X_skip (ibN (thN (rh G (wL G hm))))
   ·exact Ok_exit (thE (thE (ibE (wE G hm hb2))))
  rintro ⟨⟩ hm s1 hw
  refine thN (Ok_weak hw ?_)
  refine rg G ?_
  cases hm
  exact rt [] []
noncomputable def s_l2Find_M : MS ((List ByteArray) × ByteArray) Int := ⟨.x .r .r, fun x => s_l2Find x.1 x.2, fun y => dV y, fun _ => [], fun _ _ => []⟩
theorem s_l2Find_c {list name y} (hm : s_l2Find list name = some y) : s_l2Find_M.C (list, name) y := s_l2Find_M.c (list, name) hm
theorem s_l2Find_ok : FnOK Try.prog tJ 194 s_l2Find_M.S := by
 refine fm tt s_l2Find_M [] Try.call194 Try.func194 rfl Try.results194 Try.ntmps194 ?_
 rintro ⟨list, name⟩ y cx G hm
 have hm : s_l2Find list name = some y := hm
 unfold s_l2Find at hm
 refine rg G (Ok_seq (rg G (tF hm (fun _ => ⟨[], [], 32⟩) (fun v1 hr hm => ?_) ?_)))
 ·refine Ok_block (lp G hm (fun v => ⟨[(0, dV list), (1, dV name), (5, dV v)], [], 32⟩) ?_)
  rintro v r0 hb hm
  rw [s_l2Find_L1] at hm
  refine Ok_seq (rs G (hN 2 list h0) ?_)
  refine cd hm (fun hm => ?_) (fun hm => ?_)
  ·refine X_skip (thN (Ok_seq (Ok_block ?_)))
   obtain ⟨e, h, hm⟩ := obind hm
   refine rs G (hD 2 h h0) ?_
   refine cd hm (fun hm => ?_) (fun hm => ?_)
   ·refine rg G ?_
    have hm := eL hm hb hr
    cases hm
    exact rt [] []
   ·exact X_skip (ibN (thN (rh G (wL G hm))))
  ·exact Ok_exit (thE (thE (ibE (wE G hm hb))))
 rintro ⟨⟩ hm s hw
 refine thN (Ok_weak hw ?_)
 refine rg G ?_
 cases hm
 exact rt [] []
noncomputable def s_l2Line_M : MS (Line × Int) Bool := ⟨.x .r .r, fun x => s_l2Line x.1 x.2, fun y => dV y, fun _ => [], fun _ _ => []⟩
theorem s_l2Line_c {x stops y} (hm : s_l2Line x stops = some y) : s_l2Line_M.C (x, stops) y := s_l2Line_M.c (x, stops) hm
theorem s_l2Line_ok : FnOK Try.prog tJ 195 s_l2Line_M.S := by
 refine fm tt s_l2Line_M [fo s_l2Name_ok, fo s_l1In_ok, fo s_l2Place_ok] Try.call195 Try.func195 rfl Try.results195 Try.ntmps195 ?_
 rintro ⟨x, stops⟩ y cx G hm
 have hm : s_l2Line x stops = some y := hm
 unfold s_l2Line at hm
 refine rg G (Ok_seq ?_)
 obtain ⟨r, h, hm⟩ := obind hm
 refine jn hm (fun v => ⟨[(1, dV stops), (2, .ref 16 0), (27, dV v)], [bX 16 146 [dV x.Name, dV x.Stops, dV x.Runs]], 48⟩) (fun v hm => ?_) ?_
 ·rcases bf hm with ⟨hb, hm⟩ | ⟨hb, hm⟩
  ·refine re G (hC 2 (s_l2Name_c h) (hO 4 (.b true) (hP hb h0))) ?_
   exact wJ G hm
  ·obtain ⟨r1, h1, hm⟩ := obind hm
   rcases bf hm with ⟨hb1, hm⟩ | ⟨hb1, hm⟩
   ·refine re G (hC 2 (s_l2Name_c h) (hO 4 (.b false) (hP hb (hN 7 x.Stops (hC 8 (s_l1In_c h1) (hO 11 (.b true) (hP hb1 h0))))))) ?_
    exact wJ G hm
   ·refine re G (hC 2 (s_l2Name_c h) (hO 4 (.b false) (hP hb (hN 7 x.Stops (hC 8 (s_l1In_c h1) (hO 11 (.b false) (hP hb1 (hN 14 x.Runs (hN 17 x.Stops h0))))))))) ?_
    exact wJ G hm
 rintro v hm
 refine cd hm (fun hm => ?_) (fun hm => ?_)
 ·refine rg G ?_
  cases hm
  exact rt [] []
 ·refine X_skip (thN (Ok_seq (rg G (tF hm (fun _ => ⟨[(2, .ref 16 0)], [bX 16 146 [dV x.Name, dV x.Stops, dV x.Runs]], 48⟩) (fun v5 hr hm => ?_) ?_))))
  ·refine Ok_block (lp G hm (fun v1 => ⟨[(1, dV stops), (2, .ref 16 0), (5, dV v1)], [bX 16 146 [dV x.Name, dV x.Stops, dV x.Runs]], 48⟩) ?_)
   rintro v1 r0 hb2 hm
   rw [s_l2Line_L1] at hm
   refine Ok_seq (rs G (hN 3 x.Stops h0) ?_)
   refine cd hm (fun hm => ?_) (fun hm => ?_)
   ·refine X_skip (thN (Ok_seq (Ok_block ?_)))
    obtain ⟨e2, h6, hm⟩ := obind hm
    obtain ⟨r4, h7, hm⟩ := obind hm
    refine jn hm (fun v2 => ⟨[(1, dV stops), (2, .ref 16 0), (5, dV v1), (54, dV v2)], [bX 16 146 [dV x.Name, dV x.Stops, dV x.Runs]], 48⟩) (fun v2 hm => ?_) ?_
    ·rcases bf hm with ⟨hb3, hm⟩ | ⟨hb3, hm⟩
     ·refine de G [] (hD 3 h6 (hC 7 (s_l1In_c h7) (hO 9 (.b true) (hP hb3 h0)))) ?_
      exact wJ G hm
     ·obtain ⟨e3, h8, hm⟩ := obind hm
      obtain ⟨r5, h9, hm⟩ := obind hm
      refine de G [] (hD 3 h6 (hC 7 (s_l1In_c h7) (hO 9 (.b false) (hP hb3 (hD 14 h8 (hC 16 (s_l2Place_c h9) h0)))))) ?_
      exact wJ G hm
    rintro v2 hm
    refine cd hm (fun hm => ?_) (fun hm => ?_)
    ·refine rg G ?_
     have hm := eL hm hb2 hr
     cases hm
     exact rt [] []
    ·exact X_skip (ibN (thN (rh G (wL G hm))))
   ·exact Ok_exit (thE (thE (ibE (wE G hm hb2))))
  rintro ⟨⟩ hm s hw
  refine thN (Ok_weak hw ?_)
  refine Ok_seq (rg G (tF hm (fun _ => ⟨[], [], 32⟩) (fun v4 hr1 hm => ?_) ?_))
  ·refine Ok_block (lp G hm (fun v3 => ⟨[(2, .ref 16 0), (6, dV v3)], [bX 16 146 [dV x.Name, dV x.Stops, dV x.Runs]], 48⟩) ?_)
   rintro v3 r0 hb4 hm
   rw [s_l2Line_L2] at hm
   refine Ok_seq (rs G (hN 3 x.Runs h0) ?_)
   refine cd hm (fun hm => ?_) (fun hm => ?_)
   ·refine X_skip (thN (Ok_seq (Ok_block ?_)))
    obtain ⟨e5, h10, hm⟩ := obind hm
    obtain ⟨r7, h11, hm⟩ := obind hm
    refine rs G (hD 3 h10 (hC 5 (s_l1In_c h11) h0)) ?_
    refine cd hm (fun hm => ?_) (fun hm => ?_)
    ·refine rg G ?_
     have hm := eL hm hb4 hr1
     cases hm
     exact rt [] []
    ·exact X_skip (ibN (thN (rh G (wL G hm))))
   ·exact Ok_exit (thE (thE (ibE (wE G hm hb4))))
  rintro ⟨⟩ hm s1 hw1
  refine thN (Ok_weak hw1 ?_)
  refine rg G ?_
  cases hm
  exact rt [] []
noncomputable def s_l2LineNamed_M : MS (Network × ByteArray) Int := ⟨.x .r .r, fun x => s_l2LineNamed x.1 x.2, fun y => dV y, fun _ => [], fun _ _ => []⟩
theorem s_l2LineNamed_c {n name y} (hm : s_l2LineNamed n name = some y) : s_l2LineNamed_M.C (n, name) y := s_l2LineNamed_M.c (n, name) hm
theorem s_l2LineNamed_ok : FnOK Try.prog tJ 196 s_l2LineNamed_M.S := by
 refine fm tt s_l2LineNamed_M [] Try.call196 Try.func196 rfl Try.results196 Try.ntmps196 ?_
 rintro ⟨n, name⟩ y cx G hm
 have hm : s_l2LineNamed n name = some y := hm
 unfold s_l2LineNamed at hm
 refine rg G (Ok_seq (rg G (tF hm (fun _ => ⟨[], [], 32⟩) (fun v1 hr hm => ?_) ?_)))
 ·refine Ok_block (lp G hm (fun v => ⟨[(1, dV name), (2, .ref 16 0), (5, dV v)], [bX 16 32 [dV n.Stops, dV n.Lines]], 48⟩) ?_)
  rintro v r0 hb hm
  rw [s_l2LineNamed_L1] at hm
  refine Ok_seq (rs G (hN 3 n.Lines h0) ?_)
  refine cd hm (fun hm => ?_) (fun hm => ?_)
  ·refine X_skip (thN (Ok_seq (Ok_block ?_)))
   obtain ⟨e, h, hm⟩ := obind hm
   refine rs G (hD 3 h h0) ?_
   refine cd hm (fun hm => ?_) (fun hm => ?_)
   ·refine rg G ?_
    have hm := eL hm hb hr
    cases hm
    exact rt [] []
   ·exact X_skip (ibN (thN (rh G (wL G hm))))
  ·exact Ok_exit (thE (thE (ibE (wE G hm hb))))
 rintro ⟨⟩ hm s hw
 refine thN (Ok_weak hw ?_)
 refine rg G ?_
 cases hm
 exact rt [] []
noncomputable def s_l2Good_M : MS Network Bool := ⟨.r, s_l2Good, fun y => dV y, fun _ => [], fun _ _ => []⟩
theorem s_l2Good_c {n y} (hm : s_l2Good n = some y) : s_l2Good_M.C n y := s_l2Good_M.c n hm
theorem s_l2Good_ok : FnOK Try.prog tJ 136 s_l2Good_M.S := by
 refine fm tt s_l2Good_M [fo s_l1In_ok, fo s_l2Name_ok, fo s_l2Find_ok, fo s_l2Line_ok, fo s_l2LineNamed_ok] Try.call136 Try.func136 rfl Try.results136 Try.ntmps136 ?_
 rintro n y cx G hm
 have hm : s_l2Good n = some y := hm
 unfold s_l2Good at hm
 refine rg G (Ok_seq ?_)
 obtain ⟨r, h, hm⟩ := obind hm
 refine jn hm (fun v => ⟨[(1, .ref 16 0), (16, dV v)], [bX 16 32 [dV n.Stops, dV n.Lines]], 48⟩) (fun v hm => ?_) ?_
 ·rcases bf hm with ⟨hb, hm⟩ | ⟨hb, hm⟩
  ·refine re G (hN 2 n.Stops (hC 3 (s_l1In_c h) (hO 5 (.b true) (hP hb h0)))) ?_
   exact wJ G hm
  ·obtain ⟨r1, h1, hm⟩ := obind hm
   refine re G (hN 2 n.Stops (hC 3 (s_l1In_c h) (hO 5 (.b false) (hP hb (hN 8 n.Lines (hC 9 (s_l1In_c h1) h0)))))) ?_
   exact wJ G hm
 rintro v hm
 refine cd hm (fun hm => ?_) (fun hm => ?_)
 ·refine rg G ?_
  cases hm
  exact rt [] []
 ·refine X_skip (thN (Ok_seq (rg G (tF hm (fun _ => ⟨[(1, .ref 16 0)], [bX 16 32 [dV n.Stops, dV n.Lines]], 48⟩) (fun v5 hr hm => ?_) ?_))))
  ·refine Ok_block (lp G hm (fun i => ⟨[(1, .ref 16 0), (3, dV i)], [bX 16 32 [dV n.Stops, dV n.Lines]], 48⟩) ?_)
   rintro i r0 hb1 hm
   rw [s_l2Good_L1] at hm
   refine Ok_seq (rs G (hN 3 n.Stops h0) ?_)
   refine cd hm (fun hm => ?_) (fun hm => ?_)
   ·refine X_skip (thN (Ok_seq (Ok_block ?_)))
    obtain ⟨e2, h6, hm⟩ := obind hm
    obtain ⟨r4, h7, hm⟩ := obind hm
    refine jn hm (fun v1 => ⟨[(1, .ref 16 0), (3, dV i), (42, dV v1)], [bX 16 32 [dV n.Stops, dV n.Lines]], 48⟩) (fun v1 hm => ?_) ?_
    ·rcases bf hm with ⟨hb2, hm⟩ | ⟨hb2, hm⟩
     ·refine de G [] (hD 3 h6 (hC 5 (s_l2Name_c h7) (hO 7 (.b true) (hP hb2 h0)))) ?_
      exact wJ G hm
     ·obtain ⟨e3, h8, hm⟩ := obind hm
      obtain ⟨r5, h9, hm⟩ := obind hm
      refine de G [] (hD 3 h6 (hC 5 (s_l2Name_c h7) (hO 7 (.b false) (hP hb2 (hD 13 h8 (hC 15 (s_l2Find_c h9) h0)))))) ?_
      exact wJ G hm
    rintro v1 hm
    refine cd hm (fun hm => ?_) (fun hm => ?_)
    ·refine rg G ?_
     have hm := eL hm hb1 hr
     cases hm
     exact rt [] []
    ·exact X_skip (ibN (thN (rh G (wL G hm))))
   ·exact Ok_exit (thE (thE (ibE (wE G hm hb1))))
  rintro ⟨⟩ hm s hw
  refine thN (Ok_weak hw ?_)
  refine Ok_seq (rg G (tF hm (fun _ => ⟨[], [], 32⟩) (fun v4 hr1 hm => ?_) ?_))
  ·refine Ok_block (lp G hm (fun v2 => ⟨[(1, .ref 16 0), (4, dV v2)], [bX 16 32 [dV n.Stops, dV n.Lines]], 48⟩) ?_)
   rintro v2 r0 hb3 hm
   rw [s_l2Good_L2] at hm
   refine Ok_seq (rs G (hN 3 n.Lines h0) ?_)
   refine cd hm (fun hm => ?_) (fun hm => ?_)
   ·refine X_skip (thN (Ok_seq (Ok_block ?_)))
    obtain ⟨e7, h14, hm⟩ := obind hm
    obtain ⟨r9, h15, hm⟩ := obind hm
    refine jn hm (fun v3 => ⟨[(1, .ref 16 0), (4, dV v2), (71, dV v3)], [bX 16 32 [dV n.Stops, dV n.Lines]], 48⟩) (fun v3 hm => ?_) ?_
    ·rcases bf hm with ⟨hb4, hm⟩ | ⟨hb4, hm⟩
     ·refine de G [] (hD 3 h14 (hN 7 n.Stops (hC 8 (s_l2Line_c h15) (hO 10 (.b true) (hP hb4 h0))))) ?_
      exact wJ G hm
     ·obtain ⟨e8, h16, hm⟩ := obind hm
      obtain ⟨r10, h17, hm⟩ := obind hm
      refine de G [] (hD 3 h14 (hN 7 n.Stops (hC 8 (s_l2Line_c h15) (hO 10 (.b false) (hP hb4 (hD 15 h16 (hC 18 (s_l2LineNamed_c h17) h0))))))) ?_
      exact wJ G hm
    rintro v3 hm
    refine cd hm (fun hm => ?_) (fun hm => ?_)
    ·refine rg G ?_
     have hm := eL hm hb3 hr1
     cases hm
     exact rt [] []
    ·exact X_skip (ibN (thN (rh G (wL G hm))))
   ·exact Ok_exit (thE (thE (ibE (wE G hm hb3))))
  rintro ⟨⟩ hm s1 hw1
  refine thN (Ok_weak hw1 ?_)
  refine rg G ?_
  cases hm
  exact rt [] []
noncomputable def s_l4Time_M : MS Int Bool := ⟨.r, s_l4Time, fun y => dV y, fun _ => [], fun _ _ => []⟩
theorem s_l4Time_c {t y} (hm : s_l4Time t = some y) : s_l4Time_M.C t y := s_l4Time_M.c t hm
theorem s_l4Time_ok : FnOK Try.prog tJ 137 s_l4Time_M.S := by
 refine fm tt s_l4Time_M [fo s_l1In_ok] Try.call137 Try.func137 rfl Try.results137 Try.ntmps137 ?_
 rintro t y cx G hm
 have hm : s_l4Time t = some y := hm
 unfold s_l4Time at hm
 refine rg G ?_
 obtain ⟨r, h, hm⟩ := obind hm
 refine rs G (hC 1 (s_l1In_c h) h0) ?_
 cases hm
 exact rt [] []
noncomputable def s_l5Line_M : MS (Timetable × Int) Line := ⟨.x .r .r, fun x => s_l5Line x.1 x.2, fun y => dV y, fun _ => [], fun _ _ => []⟩
theorem s_l5Line_c {t i y} (hm : s_l5Line t i = some y) : s_l5Line_M.C (t, i) y := s_l5Line_M.c (t, i) hm
theorem s_l5Line_ok : FnOK Try.prog tJ 216 s_l5Line_M.S := by
 refine fm tt s_l5Line_M [] Try.call216 Try.func216 rfl Try.results216 Try.ntmps216 ?_
 rintro ⟨t, i⟩ y cx G hm
 have hm : s_l5Line t i = some y := hm
 unfold s_l5Line at hm
 refine rg G ?_
 obtain ⟨e2, h2, hm⟩ := obind hm
 obtain ⟨e3, h3, hm⟩ := obind hm
 refine ds G [(11, [32])] (hD 6 h2 (hD 9 h3 h0)) ?_
 cases hm
 exact rt [] []
noncomputable def s_l5Stops_M : MS (Timetable × Int) ((List Int)) := ⟨.x .r .r, fun x => s_l5Stops x.1 x.2, fun y => dV y, fun _ => [], fun _ _ => []⟩
theorem s_l5Stops_c {t i y} (hm : s_l5Stops t i = some y) : s_l5Stops_M.C (t, i) y := s_l5Stops_M.c (t, i) hm
theorem s_l5Stops_ok : FnOK Try.prog tJ 167 s_l5Stops_M.S := by
 refine fm tt s_l5Stops_M [fo s_l5Line_ok] Try.call167 Try.func167 rfl Try.results167 Try.ntmps167 ?_
 rintro ⟨t, i⟩ y cx G hm
 have hm : s_l5Stops t i = some y := hm
 unfold s_l5Stops at hm
 refine rg G ?_
 obtain ⟨r, h, hm⟩ := obind hm
 refine rs G (hC 2 (s_l5Line_c h) h0) ?_
 cases hm
 exact rt [] []
noncomputable def s_l2Run_M : MS (Line × Int × Int) Int := ⟨.x .r (.x .r .r), fun x => s_l2Run x.1 x.2.1 x.2.2, fun y => dV y, fun _ => [], fun _ _ => []⟩
theorem s_l2Run_c {x from_ to_ y} (hm : s_l2Run x from_ to_ = some y) : s_l2Run_M.C (x, from_, to_) y := s_l2Run_M.c (x, from_, to_) hm
theorem s_l2Run_ok : FnOK Try.prog tJ 161 s_l2Run_M.S := by
 refine fm tt s_l2Run_M [] Try.call161 Try.func161 rfl Try.results161 Try.ntmps161 ?_
 rintro ⟨x, from_, to_⟩ y cx G hm
 have hm : s_l2Run x from_ to_ = some y := hm
 unfold s_l2Run at hm
 refine rg G (rg G (Ok_seq (rg G (tl hm (fun v2 => ⟨[(7, dV v2)], [], 32⟩) (fun v2 hm => ?_) ?_))))
 ·refine Ok_block (lp G hm (fun (v, v1) => ⟨[(2, dV to_), (3, .ref 16 0), (7, dV v), (8, dV v1)], [bX 16 146 [dV x.Name, dV x.Stops, dV x.Runs]], 48⟩) ?_)
  rintro ⟨v, v1⟩ r0 hb hm
  rw [s_l2Run_L1] at hm
  refine Ok_seq (rg G (cd hm (fun hm => ?_) (fun hm => ?_)))
  ·refine X_skip (thN (Ok_seq (Ok_block ?_)))
   obtain ⟨e, h, hm⟩ := obind hm
   refine re G (hD 4 h h0) ?_
   exact ibN (thN (rh G (wL G hm)))
  ·exact Ok_exit (thE (thE (ibE (wD G hm hb))))
 rintro v2 hm s hw
 refine thN (Ok_weak hw ?_)
 refine rg G ?_
 cases hm
 exact rt [] []
noncomputable def s_l5At_M : MS (Timetable × Int × Int) Int := ⟨.x .r (.x .r .r), fun x => s_l5At x.1 x.2.1 x.2.2, fun y => dV y, fun _ => [], fun _ _ => []⟩
theorem s_l5At_c {t i k y} (hm : s_l5At t i k = some y) : s_l5At_M.C (t, i, k) y := s_l5At_M.c (t, i, k) hm
theorem s_l5At_ok : FnOK Try.prog tJ 169 s_l5At_M.S := by
 refine fm tt s_l5At_M [fo s_l5Line_ok, fo s_l2Run_ok] Try.call169 Try.func169 rfl Try.results169 Try.ntmps169 ?_
 rintro ⟨t, i, k⟩ y cx G hm
 have hm : s_l5At t i k = some y := hm
 unfold s_l5At at hm
 refine rg G ?_
 obtain ⟨e1, h3, hm⟩ := obind hm
 obtain ⟨r2, h4, hm⟩ := obind hm
 obtain ⟨r3, h5, hm⟩ := obind hm
 refine ds G [] (hD 3 h3 (hC 8 (s_l5Line_c h4) (hC 10 (s_l2Run_c h5) h0))) ?_
 cases hm
 exact rt [] []
noncomputable def s_l5End_M : MS (Timetable × Int) Int := ⟨.x .r .r, fun x => s_l5End x.1 x.2, fun y => dV y, fun _ => [], fun _ _ => []⟩
theorem s_l5End_c {t i y} (hm : s_l5End t i = some y) : s_l5End_M.C (t, i) y := s_l5End_M.c (t, i) hm
theorem s_l5End_ok : FnOK Try.prog tJ 138 s_l5End_M.S := by
 refine fm tt s_l5End_M [fo s_l5Stops_ok, fo s_l5At_ok] Try.call138 Try.func138 rfl Try.results138 Try.ntmps138 ?_
 rintro ⟨t, i⟩ y cx G hm
 have hm : s_l5End t i = some y := hm
 unfold s_l5End at hm
 refine rg G ?_
 obtain ⟨r2, h2, hm⟩ := obind hm
 obtain ⟨r3, h3, hm⟩ := obind hm
 refine ds G [] (hC 4 (s_l5Stops_c h2) (hN 5 r2 (hC 7 (s_l5At_c h3) h0))) ?_
 cases hm
 exact rt [] []
noncomputable def s_l5Good_M : MS Timetable Bool := ⟨.r, s_l5Good, fun y => dV y, fun _ => [], fun _ _ => []⟩
theorem s_l5Good_c {t y} (hm : s_l5Good t = some y) : s_l5Good_M.C t y := s_l5Good_M.c t hm
theorem s_l5Good_ok : FnOK Try.prog tJ 64 s_l5Good_M.S := by
 refine fm tt s_l5Good_M [fo s_l2Good_ok, fo s_l1In_ok, fo s_l4Time_ok, fo s_l5End_ok] Try.call64 Try.func64 rfl Try.results64 Try.ntmps64 ?_
 rintro t y cx G hm
 have hm : s_l5Good t = some y := hm
 unfold s_l5Good at hm
 refine rg G (Ok_seq ?_)
 obtain ⟨r, h, hm⟩ := obind hm
 refine jn hm (fun v => ⟨[(1, .ref 16 0), (14, dV v)], [bX 16 35 [dV t.Network.Stops, dV t.Network.Lines, dV t.Trips]], 48⟩) (fun v hm => ?_) ?_
 ·rcases bf hm with ⟨hb, hm⟩ | ⟨hb, hm⟩
  ·refine re G (hC 2 (s_l2Good_c h) (hO 4 (.b true) (hP hb h0))) ?_
   exact wJ G hm
  ·refine re G (hC 2 (s_l2Good_c h) (hO 4 (.b false) (hP hb (hN 7 t.Trips h0)))) ?_
   exact wJ G hm
 rintro v hm
 refine cd hm (fun hm => ?_) (fun hm => ?_)
 ·refine rg G ?_
  cases hm
  exact rt [] []
 ·refine X_skip (thN (Ok_seq (rg G (tF hm (fun _ => ⟨[], [], 32⟩) (fun v2 hr hm => ?_) ?_))))
  ·refine Ok_block (lp G hm (fun x => ⟨[(1, .ref 16 0), (3, dV x)], [bX 16 35 [dV t.Network.Stops, dV t.Network.Lines, dV t.Trips]], 48⟩) ?_)
   rintro x r0 hb1 hm
   rw [s_l5Good_L1] at hm
   refine Ok_seq (rs G (hN 3 t.Trips h0) ?_)
   refine cd hm (fun hm => ?_) (fun hm => ?_)
   ·refine X_skip (thN (Ok_seq (Ok_block ?_)))
    obtain ⟨e, h1, hm⟩ := obind hm
    refine rs G (hD 3 h1 h0) ?_
    obtain ⟨r6, h8, hm⟩ := obind hm
    refine jn hm (fun v1 => ⟨[(1, .ref 16 0), (3, dV x), (70, dV v1)], [bX 16 35 [dV t.Network.Stops, dV t.Network.Lines, dV t.Trips]], 48⟩) (fun v1 hm => ?_) ?_
    ·rcases bf hm with ⟨hb2, hm⟩ | ⟨hb2, hm⟩
     ·refine de G [] (hC 2 (s_l1In_c h8) (hO 4 (.b true) (hP hb2 h0))) ?_
      exact wJ G hm
     ·obtain ⟨r7, h9, hm⟩ := obind hm
      rcases bf hm with ⟨hb3, hm⟩ | ⟨hb3, hm⟩
      ·refine de G [] (hC 2 (s_l1In_c h8) (hO 4 (.b false) (hP hb2 (hN 10 t.Network.Lines (hC 12 (s_l1In_c h9) (hO 15 (.b true) (hP hb3 h0))))))) ?_
       exact wJ G hm
      ·obtain ⟨r8, h10, hm⟩ := obind hm
       rcases bf hm with ⟨hb4, hm⟩ | ⟨hb4, hm⟩
       ·refine de G [] (hC 2 (s_l1In_c h8) (hO 4 (.b false) (hP hb2 (hN 10 t.Network.Lines (hC 12 (s_l1In_c h9) (hO 15 (.b false) (hP hb3 (hC 18 (s_l4Time_c h10) (hO 21 (.b true) (hP hb4 h0)))))))))) ?_
        exact wJ G hm
       ·obtain ⟨r9, h11, hm⟩ := obind hm
        obtain ⟨r10, h12, hm⟩ := obind hm
        rcases bf hm with ⟨hb5, hm⟩ | ⟨hb5, hm⟩
        ·refine de G [] (hC 2 (s_l1In_c h8) (hO 4 (.b false) (hP hb2 (hN 10 t.Network.Lines (hC 12 (s_l1In_c h9) (hO 15 (.b false) (hP hb3 (hC 18 (s_l4Time_c h10) (hO 21 (.b false) (hP hb4 (hC 24 (s_l5End_c h11) (hC 25 (s_l4Time_c h12) (hO 28 (.b true) (hP hb5 h0)))))))))))))) ?_
         exact wJ G hm
        ·rcases bf hm with ⟨hb6, hm⟩ | ⟨hb6, hm⟩
         ·obtain ⟨e2, h13, hm⟩ := obind hm
          refine de G [] (hC 2 (s_l1In_c h8) (hO 4 (.b false) (hP hb2 (hN 10 t.Network.Lines (hC 12 (s_l1In_c h9) (hO 15 (.b false) (hP hb3 (hC 18 (s_l4Time_c h10) (hO 21 (.b false) (hP hb4 (hC 24 (s_l5End_c h11) (hC 25 (s_l4Time_c h12) (hO 28 (.b false) (hP hb5 (hO 31 (.b true) (hP hb6 (hD 36 h13 h0))))))))))))))))) ?_
          exact wJ G hm
         ·refine de G [] (hC 2 (s_l1In_c h8) (hO 4 (.b false) (hP hb2 (hN 10 t.Network.Lines (hC 12 (s_l1In_c h9) (hO 15 (.b false) (hP hb3 (hC 18 (s_l4Time_c h10) (hO 21 (.b false) (hP hb4 (hC 24 (s_l5End_c h11) (hC 25 (s_l4Time_c h12) (hO 28 (.b false) (hP hb5 (hO 31 (.b false) (hP hb6 h0)))))))))))))))) ?_
          exact wJ G hm
    rintro v1 hm
    refine cd hm (fun hm => ?_) (fun hm => ?_)
    ·refine rg G ?_
     have hm := eL hm hb1 hr
     cases hm
     exact rt [] []
    ·exact X_skip (ibN (thN (rh G (wL G hm))))
   ·exact Ok_exit (thE (thE (ibE (wE G hm hb1))))
  rintro ⟨⟩ hm s hw
  refine thN (Ok_weak hw ?_)
  refine rg G ?_
  cases hm
  exact rt [] []
noncomputable def s_l8Asked_M : MS (Timetable × Int) Bool := ⟨.x .r .r, fun x => s_l8Asked x.1 x.2, fun y => dV y, fun _ => [], fun _ _ => []⟩
theorem s_l8Asked_c {t change y} (hm : s_l8Asked t change = some y) : s_l8Asked_M.C (t, change) y := s_l8Asked_M.c (t, change) hm
theorem s_l8Asked_ok : FnOK Try.prog tJ 220 s_l8Asked_M.S := by
 refine fm tt s_l8Asked_M [fo s_l5Good_ok, fo s_l1In_ok] Try.call220 Try.func220 rfl Try.results220 Try.ntmps220 ?_
 rintro ⟨t, change⟩ y cx G hm
 have hm : s_l8Asked t change = some y := hm
 unfold s_l8Asked at hm
 refine rg G ?_
 obtain ⟨r, h, hm⟩ := obind hm
 refine jn hm (fun v => ⟨[(4, dV v)], [], 32⟩) (fun v hm => ?_) ?_
 ·rcases bf hm with ⟨hb, hm⟩ | ⟨hb, hm⟩
  ·obtain ⟨r1, h1, hm⟩ := obind hm
   refine re G (hC 1 (s_l5Good_c h) (hO 2 (.b true) (hP hb (hC 4 (s_l1In_c h1) h0)))) ?_
   exact wJ G hm
  ·refine re G (hC 1 (s_l5Good_c h) (hO 2 (.b false) (hP hb h0))) ?_
   exact wJ G hm
 rintro v hm
 cases hm
 exact rt [] []
noncomputable def s_l8From_M : MS (Timetable × Int × Int × Int) Bool := ⟨.x .r (.x .r (.x .r .r)), fun x => s_l8From x.1 x.2.1 x.2.2.1 x.2.2.2, fun y => dV y, fun _ => [], fun _ _ => []⟩
theorem s_l8From_c {t change from_ at_ y} (hm : s_l8From t change from_ at_ = some y) : s_l8From_M.C (t, change, from_, at_) y := s_l8From_M.c (t, change, from_, at_) hm
theorem s_l8From_ok : FnOK Try.prog tJ 178 s_l8From_M.S := by
 refine fm tt s_l8From_M [fo s_l8Asked_ok, fo s_l1In_ok, fo s_l4Time_ok] Try.call178 Try.func178 rfl Try.results178 Try.ntmps178 ?_
 rintro ⟨t, change, from_, at_⟩ y cx G hm
 have hm : s_l8From t change from_ at_ = some y := hm
 unfold s_l8From at hm
 refine rg G ?_
 obtain ⟨r, h, hm⟩ := obind hm
 refine jn hm (fun v => ⟨[(8, dV v)], [], 32⟩) (fun v hm => ?_) ?_
 ·rcases bf hm with ⟨hb, hm⟩ | ⟨hb, hm⟩
  ·obtain ⟨r1, h1, hm⟩ := obind hm
   rcases bf hm with ⟨hb1, hm⟩ | ⟨hb1, hm⟩
   ·obtain ⟨r2, h2, hm⟩ := obind hm
    refine re G (hC 2 (s_l8Asked_c h) (hO 3 (.b true) (hP hb (hN 8 t.Network.Stops (hC 10 (s_l1In_c h1) (hO 12 (.b true) (hP hb1 (hC 14 (s_l4Time_c h2) h0)))))))) ?_
    exact wJ G hm
   ·refine re G (hC 2 (s_l8Asked_c h) (hO 3 (.b true) (hP hb (hN 8 t.Network.Stops (hC 10 (s_l1In_c h1) (hO 12 (.b false) (hP hb1 h0))))))) ?_
    exact wJ G hm
  ·refine re G (hC 2 (s_l8Asked_c h) (hO 3 (.b false) (hP hb h0))) ?_
   exact wJ G hm
 rintro v hm
 cases hm
 exact rt [] []
noncomputable def s_l8Pair_M : MS (Timetable × Int × Int × Int × Int) Bool := ⟨.x .r (.x .r (.x .r (.x .r .r))), fun x => s_l8Pair x.1 x.2.1 x.2.2.1 x.2.2.2.1 x.2.2.2.2, fun y => dV y, fun _ => [], fun _ _ => []⟩
theorem s_l8Pair_c {t change from_ to_ at_ y} (hm : s_l8Pair t change from_ to_ at_ = some y) : s_l8Pair_M.C (t, change, from_, to_, at_) y := s_l8Pair_M.c (t, change, from_, to_, at_) hm
theorem s_l8Pair_ok : FnOK Try.prog tJ 123 s_l8Pair_M.S := by
 refine fm tt s_l8Pair_M [fo s_l8From_ok, fo s_l1In_ok] Try.call123 Try.func123 rfl Try.results123 Try.ntmps123 ?_
 rintro ⟨t, change, from_, to_, at_⟩ y cx G hm
 have hm : s_l8Pair t change from_ to_ at_ = some y := hm
 unfold s_l8Pair at hm
 refine rg G ?_
 obtain ⟨r, h, hm⟩ := obind hm
 refine jn hm (fun v => ⟨[(10, dV v)], [], 32⟩) (fun v hm => ?_) ?_
 ·rcases bf hm with ⟨hb, hm⟩ | ⟨hb, hm⟩
  ·obtain ⟨r1, h1, hm⟩ := obind hm
   rcases bf hm with ⟨hb1, hm⟩ | ⟨hb1, hm⟩
   ·refine re G (hC 4 (s_l8From_c h) (hO 5 (.b true) (hP hb (hN 10 t.Network.Stops (hC 12 (s_l1In_c h1) (hO 14 (.b true) (hP hb1 h0))))))) ?_
    exact wJ G hm
   ·refine re G (hC 4 (s_l8From_c h) (hO 5 (.b true) (hP hb (hN 10 t.Network.Stops (hC 12 (s_l1In_c h1) (hO 14 (.b false) (hP hb1 h0))))))) ?_
    exact wJ G hm
  ·refine re G (hC 4 (s_l8From_c h) (hO 5 (.b false) (hP hb h0))) ?_
   exact wJ G hm
 rintro v hm
 cases hm
 exact rt [] []
noncomputable def s_l8Arrivals_M : MS (Timetable × Int × Int × Int × Int) ((List Int)) := ⟨.x .r (.x .r (.x .r (.x .r .r))), fun x => s_l8Arrivals x.1 x.2.1 x.2.2.1 x.2.2.2.1 x.2.2.2.2, fun _ => .own 0, fun y => [arO 3 y], fun _ _ => []⟩
theorem s_l8Arrivals_c {t change from_ at_ legs y} (hm : s_l8Arrivals t change from_ at_ legs = some y) : s_l8Arrivals_M.C (t, change, from_, at_, legs) y := s_l8Arrivals_M.c (t, change, from_, at_, legs) hm
theorem s_l8Arrivals_ok : FnOK Try.prog tJ 124 s_l8Arrivals_M.S := by
 refine fm tt s_l8Arrivals_M [fo s_l5Stops_ok, fo s_l5At_ok] Try.call124 Try.func124 rfl Try.results124 Try.ntmps124 ?_
 rintro ⟨t, change, from_, at_, legs⟩ y cx G hm
 have hm : s_l8Arrivals t change from_ at_ legs = some y := hm
 unfold s_l8Arrivals at hm
 refine rg G ?_
 obtain ⟨u, h, hm⟩ := obind hm
 refine rs G (hN 3 t.Network.Stops (hO 4 (.l (List.map Enc.e (List.replicate (t.Network.Stops.length : Int).toNat (0 : Int)))) (hP (mk_p (b := 8) (chk_t h) rfl) (hP (rep_m Enc.e (t.Network.Stops.length : Int).toNat (0 : Int)) h0)))) ?_
 refine Ok_seq (rg G (tl hm (fun i1 => ⟨[(1, dV change), (2, dV from_), (3, dV at_), (4, dV legs), (5, .ref 16 0), (11, .own 32)], [bX 16 35 [dV t.Network.Stops, dV t.Network.Lines, dV t.Trips], aX 32 3 i1], 64⟩) (fun i1 hm => ?_) ?_))
 ·refine Ok_block (lp G hm (fun (on_, i) => ⟨[(1, dV change), (2, dV from_), (3, dV at_), (4, dV legs), (5, .ref 16 0), (11, .own 32), (12, dV on_)], [bX 16 35 [dV t.Network.Stops, dV t.Network.Lines, dV t.Trips], aX 32 3 i], 64⟩) ?_)
  rintro ⟨on_, i⟩ r0 hb hm
  rw [s_l8Arrivals_L1] at hm
  refine Ok_seq (rs G (hN 2 i h0) ?_)
  refine cd hm (fun hm => ?_) (fun hm => ?_)
  ·refine X_skip (thN (Ok_seq (Ok_block ?_)))
   obtain ⟨e, h1, hm⟩ := obind hm
   refine re G (hD 2 h1 (hS 3 h1 (-1) h0)) ?_
   exact ibN (thN (rh G (wL G hm)))
  ·exact Ok_exit (thE (thE (ibE (wD G hm hb))))
 rintro i1 hm s hw
 refine thN (Ok_weak hw ?_)
 obtain ⟨e1, h2, hm⟩ := obind hm
 refine rs G (hD 3 h2 (hS 4 h2 at_ h0)) ?_
 refine Ok_seq (rg G (tl hm (fun i3 => ⟨[(11, .own 16)], [aX 16 3 i3], 48⟩) (fun i3 hm => ?_) ?_))
 ·refine Ok_block (lp G hm (fun (stops, i2) => ⟨[(1, dV change), (2, dV from_), (3, dV at_), (4, dV legs), (5, .ref 16 0), (11, .own 32), (13, dV stops)], [bX 16 35 [dV t.Network.Stops, dV t.Network.Lines, dV t.Trips], aX 32 3 i2], 64⟩) ?_)
  rintro ⟨stops, i2⟩ r0 hb1 hm
  rw [s_l8Arrivals_L4] at hm
  refine Ok_seq (rg G (cd hm (fun hm => ?_) (fun hm => ?_)))
  ·refine X_skip (thN (Ok_seq (Ok_block ?_)))
   obtain ⟨u1, h3, hm⟩ := obind hm
   refine rs G (hA 2 8 h3 h0) ?_
   refine rg G (jn hm (fun s1 => ⟨[(1, dV change), (2, dV from_), (3, dV at_), (4, dV legs), (5, .ref 16 0), (11, .own 32), (13, dV stops), (14, .own 48), (15, dV s1)], [bX 16 35 [dV t.Network.Stops, dV t.Network.Lines, dV t.Trips], aX 32 3 i2, aX 48 3 (([] : List Int) ++ i2)], 80⟩) (fun s1 hm => ?_) ?_)
   ·refine rg G (cd hm (fun hm => ?_) (fun hm => ?_))
    ·exact rh G (wJ G hm)
    ·exact X_skip (wJ G hm)
   rintro s1 hm
   refine Ok_seq (rg G (tl hm (fun k4 => ⟨[(1, dV change), (2, dV from_), (3, dV at_), (4, dV legs), (5, .ref 16 0), (13, dV stops), (14, .own 32)], [bX 16 35 [dV t.Network.Stops, dV t.Network.Lines, dV t.Trips], aX 32 3 k4], 64⟩) (fun k4 hm => ?_) ?_))
   ·refine Ok_block (lp G hm (fun (time, k) => ⟨[(1, dV change), (2, dV from_), (3, dV at_), (4, dV legs), (5, .ref 16 0), (11, .own 32), (13, dV stops), (14, .own 48), (15, dV s1), (16, dV time)], [bX 16 35 [dV t.Network.Stops, dV t.Network.Lines, dV t.Trips], aX 32 3 i2, aX 48 3 k], 80⟩) ?_)
    rintro ⟨time, k⟩ r0 hb2 hm
    rw [s_l8Arrivals_L3] at hm
    refine Ok_seq (rs G (hN 3 t.Trips h0) ?_)
    refine cd hm (fun hm => ?_) (fun hm => ?_)
    ·refine X_skip (thN (Ok_seq (Ok_block (rg G ?_))))
     obtain ⟨r, h4, hm⟩ := obind hm
     refine rs G (hC 2 (s_l5Stops_c h4) h0) ?_
     refine rg G (tl hm (fun k3 => ⟨[(1, dV change), (2, dV from_), (3, dV at_), (4, dV legs), (5, .ref 16 0), (11, .own 32), (13, dV stops), (14, .own 48), (15, dV s1), (16, dV time)], [bX 16 35 [dV t.Network.Stops, dV t.Network.Lines, dV t.Trips], aX 32 3 i2, aX 48 3 k3], 80⟩) (fun k3 hm => ?_) ?_)
     ·refine Ok_block (lp G hm (fun (ready, v, k1) => ⟨[(1, dV change), (2, dV from_), (3, dV at_), (4, dV legs), (5, .ref 16 0), (11, .own 32), (13, dV stops), (14, .own 48), (15, dV s1), (16, dV time), (17, dV ready), (18, dV r), (19, dV v)], [bX 16 35 [dV t.Network.Stops, dV t.Network.Lines, dV t.Trips], aX 32 3 i2, aX 48 3 k1], 80⟩) ?_)
      rintro ⟨ready, v, k1⟩ r0 hb3 hm
      rw [s_l8Arrivals_L2] at hm
      refine Ok_seq (rs G (hN 2 r h0) ?_)
      refine cd hm (fun hm => ?_) (fun hm => ?_)
      ·refine X_skip (thN (Ok_seq (Ok_block ?_)))
       obtain ⟨e3, h7, hm⟩ := obind hm
       obtain ⟨r2, h8, hm⟩ := obind hm
       refine ds G [] (hD 2 h7 (hC 7 (s_l5At_c h8) h0)) ?_
       refine jn hm (fun k2 => ⟨[(1, dV change), (2, dV from_), (3, dV at_), (4, dV legs), (5, .ref 16 0), (11, .own 32), (13, dV stops), (14, .own 48), (15, dV s1), (16, dV time), (17, dV ready), (18, dV r), (19, dV v), (20, dV e3), (21, dV r2)], [bX 16 35 [dV t.Network.Stops, dV t.Network.Lines, dV t.Trips], aX 32 3 i2, aX 48 3 k2], 80⟩) (fun k2 hm => ?_) ?_
       ·refine jn hm (fun v1 => ⟨[(1, dV change), (2, dV from_), (3, dV at_), (4, dV legs), (5, .ref 16 0), (11, .own 32), (13, dV stops), (14, .own 48), (15, dV s1), (16, dV time), (17, dV ready), (18, dV r), (19, dV v), (20, dV e3), (21, dV r2), (91, dV v1)], [bX 16 35 [dV t.Network.Stops, dV t.Network.Lines, dV t.Trips], aX 32 3 i2, aX 48 3 k1], 80⟩) (fun v1 hm => ?_) ?_
        ·rcases bf hm with ⟨hb4, hm⟩ | ⟨hb4, hm⟩
         ·obtain ⟨e4, h9, hm⟩ := obind hm
          rcases bf hm with ⟨hb5, hm⟩ | ⟨hb5, hm⟩
          ·refine re G (hO 1 (.b true) (hP hb4 (hD 4 h9 (hE 5 h9 (hO 7 (.b true) (hP hb5 h0)))))) ?_
           exact wJ G hm
          ·obtain ⟨e5, h10, hm⟩ := obind hm
           refine re G (hO 1 (.b true) (hP hb4 (hD 4 h9 (hE 5 h9 (hO 7 (.b false) (hP hb5 (hD 11 h10 (hE 12 h10 h0)))))))) ?_
           exact wJ G hm
         ·refine re G (hO 1 (.b false) (hP hb4 h0)) ?_
          exact wJ G hm
        rintro v1 hm
        refine cd hm (fun hm => ?_) (fun hm => ?_)
        ·obtain ⟨e6, h11, hm⟩ := obind hm
         refine re G (hD 3 h11 (hS 4 h11 r2 h0)) ?_
         exact wJ G hm
        ·exact X_skip (wJ G hm)
       rintro k2 hm
       obtain ⟨e7, h12, hm⟩ := obind hm
       refine rs G (hD 2 h12 (hE 3 h12 h0)) ?_
       refine jn hm (fun v2 => ⟨[(1, dV change), (2, dV from_), (3, dV at_), (4, dV legs), (5, .ref 16 0), (11, .own 32), (13, dV stops), (14, .own 48), (15, dV s1), (16, dV time), (17, dV ready), (18, dV r), (19, dV v), (20, dV e3), (21, dV r2), (22, dV v2)], [bX 16 35 [dV t.Network.Stops, dV t.Network.Lines, dV t.Trips], aX 32 3 i2, aX 48 3 k2], 80⟩) (fun v2 hm => ?_) ?_
       ·refine rg G (cd hm (fun hm => ?_) (fun hm => ?_))
        ·exact rh G (wJ G hm)
        ·exact X_skip (wJ G hm)
       rintro v2 hm
       rcases bf hm with ⟨hb6, hm⟩ | ⟨hb6, hm⟩
       ·refine re G (hO 1 (.b true) (hP hb6 h0)) ?_
        exact ibN (thN (rh G (wL G hm)))
       ·obtain ⟨e8, h13, hm⟩ := obind hm
        rcases bf hm with ⟨hb7, hm⟩ | ⟨hb7, hm⟩
        ·refine re G (hO 1 (.b false) (hP hb6 (hD 4 h13 (hE 5 h13 (hO 7 (.b true) (hP hb7 h0)))))) ?_
         exact ibN (thN (rh G (wL G hm)))
        ·refine re G (hO 1 (.b false) (hP hb6 (hD 4 h13 (hE 5 h13 (hO 7 (.b false) (hP hb7 h0)))))) ?_
         exact ibN (thN (rh G (wL G hm)))
      ·exact Ok_exit (thE (thE (ibE (wD G hm hb3))))
     rintro k3 hm s2 hw1
     refine ibN (thN (Ok_weak hw1 ?_))
     exact rh G (wL G hm)
    ·exact Ok_exit (thE (thE (ibE (wD G hm hb2))))
   rintro k4 hm s3 hw2
   refine thN (Ok_weak hw2 ?_)
   exact rh G (ibN (thN (rh G (wL G hm))))
  ·exact Ok_exit (thE (thE (ibE (wD G hm hb1))))
 rintro i3 hm s4 hw3
 refine thN (Ok_weak hw3 ?_)
 refine rg G ?_
 cases hm
 exact rt [16] []
noncomputable def s_l8Leg_M : MS (Timetable × Int × Int × Int) Leg := ⟨.x .r (.x .r (.x .r .r)), fun x => s_l8Leg x.1 x.2.1 x.2.2.1 x.2.2.2, fun y => dV y, fun _ => [], fun _ _ => []⟩
theorem s_l8Leg_c {t i a b y} (hm : s_l8Leg t i a b = some y) : s_l8Leg_M.C (t, i, a, b) y := s_l8Leg_M.c (t, i, a, b) hm
theorem s_l8Leg_ok : FnOK Try.prog tJ 221 s_l8Leg_M.S := by
 refine fm tt s_l8Leg_M [fo s_l5Stops_ok, fo s_l5At_ok] Try.call221 Try.func221 rfl Try.results221 Try.ntmps221 ?_
 rintro ⟨t, i, a, b⟩ y cx G hm
 have hm : s_l8Leg t i a b = some y := hm
 unfold s_l8Leg at hm
 refine rg G ?_
 obtain ⟨r, h, hm⟩ := obind hm
 refine rs G (hC 2 (s_l5Stops_c h) h0) ?_
 obtain ⟨e3, h6, hm⟩ := obind hm
 obtain ⟨e4, h7, hm⟩ := obind hm
 obtain ⟨e5, h8, hm⟩ := obind hm
 obtain ⟨r3, h9, hm⟩ := obind hm
 obtain ⟨r4, h10, hm⟩ := obind hm
 refine ds G [(23, [32])] (hD 3 h6 (hD 8 h7 (hD 12 h8 (hC 17 (s_l5At_c h9) (hC 21 (s_l5At_c h10) h0))))) ?_
 cases hm
 exact rt [] []
noncomputable def s_l8Search_extend_w_MR (rec_ : l8Search → (List Leg) → Int → Int → Int → Option ((List Leg))) : MS (l8Search × (List Leg) × Int × Int × Int) ((List Leg)) := ⟨.x (.b 215) (.x (.s 104) (.x .r (.x .r .r))), fun x => rec_ x.1 x.2.1 x.2.2.1 x.2.2.2.1 x.2.2.2.2, fun _ => .own 0, fun y => [arO 104 y], fun x _ => [bxO 215 x.1, arO 104 x.2.1]⟩
noncomputable def s_l8Search_extend_w_M : MS (l8Search × (List Leg) × Int × Int × Int) ((List Leg)) := s_l8Search_extend_w_MR s_l8Search_extend_w
theorem s_l8Search_extend_w_c {x legs stop at_ more y} (hm : s_l8Search_extend_w x legs stop at_ more = some y) : s_l8Search_extend_w_M.C (x, legs, stop, at_, more) y := s_l8Search_extend_w_M.c (x, legs, stop, at_, more) hm
theorem s_l8Search_extend_w_cR {rec_ : l8Search → (List Leg) → Int → Int → Int → Option ((List Leg))} {x legs stop at_ more y} (hm : rec_ x legs stop at_ more = some y) : (s_l8Search_extend_w_MR rec_).C (x, legs, stop, at_, more) y := (s_l8Search_extend_w_MR rec_).c (x, legs, stop, at_, more) hm
theorem s_l8Search_extend_w_okF {rec_ : l8Search → (List Leg) → Int → Int → Int → Option ((List Leg))} (hrec : FnOK Try.prog tJ 179 (s_l8Search_extend_w_MR rec_).S) : FnOK Try.prog tJ 179 (s_l8Search_extend_w_MR (s_l8Search_extend_w_F rec_)).S := by
 refine fm tt (s_l8Search_extend_w_MR (s_l8Search_extend_w_F rec_)) [fo hrec, fo s_l5Line_ok, fo s_l2Place_ok, fo s_l5At_ok, fo s_l5Stops_ok, fo s_l8Leg_ok] Try.call179 Try.func179 rfl Try.results179 Try.ntmps179 ?_
 rintro ⟨x, legs, stop, at_, more⟩ y cx G hm
 have hm : s_l8Search_extend_w_F rec_ x legs stop at_ more = some y := hm
 unfold s_l8Search_extend_w_F at hm
 refine rg G (Ok_seq (rg G (tF hm (fun _ => ⟨[(0, .ref 0 0), (1, .own 1)], [bX 0 215 [dV x.t_.Network.Stops, dV x.t_.Network.Lines, dV x.t_.Trips, dV x.change_, dV x.to_, dV x.arrive_], aX 1 104 legs], 48⟩) (fun v7 hr hm => ?_) ?_)))
 ·refine Ok_block (lp G hm (fun s => ⟨[(0, .ref 0 0), (1, .own 1), (2, dV stop), (3, dV at_), (4, dV more), (11, dV s)], [bX 0 215 [dV x.t_.Network.Stops, dV x.t_.Network.Lines, dV x.t_.Trips, dV x.change_, dV x.to_, dV x.arrive_], aX 1 104 legs], 48⟩) ?_)
  rintro s r0 hb hm
  rw [s_l8Search_extend_w_L3] at hm
  refine Ok_seq (rs G (hN 6 x.t_.Trips h0) ?_)
  refine cd hm (fun hm => ?_) (fun hm => ?_)
  ·refine X_skip (thN (jF hm (fun _ => ⟨[(0, .ref 0 0), (1, .own 1), (2, dV stop), (3, dV at_), (4, dV more), (11, dV s)], [bX 0 215 [dV x.t_.Network.Stops, dV x.t_.Network.Lines, dV x.t_.Trips, dV x.change_, dV x.to_, dV x.arrive_], aX 1 104 legs], 48⟩) (fun v6 hr1 hm => ?_) ?_))
   ·refine Ok_block (rg G (Ok_seq (rg G (tl hm (fun b1 => ⟨[(0, .ref 0 0), (1, .own 1), (2, dV stop), (3, dV at_), (4, dV more), (11, dV s), (12, dV b1)], [bX 0 215 [dV x.t_.Network.Stops, dV x.t_.Network.Lines, dV x.t_.Trips, dV x.change_, dV x.to_, dV x.arrive_], aX 1 104 legs], 48⟩) (fun b1 hm => ?_) ?_))))
    ·refine Ok_block (lp G hm (fun (b, leg) => ⟨[(0, .ref 0 0), (1, .own 1), (2, dV stop), (3, dV at_), (4, dV more), (11, dV s), (12, dV b), (13, dV leg)], [bX 0 215 [dV x.t_.Network.Stops, dV x.t_.Network.Lines, dV x.t_.Trips, dV x.change_, dV x.to_, dV x.arrive_], aX 1 104 legs], 48⟩) ?_)
     rintro ⟨b, leg⟩ r0 hb1 hm
     rw [s_l8Search_extend_w_L1] at hm
     refine Ok_seq (rs G (hN 2 legs h0) ?_)
     refine cd hm (fun hm => ?_) (fun hm => ?_)
     ·refine X_skip (thN (Ok_seq (Ok_block ?_)))
      rcases bf hm with ⟨hb2, hm⟩ | ⟨hb2, hm⟩
      ·refine de G [] (hO 1 (.b true) (hP hb2 h0)) ?_
       exact ibN (thN (rh G (wL G hm)))
      ·obtain ⟨e2, h2, hm⟩ := obind hm
       obtain ⟨e3, h3, hm⟩ := obind hm
       refine de G [] (hO 1 (.b false) (hP hb2 (hD 4 h2 (hE 6 h2 (hD 13 h3 h0))))) ?_
       exact ibN (thN (rh G (wL G hm)))
     ·exact Ok_exit (thE (thE (ibE (wD G hm hb1))))
    rintro b1 hm s1 hw
    refine thN (Ok_weak hw ?_)
    obtain ⟨r, h4, hm⟩ := obind hm
    obtain ⟨r1, h5, hm⟩ := obind hm
    refine rs G (hC 5 (s_l5Line_c h4) (hC 7 (s_l2Place_c h5) h0)) ?_
    refine Ok_seq (jn hm (fun v => ⟨[(0, .ref 0 0), (1, .own 1), (2, dV stop), (3, dV at_), (4, dV more), (11, dV s), (14, dV r1), (78, dV v)], [bX 0 215 [dV x.t_.Network.Stops, dV x.t_.Network.Lines, dV x.t_.Trips, dV x.change_, dV x.to_, dV x.arrive_], aX 1 104 legs], 48⟩) (fun v hm => ?_) ?_)
    ·rcases bf hm with ⟨hb3, hm⟩ | ⟨hb3, hm⟩
     ·refine re G (hO 1 (.b true) (hP hb3 h0)) ?_
      exact wJ G hm
     ·rcases bf hm with ⟨hb4, hm⟩ | ⟨hb4, hm⟩
      ·refine re G (hO 1 (.b false) (hP hb3 (hO 5 (.b true) (hP hb4 h0)))) ?_
       exact wJ G hm
      ·obtain ⟨r2, h6, hm⟩ := obind hm
       refine re G (hO 1 (.b false) (hP hb3 (hO 5 (.b false) (hP hb4 (hC 12 (s_l5At_c h6) h0))))) ?_
       exact wJ G hm
    rintro v hm
    refine cd hm (fun hm => ?_) (fun hm => ?_)
    ·exact Ok_exit (thE (ibE (wF G hm)))
    ·refine X_skip (thN ?_)
     obtain ⟨r3, h7, hm⟩ := obind hm
     refine rs G (hC 5 (s_l5Stops_c h7) h0) ?_
     refine rg G (tF hm (fun _ => ⟨[(0, .ref 0 0), (1, .own 1), (2, dV stop), (3, dV at_), (4, dV more), (11, dV s)], [bX 0 215 [dV x.t_.Network.Stops, dV x.t_.Network.Lines, dV x.t_.Trips, dV x.change_, dV x.to_, dV x.arrive_], aX 1 104 legs], 48⟩) (fun v5 hr3 hm => ?_) ?_)
     ·refine Ok_block (lp G hm (fun v1 => ⟨[(0, .ref 0 0), (1, .own 1), (2, dV stop), (3, dV at_), (4, dV more), (11, dV s), (14, dV r1), (15, dV r3), (16, dV v1)], [bX 0 215 [dV x.t_.Network.Stops, dV x.t_.Network.Lines, dV x.t_.Trips, dV x.change_, dV x.to_, dV x.arrive_], aX 1 104 legs], 48⟩) ?_)
      rintro v1 r0 hb5 hm
      rw [s_l8Search_extend_w_L2] at hm
      refine Ok_seq (rs G (hN 7 x.t_.Network.Stops h0) ?_)
      refine cd hm (fun hm => ?_) (fun hm => ?_)
      ·refine X_skip (thN (jF hm (fun _ => ⟨[(0, .ref 0 0), (1, .own 1), (2, dV stop), (3, dV at_), (4, dV more), (11, dV s), (14, dV r1), (15, dV r3), (16, dV v1)], [bX 0 215 [dV x.t_.Network.Stops, dV x.t_.Network.Lines, dV x.t_.Trips, dV x.change_, dV x.to_, dV x.arrive_], aX 1 104 legs], 48⟩) (fun v4 hr4 hm => ?_) ?_))
       ·refine Ok_block ?_
        obtain ⟨r4, h8, hm⟩ := obind hm
        obtain ⟨r5, h9, hm⟩ := obind hm
        refine rs G (hC 5 (s_l5Line_c h8) (hC 7 (s_l2Place_c h9) h0)) ?_
        refine Ok_seq (jn hm (fun v2 => ⟨[(0, .ref 0 0), (1, .own 1), (2, dV stop), (3, dV at_), (4, dV more), (11, dV s), (14, dV r1), (15, dV r3), (16, dV v1), (17, dV r5), (126, dV v2)], [bX 0 215 [dV x.t_.Network.Stops, dV x.t_.Network.Lines, dV x.t_.Trips, dV x.change_, dV x.to_, dV x.arrive_], aX 1 104 legs], 48⟩) (fun v2 hm => ?_) ?_)
        ·rcases bf hm with ⟨hb6, hm⟩ | ⟨hb6, hm⟩
         ·refine de G [] (hO 3 (.b true) (hP hb6 h0)) ?_
          exact wJ G hm
         ·rcases bf hm with ⟨hb7, hm⟩ | ⟨hb7, hm⟩
          ·refine de G [] (hO 3 (.b false) (hP hb6 (hN 6 r3 (hO 9 (.b true) (hP hb7 h0))))) ?_
           exact wJ G hm
          ·obtain ⟨r7, h11, hm⟩ := obind hm
           refine de G [] (hO 3 (.b false) (hP hb6 (hN 6 r3 (hO 9 (.b false) (hP hb7 (hC 16 (s_l5At_c h11) h0)))))) ?_
           exact wJ G hm
        rintro v2 hm
        refine cd hm (fun hm => ?_) (fun hm => ?_)
        ·exact Ok_exit (thE (ibE (wF G hm)))
        ·refine X_skip (thN ?_)
         obtain ⟨r8, h12, hm⟩ := obind hm
         refine rs G (hC 7 (s_l8Leg_c h12) h0) ?_
         obtain ⟨u2, h15, hm⟩ := obind hm
         obtain ⟨u3, h16, hm⟩ := obind hm
         refine ds G [(2, [1, 208]), (5, [240, 272])] (hA 2 40 h15 (hA 5 40 h16 h0)) ?_
         refine Ok_seq (rg G (cd hm (fun hm => ?_) (fun hm => ?_)))
         ·refine Ok_seq (jn hm (fun v3 => ⟨[(0, .ref 0 0), (1, .own 1), (2, dV stop), (3, dV at_), (4, dV more), (11, dV s), (14, dV r1), (15, dV r3), (16, dV v1), (19, .own 32), (157, dV v3)], [bX 0 215 [dV x.t_.Network.Stops, dV x.t_.Network.Lines, dV x.t_.Trips, dV x.change_, dV x.to_, dV x.arrive_], aX 1 104 legs, aX 32 104 ((([] : List Leg) ++ legs) ++ ([r8] : List Leg))], 64⟩) (fun v3 hm => ?_) ?_)
          ·rcases bf hm with ⟨hb8, hm⟩ | ⟨hb8, hm⟩
           ·refine de G [] (hO 6 (.b true) (hP hb8 h0)) ?_
            exact wJ G hm
           ·refine de G [] (hO 6 (.b false) (hP hb8 h0)) ?_
            exact wJ G hm
          rintro v3 hm
          refine cd hm (fun hm => ?_) (fun hm => ?_)
          ·refine rg G ?_
           have hm := eR hm hr4
           have hm := eL hm hb5 hr3
           have hm := eR hm hr1
           have hm := eL hm hb hr
           cases hm
           exact rt [32] []
          ·exact X_skip (thN (Ok_exit (thE (ibE (wF G hm)))))
         ·refine X_skip (thN ?_)
          obtain ⟨r14, h18, hm⟩ := obind hm
          refine ds G [(12, [0, 288])] (hC 12 (s_l8Search_extend_w_cR h18) h0) ?_
          refine rs G (hN 1 r14 h0) ?_
          refine cd hm (fun hm => ?_) (fun hm => ?_)
          ·refine rg G ?_
           have hm := eR hm hr4
           have hm := eL hm hb5 hr3
           have hm := eR hm hr1
           have hm := eL hm hb hr
           cases hm
           exact rt [544] []
          ·exact X_skip (ibN (wF G hm))
       rintro ⟨⟩ hm
       exact rh G (wL G hm)
      ·exact Ok_exit (thE (thE (ibE (wE G hm hb5))))
     rintro ⟨⟩ hm s2 hw1
     exact ibN (wFp hm (Wk.trans hw1 (Wk_J G.hL ⟨[(0, []), (1, []), (2, []), (3, []), (4, []), (11, [])], [(0, 0, []), (1, 1, [])], [], 48⟩ (by kernel_rfl))))
   rintro ⟨⟩ hm
   exact rh G (wL G hm)
  ·exact Ok_exit (thE (thE (ibE (wE G hm hb))))
 rintro ⟨⟩ hm s3 hw2
 refine thN (Ok_weak hw2 ?_)
 refine rg G ?_
 cases hm
 exact rt [48] []
theorem s_l8Search_extend_w_okn : ∀ k, FnOK Try.prog tJ 179 (s_l8Search_extend_w_MR (s_l8Search_extend_w_k k)).S
 | 0 => ⟨fun args w => Try.call179 args w, fun vs w F ds obs κ hp => by obtain ⟨x, y, _, _, h⟩ := hp; cases h⟩
 | k + 1 => s_l8Search_extend_w_okF (s_l8Search_extend_w_okn k)
theorem s_l8Search_extend_w_ok : FnOK Try.prog tJ 179 s_l8Search_extend_w_M.S := s_l8Search_extend_w_okn 4294967296
noncomputable def s_l8Search_extend_M : MS (l8Search × (List Leg) × Int × Int × Int) ((List Leg)) := ⟨.x (.b 215) (.x .r (.x .r (.x .r .r))), fun x => s_l8Search_extend x.1 x.2.1 x.2.2.1 x.2.2.2.1 x.2.2.2.2, fun _ => .own 0, fun y => [arO 104 y], fun x _ => [bxO 215 x.1]⟩
theorem s_l8Search_extend_c {x legs stop at_ more y} (hm : s_l8Search_extend x legs stop at_ more = some y) : s_l8Search_extend_M.C (x, legs, stop, at_, more) y := s_l8Search_extend_M.c (x, legs, stop, at_, more) hm
theorem s_l8Search_extend_ok : FnOK Try.prog tJ 179 s_l8Search_extend_M.S := by
 refine fm tt s_l8Search_extend_M [fo s_l5Line_ok, fo s_l2Place_ok, fo s_l5At_ok, fo s_l5Stops_ok, fo s_l8Leg_ok, fo s_l8Search_extend_w_ok] Try.call179 Try.func179 rfl Try.results179 Try.ntmps179 ?_
 rintro ⟨x, legs, stop, at_, more⟩ y cx G hm
 have hm : s_l8Search_extend x legs stop at_ more = some y := hm
 unfold s_l8Search_extend at hm
 refine rg G (Ok_seq (rg G (tF hm (fun _ => ⟨[(0, .ref 0 0)], [bX 0 215 [dV x.t_.Network.Stops, dV x.t_.Network.Lines, dV x.t_.Trips, dV x.change_, dV x.to_, dV x.arrive_]], 48⟩) (fun v7 hr hm => ?_) ?_)))
 ·refine Ok_block (lp G hm (fun s => ⟨[(0, .ref 0 0), (1, dV legs), (2, dV stop), (3, dV at_), (4, dV more), (11, dV s)], [bX 0 215 [dV x.t_.Network.Stops, dV x.t_.Network.Lines, dV x.t_.Trips, dV x.change_, dV x.to_, dV x.arrive_]], 48⟩) ?_)
  rintro s r0 hb hm
  rw [s_l8Search_extend_L3] at hm
  refine Ok_seq (rs G (hN 6 x.t_.Trips h0) ?_)
  refine cd hm (fun hm => ?_) (fun hm => ?_)
  ·refine X_skip (thN (jF hm (fun _ => ⟨[(0, .ref 0 0), (1, dV legs), (2, dV stop), (3, dV at_), (4, dV more), (11, dV s)], [bX 0 215 [dV x.t_.Network.Stops, dV x.t_.Network.Lines, dV x.t_.Trips, dV x.change_, dV x.to_, dV x.arrive_]], 48⟩) (fun v6 hr1 hm => ?_) ?_))
   ·refine Ok_block (rg G (Ok_seq (rg G (tl hm (fun b1 => ⟨[(0, .ref 0 0), (1, dV legs), (2, dV stop), (3, dV at_), (4, dV more), (11, dV s), (12, dV b1)], [bX 0 215 [dV x.t_.Network.Stops, dV x.t_.Network.Lines, dV x.t_.Trips, dV x.change_, dV x.to_, dV x.arrive_]], 48⟩) (fun b1 hm => ?_) ?_))))
    ·refine Ok_block (lp G hm (fun (b, leg) => ⟨[(0, .ref 0 0), (1, dV legs), (2, dV stop), (3, dV at_), (4, dV more), (11, dV s), (12, dV b), (13, dV leg)], [bX 0 215 [dV x.t_.Network.Stops, dV x.t_.Network.Lines, dV x.t_.Trips, dV x.change_, dV x.to_, dV x.arrive_]], 48⟩) ?_)
     rintro ⟨b, leg⟩ r0 hb1 hm
     rw [s_l8Search_extend_L1] at hm
     refine Ok_seq (rs G (hN 2 legs h0) ?_)
     refine cd hm (fun hm => ?_) (fun hm => ?_)
     ·refine X_skip (thN (Ok_seq (Ok_block ?_)))
      rcases bf hm with ⟨hb2, hm⟩ | ⟨hb2, hm⟩
      ·refine de G [] (hO 1 (.b true) (hP hb2 h0)) ?_
       exact ibN (thN (rh G (wL G hm)))
      ·obtain ⟨e2, h2, hm⟩ := obind hm
       obtain ⟨e3, h3, hm⟩ := obind hm
       refine de G [] (hO 1 (.b false) (hP hb2 (hD 4 h2 (hD 13 h3 h0)))) ?_
       exact ibN (thN (rh G (wL G hm)))
     ·exact Ok_exit (thE (thE (ibE (wD G hm hb1))))
    rintro b1 hm s1 hw
    refine thN (Ok_weak hw ?_)
    obtain ⟨r, h4, hm⟩ := obind hm
    obtain ⟨r1, h5, hm⟩ := obind hm
    refine rs G (hC 5 (s_l5Line_c h4) (hC 7 (s_l2Place_c h5) h0)) ?_
    refine Ok_seq (jn hm (fun v => ⟨[(0, .ref 0 0), (1, dV legs), (2, dV stop), (3, dV at_), (4, dV more), (11, dV s), (14, dV r1), (78, dV v)], [bX 0 215 [dV x.t_.Network.Stops, dV x.t_.Network.Lines, dV x.t_.Trips, dV x.change_, dV x.to_, dV x.arrive_]], 48⟩) (fun v hm => ?_) ?_)
    ·rcases bf hm with ⟨hb3, hm⟩ | ⟨hb3, hm⟩
     ·refine re G (hO 1 (.b true) (hP hb3 h0)) ?_
      exact wJ G hm
     ·rcases bf hm with ⟨hb4, hm⟩ | ⟨hb4, hm⟩
      ·refine re G (hO 1 (.b false) (hP hb3 (hO 5 (.b true) (hP hb4 h0)))) ?_
       exact wJ G hm
      ·obtain ⟨r2, h6, hm⟩ := obind hm
       refine re G (hO 1 (.b false) (hP hb3 (hO 5 (.b false) (hP hb4 (hC 12 (s_l5At_c h6) h0))))) ?_
       exact wJ G hm
    rintro v hm
    refine cd hm (fun hm => ?_) (fun hm => ?_)
    ·exact Ok_exit (thE (ibE (wF G hm)))
    ·refine X_skip (thN ?_)
     obtain ⟨r3, h7, hm⟩ := obind hm
     refine rs G (hC 5 (s_l5Stops_c h7) h0) ?_
     refine rg G (tF hm (fun _ => ⟨[(0, .ref 0 0), (1, dV legs), (2, dV stop), (3, dV at_), (4, dV more), (11, dV s)], [bX 0 215 [dV x.t_.Network.Stops, dV x.t_.Network.Lines, dV x.t_.Trips, dV x.change_, dV x.to_, dV x.arrive_]], 48⟩) (fun v5 hr3 hm => ?_) ?_)
     ·refine Ok_block (lp G hm (fun v1 => ⟨[(0, .ref 0 0), (1, dV legs), (2, dV stop), (3, dV at_), (4, dV more), (11, dV s), (14, dV r1), (15, dV r3), (16, dV v1)], [bX 0 215 [dV x.t_.Network.Stops, dV x.t_.Network.Lines, dV x.t_.Trips, dV x.change_, dV x.to_, dV x.arrive_]], 48⟩) ?_)
      rintro v1 r0 hb5 hm
      rw [s_l8Search_extend_L2] at hm
      refine Ok_seq (rs G (hN 7 x.t_.Network.Stops h0) ?_)
      refine cd hm (fun hm => ?_) (fun hm => ?_)
      ·refine X_skip (thN (jF hm (fun _ => ⟨[(0, .ref 0 0), (1, dV legs), (2, dV stop), (3, dV at_), (4, dV more), (11, dV s), (14, dV r1), (15, dV r3), (16, dV v1)], [bX 0 215 [dV x.t_.Network.Stops, dV x.t_.Network.Lines, dV x.t_.Trips, dV x.change_, dV x.to_, dV x.arrive_]], 48⟩) (fun v4 hr4 hm => ?_) ?_))
       ·refine Ok_block ?_
        obtain ⟨r4, h8, hm⟩ := obind hm
        obtain ⟨r5, h9, hm⟩ := obind hm
        refine rs G (hC 5 (s_l5Line_c h8) (hC 7 (s_l2Place_c h9) h0)) ?_
        refine Ok_seq (jn hm (fun v2 => ⟨[(0, .ref 0 0), (1, dV legs), (2, dV stop), (3, dV at_), (4, dV more), (11, dV s), (14, dV r1), (15, dV r3), (16, dV v1), (17, dV r5), (126, dV v2)], [bX 0 215 [dV x.t_.Network.Stops, dV x.t_.Network.Lines, dV x.t_.Trips, dV x.change_, dV x.to_, dV x.arrive_]], 48⟩) (fun v2 hm => ?_) ?_)
        ·rcases bf hm with ⟨hb6, hm⟩ | ⟨hb6, hm⟩
         ·refine de G [] (hO 3 (.b true) (hP hb6 h0)) ?_
          exact wJ G hm
         ·rcases bf hm with ⟨hb7, hm⟩ | ⟨hb7, hm⟩
          ·refine de G [] (hO 3 (.b false) (hP hb6 (hN 6 r3 (hO 9 (.b true) (hP hb7 h0))))) ?_
           exact wJ G hm
          ·obtain ⟨r7, h11, hm⟩ := obind hm
           refine de G [] (hO 3 (.b false) (hP hb6 (hN 6 r3 (hO 9 (.b false) (hP hb7 (hC 16 (s_l5At_c h11) h0)))))) ?_
           exact wJ G hm
        rintro v2 hm
        refine cd hm (fun hm => ?_) (fun hm => ?_)
        ·exact Ok_exit (thE (ibE (wF G hm)))
        ·refine X_skip (thN ?_)
         obtain ⟨r8, h12, hm⟩ := obind hm
         refine rs G (hC 7 (s_l8Leg_c h12) h0) ?_
         obtain ⟨u2, h15, hm⟩ := obind hm
         obtain ⟨u3, h16, hm⟩ := obind hm
         refine ds G [(2, [208]), (5, [240, 272])] (hA 2 40 h15 (hA 5 40 h16 h0)) ?_
         refine Ok_seq (rg G (cd hm (fun hm => ?_) (fun hm => ?_)))
         ·refine Ok_seq (jn hm (fun v3 => ⟨[(0, .ref 0 0), (1, dV legs), (2, dV stop), (3, dV at_), (4, dV more), (11, dV s), (14, dV r1), (15, dV r3), (16, dV v1), (19, .own 32), (157, dV v3)], [bX 0 215 [dV x.t_.Network.Stops, dV x.t_.Network.Lines, dV x.t_.Trips, dV x.change_, dV x.to_, dV x.arrive_], aX 32 104 ((([] : List Leg) ++ legs) ++ ([r8] : List Leg))], 64⟩) (fun v3 hm => ?_) ?_)
          ·rcases bf hm with ⟨hb8, hm⟩ | ⟨hb8, hm⟩
           ·refine de G [] (hO 6 (.b true) (hP hb8 h0)) ?_
            exact wJ G hm
           ·refine de G [] (hO 6 (.b false) (hP hb8 h0)) ?_
            exact wJ G hm
          rintro v3 hm
          refine cd hm (fun hm => ?_) (fun hm => ?_)
          ·refine rg G ?_
           have hm := eR hm hr4
           have hm := eL hm hb5 hr3
           have hm := eR hm hr1
           have hm := eL hm hb hr
           cases hm
           exact rt [32] []
          ·exact X_skip (thN (Ok_exit (thE (ibE (wF G hm)))))
         ·refine X_skip (thN ?_)
          obtain ⟨r14, h18, hm⟩ := obind hm
          refine ds G [(12, [0, 288])] (hC 12 (s_l8Search_extend_w_c h18) h0) ?_
          refine rs G (hN 1 r14 h0) ?_
          refine cd hm (fun hm => ?_) (fun hm => ?_)
          ·refine rg G ?_
           have hm := eR hm hr4
           have hm := eL hm hb5 hr3
           have hm := eR hm hr1
           have hm := eL hm hb hr
           cases hm
           exact rt [544] []
          ·exact X_skip (ibN (wF G hm))
       rintro ⟨⟩ hm
       exact rh G (wL G hm)
      ·exact Ok_exit (thE (thE (ibE (wE G hm hb5))))
     rintro ⟨⟩ hm s2 hw1
     exact ibN (wFp hm (Wk.trans hw1 (Wk_J G.hL ⟨[(0, []), (1, []), (2, []), (3, []), (4, []), (11, [])], [(0, 0, [])], [], 48⟩ (by kernel_rfl))))
   rintro ⟨⟩ hm
   exact rh G (wL G hm)
  ·exact Ok_exit (thE (thE (ibE (wE G hm hb))))
 rintro ⟨⟩ hm s3 hw2
 refine thN (Ok_weak hw2 ?_)
 refine rg G ?_
 cases hm
 exact rt [48] []
noncomputable def s_l8First_M : MS (Timetable × Int × Int × Int × Int × Int × Int) ((List Leg)) := ⟨.x .r (.x .r (.x .r (.x .r (.x .r (.x .r .r))))), fun x => s_l8First x.1 x.2.1 x.2.2.1 x.2.2.2.1 x.2.2.2.2.1 x.2.2.2.2.2.1 x.2.2.2.2.2.2, fun _ => .own 0, fun y => [arO 104 y], fun _ _ => []⟩
theorem s_l8First_c {t change from_ to_ at_ arrive legs y} (hm : s_l8First t change from_ to_ at_ arrive legs = some y) : s_l8First_M.C (t, change, from_, to_, at_, arrive, legs) y := s_l8First_M.c (t, change, from_, to_, at_, arrive, legs) hm
theorem s_l8First_ok : FnOK Try.prog tJ 125 s_l8First_M.S := by
 refine fm tt s_l8First_M [fo s_l8Search_extend_ok] Try.call125 Try.func125 rfl Try.results125 Try.ntmps125 ?_
 rintro ⟨t, change, from_, to_, at_, arrive, legs⟩ y cx G hm
 have hm : s_l8First t change from_ to_ at_ arrive legs = some y := hm
 unfold s_l8First at hm
 refine rg G (rg G ?_)
 obtain ⟨r, h, hm⟩ := obind hm
 refine rs G (hO 5 (.fz [176] [] []) (hC 5 (s_l8Search_extend_c h) h0)) ?_
 cases hm
 exact rt [240] []
noncomputable def s_ParetoJourneys_M : MS (Timetable × Int × Int × Int × Int) ((List (List Leg)) × Bool) := ⟨.x .r (.x .r (.x .r (.x .r .r))), fun x => s_ParetoJourneys x.1 x.2.1 x.2.2.1 x.2.2.2.1 x.2.2.2.2, fun y => .tup [.own 0, dV y.2], fun y => [arO 101 y.1], fun _ _ => []⟩
theorem s_ParetoJourneys_c {t change from_ to_ at_ y} (hm : s_ParetoJourneys t change from_ to_ at_ = some y) : s_ParetoJourneys_M.C (t, change, from_, to_, at_) y := s_ParetoJourneys_M.c (t, change, from_, to_, at_) hm
theorem s_ParetoJourneys_ok : FnOK Try.prog tJ 55 s_ParetoJourneys_M.S := by
 refine fm tt s_ParetoJourneys_M [fo s_l8Pair_ok, fo s_l8Arrivals_ok, fo s_l8First_ok] Try.call55 Try.func55 rfl Try.results55 Try.ntmps55 ?_
 rintro ⟨t, change, from_, to_, at_⟩ y cx G hm
 have hm : s_ParetoJourneys t change from_ to_ at_ = some y := hm
 unfold s_ParetoJourneys at hm
 refine rg G (rg G (Ok_seq ?_))
 obtain ⟨r, h, hm⟩ := obind hm
 refine rs G (hC 5 (s_l8Pair_c h) h0) ?_
 refine cd hm (fun hm => ?_) (fun hm => ?_)
 ·refine rg G ?_
  cases hm
  exact rt [64] []
 ·refine X_skip (thN (rg G (Ok_seq (rg G (tl hm (fun v6 => ⟨[(12, .own 16)], [aX 16 101 v6], 48⟩) (fun v6 hm => ?_) ?_)))))
  ·refine Ok_block (lp G hm (fun (v, v1, v2) => ⟨[(1, dV change), (2, dV from_), (3, dV to_), (4, dV at_), (5, .ref 16 0), (12, .own 32), (13, dV v), (14, dV v1)], [bX 16 35 [dV t.Network.Stops, dV t.Network.Lines, dV t.Trips], aX 32 101 v2], 64⟩) ?_)
   rintro ⟨v, v1, v2⟩ r0 hb hm
   rw [s_ParetoJourneys_L1] at hm
   refine Ok_seq (rg G (cd hm (fun hm => ?_) (fun hm => ?_)))
   ·refine X_skip (thN (jn hm (fun (v3, v4) => ⟨[(1, dV change), (2, dV from_), (3, dV to_), (4, dV at_), (5, .ref 16 0), (12, .own 32), (13, dV v3), (14, dV v1)], [bX 16 35 [dV t.Network.Stops, dV t.Network.Lines, dV t.Trips], aX 32 101 v4], 64⟩) (fun vv hm => ?_) ?_))
    ·refine Ok_block ?_
     obtain ⟨r1, h1, hm⟩ := obind hm
     obtain ⟨e, h2, hm⟩ := obind hm
     refine rs G (hC 5 (s_l8Arrivals_c h1) (hD 7 h2 (hE 8 h2 h0))) ?_
     refine jn hm (fun v5 => ⟨[(1, dV change), (2, dV from_), (3, dV to_), (4, dV at_), (5, .ref 16 0), (12, .own 32), (13, dV v), (14, dV v1), (15, dV e), (48, dV v5)], [bX 16 35 [dV t.Network.Stops, dV t.Network.Lines, dV t.Trips], aX 32 101 v2], 64⟩) (fun v5 hm => ?_) ?_
     ·rcases bf hm with ⟨hb1, hm⟩ | ⟨hb1, hm⟩
      ·rcases bf hm with ⟨hb2, hm⟩ | ⟨hb2, hm⟩
       ·refine re G (hO 2 (.b true) (hP hb1 (hO 5 (.b true) (hP hb2 h0)))) ?_
        exact wJ G hm
       ·refine re G (hO 2 (.b true) (hP hb1 (hO 5 (.b false) (hP hb2 h0)))) ?_
        exact wJ G hm
      ·refine re G (hO 2 (.b false) (hP hb1 h0)) ?_
       exact wJ G hm
     rintro v5 hm
     refine cd hm (fun hm => ?_) (fun hm => ?_)
     ·obtain ⟨r2, h3, hm⟩ := obind hm
      obtain ⟨u, h4, hm⟩ := obind hm
      refine rs G (hC 8 (s_l8First_c h3) (hO 9 (.fz [192] [] []) (hA 10 24 h4 h0))) ?_
      exact rh G (ibN (wJ G hm))
     ·exact X_skip (ibN (wJ G hm))
    rintro ⟨v3, v4⟩ hm
    exact rh G (wL G hm)
   ·exact Ok_exit (thE (thE (ibE (wD G hm hb))))
  rintro v6 hm s hw
  refine thN (Ok_weak hw ?_)
  refine rg G ?_
  cases hm
  exact rt [16] []
noncomputable def i_tripIndex_1_M : MS (Trip × Int) Bool := ⟨.x .r (.b 3), fun x => i_tripIndex_1 x.1 x.2, fun y => dV y, fun _ => [], fun x _ => [bxO 3 x.2]⟩
theorem i_tripIndex_1_c {x c1 y} (hm : i_tripIndex_1 x c1 = some y) : i_tripIndex_1_M.C (x, c1) y := i_tripIndex_1_M.c (x, c1) hm
theorem i_tripIndex_1_ok : FnOK Try.prog tJ 223 i_tripIndex_1_M.S := by
 refine fm tt i_tripIndex_1_M [] Try.call223 Try.func223 rfl Try.results223 Try.ntmps223 ?_
 rintro ⟨x, c1⟩ y cx G hm
 have hm : i_tripIndex_1 x c1 = some y := hm
 unfold i_tripIndex_1 at hm
 refine rg G (rg G ?_)
 cases hm
 exact rt [] []
noncomputable def slices_IndexFunc_Trip__i_tripIndex_1_M : MS ((List Trip) × Int) Int := ⟨⟨[.rd, .fn 223 [.bx]], fun x => [Enc.e x.1, .agg [.sc undef]], fun x => [bxO 3 x.2], 1, 1, fun _ => rfl, fun _ => rfl, rfl, (by
  rintro ⟨a0, a1⟩ ⟨b0, b1⟩ h hO
  have q0 : a0 = b0 := qI 0 h
  have q1 : a1 = b1 := Enc.inj _ _ (congrArg (fun l => (obD l 0).getD 0 (.sc undef)) hO)
  subst q0; subst q1; rfl)⟩, fun x => slices_IndexFunc_Trip__i_tripIndex_1 x.1 x.2, fun y => dV y, fun _ => [], fun x _ => [bxO 3 x.2]⟩
theorem slices_IndexFunc_Trip__i_tripIndex_1_c {s c1 y} (hm : slices_IndexFunc_Trip__i_tripIndex_1 s c1 = some y) : slices_IndexFunc_Trip__i_tripIndex_1_M.C (s, c1) y := slices_IndexFunc_Trip__i_tripIndex_1_M.c (s, c1) hm
theorem slices_IndexFunc_Trip__i_tripIndex_1_ok : FnOK Try.prog tJ 222 slices_IndexFunc_Trip__i_tripIndex_1_M.S := by
 refine fm tt slices_IndexFunc_Trip__i_tripIndex_1_M [fo i_tripIndex_1_ok] Try.call222 Try.func222 rfl Try.results222 Try.ntmps222 ?_
 rintro ⟨s, c1⟩ y cx G hm
 have hm : slices_IndexFunc_Trip__i_tripIndex_1 s c1 = some y := hm
 obtain ⟨f, hf_f⟩ : ∃ q, (fun (z0 : Trip) => i_tripIndex_1 z0 c1) = q := ⟨_, rfl⟩
 have hm : slices_IndexFunc_Trip s f = some y := by rw [← hf_f]; exact hm
 unfold slices_IndexFunc_Trip at hm
 refine rg G (Ok_seq (rs G (hN 1 s h0) ?_))
 refine tF hm (fun _ => ⟨[(1, .fn 223 [.ref 0 0])], [bX 0 3 [dV c1]], 48⟩) (fun v1 hr hm => ?_) ?_
 ·refine Ok_block (lp G hm (fun v => ⟨[(0, dV s), (1, .fn 223 [.ref 0 0]), (7, dV (s.length : Int)), (8, dV v)], [bX 0 3 [dV c1]], 48⟩) ?_)
  rintro v r0 hb hm
  rw [slices_IndexFunc_Trip_L1] at hm
  refine rg G (Ok_seq (cd hm (fun hm => ?_) (fun hm => ?_)))
  ·refine X_skip (thN (Ok_seq (Ok_block (rg G ?_))))
   obtain ⟨e, h, hm⟩ := obind hm
   obtain ⟨r, h1, hm⟩ := obind hm
   have h1 : i_tripIndex_1 e c1 = some r := by rw [← hf_f] at h1; exact h1
   refine rs G (hD 3 h (hC 5 (i_tripIndex_1_c h1) h0)) ?_
   refine cd hm (fun hm => ?_) (fun hm => ?_)
   ·refine rg G ?_
    have hm := eL hm hb hr
    cases hm
    exact rt [] []
   ·exact X_skip (ibN (thN (rh G (wL G hm))))
  ·exact Ok_exit (thE (thE (ibE (wE G hm hb))))
 rintro ⟨⟩ hm s1 hw
 refine thN (Ok_weak hw ?_)
 refine rg G ?_
 cases hm
 exact rt [] []
noncomputable def i_tripIndex_M : MS (Timetable × Int) Int := ⟨.x .r .r, fun x => i_tripIndex x.1 x.2, fun y => dV y, fun _ => [], fun _ _ => []⟩
theorem i_tripIndex_c {t id y} (hm : i_tripIndex t id = some y) : i_tripIndex_M.C (t, id) y := i_tripIndex_M.c (t, id) hm
theorem i_tripIndex_ok : FnOK Try.prog tJ 180 i_tripIndex_M.S := by
 refine fm tt i_tripIndex_M [fo slices_IndexFunc_Trip__i_tripIndex_1_ok] Try.call180 Try.func180 rfl Try.results180 Try.ntmps180 ?_
 rintro ⟨t, id⟩ y cx G hm
 have hm : i_tripIndex t id = some y := hm
 unfold i_tripIndex at hm
 refine rg G ?_
 obtain ⟨r, h, hm⟩ := obind hm
 refine rs G (hC 3 (slices_IndexFunc_Trip__i_tripIndex_1_c h) h0) ?_
 cases hm
 exact rt [] []
noncomputable def i_isJourney_1_M : MS (Leg × Leg) Bool := ⟨.x .r (.b 104), fun x => i_isJourney_1 x.1 x.2, fun y => dV y, fun _ => [], fun x _ => [bxO 104 x.2]⟩
theorem i_isJourney_1_c {b c1 y} (hm : i_isJourney_1 b c1 = some y) : i_isJourney_1_M.C (b, c1) y := i_isJourney_1_M.c (b, c1) hm
theorem i_isJourney_1_ok : FnOK Try.prog tJ 183 i_isJourney_1_M.S := by
 refine fm tt i_isJourney_1_M [] Try.call183 Try.func183 rfl Try.results183 Try.ntmps183 ?_
 rintro ⟨b, c1⟩ y cx G hm
 have hm : i_isJourney_1 b c1 = some y := hm
 unfold i_isJourney_1 at hm
 refine rg G (rg G ?_)
 cases hm
 exact rt [] []
noncomputable def slices_IndexFunc_Leg__i_isJourney_1_M : MS ((List Leg) × Leg) Int := ⟨⟨[.rd, .fn 183 [.bx]], fun x => [Enc.e x.1, .agg [.sc undef]], fun x => [bxO 104 x.2], 1, 1, fun _ => rfl, fun _ => rfl, rfl, (by
  rintro ⟨a0, a1⟩ ⟨b0, b1⟩ h hO
  have q0 : a0 = b0 := qI 0 h
  have q1 : a1 = b1 := Enc.inj _ _ (congrArg (fun l => D.agg (obD l 0)) hO)
  subst q0; subst q1; rfl)⟩, fun x => slices_IndexFunc_Leg__i_isJourney_1 x.1 x.2, fun y => dV y, fun _ => [], fun x _ => [bxO 104 x.2]⟩
theorem slices_IndexFunc_Leg__i_isJourney_1_c {s c1 y} (hm : slices_IndexFunc_Leg__i_isJourney_1 s c1 = some y) : slices_IndexFunc_Leg__i_isJourney_1_M.C (s, c1) y := slices_IndexFunc_Leg__i_isJourney_1_M.c (s, c1) hm
theorem slices_IndexFunc_Leg__i_isJourney_1_ok : FnOK Try.prog tJ 224 slices_IndexFunc_Leg__i_isJourney_1_M.S := by
 refine fm tt slices_IndexFunc_Leg__i_isJourney_1_M [fo i_isJourney_1_ok] Try.call224 Try.func224 rfl Try.results224 Try.ntmps224 ?_
 rintro ⟨s, c1⟩ y cx G hm
 have hm : slices_IndexFunc_Leg__i_isJourney_1 s c1 = some y := hm
 obtain ⟨f, hf_f⟩ : ∃ q, (fun (z0 : Leg) => i_isJourney_1 z0 c1) = q := ⟨_, rfl⟩
 have hm : slices_IndexFunc_Leg s f = some y := by rw [← hf_f]; exact hm
 unfold slices_IndexFunc_Leg at hm
 refine rg G (Ok_seq (rs G (hN 1 s h0) ?_))
 refine tF hm (fun _ => ⟨[(1, .fn 183 [.ref 0 0])], [bX 0 104 [dV c1.Trip, dV c1.From, dV c1.To, dV c1.Depart, dV c1.Arrive]], 48⟩) (fun v1 hr hm => ?_) ?_
 ·refine Ok_block (lp G hm (fun v => ⟨[(0, dV s), (1, .fn 183 [.ref 0 0]), (7, dV (s.length : Int)), (8, dV v)], [bX 0 104 [dV c1.Trip, dV c1.From, dV c1.To, dV c1.Depart, dV c1.Arrive]], 48⟩) ?_)
  rintro v r0 hb hm
  rw [slices_IndexFunc_Leg_L1] at hm
  refine rg G (Ok_seq (cd hm (fun hm => ?_) (fun hm => ?_)))
  ·refine X_skip (thN (Ok_seq (Ok_block (rg G ?_))))
   obtain ⟨e, h, hm⟩ := obind hm
   obtain ⟨r, h1, hm⟩ := obind hm
   have h1 : i_isJourney_1 e c1 = some r := by rw [← hf_f] at h1; exact h1
   refine rs G (hD 3 h (hC 5 (i_isJourney_1_c h1) h0)) ?_
   refine cd hm (fun hm => ?_) (fun hm => ?_)
   ·refine rg G ?_
    have hm := eL hm hb hr
    cases hm
    exact rt [] []
   ·exact X_skip (ibN (thN (rh G (wL G hm))))
  ·exact Ok_exit (thE (thE (ibE (wE G hm hb))))
 rintro ⟨⟩ hm s1 hw
 refine thN (Ok_weak hw ?_)
 refine rg G ?_
 cases hm
 exact rt [] []
noncomputable def slices_ContainsFunc_Leg__i_isJourney_1_M : MS ((List Leg) × Leg) Bool := ⟨⟨[.rd, .fn 183 [.bx]], fun x => [Enc.e x.1, .agg [.sc undef]], fun x => [bxO 104 x.2], 1, 1, fun _ => rfl, fun _ => rfl, rfl, (by
  rintro ⟨a0, a1⟩ ⟨b0, b1⟩ h hO
  have q0 : a0 = b0 := qI 0 h
  have q1 : a1 = b1 := Enc.inj _ _ (congrArg (fun l => D.agg (obD l 0)) hO)
  subst q0; subst q1; rfl)⟩, fun x => slices_ContainsFunc_Leg__i_isJourney_1 x.1 x.2, fun y => dV y, fun _ => [], fun x _ => [bxO 104 x.2]⟩
theorem slices_ContainsFunc_Leg__i_isJourney_1_c {s c1 y} (hm : slices_ContainsFunc_Leg__i_isJourney_1 s c1 = some y) : slices_ContainsFunc_Leg__i_isJourney_1_M.C (s, c1) y := slices_ContainsFunc_Leg__i_isJourney_1_M.c (s, c1) hm
theorem slices_ContainsFunc_Leg__i_isJourney_1_ok : FnOK Try.prog tJ 182 slices_ContainsFunc_Leg__i_isJourney_1_M.S := by
 refine fm tt slices_ContainsFunc_Leg__i_isJourney_1_M [fo slices_IndexFunc_Leg__i_isJourney_1_ok] Try.call182 Try.func182 rfl Try.results182 Try.ntmps182 ?_
 rintro ⟨s, c1⟩ y cx G hm
 have hm : slices_ContainsFunc_Leg__i_isJourney_1 s c1 = some y := hm
 obtain ⟨f, hf_f⟩ : ∃ q, (fun (z0 : Leg) => i_isJourney_1 z0 c1) = q := ⟨_, rfl⟩
 have hm : slices_ContainsFunc_Leg s f = some y := by rw [← hf_f]; exact hm
 unfold slices_ContainsFunc_Leg at hm
 refine rg G ?_
 obtain ⟨r, h, hm⟩ := obind hm
 have h : slices_IndexFunc_Leg__i_isJourney_1 s c1 = some r := by rw [← hf_f] at h; exact h
 refine rs G (hC 2 (slices_IndexFunc_Leg__i_isJourney_1_c h) h0) ?_
 cases hm
 exact rt [] []
noncomputable def i_isJourney_M : MS (Timetable × Int × (List Leg)) Bool := ⟨.x .r (.x .r .r), fun x => i_isJourney x.1 x.2.1 x.2.2, fun y => dV y, fun _ => [], fun _ _ => []⟩
theorem i_isJourney_c {t change legs y} (hm : i_isJourney t change legs = some y) : i_isJourney_M.C (t, change, legs) y := i_isJourney_M.c (t, change, legs) hm
theorem i_isJourney_ok : FnOK Try.prog tJ 127 i_isJourney_M.S := by
 refine fm tt i_isJourney_M [fo i_within_ok, fo i_tripIndex_ok, fo i_fillLeg_ok, fo slices_ContainsFunc_Leg__i_isJourney_1_ok] Try.call127 Try.func127 rfl Try.results127 Try.ntmps127 ?_
 rintro ⟨t, change, legs⟩ y cx G hm
 have hm : i_isJourney t change legs = some y := hm
 unfold i_isJourney at hm
 refine rg G (Ok_seq ?_)
 obtain ⟨r, h, hm⟩ := obind hm
 refine rs G (hN 1 legs (hC 2 (i_within_c h) h0)) ?_
 refine cd hm (fun hm => ?_) (fun hm => ?_)
 ·refine rg G ?_
  cases hm
  exact rt [] []
 ·refine X_skip (thN (Ok_seq (rs G (hN 1 legs h0) ?_)))
  refine tF hm (fun _ => ⟨[], [], 32⟩) (fun v4 hr hm => ?_) ?_
  ·refine Ok_block (lp G hm (fun v => ⟨[(1, dV change), (2, dV legs), (3, .ref 16 0), (16, dV legs), (17, dV (legs.length : Int)), (18, dV v)], [bX 16 35 [dV t.Network.Stops, dV t.Network.Lines, dV t.Trips]], 48⟩) ?_)
   rintro v r0 hb hm
   rw [i_isJourney_L1] at hm
   refine rg G (Ok_seq (cd hm (fun hm => ?_) (fun hm => ?_)))
   ·refine X_skip (thN (jF hm (fun _ => ⟨[(1, dV change), (2, dV legs), (3, .ref 16 0), (16, dV legs), (17, dV (legs.length : Int)), (18, dV v)], [bX 16 35 [dV t.Network.Stops, dV t.Network.Lines, dV t.Trips]], 48⟩) (fun v3 hr1 hm => ?_) ?_))
    ·refine Ok_block ?_
     obtain ⟨e, h1, hm⟩ := obind hm
     refine rs G (hD 1 h1 h0) ?_
     obtain ⟨r1, h2, hm⟩ := obind hm
     refine rs G (hC 3 (i_tripIndex_c h2) h0) ?_
     refine Ok_seq (rg G (cd hm (fun hm => ?_) (fun hm => ?_)))
     ·refine rg G ?_
      have hm := eR hm hr1
      have hm := eL hm hb hr
      cases hm
      exact rt [] []
     ·refine X_skip (thN (Ok_seq ?_))
      obtain ⟨e4, h5, hm⟩ := obind hm
      obtain ⟨r5, h6, hm⟩ := obind hm
      refine ds G [(15, [496])] (hD 4 h5 (hC 10 (i_fillLeg_c h6) h0)) ?_
      refine jn hm (fun v1 => ⟨[(1, dV change), (2, dV legs), (3, .ref 16 0), (7, dV v), (8, .ref 32 0), (16, dV legs), (17, dV (legs.length : Int)), (18, dV v), (49, dV v1)], [bX 16 35 [dV t.Network.Stops, dV t.Network.Lines, dV t.Trips], bX 32 104 [dV e.Trip, dV e.From, dV e.To, dV e.Depart, dV e.Arrive]], 64⟩) (fun v1 hm => ?_) ?_
      ·rcases bf hm with ⟨hb1, hm⟩ | ⟨hb1, hm⟩
       ·refine re G (hO 2 (.b true) (hP hb1 h0)) ?_
        exact wJ G hm
       ·refine re G (hO 2 (.b false) (hP hb1 h0)) ?_
        exact wJ G hm
      rintro v1 hm
      refine cd hm (fun hm => ?_) (fun hm => ?_)
      ·refine rg G ?_
       have hm := eR hm hr1
       have hm := eL hm hb hr
       cases hm
       exact rt [] []
      ·refine X_skip (thN (Ok_seq (rg G (cd hm (fun hm => ?_) (fun hm => ?_)))))
       ·exact Ok_exit (thE (ibE (wF G hm)))
       ·refine X_skip (thN (Ok_seq ?_))
        obtain ⟨e9, h9, hm⟩ := obind hm
        refine jn hm (fun v2 => ⟨[(1, dV change), (2, dV legs), (3, .ref 16 0), (7, dV v), (8, .ref 32 0), (16, dV legs), (17, dV (legs.length : Int)), (18, dV v), (73, dV v2)], [bX 16 35 [dV t.Network.Stops, dV t.Network.Lines, dV t.Trips], bX 32 104 [dV e.Trip, dV e.From, dV e.To, dV e.Depart, dV e.Arrive]], 64⟩) (fun v2 hm => ?_) ?_
        ·rcases bf hm with ⟨hb2, hm⟩ | ⟨hb2, hm⟩
         ·refine de G [] (hD 5 h9 (hO 9 (.b true) (hP hb2 h0))) ?_
          exact wJ G hm
         ·obtain ⟨e10, h10, hm⟩ := obind hm
          refine de G [] (hD 5 h9 (hO 9 (.b false) (hP hb2 (hD 15 h10 h0)))) ?_
          exact wJ G hm
        rintro v2 hm
        refine cd hm (fun hm => ?_) (fun hm => ?_)
        ·refine rg G ?_
         have hm := eR hm hr1
         have hm := eL hm hb hr
         cases hm
         exact rt [] []
        ·refine X_skip (thN ?_)
         obtain ⟨u, h11, hm⟩ := obind hm
         obtain ⟨r10, h12, hm⟩ := obind hm
         refine rs G (hU 2 h11 (hC 4 (slices_ContainsFunc_Leg__i_isJourney_1_c h12) h0)) ?_
         refine cd hm (fun hm => ?_) (fun hm => ?_)
         ·refine rg G ?_
          have hm := eR hm hr1
          have hm := eL hm hb hr
          cases hm
          exact rt [] []
         ·exact X_skip (ibN (wF G hm))
    rintro ⟨⟩ hm
    exact rh G (wL G hm)
   ·exact Ok_exit (thE (thE (ibE (wE G hm hb))))
  rintro ⟨⟩ hm s hw
  refine thN (Ok_weak hw ?_)
  refine rg G ?_
  cases hm
  exact rt [] []
end Go.Proofs.Ytdocbkbpjdjlpaa
