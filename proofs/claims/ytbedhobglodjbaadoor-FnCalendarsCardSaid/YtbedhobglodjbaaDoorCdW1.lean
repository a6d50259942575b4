/- Each function computes what its model says. Made by program (dec.py). -/
import Derived.Test.YtbedhobglodjbaaDoorTy
import Derived.Test.YtbedhobglodjbaaDoorAbC
import Derived.Test.YtbedhobglodjbaaDoorCdM
import Derived.Test.YtbedhobglodjbaaDoorSh
namespace Go.Proofs.YtbedhobglodjbaaDoor
open Go Go.Ab
set_option maxRecDepth 100000
set_option maxHeartbeats 4000000
set_option linter.unusedVariables false
set_option linter.unusedSimpArgs false
theorem tt : TT Tryd.prog ty := ⟨by kernel_rfl, ty_ok⟩
abbrev tJ : Inv := strJ Tryd.prog (some Lib.pow10Tab)
noncomputable def v_rBig_M : MS ((List UInt8)) Bool := ⟨.r, v_rBig, fun y => dV y, fun _ => [], fun _ _ => []⟩
theorem v_rBig_c {code y} (hm : v_rBig code = some y) : v_rBig_M.C code y := v_rBig_M.c code hm
theorem v_rBig_ok : FnOK Tryd.prog tJ 58 v_rBig_M.S := by
 refine fm tt v_rBig_M [] Tryd.call58 Tryd.func58 rfl Tryd.results58 Tryd.ntmps58 ?_
 rintro code y cx G hm
 have hm : v_rBig code = some y := hm
 unfold v_rBig at hm
 refine rg G (rs G (hN 1 code h0) ?_)
 cases hm
 exact rt [] []
noncomputable def s_l1Cur_next_M : MS l1Cur (Int × l1Cur) := ⟨.b 90, s_l1Cur_next, fun y => dV y.1, fun _ => [], fun _ y => [bxO 90 y.2]⟩
theorem s_l1Cur_next_c {c y} (hm : s_l1Cur_next c = some y) : s_l1Cur_next_M.C c y := s_l1Cur_next_M.c c hm
theorem s_l1Cur_next_ok : FnOK Tryd.prog tJ 127 s_l1Cur_next_M.S := by
 refine fm tt s_l1Cur_next_M [] Tryd.call127 Tryd.func127 rfl Tryd.results127 Tryd.ntmps127 ?_
 rintro c y cx G hm
 have hm : s_l1Cur_next c = some y := hm
 unfold s_l1Cur_next at hm
 refine rg G (rg G (jn hm (fun v => ⟨[(0, .ref 0 0), (3, dV v)], [bX 0 90 [dV c.code_, dV c.at_, kV .u64 c.seed_.v]], 48⟩) (fun v hm => ?_) ?_))
 ·refine ds G [] (hN 8 c.code_ h0) ?_
  refine cd hm (fun hm => ?_) (fun hm => ?_)
  ·obtain ⟨e1, h1, hm⟩ := obind hm
   refine de G [] (hD 8 h1 h0) ?_
   exact wJ G hm
  ·exact X_skip (wJ G hm)
 rintro v hm
 refine rg G (rg G (Ok_seq (ds G [] (hN 8 c.code_ h0) ?_)))
 refine cd hm (fun hm => ?_) (fun hm => ?_)
 ·refine rg G ?_
  cases hm
  exact rt [] []
 ·refine X_skip (thN ?_)
  obtain ⟨u, h2, hm⟩ := obind hm
  refine rs G (hK h2 h0) ?_
  cases hm
  exact rt [] []
noncomputable def s_l1Cur_pick_M : MS (l1Cur × Int) (Int × l1Cur) := ⟨.x (.b 90) .r, fun x => s_l1Cur_pick x.1 x.2, fun y => dV y.1, fun _ => [], fun _ y => [bxO 90 y.2]⟩
theorem s_l1Cur_pick_c {c n y} (hm : s_l1Cur_pick c n = some y) : s_l1Cur_pick_M.C (c, n) y := s_l1Cur_pick_M.c (c, n) hm
theorem s_l1Cur_pick_ok : FnOK Tryd.prog tJ 73 s_l1Cur_pick_M.S := by
 refine fm tt s_l1Cur_pick_M [fo s_l1Cur_next_ok] Tryd.call73 Tryd.func73 rfl Tryd.results73 Tryd.ntmps73 ?_
 rintro ⟨c, n⟩ y cx G hm
 have hm : s_l1Cur_pick c n = some y := hm
 unfold s_l1Cur_pick at hm
 refine rg G (Ok_seq (rg G (cd hm (fun hm => ?_) (fun hm => ?_))))
 ·refine rg G ?_
  cases hm
  exact rt [] []
 ·refine X_skip (thN ?_)
  obtain ⟨r, h, hm⟩ := obind hm
  refine rs G (hC 1 (s_l1Cur_next_c h) h0) ?_
  refine jn hm (fun (v, v1, v2, v3) => ⟨[(0, .ref 0 0), (1, dV n), (5, dV v)], [bX 0 90 [dV v1, dV v2, kV .u64 v3]], 48⟩) (fun vv hm => ?_) ?_
  ·refine rg G (cd hm (fun hm => ?_) (fun hm => ?_))
   ·obtain ⟨r1, h1, hm⟩ := obind hm
    refine re G (hC 3 (s_l1Cur_next_c h1) h0) ?_
    exact wJ G hm
   ·exact X_skip (wJ G hm)
  rintro ⟨v, v1, v2, v3⟩ hm
  obtain ⟨u, h2, hm⟩ := obind hm
  refine rs G (hK h2 h0) ?_
  cases hm
  exact rt [] []
noncomputable def s_l1Cur_among_M : MS (l1Cur × (List Int)) (Int × l1Cur) := ⟨.x (.b 90) .r, fun x => s_l1Cur_among x.1 x.2, fun y => dV y.1, fun _ => [], fun _ y => [bxO 90 y.2]⟩
theorem s_l1Cur_among_c {c list y} (hm : s_l1Cur_among c list = some y) : s_l1Cur_among_M.C (c, list) y := s_l1Cur_among_M.c (c, list) hm
theorem s_l1Cur_among_ok : FnOK Tryd.prog tJ 78 s_l1Cur_among_M.S := by
 refine fm tt s_l1Cur_among_M [fo s_l1Cur_pick_ok] Tryd.call78 Tryd.func78 rfl Tryd.results78 Tryd.ntmps78 ?_
 rintro ⟨c, list⟩ y cx G hm
 have hm : s_l1Cur_among c list = some y := hm
 unfold s_l1Cur_among at hm
 refine rg G ?_
 obtain ⟨r, h, hm⟩ := obind hm
 obtain ⟨e, h1, hm⟩ := obind hm
 refine rs G (hN 3 list (hC 4 (s_l1Cur_pick_c h) (hD 5 h1 h0))) ?_
 cases hm
 exact rt [] []
noncomputable def s_l1Cur_one_M : MS (l1Cur × Int) (Bool × l1Cur) := ⟨.x (.b 90) .r, fun x => s_l1Cur_one x.1 x.2, fun y => dV y.1, fun _ => [], fun _ y => [bxO 90 y.2]⟩
theorem s_l1Cur_one_c {c n y} (hm : s_l1Cur_one c n = some y) : s_l1Cur_one_M.C (c, n) y := s_l1Cur_one_M.c (c, n) hm
theorem s_l1Cur_one_ok : FnOK Tryd.prog tJ 74 s_l1Cur_one_M.S := by
 refine fm tt s_l1Cur_one_M [fo s_l1Cur_pick_ok] Tryd.call74 Tryd.func74 rfl Tryd.results74 Tryd.ntmps74 ?_
 rintro ⟨c, n⟩ y cx G hm
 have hm : s_l1Cur_one c n = some y := hm
 unfold s_l1Cur_one at hm
 refine rg G ?_
 obtain ⟨r, h, hm⟩ := obind hm
 refine rs G (hC 2 (s_l1Cur_pick_c h) h0) ?_
 cases hm
 exact rt [] []
noncomputable def s_l1In_M : MS (Int × Int × Int) Bool := ⟨.x .r (.x .r .r), fun x => s_l1In x.1 x.2.1 x.2.2, fun y => dV y, fun _ => [], fun _ _ => []⟩
theorem s_l1In_c {x a b y} (hm : s_l1In x a b = some y) : s_l1In_M.C (x, a, b) y := s_l1In_M.c (x, a, b) hm
theorem s_l1In_ok : FnOK Tryd.prog tJ 80 s_l1In_M.S := by
 refine fm tt s_l1In_M [] Tryd.call80 Tryd.func80 rfl Tryd.results80 Tryd.ntmps80 ?_
 rintro ⟨x, a, b⟩ y cx G hm
 have hm : s_l1In x a b = some y := hm
 unfold s_l1In at hm
 refine rg G (jn hm (fun v => ⟨[(6, dV v)], [], 32⟩) (fun v hm => ?_) ?_)
 ·rcases bf hm with ⟨hb, hm⟩ | ⟨hb, hm⟩
  ·refine re G (hO 3 (.b true) (hP hb h0)) ?_
   exact wJ G hm
  ·refine re G (hO 3 (.b false) (hP hb h0)) ?_
   exact wJ G hm
 rintro v hm
 cases hm
 exact rt [] []
noncomputable def s_l3Regular_M : MS (Calendar × Int) Bool := ⟨.x .r .r, fun x => s_l3Regular x.1 x.2, fun y => dV y, fun _ => [], fun _ _ => []⟩
theorem s_l3Regular_c {c day y} (hm : s_l3Regular c day = some y) : s_l3Regular_M.C (c, day) y := s_l3Regular_M.c (c, day) hm
theorem s_l3Regular_ok : FnOK Tryd.prog tJ 122 s_l3Regular_M.S := by
 refine fm tt s_l3Regular_M [fo s_l1In_ok] Tryd.call122 Tryd.func122 rfl Tryd.results122 Tryd.ntmps122 ?_
 rintro ⟨c, day⟩ y cx G hm
 have hm : s_l3Regular c day = some y := hm
 unfold s_l3Regular at hm
 refine rg G ?_
 obtain ⟨r, h, hm⟩ := obind hm
 refine jn hm (fun v => ⟨[(4, dV v)], [], 32⟩) (fun v hm => ?_) ?_
 ·rcases bf hm with ⟨hb, hm⟩ | ⟨hb, hm⟩
  ·obtain ⟨u, h1, hm⟩ := obind hm
   obtain ⟨u1, h2, hm⟩ := obind hm
   refine re G (hC 5 (s_l1In_c h) (hO 6 (.b true) (hP hb (hK h1 (hK h2 h0))))) ?_
   exact wJ G hm
  ·refine re G (hC 5 (s_l1In_c h) (hO 6 (.b false) (hP hb h0))) ?_
   exact wJ G hm
 rintro v hm
 cases hm
 exact rt [] []
noncomputable def s_l1Cur_calendar_M : MS l1Cur (Calendar × l1Cur) := ⟨.b 90, s_l1Cur_calendar, fun y => .aggv [dV y.1.From, dV y.1.To, dV y.1.Weekdays, .own 0, .own 1], fun y => [arO 3 y.1.Added, arO 3 y.1.Removed], fun _ y => [bxO 90 y.2]⟩
theorem s_l1Cur_calendar_c {c y} (hm : s_l1Cur_calendar c = some y) : s_l1Cur_calendar_M.C c y := s_l1Cur_calendar_M.c c hm
theorem s_l1Cur_calendar_ok : FnOK Tryd.prog tJ 110 s_l1Cur_calendar_M.S := by
 refine fm tt s_l1Cur_calendar_M [fo s_l1Cur_among_ok, fo s_l1Cur_one_ok, fo s_l3Regular_ok, fo s_l1Cur_pick_ok] Tryd.call110 Tryd.func110 rfl Tryd.results110 Tryd.ntmps110 ?_
 rintro c y cx G hm
 have hm : s_l1Cur_calendar c = some y := hm
 unfold s_l1Cur_calendar at hm
 refine rg G ?_
 obtain ⟨r, h, hm⟩ := obind hm
 refine rs G (hO 2 (.fz [48] [] []) (hC 2 (s_l1Cur_among_c h) h0)) ?_
 obtain ⟨r1, h1, hm⟩ := obind hm
 obtain ⟨r2, h2, hm⟩ := obind hm
 refine rs G (hO 4 (.fz [144] [] []) (hC 4 (s_l1Cur_among_c h1) (hO 8 (.fz [208] [] []) (hC 8 (s_l1Cur_among_c h2) h0)))) ?_
 refine Ok_seq (rg G (tl hm (fun (v12, v13, v14, v15, v16) => ⟨[(0, .ref 0 0), (2, .ref 32 0), (4, .ref 48 0)], [bX 0 90 [dV v12, dV v13, kV .u64 v14], bX 32 76 [kV .i64 0, kV .i64 0, kV .i64 0, .dat (.sc (.slice none 0 0)), .dat (.sc (.slice none 0 0))], bX 48 76 [dV r.1, dV (w64 (r.1 + r1.1)), dV r2.1, .own 64, .own 80], aX 64 3 v15, aX 80 3 v16], 112⟩) (fun vv2 hm => ?_) ?_))
 ·refine Ok_block (lpP hm (fun (v, v1, v2, v3, v4, v5) => ⟨[(0, .ref 0 0), (2, .ref 32 0), (4, .ref 48 0), (5, dV v)], [bX 0 90 [dV v1, dV v2, kV .u64 v3], bX 32 76 [kV .i64 0, kV .i64 0, kV .i64 0, .dat (.sc (.slice none 0 0)), .dat (.sc (.slice none 0 0))], bX 48 76 [dV r.1, dV (w64 (r.1 + r1.1)), dV r2.1, .own 64, .own 80], aX 64 3 v4, aX 80 3 v5], 112⟩) (Wk_J G.hL ⟨[(0, []), (2, []), (4, []), (5, [])], [(0, 0, []), (32, 16, []), (48, 256, [.k, .k, .k, .o 64, .o 80])], [(64, 3, 1, []), (80, 3, 1, [])], 112⟩ (by kernel_rfl)) ?_)
  rintro ⟨v, v1, v2, v3, v4, v5⟩ r0 hb hm
  rw [s_l1Cur_calendar_L1] at hm
  refine Ok_seq (jn hm (fun v6 => ⟨[(0, .ref 0 0), (2, .ref 32 0), (4, .ref 48 0), (5, dV v), (34, dV v6)], [bX 0 90 [dV v1, dV v2, kV .u64 v3], bX 32 76 [kV .i64 0, kV .i64 0, kV .i64 0, .dat (.sc (.slice none 0 0)), .dat (.sc (.slice none 0 0))], bX 48 76 [dV r.1, dV (w64 (r.1 + r1.1)), dV r2.1, .own 64, .own 80], aX 64 3 v4, aX 80 3 v5], 112⟩) (fun v6 hm => ?_) ?_)
  ·rcases bf hm with ⟨hb1, hm⟩ | ⟨hb1, hm⟩
   ·refine re G (hO 4 (.b true) (hP hb1 (hN 7 v4 (hN 10 v5 h0)))) ?_
    exact wJ G hm
   ·refine re G (hO 4 (.b false) (hP hb1 h0)) ?_
    exact wJ G hm
  rintro v6 hm
  refine cd hm (fun hm => ?_) (fun hm => ?_)
  ·refine X_skip (thN (jn hm (fun (v7, v8, v9, v10, v11) => ⟨[(0, .ref 0 0), (2, .ref 32 0), (4, .ref 48 0), (5, dV v)], [bX 0 90 [dV v7, dV v8, kV .u64 v9], bX 32 76 [kV .i64 0, kV .i64 0, kV .i64 0, .dat (.sc (.slice none 0 0)), .dat (.sc (.slice none 0 0))], bX 48 76 [dV r.1, dV (w64 (r.1 + r1.1)), dV r2.1, .own 64, .own 80], aX 64 3 v10, aX 80 3 v11], 112⟩) (fun vv hm => ?_) ?_))
   ·refine Ok_block (Ok_seq ?_)
    obtain ⟨r3, h3, hm⟩ := obind hm
    refine rs G (hC 1 (s_l1Cur_one_c h3) h0) ?_
    refine cd hm (fun hm => ?_) (fun hm => ?_)
    ·exact Ok_exit (thE (ibE (wJ G hm)))
    ·refine X_skip (thN ?_)
     obtain ⟨r4, h4, hm⟩ := obind hm
     refine rs G (hC 2 (s_l3Regular_c h4) h0) ?_
     refine cd hm (fun hm => ?_) (fun hm => ?_)
     ·obtain ⟨u, h5, hm⟩ := obind hm
      refine re G (hA 4 8 h5 h0) ?_
      exact ibN (wJ G hm)
     ·obtain ⟨u1, h6, hm⟩ := obind hm
      refine re G (hA 4 8 h6 h0) ?_
      exact ibN (wJ G hm)
   rintro ⟨v7, v8, v9, v10, v11⟩ hm
   exact rh G (wL G hm)
  ·exact Ok_exit (thE (thE (ibE (wD G hm hb))))
 rintro ⟨v12, v13, v14, v15, v16⟩ hm s hw
 refine thN (Ok_weak hw ?_)
 refine jn hm (fun (v17, v18, v19, v20, v21, v22, v23) => ⟨[(0, .ref 0 0), (2, .ref 32 0), (4, .ref 48 0)], [bX 0 90 [dV v17, dV v18, kV .u64 v19], bX 32 76 [kV .i64 0, kV .i64 0, kV .i64 0, .dat (.sc (.slice none 0 0)), .dat (.sc (.slice none 0 0))], bX 48 76 [dV r.1, dV v20, dV v21, .own 64, .own 80], aX 64 3 v22, aX 80 3 v23], 112⟩) (fun vv1 hm => ?_) ?_
 ·obtain ⟨r5, h7, hm⟩ := obind hm
  refine rs G (hC 1 (s_l1Cur_pick_c h7) h0) ?_
  refine Ok_block (rg G (cd hm (fun hm => ?_) (fun hm => ?_)))
  ·obtain ⟨r6, h8, hm⟩ := obind hm
   refine re G (hO 2 (.fz [192] [] []) (hC 2 (s_l1Cur_among_c h8) h0)) ?_
   exact ibN (wJ G hm)
  ·refine rg G (cd hm (fun hm => ?_) (fun hm => ?_))
   ·obtain ⟨r7, h9, hm⟩ := obind hm
    refine re G (hO 2 (.fz [224] [] []) (hC 2 (s_l1Cur_among_c h9) h0)) ?_
    exact ibN (wJ G hm)
   ·refine rg G (cd hm (fun hm => ?_) (fun hm => ?_))
    ·obtain ⟨u2, h10, hm⟩ := obind hm
     refine re G (hA 5 8 h10 h0) ?_
     exact ibN (wJ G hm)
    ·refine rg G (cd hm (fun hm => ?_) (fun hm => ?_))
     ·obtain ⟨u3, h11, hm⟩ := obind hm
      refine re G (hA 6 8 h11 h0) ?_
      exact ibN (wJ G hm)
     ·exact X_skip (ibN (wJ G hm))
 rintro ⟨v17, v18, v19, v20, v21, v22, v23⟩ hm
 refine rg G ?_
 cases hm
 exact rt [64, 80] []
noncomputable def s_l1Cur_among_w_M : MS (l1Cur × (List Int)) (Int × l1Cur) := ⟨.x (.b 90) (.s 3), fun x => s_l1Cur_among_w x.1 x.2, fun y => dV y.1, fun _ => [], fun x y => [bxO 90 y.2, arO 3 x.2]⟩
theorem s_l1Cur_among_w_c {c list y} (hm : s_l1Cur_among_w c list = some y) : s_l1Cur_among_w_M.C (c, list) y := s_l1Cur_among_w_M.c (c, list) hm
theorem s_l1Cur_among_w_ok : FnOK Tryd.prog tJ 78 s_l1Cur_among_w_M.S := by
 refine fm tt s_l1Cur_among_w_M [fo s_l1Cur_pick_ok] Tryd.call78 Tryd.func78 rfl Tryd.results78 Tryd.ntmps78 ?_
 rintro ⟨c, list⟩ y cx G hm
 have hm : s_l1Cur_among_w c list = some y := hm
 unfold s_l1Cur_among_w at hm
 refine rg G ?_
 obtain ⟨r, h, hm⟩ := obind hm
 obtain ⟨e, h1, hm⟩ := obind hm
 refine rs G (hN 3 list (hC 4 (s_l1Cur_pick_c h) (hD 5 h1 (hE 6 h1 h0)))) ?_
 cases hm
 exact rt [] []
noncomputable def s_l1Cur_dayNear_M : MS (l1Cur × Calendar) (Int × l1Cur) := ⟨.x (.b 90) .r, fun x => s_l1Cur_dayNear x.1 x.2, fun y => dV y.1, fun _ => [], fun _ y => [bxO 90 y.2]⟩
theorem s_l1Cur_dayNear_c {c x y} (hm : s_l1Cur_dayNear c x = some y) : s_l1Cur_dayNear_M.C (c, x) y := s_l1Cur_dayNear_M.c (c, x) hm
theorem s_l1Cur_dayNear_ok : FnOK Tryd.prog tJ 111 s_l1Cur_dayNear_M.S := by
 refine fm tt s_l1Cur_dayNear_M [fo s_l1Cur_pick_ok, fo s_l1Cur_among_w_ok] Tryd.call111 Tryd.func111 rfl Tryd.results111 Tryd.ntmps111 ?_
 rintro ⟨c, x⟩ y cx G hm
 have hm : s_l1Cur_dayNear c x = some y := hm
 unfold s_l1Cur_dayNear at hm
 refine rg G ?_
 obtain ⟨r2, h2, hm⟩ := obind hm
 obtain ⟨r3, h3, hm⟩ := obind hm
 refine ds G [(8, [0]), (17, [0, 304])] (hC 8 (s_l1Cur_pick_c h2) (hC 17 (s_l1Cur_among_w_c h3) h0)) ?_
 cases hm
 exact rt [] []
noncomputable def s_DrawExceptDay_M : MS ((List UInt8)) (Calendar × Int × Bool) := ⟨.r, s_DrawExceptDay, fun y => .tup [dV y.1, dV y.2.1, dV y.2.2], fun _ => [], fun _ _ => []⟩
theorem s_DrawExceptDay_c {code y} (hm : s_DrawExceptDay code = some y) : s_DrawExceptDay_M.C code y := s_DrawExceptDay_M.c code hm
theorem s_DrawExceptDay_ok : FnOK Tryd.prog tJ 59 s_DrawExceptDay_M.S := by
 refine fm tt s_DrawExceptDay_M [fo s_l1Cur_calendar_ok, fo s_l1Cur_dayNear_ok, fo s_l1Cur_one_ok] Tryd.call59 Tryd.func59 rfl Tryd.results59 Tryd.ntmps59 ?_
 rintro code y cx G hm
 have hm : s_DrawExceptDay code = some y := hm
 unfold s_DrawExceptDay at hm
 refine rg G (rg G ?_)
 obtain ⟨r, h, hm⟩ := obind hm
 refine rs G (hC 1 (s_l1Cur_calendar_c h) h0) ?_
 refine Ok_weak (Wk_J (x' := (⟨[(2, .ref 16 0), (5, .ref 32 0), (6, .ref 48 0)], [bX 16 76 [kV .i64 0, kV .i64 0, kV .i64 0, .dat (.sc (.slice none 0 0)), .dat (.sc (.slice none 0 0))], bX 32 90 [dV r.2.code_, dV r.2.at_, kV .u64 r.2.seed_.v], bX 48 76 [dV r.1.From, dV r.1.To, dV r.1.Weekdays, dV r.1.Added, dV r.1.Removed]], 80⟩ : X)) G.hL ⟨[(2, []), (5, []), (6, [])], [(16, 16, []), (32, 96, []), (48, 160, [])], [], 80⟩ (by kernel_rfl)) ?_
 obtain ⟨r3, h3, hm⟩ := obind hm
 obtain ⟨r4, h4, hm⟩ := obind hm
 refine ds G [(3, [32]), (5, [32]), (6, [16])] (hC 3 (s_l1Cur_dayNear_c h3) (hC 5 (s_l1Cur_one_c h4) h0)) ?_
 cases hm
 exact rt [] []
noncomputable def i_within_M : MS (Int × Int × Int) Bool := ⟨.x .r (.x .r .r), fun x => i_within x.1 x.2.1 x.2.2, fun y => dV y, fun _ => [], fun _ _ => []⟩
theorem i_within_c {n lo hi y} (hm : i_within n lo hi = some y) : i_within_M.C (n, lo, hi) y := i_within_M.c (n, lo, hi) hm
theorem i_within_ok : FnOK Tryd.prog tJ 97 i_within_M.S := by
 refine fm tt i_within_M [] Tryd.call97 Tryd.func97 rfl Tryd.results97 Tryd.ntmps97 ?_
 rintro ⟨n, lo, hi⟩ y cx G hm
 have hm : i_within n lo hi = some y := hm
 unfold i_within at hm
 refine rg G (jn hm (fun v => ⟨[(6, dV v)], [], 32⟩) (fun v hm => ?_) ?_)
 ·rcases bf hm with ⟨hb, hm⟩ | ⟨hb, hm⟩
  ·refine re G (hO 3 (.b true) (hP hb h0)) ?_
   exact wJ G hm
  ·refine re G (hO 3 (.b false) (hP hb h0)) ?_
   exact wJ G hm
 rintro v hm
 cases hm
 exact rt [] []
noncomputable def i_isDay_M : MS Int Bool := ⟨.r, i_isDay, fun y => dV y, fun _ => [], fun _ _ => []⟩
theorem i_isDay_c {day y} (hm : i_isDay day = some y) : i_isDay_M.C day y := i_isDay_M.c day hm
theorem i_isDay_ok : FnOK Tryd.prog tJ 115 i_isDay_M.S := by
 refine fm tt i_isDay_M [fo i_within_ok] Tryd.call115 Tryd.func115 rfl Tryd.results115 Tryd.ntmps115 ?_
 rintro day y cx G hm
 have hm : i_isDay day = some y := hm
 unfold i_isDay at hm
 refine rg G ?_
 obtain ⟨r, h, hm⟩ := obind hm
 refine rs G (hC 1 (i_within_c h) h0) ?_
 cases hm
 exact rt [] []
noncomputable def i_areDays_M : MS ((List Int) × Int × Int) Bool := ⟨.x .r (.x .r .r), fun x => i_areDays x.1 x.2.1 x.2.2, fun y => dV y, fun _ => [], fun _ _ => []⟩
theorem i_areDays_c {days from_ to_ y} (hm : i_areDays days from_ to_ = some y) : i_areDays_M.C (days, from_, to_) y := i_areDays_M.c (days, from_, to_) hm
theorem i_areDays_ok : FnOK Tryd.prog tJ 116 i_areDays_M.S := by
 refine fm tt i_areDays_M [] Tryd.call116 Tryd.func116 rfl Tryd.results116 Tryd.ntmps116 ?_
 rintro ⟨days, from_, to_⟩ y cx G hm
 have hm : i_areDays days from_ to_ = some y := hm
 unfold i_areDays at hm
 refine rg G (rg G (Ok_seq (rs G (hN 1 days h0) ?_)))
 refine tF hm (fun _ => ⟨[], [], 32⟩) (fun v3 hr hm => ?_) ?_
 ·refine Ok_block (lp G hm (fun (v, v1) => ⟨[(2, dV to_), (7, dV v), (12, dV days), (13, dV (days.length : Int)), (14, dV v1)], [], 32⟩) ?_)
  rintro ⟨v, v1⟩ r0 hb hm
  rw [i_areDays_L1] at hm
  refine rg G (Ok_seq (cd hm (fun hm => ?_) (fun hm => ?_)))
  ·refine X_skip (thN (Ok_seq (Ok_block ?_)))
   obtain ⟨e, h, hm⟩ := obind hm
   refine rs G (hD 0 h h0) ?_
   refine Ok_seq (jn hm (fun v2 => ⟨[(2, dV to_), (9, dV e), (12, dV days), (13, dV (days.length : Int)), (14, dV v1), (25, dV v2)], [], 32⟩) (fun v2 hm => ?_) ?_)
   ·rcases bf hm with ⟨hb1, hm⟩ | ⟨hb1, hm⟩
    ·refine re G (hO 3 (.b true) (hP hb1 h0)) ?_
     exact wJ G hm
    ·refine re G (hO 3 (.b false) (hP hb1 h0)) ?_
     exact wJ G hm
   rintro v2 hm
   refine cd hm (fun hm => ?_) (fun hm => ?_)
   ·refine rg G ?_
    have hm := eL hm hb hr
    cases hm
    exact rt [] []
   ·exact X_skip (thN (rh G (ibN (thN (rh G (wL G hm))))))
  ·exact Ok_exit (thE (thE (ibE (wE G hm hb))))
 rintro ⟨⟩ hm s hw
 refine thN (Ok_weak hw ?_)
 refine rg G ?_
 cases hm
 exact rt [] []
noncomputable def i_byWeekday_M : MS (Int × Int) Bool := ⟨.x .r .r, fun x => i_byWeekday x.1 x.2, fun y => dV y, fun _ => [], fun _ _ => []⟩
theorem i_byWeekday_c {set day y} (hm : i_byWeekday set day = some y) : i_byWeekday_M.C (set, day) y := i_byWeekday_M.c (set, day) hm
theorem i_byWeekday_ok : FnOK Tryd.prog tJ 117 i_byWeekday_M.S := by
 refine fm tt i_byWeekday_M [] Tryd.call117 Tryd.func117 rfl Tryd.results117 Tryd.ntmps117 ?_
 rintro ⟨set, day⟩ y cx G hm
 have hm : i_byWeekday set day = some y := hm
 unfold i_byWeekday at hm
 refine rg G ?_
 obtain ⟨u, h, hm⟩ := obind hm
 obtain ⟨u1, h1, hm⟩ := obind hm
 refine rs G (hK h (hK h1 h0)) ?_
 cases hm
 exact rt [] []
noncomputable def i_IsValidCalendar_M : MS Calendar Bool := ⟨.r, i_IsValidCalendar, fun y => dV y, fun _ => [], fun _ _ => []⟩
theorem i_IsValidCalendar_c {c y} (hm : i_IsValidCalendar c = some y) : i_IsValidCalendar_M.C c y := i_IsValidCalendar_M.c c hm
theorem i_IsValidCalendar_ok : FnOK Tryd.prog tJ 62 i_IsValidCalendar_M.S := by
 refine fm tt i_IsValidCalendar_M [fo i_isDay_ok, fo i_within_ok, fo i_areDays_ok, fo i_byWeekday_ok] Tryd.call62 Tryd.func62 rfl Tryd.results62 Tryd.ntmps62 ?_
 rintro c y cx G hm
 have hm : i_IsValidCalendar c = some y := hm
 unfold i_IsValidCalendar at hm
 refine rg G (Ok_seq ?_)
 obtain ⟨r, h, hm⟩ := obind hm
 refine jn hm (fun v => ⟨[(1, .ref 16 0), (29, dV v)], [bX 16 76 [dV c.From, dV c.To, dV c.Weekdays, dV c.Added, dV c.Removed]], 48⟩) (fun v hm => ?_) ?_
 ·rcases bf hm with ⟨hb, hm⟩ | ⟨hb, hm⟩
  ·refine re G (hC 2 (i_isDay_c h) (hO 4 (.b true) (hP hb h0))) ?_
   exact wJ G hm
  ·obtain ⟨r1, h1, hm⟩ := obind hm
   rcases bf hm with ⟨hb1, hm⟩ | ⟨hb1, hm⟩
   ·refine re G (hC 2 (i_isDay_c h) (hO 4 (.b false) (hP hb (hC 7 (i_isDay_c h1) (hO 10 (.b true) (hP hb1 h0)))))) ?_
    exact wJ G hm
   ·rcases bf hm with ⟨hb2, hm⟩ | ⟨hb2, hm⟩
    ·refine re G (hC 2 (i_isDay_c h) (hO 4 (.b false) (hP hb (hC 7 (i_isDay_c h1) (hO 10 (.b false) (hP hb1 (hO 17 (.b true) (hP hb2 h0)))))))) ?_
     exact wJ G hm
    ·obtain ⟨r2, h2, hm⟩ := obind hm
     refine re G (hC 2 (i_isDay_c h) (hO 4 (.b false) (hP hb (hC 7 (i_isDay_c h1) (hO 10 (.b false) (hP hb1 (hO 17 (.b false) (hP hb2 (hC 20 (i_within_c h2) h0))))))))) ?_
     exact wJ G hm
 rintro v hm
 refine cd hm (fun hm => ?_) (fun hm => ?_)
 ·refine rg G ?_
  cases hm
  exact rt [] []
 ·refine X_skip (thN (Ok_seq (jn hm (fun v1 => ⟨[(1, .ref 16 0), (59, dV v1)], [bX 16 76 [dV c.From, dV c.To, dV c.Weekdays, dV c.Added, dV c.Removed]], 48⟩) (fun v1 hm => ?_) ?_)))
  ·rcases bf hm with ⟨hb3, hm⟩ | ⟨hb3, hm⟩
   ·refine re G (hN 2 c.Added (hO 4 (.b true) (hP hb3 h0))) ?_
    exact wJ G hm
   ·rcases bf hm with ⟨hb4, hm⟩ | ⟨hb4, hm⟩
    ·refine re G (hN 2 c.Added (hO 4 (.b false) (hP hb3 (hN 7 c.Removed (hO 10 (.b true) (hP hb4 h0)))))) ?_
     exact wJ G hm
    ·obtain ⟨r3, h3, hm⟩ := obind hm
     rcases bf hm with ⟨hb5, hm⟩ | ⟨hb5, hm⟩
     ·refine re G (hN 2 c.Added (hO 4 (.b false) (hP hb3 (hN 7 c.Removed (hO 10 (.b false) (hP hb4 (hC 17 (i_areDays_c h3) (hO 20 (.b true) (hP hb5 h0))))))))) ?_
      exact wJ G hm
     ·obtain ⟨r4, h4, hm⟩ := obind hm
      refine re G (hN 2 c.Added (hO 4 (.b false) (hP hb3 (hN 7 c.Removed (hO 10 (.b false) (hP hb4 (hC 17 (i_areDays_c h3) (hO 20 (.b false) (hP hb5 (hC 27 (i_areDays_c h4) h0)))))))))) ?_
      exact wJ G hm
  rintro v1 hm
  refine cd hm (fun hm => ?_) (fun hm => ?_)
  ·refine rg G ?_
   cases hm
   exact rt [] []
  ·refine X_skip (thN (Ok_seq (rs G (hN 2 c.Added h0) ?_)))
   refine tF hm (fun _ => ⟨[(1, .ref 16 0)], [bX 16 76 [dV c.From, dV c.To, dV c.Weekdays, dV c.Added, dV c.Removed]], 48⟩) (fun v5 hr hm => ?_) ?_
   ·refine Ok_block (lp G hm (fun v2 => ⟨[(1, .ref 16 0), (61, dV c.Added), (62, dV (c.Added.length : Int)), (63, dV v2)], [bX 16 76 [dV c.From, dV c.To, dV c.Weekdays, dV c.Added, dV c.Removed]], 48⟩) ?_)
    rintro v2 r0 hb6 hm
    rw [i_IsValidCalendar_L1] at hm
    refine rg G (Ok_seq (cd hm (fun hm => ?_) (fun hm => ?_)))
    ·refine X_skip (thN (Ok_seq (Ok_block ?_)))
     obtain ⟨e, h5, hm⟩ := obind hm
     refine rs G (hD 0 h5 h0) ?_
     obtain ⟨r5, h6, hm⟩ := obind hm
     refine rs G (hC 3 (i_byWeekday_c h6) h0) ?_
     refine cd hm (fun hm => ?_) (fun hm => ?_)
     ·refine rg G ?_
      have hm := eL hm hb6 hr
      cases hm
      exact rt [] []
     ·exact X_skip (ibN (thN (rh G (wL G hm))))
    ·exact Ok_exit (thE (thE (ibE (wE G hm hb6))))
   rintro ⟨⟩ hm s hw
   refine thN (Ok_weak hw ?_)
   refine Ok_seq (rs G (hN 2 c.Removed h0) ?_)
   refine tF hm (fun _ => ⟨[], [], 32⟩) (fun v4 hr1 hm => ?_) ?_
   ·refine Ok_block (lp G hm (fun v3 => ⟨[(1, .ref 16 0), (73, dV c.Removed), (74, dV (c.Removed.length : Int)), (75, dV v3)], [bX 16 76 [dV c.From, dV c.To, dV c.Weekdays, dV c.Added, dV c.Removed]], 48⟩) ?_)
    rintro v3 r0 hb7 hm
    rw [i_IsValidCalendar_L2] at hm
    refine rg G (Ok_seq (cd hm (fun hm => ?_) (fun hm => ?_)))
    ·refine X_skip (thN (Ok_seq (Ok_block ?_)))
     obtain ⟨e2, h7, hm⟩ := obind hm
     refine rs G (hD 0 h7 h0) ?_
     obtain ⟨r7, h8, hm⟩ := obind hm
     refine rs G (hC 3 (i_byWeekday_c h8) h0) ?_
     refine cd hm (fun hm => ?_) (fun hm => ?_)
     ·refine rg G ?_
      have hm := eL hm hb7 hr1
      cases hm
      exact rt [] []
     ·exact X_skip (ibN (thN (rh G (wL G hm))))
    ·exact Ok_exit (thE (thE (ibE (wE G hm hb7))))
   rintro ⟨⟩ hm s1 hw1
   refine thN (Ok_weak hw1 ?_)
   refine rg G ?_
   cases hm
   exact rt [] []
noncomputable def strconv_Itoa_M : MS Int ByteArray := ⟨.r, strconv_Itoa, fun y => dV y, fun _ => [], fun _ _ => []⟩
theorem strconv_Itoa_c {i y} (hm : strconv_Itoa i = some y) : strconv_Itoa_M.C i y := strconv_Itoa_M.c i hm
theorem strconv_Itoa_ok : FnOK Tryd.prog tJ 79 strconv_Itoa_M.S := itoaOK Tryd.laysM171 Tryd.call79 (g := 1) (by kernel_rfl)
noncomputable def strings_Builder_WriteString_M : MS ((List UInt8) × ByteArray) (Int × NilErr × (List UInt8)) := writeStringS 142 5
theorem strings_Builder_WriteString_c {b s y} (hm : strings_Builder_WriteString b s = some y) : strings_Builder_WriteString_M.C (b, s) y := strings_Builder_WriteString_M.c (b, s) hm
theorem strings_Builder_WriteString_ok : FnOK Tryd.prog tJ 130 strings_Builder_WriteString_M.S := writeStringOK Tryd.lays166 Tryd.Builder_Extra_166 Tryd.call130
noncomputable def strings_Builder_WriteByte_M : MS ((List UInt8) × UInt8) (NilErr × (List UInt8)) := writeByteS 142 5
theorem strings_Builder_WriteByte_c {b c y} (hm : strings_Builder_WriteByte b c = some y) : strings_Builder_WriteByte_M.C (b, c) y := strings_Builder_WriteByte_M.c (b, c) hm
theorem strings_Builder_WriteByte_ok : FnOK Tryd.prog tJ 151 strings_Builder_WriteByte_M.S := writeByteOK Tryd.lays167 Tryd.Builder_Extra_167 Tryd.call151
noncomputable def strings_Builder_String_M : MS ((List UInt8)) ByteArray := bldStringS 142 5
theorem strings_Builder_String_c {b y} (hm : strings_Builder_String b = some y) : strings_Builder_String_M.C b y := strings_Builder_String_M.c b hm
theorem strings_Builder_String_ok : FnOK Tryd.prog tJ 131 strings_Builder_String_M.S := bldStringOK Tryd.lays169 Tryd.Builder_Extra_169 Tryd.call131
noncomputable def i_formatCalendar_M : MS Calendar ByteArray := ⟨.r, i_formatCalendar, fun y => dV y, fun _ => [], fun _ _ => []⟩
theorem i_formatCalendar_c {c y} (hm : i_formatCalendar c = some y) : i_formatCalendar_M.C c y := i_formatCalendar_M.c c hm
theorem i_formatCalendar_ok : FnOK Tryd.prog tJ 112 i_formatCalendar_M.S := by
 refine fm tt i_formatCalendar_M [fo strconv_Itoa_ok, fo strings_Builder_WriteString_ok, fo strings_Builder_WriteByte_ok, fo strings_Builder_String_ok] Tryd.call112 Tryd.func112 rfl Tryd.results112 Tryd.ntmps112 ?_
 rintro c y cx G hm
 have hm : i_formatCalendar c = some y := hm
 unfold i_formatCalendar at hm
 refine rg G (rg G (Ok_weak (Wk_J (x' := (⟨[(1, .ref 16 0), (3, .ref 32 0)], [bX 16 76 [dV c.From, dV c.To, dV c.Weekdays, dV c.Added, dV c.Removed], (32, some (.bld 142 5 ([] : List UInt8) 32))], 64⟩ : X)) G.hL ⟨[(1, []), (3, [])], [(16, 16, []), (32, 48, [.bd 5])], [], 64⟩ (by kernel_rfl)) ?_))
 obtain ⟨r3, h6, hm⟩ := obind hm
 obtain ⟨u3, h7, hm⟩ := obind hm
 obtain ⟨r4, h8, hm⟩ := obind hm
 obtain ⟨u4, h9, hm⟩ := obind hm
 obtain ⟨u5, h10, hm⟩ := obind hm
 obtain ⟨r5, h11, hm⟩ := obind hm
 refine ds G [(9, [32])] (hC 2 (strconv_Itoa_c h6) (hP (cat_p (chk_t h7)) (hC 6 (strconv_Itoa_c h8) (hP (cat_p (chk_t h9)) (hP (cat_p (chk_t h10)) (hC 9 (strings_Builder_WriteString_c h11) h0)))))) ?_
 refine Ok_seq (rg G (tl hm (fun v3 => ⟨[(1, .ref 16 0), (3, .ref 32 0)], [bX 16 76 [dV c.From, dV c.To, dV c.Weekdays, dV c.Added, dV c.Removed], (32, some (.bld 142 5 v3 32))], 64⟩) (fun v3 hm => ?_) ?_))
 ·refine Ok_block (lp G hm (fun (v, v1) => ⟨[(1, .ref 16 0), (3, .ref 32 0), (19, dV v)], [bX 16 76 [dV c.From, dV c.To, dV c.Weekdays, dV c.Added, dV c.Removed], (32, some (.bld 142 5 v1 32))], 64⟩) ?_)
  rintro ⟨v, v1⟩ r0 hb hm
  rw [i_formatCalendar_L1] at hm
  refine rg G (Ok_seq (cd hm (fun hm => ?_) (fun hm => ?_)))
  ·refine X_skip (thN (jn hm (fun v2 => ⟨[(1, .ref 16 0), (3, .ref 32 0), (19, dV v)], [bX 16 76 [dV c.From, dV c.To, dV c.Weekdays, dV c.Added, dV c.Removed], (32, some (.bld 142 5 v2 32))], 64⟩) (fun v2 hm => ?_) ?_))
   ·refine Ok_block (rg G ?_)
    obtain ⟨u6, h12, hm⟩ := obind hm
    refine rs G (hK h12 h0) ?_
    refine cd hm (fun hm => ?_) (fun hm => ?_)
    ·obtain ⟨u7, h13, hm⟩ := obind hm
     obtain ⟨r6, h14, hm⟩ := obind hm
     refine re G (hK h13 (hC 2 (strings_Builder_WriteByte_c h14) h0)) ?_
     exact ibN (wJ G hm)
    ·obtain ⟨r7, h15, hm⟩ := obind hm
     refine re G (hC 0 (strings_Builder_WriteByte_c h15) h0) ?_
     exact ibN (wJ G hm)
   rintro v2 hm
   exact rh G (wL G hm)
  ·exact Ok_exit (thE (thE (ibE (wD G hm hb))))
 rintro v3 hm s hw
 refine thN (Ok_weak hw ?_)
 refine Ok_seq (rs G (hN 2 c.Added h0) ?_)
 refine tl hm (fun v6 => ⟨[(1, .ref 16 0), (3, .ref 32 0)], [bX 16 76 [dV c.From, dV c.To, dV c.Weekdays, dV c.Added, dV c.Removed], (32, some (.bld 142 5 v6 32))], 64⟩) (fun v6 hm => ?_) ?_
 ·refine Ok_block (lp G hm (fun (v4, v5) => ⟨[(1, .ref 16 0), (3, .ref 32 0), (34, dV c.Added), (35, dV (c.Added.length : Int)), (36, dV v4)], [bX 16 76 [dV c.From, dV c.To, dV c.Weekdays, dV c.Added, dV c.Removed], (32, some (.bld 142 5 v5 32))], 64⟩) ?_)
  rintro ⟨v4, v5⟩ r0 hb1 hm
  rw [i_formatCalendar_L2] at hm
  refine rg G (Ok_seq (cd hm (fun hm => ?_) (fun hm => ?_)))
  ·refine X_skip (thN (Ok_seq (Ok_block ?_)))
   obtain ⟨e, h16, hm⟩ := obind hm
   refine rs G (hD 0 h16 h0) ?_
   obtain ⟨r8, h17, hm⟩ := obind hm
   obtain ⟨u8, h18, hm⟩ := obind hm
   obtain ⟨r9, h19, hm⟩ := obind hm
   refine re G (hC 1 (strconv_Itoa_c h17) (hP (cat_p (chk_t h18)) (hC 3 (strings_Builder_WriteString_c h19) h0))) ?_
   exact ibN (thN (rh G (wL G hm)))
  ·exact Ok_exit (thE (thE (ibE (wD G hm hb1))))
 rintro v6 hm s1 hw1
 refine thN (Ok_weak hw1 ?_)
 refine Ok_seq (rs G (hN 2 c.Removed h0) ?_)
 refine tl hm (fun v9 => ⟨[(3, .ref 16 0)], [(16, some (.bld 142 5 v9 16))], 48⟩) (fun v9 hm => ?_) ?_
 ·refine Ok_block (lp G hm (fun (v7, v8) => ⟨[(3, .ref 16 0), (46, dV c.Removed), (47, dV (c.Removed.length : Int)), (48, dV v7)], [(16, some (.bld 142 5 v8 16))], 48⟩) ?_)
  rintro ⟨v7, v8⟩ r0 hb2 hm
  rw [i_formatCalendar_L3] at hm
  refine rg G (Ok_seq (cd hm (fun hm => ?_) (fun hm => ?_)))
  ·refine X_skip (thN (Ok_seq (Ok_block ?_)))
   obtain ⟨e1, h20, hm⟩ := obind hm
   refine rs G (hD 0 h20 h0) ?_
   obtain ⟨r10, h21, hm⟩ := obind hm
   obtain ⟨u9, h22, hm⟩ := obind hm
   obtain ⟨r11, h23, hm⟩ := obind hm
   refine re G (hC 1 (strconv_Itoa_c h21) (hP (cat_p (chk_t h22)) (hC 3 (strings_Builder_WriteString_c h23) h0))) ?_
   exact ibN (thN (rh G (wL G hm)))
  ·exact Ok_exit (thE (thE (ibE (wD G hm hb2))))
 rintro v9 hm s2 hw2
 refine thN (Ok_weak hw2 ?_)
 obtain ⟨r12, h24, hm⟩ := obind hm
 refine rs G (hC 0 (strings_Builder_String_c h24) h0) ?_
 cases hm
 exact rt [] []
noncomputable def i_FormatCalendar_M : MS Calendar (ByteArray × Bool) := ⟨.r, i_FormatCalendar, fun y => .tup [dV y.1, dV y.2], fun _ => [], fun _ _ => []⟩
theorem i_FormatCalendar_c {c y} (hm : i_FormatCalendar c = some y) : i_FormatCalendar_M.C c y := i_FormatCalendar_M.c c hm
theorem i_FormatCalendar_ok : FnOK Tryd.prog tJ 60 i_FormatCalendar_M.S := by
 refine fm tt i_FormatCalendar_M [fo i_IsValidCalendar_ok, fo i_formatCalendar_ok] Tryd.call60 Tryd.func60 rfl Tryd.results60 Tryd.ntmps60 ?_
 rintro c y cx G hm
 have hm : i_FormatCalendar c = some y := hm
 unfold i_FormatCalendar at hm
 refine rg G (Ok_seq ?_)
 obtain ⟨r, h, hm⟩ := obind hm
 refine rs G (hC 1 (i_IsValidCalendar_c h) h0) ?_
 refine cd hm (fun hm => ?_) (fun hm => ?_)
 ·refine rg G ?_
  cases hm
  exact rt [] []
 ·refine X_skip (thN ?_)
  obtain ⟨r1, h1, hm⟩ := obind hm
  refine rs G (hC 1 (i_formatCalendar_c h1) h0) ?_
  cases hm
  exact rt [] []
noncomputable def s_l1Rising_M : MS ((List Int) × Int × Int) Bool := ⟨.x .r (.x .r .r), fun x => s_l1Rising x.1 x.2.1 x.2.2, fun y => dV y, fun _ => [], fun _ _ => []⟩
theorem s_l1Rising_c {l lo hi y} (hm : s_l1Rising l lo hi = some y) : s_l1Rising_M.C (l, lo, hi) y := s_l1Rising_M.c (l, lo, hi) hm
theorem s_l1Rising_ok : FnOK Tryd.prog tJ 152 s_l1Rising_M.S := by
 refine fm tt s_l1Rising_M [fo s_l1In_ok] Tryd.call152 Tryd.func152 rfl Tryd.results152 Tryd.ntmps152 ?_
 rintro ⟨l, lo, hi⟩ y cx G hm
 have hm : s_l1Rising l lo hi = some y := hm
 unfold s_l1Rising at hm
 refine rg G (Ok_seq (rg G (tF hm (fun _ => ⟨[], [], 32⟩) (fun v2 hr hm => ?_) ?_)))
 ·refine Ok_block (lp G hm (fun v => ⟨[(0, dV l), (1, dV lo), (2, dV hi), (7, dV v)], [], 32⟩) ?_)
  rintro v r0 hb hm
  rw [s_l1Rising_L1] at hm
  refine Ok_seq (rs G (hN 2 l h0) ?_)
  refine cd hm (fun hm => ?_) (fun hm => ?_)
  ·refine X_skip (thN (Ok_seq (Ok_block ?_)))
   obtain ⟨e3, h4, hm⟩ := obind hm
   obtain ⟨r1, h5, hm⟩ := obind hm
   refine jn hm (fun v1 => ⟨[(0, dV l), (1, dV lo), (2, dV hi), (7, dV v), (37, dV v1)], [], 32⟩) (fun v1 hm => ?_) ?_
   ·rcases bf hm with ⟨hb1, hm⟩ | ⟨hb1, hm⟩
    ·refine de G [] (hD 2 h4 (hC 6 (s_l1In_c h5) (hO 8 (.b true) (hP hb1 h0)))) ?_
     exact wJ G hm
    ·rcases bf hm with ⟨hb2, hm⟩ | ⟨hb2, hm⟩
     ·obtain ⟨e4, h6, hm⟩ := obind hm
      obtain ⟨e5, h7, hm⟩ := obind hm
      refine de G [] (hD 2 h4 (hC 6 (s_l1In_c h5) (hO 8 (.b false) (hP hb1 (hO 11 (.b true) (hP hb2 (hD 15 h6 (hD 19 h7 h0)))))))) ?_
      exact wJ G hm
     ·refine de G [] (hD 2 h4 (hC 6 (s_l1In_c h5) (hO 8 (.b false) (hP hb1 (hO 11 (.b false) (hP hb2 h0)))))) ?_
      exact wJ G hm
   rintro v1 hm
   refine cd hm (fun hm => ?_) (fun hm => ?_)
   ·refine rg G ?_
    have hm := eL hm hb hr
    cases hm
    exact rt [] []
   ·exact X_skip (ibN (thN (rh G (wL G hm))))
  ·exact Ok_exit (thE (thE (ibE (wE G hm hb))))
 rintro ⟨⟩ hm s hw
 refine thN (Ok_weak hw ?_)
 refine rg G ?_
 cases hm
 exact rt [] []
noncomputable def s_l3Good_M : MS Calendar Bool := ⟨.r, s_l3Good, fun y => dV y, fun _ => [], fun _ _ => []⟩
theorem s_l3Good_c {c y} (hm : s_l3Good c = some y) : s_l3Good_M.C c y := s_l3Good_M.c c hm
theorem s_l3Good_ok : FnOK Tryd.prog tJ 113 s_l3Good_M.S := by
 refine fm tt s_l3Good_M [fo s_l1In_ok, fo s_l1Rising_ok, fo s_l3Regular_ok] Tryd.call113 Tryd.func113 rfl Tryd.results113 Tryd.ntmps113 ?_
 rintro c y cx G hm
 have hm : s_l3Good c = some y := hm
 unfold s_l3Good at hm
 refine rg G (Ok_seq ?_)
 obtain ⟨r, h, hm⟩ := obind hm
 refine jn hm (fun v => ⟨[(1, .ref 16 0), (33, dV v)], [bX 16 76 [dV c.From, dV c.To, dV c.Weekdays, dV c.Added, dV c.Removed]], 48⟩) (fun v hm => ?_) ?_
 ·rcases bf hm with ⟨hb, hm⟩ | ⟨hb, hm⟩
  ·refine re G (hC 4 (s_l1In_c h) (hO 6 (.b true) (hP hb h0))) ?_
   exact wJ G hm
  ·rcases bf hm with ⟨hb1, hm⟩ | ⟨hb1, hm⟩
   ·refine re G (hC 4 (s_l1In_c h) (hO 6 (.b false) (hP hb (hO 11 (.b true) (hP hb1 h0))))) ?_
    exact wJ G hm
   ·obtain ⟨r1, h1, hm⟩ := obind hm
    rcases bf hm with ⟨hb2, hm⟩ | ⟨hb2, hm⟩
    ·refine re G (hC 4 (s_l1In_c h) (hO 6 (.b false) (hP hb (hO 11 (.b false) (hP hb1 (hC 14 (s_l1In_c h1) (hO 17 (.b true) (hP hb2 h0)))))))) ?_
     exact wJ G hm
    ·rcases bf hm with ⟨hb3, hm⟩ | ⟨hb3, hm⟩
     ·refine re G (hC 4 (s_l1In_c h) (hO 6 (.b false) (hP hb (hO 11 (.b false) (hP hb1 (hC 14 (s_l1In_c h1) (hO 17 (.b false) (hP hb2 (hN 20 c.Added (hO 23 (.b true) (hP hb3 h0))))))))))) ?_
      exact wJ G hm
     ·refine re G (hC 4 (s_l1In_c h) (hO 6 (.b false) (hP hb (hO 11 (.b false) (hP hb1 (hC 14 (s_l1In_c h1) (hO 17 (.b false) (hP hb2 (hN 20 c.Added (hO 23 (.b false) (hP hb3 (hN 26 c.Removed h0)))))))))))) ?_
      exact wJ G hm
 rintro v hm
 refine cd hm (fun hm => ?_) (fun hm => ?_)
 ·refine rg G ?_
  cases hm
  exact rt [] []
 ·refine X_skip (thN (Ok_seq ?_))
  obtain ⟨r2, h2, hm⟩ := obind hm
  refine jn hm (fun v1 => ⟨[(1, .ref 16 0), (51, dV v1)], [bX 16 76 [dV c.From, dV c.To, dV c.Weekdays, dV c.Added, dV c.Removed]], 48⟩) (fun v1 hm => ?_) ?_
  ·rcases bf hm with ⟨hb4, hm⟩ | ⟨hb4, hm⟩
   ·refine re G (hC 6 (s_l1Rising_c h2) (hO 8 (.b true) (hP hb4 h0))) ?_
    exact wJ G hm
   ·obtain ⟨r3, h3, hm⟩ := obind hm
    refine re G (hC 6 (s_l1Rising_c h2) (hO 8 (.b false) (hP hb4 (hC 15 (s_l1Rising_c h3) h0)))) ?_
    exact wJ G hm
  rintro v1 hm
  refine cd hm (fun hm => ?_) (fun hm => ?_)
  ·refine rg G ?_
   cases hm
   exact rt [] []
  ·refine X_skip (thN (Ok_seq (rg G (tF hm (fun _ => ⟨[(1, .ref 16 0)], [bX 16 76 [dV c.From, dV c.To, dV c.Weekdays, dV c.Added, dV c.Removed]], 48⟩) (fun v4 hr hm => ?_) ?_))))
   ·refine Ok_block (lp G hm (fun i => ⟨[(1, .ref 16 0), (3, dV i)], [bX 16 76 [dV c.From, dV c.To, dV c.Weekdays, dV c.Added, dV c.Removed]], 48⟩) ?_)
    rintro i r0 hb5 hm
    rw [s_l3Good_L1] at hm
    refine Ok_seq (rs G (hN 3 c.Added h0) ?_)
    refine cd hm (fun hm => ?_) (fun hm => ?_)
    ·refine X_skip (thN (Ok_seq (Ok_block ?_)))
     obtain ⟨e1, h6, hm⟩ := obind hm
     obtain ⟨r5, h7, hm⟩ := obind hm
     refine ds G [] (hD 4 h6 (hC 6 (s_l3Regular_c h7) h0)) ?_
     refine cd hm (fun hm => ?_) (fun hm => ?_)
     ·refine rg G ?_
      have hm := eL hm hb5 hr
      cases hm
      exact rt [] []
     ·exact X_skip (ibN (thN (rh G (wL G hm))))
    ·exact Ok_exit (thE (thE (ibE (wE G hm hb5))))
   rintro ⟨⟩ hm s hw
   refine thN (Ok_weak hw ?_)
   refine Ok_seq (rg G (tF hm (fun _ => ⟨[], [], 32⟩) (fun v3 hr1 hm => ?_) ?_))
   ·refine Ok_block (lp G hm (fun v2 => ⟨[(1, .ref 16 0), (4, dV v2)], [bX 16 76 [dV c.From, dV c.To, dV c.Weekdays, dV c.Added, dV c.Removed]], 48⟩) ?_)
    rintro v2 r0 hb6 hm
    rw [s_l3Good_L2] at hm
    refine Ok_seq (rs G (hN 3 c.Removed h0) ?_)
    refine cd hm (fun hm => ?_) (fun hm => ?_)
    ·refine X_skip (thN (Ok_seq (Ok_block ?_)))
     obtain ⟨e4, h10, hm⟩ := obind hm
     obtain ⟨r8, h11, hm⟩ := obind hm
     refine ds G [] (hD 4 h10 (hC 6 (s_l3Regular_c h11) h0)) ?_
     refine cd hm (fun hm => ?_) (fun hm => ?_)
     ·refine rg G ?_
      have hm := eL hm hb6 hr1
      cases hm
      exact rt [] []
     ·exact X_skip (ibN (thN (rh G (wL G hm))))
    ·exact Ok_exit (thE (thE (ibE (wE G hm hb6))))
   rintro ⟨⟩ hm s1 hw1
   refine thN (Ok_weak hw1 ?_)
   refine rg G ?_
   cases hm
   exact rt [] []
noncomputable def s_l1Num_MR (rec_ : Int → Option (ByteArray)) : MS Int ByteArray := ⟨.r, rec_, fun y => dV y, fun _ => [], fun _ _ => []⟩
noncomputable def s_l1Num_M : MS Int ByteArray := s_l1Num_MR s_l1Num
theorem s_l1Num_c {n y} (hm : s_l1Num n = some y) : s_l1Num_M.C n y := s_l1Num_M.c n hm
theorem s_l1Num_cR {rec_ : Int → Option (ByteArray)} {n y} (hm : rec_ n = some y) : (s_l1Num_MR rec_).C n y := (s_l1Num_MR rec_).c n hm
theorem s_l1Num_okF {rec_ : Int → Option (ByteArray)} (hrec : FnOK Tryd.prog tJ 81 (s_l1Num_MR rec_).S) : FnOK Tryd.prog tJ 81 (s_l1Num_MR (s_l1Num_F rec_)).S := by
 refine fm tt (s_l1Num_MR (s_l1Num_F rec_)) [fo hrec] Tryd.call81 Tryd.func81 rfl Tryd.results81 Tryd.ntmps81 ?_
 rintro n y cx G hm
 have hm : s_l1Num_F rec_ n = some y := hm
 unfold s_l1Num_F at hm
 refine rg G (Ok_seq (rg G (cd hm (fun hm => ?_) (fun hm => ?_))))
 ·obtain ⟨r, h, hm⟩ := obind hm
  obtain ⟨u, h1, hm⟩ := obind hm
  refine rs G (hC 2 (s_l1Num_cR h) (hP (cat_p (chk_t h1)) h0)) ?_
  cases hm
  exact rt [] []
 ·refine X_skip (thN (Ok_seq (rg G (cd hm (fun hm => ?_) (fun hm => ?_)))))
  ·obtain ⟨u1, h2, hm⟩ := obind hm
   refine rs G (hK h2 h0) ?_
   cases hm
   exact rt [] []
  ·refine X_skip (thN ?_)
   obtain ⟨u7, h9, hm⟩ := obind hm
   obtain ⟨r2, h10, hm⟩ := obind hm
   obtain ⟨u8, h11, hm⟩ := obind hm
   obtain ⟨u9, h12, hm⟩ := obind hm
   obtain ⟨u10, h13, hm⟩ := obind hm
   obtain ⟨u11, h14, hm⟩ := obind hm
   refine ds G [] (hK h9 (hC 2 (s_l1Num_cR h10) (hK h11 (hK h12 (hK h13 (hP (cat_p (chk_t h14)) h0)))))) ?_
   cases hm
   exact rt [] []
theorem s_l1Num_okn : ∀ k, FnOK Tryd.prog tJ 81 (s_l1Num_MR (s_l1Num_k k)).S
 | 0 => ⟨fun args w => Tryd.call81 args w, fun vs w F ds obs κ hp => by obtain ⟨x, y, _, _, h⟩ := hp; cases h⟩
 | k + 1 => s_l1Num_okF (s_l1Num_okn k)
theorem s_l1Num_ok : FnOK Tryd.prog tJ 81 s_l1Num_M.S := s_l1Num_okn 4294967296
noncomputable def s_l3Text_M : MS Calendar ByteArray := ⟨.r, s_l3Text, fun y => dV y, fun _ => [], fun _ _ => []⟩
theorem s_l3Text_c {c y} (hm : s_l3Text c = some y) : s_l3Text_M.C c y := s_l3Text_M.c c hm
theorem s_l3Text_ok : FnOK Tryd.prog tJ 114 s_l3Text_M.S := by
 refine fm tt s_l3Text_M [fo s_l1Num_ok] Tryd.call114 Tryd.func114 rfl Tryd.results114 Tryd.ntmps114 ?_
 rintro c y cx G hm
 have hm : s_l3Text c = some y := hm
 unfold s_l3Text at hm
 refine rg G ?_
 obtain ⟨r2, h5, hm⟩ := obind hm
 obtain ⟨u3, h6, hm⟩ := obind hm
 obtain ⟨r3, h7, hm⟩ := obind hm
 obtain ⟨u4, h8, hm⟩ := obind hm
 obtain ⟨u5, h9, hm⟩ := obind hm
 refine ds G [] (hC 2 (s_l1Num_c h5) (hP (cat_p (chk_t h6)) (hC 6 (s_l1Num_c h7) (hP (cat_p (chk_t h8)) (hP (cat_p (chk_t h9)) h0))))) ?_
 refine Ok_seq (rg G (tl hm (fun w2 => ⟨[(1, .ref 16 0), (3, dV w2)], [bX 16 76 [dV c.From, dV c.To, dV c.Weekdays, dV c.Added, dV c.Removed]], 48⟩) (fun w2 hm => ?_) ?_))
 ·refine Ok_block (lp G hm (fun (w, i) => ⟨[(1, .ref 16 0), (3, dV w), (4, dV i)], [bX 16 76 [dV c.From, dV c.To, dV c.Weekdays, dV c.Added, dV c.Removed]], 48⟩) ?_)
  rintro ⟨w, i⟩ r0 hb hm
  rw [s_l3Text_L1] at hm
  refine Ok_seq (rg G (cd hm (fun hm => ?_) (fun hm => ?_)))
  ·refine X_skip (thN (jn hm (fun w1 => ⟨[(1, .ref 16 0), (3, dV w1), (4, dV i)], [bX 16 76 [dV c.From, dV c.To, dV c.Weekdays, dV c.Added, dV c.Removed]], 48⟩) (fun w1 hm => ?_) ?_))
   ·refine Ok_block ?_
    obtain ⟨u6, h10, hm⟩ := obind hm
    refine rs G (hK h10 h0) ?_
    refine cd hm (fun hm => ?_) (fun hm => ?_)
    ·obtain ⟨u7, h11, hm⟩ := obind hm
     obtain ⟨u8, h12, hm⟩ := obind hm
     refine re G (hK h11 (hP (cat_p (chk_t h12)) h0)) ?_
     exact ibN (wJ G hm)
    ·obtain ⟨u9, h13, hm⟩ := obind hm
     refine re G (hP (cat_p (chk_t h13)) h0) ?_
     exact ibN (wJ G hm)
   rintro w1 hm
   exact rh G (wL G hm)
  ·exact Ok_exit (thE (thE (ibE (wD G hm hb))))
 rintro w2 hm s hw
 refine thN (Ok_weak hw ?_)
 refine Ok_seq (rg G (tl hm (fun w4 => ⟨[(1, .ref 16 0), (3, dV w4)], [bX 16 76 [dV c.From, dV c.To, dV c.Weekdays, dV c.Added, dV c.Removed]], 48⟩) (fun w4 hm => ?_) ?_))
 ·refine Ok_block (lp G hm (fun (w3, i1) => ⟨[(1, .ref 16 0), (3, dV w3), (5, dV i1)], [bX 16 76 [dV c.From, dV c.To, dV c.Weekdays, dV c.Added, dV c.Removed]], 48⟩) ?_)
  rintro ⟨w3, i1⟩ r0 hb1 hm
  rw [s_l3Text_L2] at hm
  refine Ok_seq (rs G (hN 3 c.Added h0) ?_)
  refine cd hm (fun hm => ?_) (fun hm => ?_)
  ·refine X_skip (thN (Ok_seq (Ok_block ?_)))
   obtain ⟨u10, h14, hm⟩ := obind hm
   obtain ⟨e, h15, hm⟩ := obind hm
   obtain ⟨r4, h16, hm⟩ := obind hm
   obtain ⟨u11, h17, hm⟩ := obind hm
   refine re G (hP (cat_p (chk_t h14)) (hD 5 h15 (hC 7 (s_l1Num_c h16) (hP (cat_p (chk_t h17)) h0)))) ?_
   exact ibN (thN (rh G (wL G hm)))
  ·exact Ok_exit (thE (thE (ibE (wD G hm hb1))))
 rintro w4 hm s1 hw1
 refine thN (Ok_weak hw1 ?_)
 refine Ok_seq (rg G (tl hm (fun w6 => ⟨[(3, dV w6)], [], 32⟩) (fun w6 hm => ?_) ?_))
 ·refine Ok_block (lp G hm (fun (w5, v) => ⟨[(1, .ref 16 0), (3, dV w5), (6, dV v)], [bX 16 76 [dV c.From, dV c.To, dV c.Weekdays, dV c.Added, dV c.Removed]], 48⟩) ?_)
  rintro ⟨w5, v⟩ r0 hb2 hm
  rw [s_l3Text_L3] at hm
  refine Ok_seq (rs G (hN 3 c.Removed h0) ?_)
  refine cd hm (fun hm => ?_) (fun hm => ?_)
  ·refine X_skip (thN (Ok_seq (Ok_block ?_)))
   obtain ⟨u12, h18, hm⟩ := obind hm
   obtain ⟨e1, h19, hm⟩ := obind hm
   obtain ⟨r5, h20, hm⟩ := obind hm
   obtain ⟨u13, h21, hm⟩ := obind hm
   refine re G (hP (cat_p (chk_t h18)) (hD 5 h19 (hC 7 (s_l1Num_c h20) (hP (cat_p (chk_t h21)) h0)))) ?_
   exact ibN (thN (rh G (wL G hm)))
  ·exact Ok_exit (thE (thE (ibE (wD G hm hb2))))
 rintro w6 hm s2 hw2
 refine thN (Ok_weak hw2 ?_)
 refine rg G ?_
 cases hm
 exact rt [] []
noncomputable def s_FormatCalendar_M : MS Calendar (ByteArray × Bool) := ⟨.r, s_FormatCalendar, fun y => .tup [dV y.1, dV y.2], fun _ => [], fun _ _ => []⟩
theorem s_FormatCalendar_c {c y} (hm : s_FormatCalendar c = some y) : s_FormatCalendar_M.C c y := s_FormatCalendar_M.c c hm
theorem s_FormatCalendar_ok : FnOK Tryd.prog tJ 61 s_FormatCalendar_M.S := by
 refine fm tt s_FormatCalendar_M [fo s_l3Good_ok, fo s_l3Text_ok] Tryd.call61 Tryd.func61 rfl Tryd.results61 Tryd.ntmps61 ?_
 rintro c y cx G hm
 have hm : s_FormatCalendar c = some y := hm
 unfold s_FormatCalendar at hm
 refine rg G (Ok_seq ?_)
 obtain ⟨r, h, hm⟩ := obind hm
 refine rs G (hC 1 (s_l3Good_c h) h0) ?_
 refine cd hm (fun hm => ?_) (fun hm => ?_)
 ·refine rg G ?_
  cases hm
  exact rt [] []
 ·refine X_skip (thN ?_)
  obtain ⟨r1, h1, hm⟩ := obind hm
  refine rs G (hC 1 (s_l3Text_c h1) h0) ?_
  cases hm
  exact rt [] []
noncomputable def i_natural_M : MS ByteArray (Int × ByteArray × Bool) := ⟨.r, i_natural, fun y => .tup [dV y.1, dV y.2.1, dV y.2.2], fun _ => [], fun _ _ => []⟩
theorem i_natural_c {s y} (hm : i_natural s = some y) : i_natural_M.C s y := i_natural_M.c s hm
theorem i_natural_ok : FnOK Tryd.prog tJ 83 i_natural_M.S := by
 refine fm tt i_natural_M [] Tryd.call83 Tryd.func83 rfl Tryd.results83 Tryd.ntmps83 ?_
 rintro s y cx G hm
 have hm : i_natural s = some y := hm
 unfold i_natural at hm
 refine rg G (rg G (jF hm (fun (i1, v3) => ⟨[(0, dV s), (5, dV i1), (6, dV v3)], [], 32⟩) (fun v4 hr hm => ?_) ?_))
 ·refine Ok_block (lp G hm (fun (i, v) => ⟨[(0, dV s), (5, dV i), (6, dV v)], [], 32⟩) ?_)
  rintro ⟨i, v⟩ r0 hb hm
  rw [i_natural_L1] at hm
  refine Ok_seq (jn hm (fun v1 => ⟨[(0, dV s), (5, dV i), (6, dV v), (22, dV v1)], [], 32⟩) (fun v1 hm => ?_) ?_)
  ·rcases bf hm with ⟨hb1, hm⟩ | ⟨hb1, hm⟩
   ·obtain ⟨u, h, hm⟩ := obind hm
    rcases bf hm with ⟨hb2, hm⟩ | ⟨hb2, hm⟩
    ·obtain ⟨u1, h1, hm⟩ := obind hm
     refine re G (hO 4 (.b true) (hP hb1 (hK h (hO 10 (.b true) (hP hb2 (hK h1 h0)))))) ?_
     exact wJ G hm
    ·refine re G (hO 4 (.b true) (hP hb1 (hK h (hO 10 (.b false) (hP hb2 h0))))) ?_
     exact wJ G hm
   ·refine re G (hO 4 (.b false) (hP hb1 h0)) ?_
    exact wJ G hm
  rintro v1 hm
  refine cd hm (fun hm => ?_) (fun hm => ?_)
  ·refine X_skip (thN (Ok_block (Ok_seq (jn hm (fun v2 => ⟨[(0, dV s), (5, dV i), (6, dV v), (32, dV v2)], [], 32⟩) (fun v2 hm => ?_) ?_))))
   ·rcases bf hm with ⟨hb3, hm⟩ | ⟨hb3, hm⟩
    ·refine re G (hO 2 (.b true) (hP hb3 h0)) ?_
     exact wJ G hm
    ·rcases bf hm with ⟨hb4, hm⟩ | ⟨hb4, hm⟩
     ·refine re G (hO 2 (.b false) (hP hb3 (hO 5 (.b true) (hP hb4 h0)))) ?_
      exact wJ G hm
     ·refine re G (hO 2 (.b false) (hP hb3 (hO 5 (.b false) (hP hb4 h0)))) ?_
      exact wJ G hm
   rintro v2 hm
   refine cd hm (fun hm => ?_) (fun hm => ?_)
   ·refine rg G ?_
    have hm := eL hm hb hr
    cases hm
    exact rt [] []
   ·refine X_skip (thN ?_)
    obtain ⟨u2, h2, hm⟩ := obind hm
    refine rs G (hK h2 h0) ?_
    exact rh G (ibN (wL G hm))
  ·exact Ok_exit (thE (thE (ibE (wE G hm hb))))
 rintro ⟨i1, v3⟩ hm
 obtain ⟨u4, h4, hm⟩ := obind hm
 refine ds G [] (hK h4 h0) ?_
 cases hm
 exact rt [] []
noncomputable def strings_HasPrefix_M : MS (ByteArray × ByteArray) Bool := ⟨.x .r .r, fun x => strings_HasPrefix x.1 x.2, fun y => dV y, fun _ => [], fun _ _ => []⟩
theorem strings_HasPrefix_c {s prefix_ y} (hm : strings_HasPrefix s prefix_ = some y) : strings_HasPrefix_M.C (s, prefix_) y := strings_HasPrefix_M.c (s, prefix_) hm
theorem strings_HasPrefix_ok : FnOK Tryd.prog tJ 118 strings_HasPrefix_M.S := hasPrefixOK Tryd.lays99 Tryd.call118
noncomputable def i_ParseCalendar_M : MS ByteArray (Calendar × Bool) := ⟨.r, i_ParseCalendar, fun y => .tup [dV y.1, dV y.2], fun _ => [], fun _ _ => []⟩
theorem i_ParseCalendar_c {s y} (hm : i_ParseCalendar s = some y) : i_ParseCalendar_M.C s y := i_ParseCalendar_M.c s hm
theorem i_ParseCalendar_ok : FnOK Tryd.prog tJ 63 i_ParseCalendar_M.S := by
 refine fm tt i_ParseCalendar_M [fo i_natural_ok, fo strings_HasPrefix_ok, fo i_IsValidCalendar_ok] Tryd.call63 Tryd.func63 rfl Tryd.results63 Tryd.ntmps63 ?_
 rintro s y cx G hm
 have hm : i_ParseCalendar s = some y := hm
 unfold i_ParseCalendar at hm
 refine rg G (rg G (rg G ?_))
 obtain ⟨r, h, hm⟩ := obind hm
 refine rs G (hC 1 (i_natural_c h) h0) ?_
 refine Ok_seq (jn hm (fun v => ⟨[(0, dV r.2.1), (2, .ref 16 0), (4, .ref 32 0), (22, dV v)], [bX 16 76 [kV .i64 0, kV .i64 0, kV .i64 0, .dat (.sc (.slice none 0 0)), .dat (.sc (.slice none 0 0))], bX 32 76 [dV r.1, kV .i64 0, kV .i64 0, .dat (.sc (.slice none 0 0)), .dat (.sc (.slice none 0 0))]], 64⟩) (fun v hm => ?_) ?_)
 ·rcases bf hm with ⟨hb, hm⟩ | ⟨hb, hm⟩
  ·refine re G (hO 2 (.b true) (hP hb h0)) ?_
   exact wJ G hm
  ·obtain ⟨r1, h1, hm⟩ := obind hm
   refine re G (hO 2 (.b false) (hP hb (hC 4 (strings_HasPrefix_c h1) h0))) ?_
   exact wJ G hm
 rintro v hm
 refine cd hm (fun hm => ?_) (fun hm => ?_)
 ·refine rg G ?_
  cases hm
  exact rt [] [[.k, .k, .k, .z 1, .z 1]]
 ·refine X_skip (thN ?_)
  obtain ⟨u, h2, hm⟩ := obind hm
  obtain ⟨r2, h3, hm⟩ := obind hm
  refine rs G (hK h2 (hC 2 (i_natural_c h3) h0)) ?_
  refine Ok_seq (jn hm (fun v1 => ⟨[(0, dV r2.2.1), (2, .ref 16 0), (4, .ref 32 0), (43, dV v1)], [bX 16 76 [kV .i64 0, kV .i64 0, kV .i64 0, .dat (.sc (.slice none 0 0)), .dat (.sc (.slice none 0 0))], bX 32 76 [dV r.1, dV r2.1, kV .i64 0, .dat (.sc (.slice none 0 0)), .dat (.sc (.slice none 0 0))]], 64⟩) (fun v1 hm => ?_) ?_)
  ·rcases bf hm with ⟨hb1, hm⟩ | ⟨hb1, hm⟩
   ·refine re G (hO 2 (.b true) (hP hb1 h0)) ?_
    exact wJ G hm
   ·rcases bf hm with ⟨hb2, hm⟩ | ⟨hb2, hm⟩
    ·refine re G (hO 2 (.b false) (hP hb1 (hO 7 (.b true) (hP hb2 h0)))) ?_
     exact wJ G hm
    ·obtain ⟨u1, h4, hm⟩ := obind hm
     refine re G (hO 2 (.b false) (hP hb1 (hO 7 (.b false) (hP hb2 (hK h4 h0))))) ?_
     exact wJ G hm
  rintro v1 hm
  refine cd hm (fun hm => ?_) (fun hm => ?_)
  ·refine rg G ?_
   cases hm
   exact rt [] [[.k, .k, .k, .z 1, .z 1]]
  ·refine X_skip (thN (Ok_seq (rg G (tF hm (fun v6 => ⟨[(0, dV r2.2.1), (2, .ref 16 0), (4, .ref 32 0)], [bX 16 76 [kV .i64 0, kV .i64 0, kV .i64 0, .dat (.sc (.slice none 0 0)), .dat (.sc (.slice none 0 0))], bX 32 76 [dV r.1, dV r2.1, dV v6, .dat (.sc (.slice none 0 0)), .dat (.sc (.slice none 0 0))]], 64⟩) (fun v14 hr hm => ?_) ?_))))
   ·refine Ok_block (lp G hm (fun (v2, v3) => ⟨[(0, dV r2.2.1), (2, .ref 16 0), (4, .ref 32 0), (45, dV v2)], [bX 16 76 [kV .i64 0, kV .i64 0, kV .i64 0, .dat (.sc (.slice none 0 0)), .dat (.sc (.slice none 0 0))], bX 32 76 [dV r.1, dV r2.1, dV v3, .dat (.sc (.slice none 0 0)), .dat (.sc (.slice none 0 0))]], 64⟩) ?_)
    rintro ⟨v2, v3⟩ r0 hb3 hm
    rw [i_ParseCalendar_L1] at hm
    refine rg G (Ok_seq (cd hm (fun hm => ?_) (fun hm => ?_)))
    ·refine X_skip (thN (jF hm (fun v4 => ⟨[(0, dV r2.2.1), (2, .ref 16 0), (4, .ref 32 0), (45, dV v2)], [bX 16 76 [kV .i64 0, kV .i64 0, kV .i64 0, .dat (.sc (.slice none 0 0)), .dat (.sc (.slice none 0 0))], bX 32 76 [dV r.1, dV r2.1, dV v4, .dat (.sc (.slice none 0 0)), .dat (.sc (.slice none 0 0))]], 64⟩) (fun v5 hr1 hm => ?_) ?_))
     ·refine Ok_block (rg G ?_)
      obtain ⟨u2, h5, hm⟩ := obind hm
      refine rs G (hK h5 h0) ?_
      refine Ok_block ?_
      obtain ⟨u3, h6, hm⟩ := obind hm
      refine rs G (hK h6 h0) ?_
      refine cd hm (fun hm => ?_) (fun hm => ?_)
      ·obtain ⟨u5, h8, hm⟩ := obind hm
       refine de G [(6, [32])] (hK h8 h0) ?_
       exact ibN (ibN (wF G hm))
      ·refine rg G (cd hm (fun hm => ?_) (fun hm => ?_))
       ·exact X_skip (ibN (ibN (wF G hm)))
       ·refine rg G ?_
        have hm := eR hm hr1
        have hm := eL hm hb3 hr
        cases hm
        exact rt [] [[.k, .k, .k, .z 1, .z 1]]
     rintro v4 hm
     exact rh G (wL G hm)
    ·exact Ok_exit (thE (thE (ibE (wE G hm hb3))))
   rintro v6 hm s1 hw
   refine thN (Ok_weak hw ?_)
   refine Ok_seq ?_
   obtain ⟨u6, h9, hm⟩ := obind hm
   refine rs G (hK h9 h0) ?_
   refine tF hm (fun (v11, v12) => ⟨[(2, .ref 16 0), (4, .ref 32 0)], [bX 16 76 [kV .i64 0, kV .i64 0, kV .i64 0, .dat (.sc (.slice none 0 0)), .dat (.sc (.slice none 0 0))], bX 32 76 [dV r.1, dV r2.1, dV v6, .own 48, .own 64], aX 48 3 v11, aX 64 3 v12], 96⟩) (fun v13 hr2 hm => ?_) ?_
   ·refine Ok_block (lpP hm (fun (s2, v7, v8) => ⟨[(0, dV s2), (2, .ref 16 0), (4, .ref 32 0)], [bX 16 76 [kV .i64 0, kV .i64 0, kV .i64 0, .dat (.sc (.slice none 0 0)), .dat (.sc (.slice none 0 0))], bX 32 76 [dV r.1, dV r2.1, dV v6, .own 48, .own 64], aX 48 3 v7, aX 64 3 v8], 96⟩) (Wk_J G.hL ⟨[(0, []), (2, []), (4, [])], [(16, 16, []), (32, 32, [.k, .k, .k, .o 48, .o 64])], [(48, 3, 1, []), (64, 3, 1, [])], 96⟩ (by kernel_rfl)) ?_)
    rintro ⟨s2, v7, v8⟩ r0 hb4 hm
    rw [i_ParseCalendar_L2] at hm
    refine Ok_seq (rg G (cd hm (fun hm => ?_) (fun hm => ?_)))
    ·refine X_skip (thN (Ok_block (Ok_seq (jn hm (fun v9 => ⟨[(0, dV s2), (2, .ref 16 0), (4, .ref 32 0), (77, dV v9)], [bX 16 76 [kV .i64 0, kV .i64 0, kV .i64 0, .dat (.sc (.slice none 0 0)), .dat (.sc (.slice none 0 0))], bX 32 76 [dV r.1, dV r2.1, dV v6, .own 48, .own 64], aX 48 3 v7, aX 64 3 v8], 96⟩) (fun v9 hm => ?_) ?_))))
     ·rcases bf hm with ⟨hb5, hm⟩ | ⟨hb5, hm⟩
      ·refine re G (hO 3 (.b true) (hP hb5 h0)) ?_
       exact wJ G hm
      ·obtain ⟨u7, h10, hm⟩ := obind hm
       refine re G (hO 3 (.b false) (hP hb5 (hK h10 h0))) ?_
       exact wJ G hm
     rintro v9 hm
     refine cd hm (fun hm => ?_) (fun hm => ?_)
     ·refine rg G ?_
      have hm := eL hm hb4 hr2
      cases hm
      exact rt [] [[.k, .k, .k, .z 1, .z 1]]
     ·refine X_skip (thN ?_)
      obtain ⟨u8, h11, hm⟩ := obind hm
      refine rs G (hK h11 h0) ?_
      refine rg G ?_
      obtain ⟨u9, h12, hm⟩ := obind hm
      obtain ⟨r6, h13, hm⟩ := obind hm
      refine rs G (hK h12 (hC 2 (i_natural_c h13) h0)) ?_
      refine Ok_block (rg G (cd hm (fun hm => ?_) (fun hm => ?_)))
      ·refine rg G ?_
       have hm := eL hm hb4 hr2
       cases hm
       exact rt [] [[.k, .k, .k, .z 1, .z 1]]
      ·refine jn hm (fun v10 => ⟨[(0, dV r6.2.1), (2, .ref 16 0), (4, .ref 32 0), (7, dV (s2.data.toList.getD (1 : Int).toNat 0)), (8, dV r6.1), (93, dV v10)], [bX 16 76 [kV .i64 0, kV .i64 0, kV .i64 0, .dat (.sc (.slice none 0 0)), .dat (.sc (.slice none 0 0))], bX 32 76 [dV r.1, dV r2.1, dV v6, .own 48, .own 64], aX 48 3 v7, aX 64 3 v8], 96⟩) (fun v10 hm => ?_) ?_
       ·rcases bf hm with ⟨hb6, hm⟩ | ⟨hb6, hm⟩
        ·refine re G (hO 2 (.b true) (hP hb6 (hN 5 v8 h0))) ?_
         exact wJ G hm
        ·refine re G (hO 2 (.b false) (hP hb6 h0)) ?_
         exact wJ G hm
       rintro v10 hm
       refine cd hm (fun hm => ?_) (fun hm => ?_)
       ·obtain ⟨u10, h14, hm⟩ := obind hm
        refine re G (hA 4 8 h14 h0) ?_
        exact ibN (ibN (wL G hm))
       ·refine rg G (cd hm (fun hm => ?_) (fun hm => ?_))
        ·obtain ⟨u11, h15, hm⟩ := obind hm
         refine re G (hA 4 8 h15 h0) ?_
         exact ibN (ibN (wL G hm))
        ·refine rg G ?_
         have hm := eL hm hb4 hr2
         cases hm
         exact rt [] [[.k, .k, .k, .z 1, .z 1]]
    ·exact Ok_exit (thE (thE (ibE (wE G hm hb4))))
   rintro ⟨v11, v12⟩ hm s3 hw1
   refine thN (Ok_weak hw1 ?_)
   refine Ok_seq ?_
   obtain ⟨r9, h16, hm⟩ := obind hm
   refine rs G (hC 1 (i_IsValidCalendar_c h16) h0) ?_
   refine cd hm (fun hm => ?_) (fun hm => ?_)
   ·refine rg G ?_
    cases hm
    exact rt [] [[.k, .k, .k, .z 1, .z 1]]
   ·refine X_skip (thN (rg G ?_))
    cases hm
    exact rt [] []
noncomputable def v_rInts_M : MS ((List Int) × (List Int)) Bool := ⟨.x .r .r, fun x => v_rInts x.1 x.2, fun y => dV y, fun _ => [], fun _ _ => []⟩
theorem v_rInts_c {a b y} (hm : v_rInts a b = some y) : v_rInts_M.C (a, b) y := v_rInts_M.c (a, b) hm
theorem v_rInts_ok : FnOK Tryd.prog tJ 119 v_rInts_M.S := by
 refine fm tt v_rInts_M [] Tryd.call119 Tryd.func119 rfl Tryd.results119 Tryd.ntmps119 ?_
 rintro ⟨a, b⟩ y cx G hm
 have hm : v_rInts a b = some y := hm
 unfold v_rInts at hm
 refine rg G (Ok_seq (rs G (hN 1 a (hN 3 b h0)) ?_))
 refine cd hm (fun hm => ?_) (fun hm => ?_)
 ·refine rg G ?_
  cases hm
  exact rt [] []
 ·refine X_skip (thN (Ok_seq (rg G (tF hm (fun _ => ⟨[], [], 32⟩) (fun v1 hr hm => ?_) ?_))))
  ·refine Ok_block (lp G hm (fun v => ⟨[(0, dV a), (1, dV b), (5, dV v)], [], 32⟩) ?_)
   rintro v r0 hb hm
   rw [v_rInts_L1] at hm
   refine Ok_seq (rs G (hN 2 a h0) ?_)
   refine cd hm (fun hm => ?_) (fun hm => ?_)
   ·refine X_skip (thN (Ok_seq (Ok_block ?_)))
    obtain ⟨e2, h2, hm⟩ := obind hm
    obtain ⟨e3, h3, hm⟩ := obind hm
    refine ds G [] (hD 2 h2 (hD 6 h3 h0)) ?_
    refine cd hm (fun hm => ?_) (fun hm => ?_)
    ·refine rg G ?_
     have hm := eL hm hb hr
     cases hm
     exact rt [] []
    ·exact X_skip (ibN (thN (rh G (wL G hm))))
   ·exact Ok_exit (thE (thE (ibE (wE G hm hb))))
  rintro ⟨⟩ hm s hw
  refine thN (Ok_weak hw ?_)
  refine rg G ?_
  cases hm
  exact rt [] []
noncomputable def v_rCalendars_M : MS (Calendar × Calendar) Bool := ⟨.x .r .r, fun x => v_rCalendars x.1 x.2, fun y => dV y, fun _ => [], fun _ _ => []⟩
theorem v_rCalendars_c {a b y} (hm : v_rCalendars a b = some y) : v_rCalendars_M.C (a, b) y := v_rCalendars_M.c (a, b) hm
theorem v_rCalendars_ok : FnOK Tryd.prog tJ 64 v_rCalendars_M.S := by
 refine fm tt v_rCalendars_M [fo v_rInts_ok] Tryd.call64 Tryd.func64 rfl Tryd.results64 Tryd.ntmps64 ?_
 rintro ⟨a, b⟩ y cx G hm
 have hm : v_rCalendars a b = some y := hm
 unfold v_rCalendars at hm
 refine rg G (jn hm (fun v => ⟨[(4, dV v)], [], 32⟩) (fun v hm => ?_) ?_)
 ·rcases bf hm with ⟨hb, hm⟩ | ⟨hb, hm⟩
  ·rcases bf hm with ⟨hb1, hm⟩ | ⟨hb1, hm⟩
   ·rcases bf hm with ⟨hb2, hm⟩ | ⟨hb2, hm⟩
    ·obtain ⟨r, h, hm⟩ := obind hm
     rcases bf hm with ⟨hb3, hm⟩ | ⟨hb3, hm⟩
     ·obtain ⟨r1, h1, hm⟩ := obind hm
      refine re G (hO 5 (.b true) (hP hb (hO 12 (.b true) (hP hb1 (hO 19 (.b true) (hP hb2 (hC 24 (v_rInts_c h) (hO 26 (.b true) (hP hb3 (hC 31 (v_rInts_c h1) h0)))))))))) ?_
      exact wJ G hm
     ·refine re G (hO 5 (.b true) (hP hb (hO 12 (.b true) (hP hb1 (hO 19 (.b true) (hP hb2 (hC 24 (v_rInts_c h) (hO 26 (.b false) (hP hb3 h0))))))))) ?_
      exact wJ G hm
    ·refine re G (hO 5 (.b true) (hP hb (hO 12 (.b true) (hP hb1 (hO 19 (.b false) (hP hb2 h0)))))) ?_
     exact wJ G hm
   ·refine re G (hO 5 (.b true) (hP hb (hO 12 (.b false) (hP hb1 h0)))) ?_
    exact wJ G hm
  ·refine re G (hO 5 (.b false) (hP hb h0)) ?_
   exact wJ G hm
 rintro v hm
 cases hm
 exact rt [] []
noncomputable def cmp_isNaN_int_M : MS Int Bool := ⟨.r, cmp_isNaN_int, fun y => dV y, fun _ => [], fun _ _ => []⟩
theorem cmp_isNaN_int_c {x y} (hm : cmp_isNaN_int x = some y) : cmp_isNaN_int_M.C x y := cmp_isNaN_int_M.c x hm
theorem cmp_isNaN_int_ok : FnOK Tryd.prog tJ 188 cmp_isNaN_int_M.S := by
 refine fm tt cmp_isNaN_int_M [] Tryd.call188 Tryd.func188 rfl Tryd.results188 Tryd.ntmps188 ?_
 rintro x y cx G hm
 have hm : cmp_isNaN_int x = some y := hm
 unfold cmp_isNaN_int at hm
 refine rg G (rg G ?_)
 cases hm
 exact rt [] []
noncomputable def cmp_Less_int_M : MS (Int × Int) Bool := ⟨.x .r .r, fun x => cmp_Less_int x.1 x.2, fun y => dV y, fun _ => [], fun _ _ => []⟩
theorem cmp_Less_int_c {x y_ y} (hm : cmp_Less_int x y_ = some y) : cmp_Less_int_M.C (x, y_) y := cmp_Less_int_M.c (x, y_) hm
theorem cmp_Less_int_ok : FnOK Tryd.prog tJ 168 cmp_Less_int_M.S := by
 refine fm tt cmp_Less_int_M [fo cmp_isNaN_int_ok] Tryd.call168 Tryd.func168 rfl Tryd.results168 Tryd.ntmps168 ?_
 rintro ⟨x, y_⟩ y cx G hm
 have hm : cmp_Less_int x y_ = some y := hm
 unfold cmp_Less_int at hm
 refine rg G ?_
 obtain ⟨r, h, hm⟩ := obind hm
 refine jn hm (fun v => ⟨[(4, dV v)], [], 32⟩) (fun v hm => ?_) ?_
 ·rcases bf hm with ⟨hb, hm⟩ | ⟨hb, hm⟩
  ·obtain ⟨r1, h1, hm⟩ := obind hm
   rcases bf hm with ⟨hb1, hm⟩ | ⟨hb1, hm⟩
   ·refine re G (hC 1 (cmp_isNaN_int_c h) (hO 2 (.b true) (hP hb (hC 4 (cmp_isNaN_int_c h1) (hO 7 (.b true) (hP hb1 h0)))))) ?_
    exact wJ G hm
   ·refine re G (hC 1 (cmp_isNaN_int_c h) (hO 2 (.b true) (hP hb (hC 4 (cmp_isNaN_int_c h1) (hO 7 (.b false) (hP hb1 h0)))))) ?_
    exact wJ G hm
  ·refine re G (hC 1 (cmp_isNaN_int_c h) (hO 2 (.b false) (hP hb h0))) ?_
   exact wJ G hm
 rintro v hm
 cases hm
 exact rt [] []
noncomputable def slices_isNaN_int_M : MS Int Bool := ⟨.r, slices_isNaN_int, fun y => dV y, fun _ => [], fun _ _ => []⟩
theorem slices_isNaN_int_c {x y} (hm : slices_isNaN_int x = some y) : slices_isNaN_int_M.C x y := slices_isNaN_int_M.c x hm
theorem slices_isNaN_int_ok : FnOK Tryd.prog tJ 169 slices_isNaN_int_M.S := by
 refine fm tt slices_isNaN_int_M [] Tryd.call169 Tryd.func169 rfl Tryd.results169 Tryd.ntmps169 ?_
 rintro x y cx G hm
 have hm : slices_isNaN_int x = some y := hm
 unfold slices_isNaN_int at hm
 refine rg G (rg G ?_)
 cases hm
 exact rt [] []
noncomputable def slices_BinarySearch_int_M : MS ((List Int) × Int) (Int × Bool) := ⟨.x .r .r, fun x => slices_BinarySearch_int x.1 x.2, fun y => .tup [dV y.1, dV y.2], fun _ => [], fun _ _ => []⟩
theorem slices_BinarySearch_int_c {x target y} (hm : slices_BinarySearch_int x target = some y) : slices_BinarySearch_int_M.C (x, target) y := slices_BinarySearch_int_M.c (x, target) hm
theorem slices_BinarySearch_int_ok : FnOK Tryd.prog tJ 154 slices_BinarySearch_int_M.S := by
 refine fm tt slices_BinarySearch_int_M [fo cmp_Less_int_ok, fo slices_isNaN_int_ok] Tryd.call154 Tryd.func154 rfl Tryd.results154 Tryd.ntmps154 ?_
 rintro ⟨x, target⟩ y cx G hm
 have hm : slices_BinarySearch_int x target = some y := hm
 unfold slices_BinarySearch_int at hm
 refine rg G (rs G (hN 1 x h0) ?_)
 refine rg G (jn hm (fun h4 => ⟨[(0, dV x), (1, dV target), (6, dV (x.length : Int)), (7, dV h4)], [], 32⟩) (fun h4 hm => ?_) ?_)
 ·refine Ok_block (lp G hm (fun (h, v) => ⟨[(0, dV x), (1, dV target), (6, dV (x.length : Int)), (7, dV h), (8, dV v)], [], 32⟩) ?_)
  rintro ⟨h, v⟩ r0 hb hm
  rw [slices_BinarySearch_int_L1] at hm
  refine Ok_seq (rg G (cd hm (fun hm => ?_) (fun hm => ?_)))
  ·refine X_skip (thN (Ok_block ?_))
   obtain ⟨u, h1, hm⟩ := obind hm
   refine rs G (hK h1 h0) ?_
   obtain ⟨e, h2, hm⟩ := obind hm
   obtain ⟨r, h3, hm⟩ := obind hm
   refine rs G (hD 2 h2 (hC 5 (cmp_Less_int_c h3) h0)) ?_
   refine cd hm (fun hm => ?_) (fun hm => ?_)
   ·exact rh G (ibN (wL G hm))
   ·exact rh G (ibN (wL G hm))
  ·exact Ok_exit (thE (thE (ibE (wD G hm hb))))
 rintro h4 hm
 refine jn hm (fun i => ⟨[(4, dV h4), (5, dV i)], [], 32⟩) (fun i hm => ?_) ?_
 ·rcases bf hm with ⟨hb1, hm⟩ | ⟨hb1, hm⟩
  ·obtain ⟨e1, h5, hm⟩ := obind hm
   rcases bf hm with ⟨hb2, hm⟩ | ⟨hb2, hm⟩
   ·refine re G (hO 4 (.b true) (hP hb1 (hD 7 h5 (hO 11 (.b true) (hP hb2 h0))))) ?_
    exact wJ G hm
   ·obtain ⟨e2, h6, hm⟩ := obind hm
    obtain ⟨r1, h7, hm⟩ := obind hm
    rcases bf hm with ⟨hb3, hm⟩ | ⟨hb3, hm⟩
    ·obtain ⟨r2, h8, hm⟩ := obind hm
     refine re G (hO 4 (.b true) (hP hb1 (hD 7 h5 (hO 11 (.b false) (hP hb2 (hD 14 h6 (hC 16 (slices_isNaN_int_c h7) (hO 17 (.b true) (hP hb3 (hC 19 (slices_isNaN_int_c h8) h0)))))))))) ?_
     exact wJ G hm
    ·refine re G (hO 4 (.b true) (hP hb1 (hD 7 h5 (hO 11 (.b false) (hP hb2 (hD 14 h6 (hC 16 (slices_isNaN_int_c h7) (hO 17 (.b false) (hP hb3 h0))))))))) ?_
     exact wJ G hm
  ·refine re G (hO 4 (.b false) (hP hb1 h0)) ?_
   exact wJ G hm
 rintro i hm
 cases hm
 exact rt [] []
noncomputable def slices_Clone_int_M : MS ((List Int)) ((List Int)) := ⟨.r, slices_Clone_int, fun _ => .own 0, fun y => [arO 3 y], fun _ _ => []⟩
theorem slices_Clone_int_c {s y} (hm : slices_Clone_int s = some y) : slices_Clone_int_M.C s y := slices_Clone_int_M.c s hm
theorem slices_Clone_int_ok : FnOK Tryd.prog tJ 155 slices_Clone_int_M.S := by
 refine fm tt slices_Clone_int_M [] Tryd.call155 Tryd.func155 rfl Tryd.results155 Tryd.ntmps155 ?_
 rintro s y cx G hm
 have hm : slices_Clone_int s = some y := hm
 unfold slices_Clone_int at hm
 obtain ⟨u, h, hm⟩ := obind hm
 cases hm
 refine rg G (Ok_seq (X_nil_seq G.t.ty G.ok 1 (ds := List.map Enc.e s) (es := 1) [] .nil (by kernel_rfl) (by rfl) (by rfl) (by kernel_rfl) ?_))
 intro b hb
 refine X_cond b (by kernel_rfl) (fun hc => ?_) (fun hc => ?_)
 ·have hl : s = [] := by
   cases s with
   | nil => rfl
   | cons a r => have := hb (by simp); rw [hc] at this; cases this
  subst hl
  refine rg G (Ok_weak (Wk_J (x' := ⟨[(2, .own 16)], [(16, some (.arr 3 1 []))], 32⟩) G.hL ⟨[(2, [.o 16])], [], [(16, 3, 1, [])], 32⟩ (by kernel_rfl)) ?_)
  exact rt [16] []
 ·refine sN (rs G (hA 2 8 h h0) ?_)
  exact rt [96] []
noncomputable def slices_Insert_int_m_M : MS ((List Int) × Int × (List Int)) ((List Int)) := ⟨.x (.m 3) (.x .r (.m 3)), fun x => slices_Insert_int_m x.1 x.2.1 x.2.2, fun _ => .own 0, fun y => [arO 3 y], fun _ _ => []⟩
theorem slices_Insert_int_m_c {s i v y} (hm : slices_Insert_int_m s i v = some y) : slices_Insert_int_m_M.C (s, i, v) y := slices_Insert_int_m_M.c (s, i, v) hm
def slices_Insert_int_m_R : Go.Shelf.Ren := ⟨fun x => bif Nat.beq x 29 then 170 else bif Nat.beq x 30 then 171 else x, fun x => bif Nat.beq x 24 then 74 else bif Nat.beq x 9 then 3 else bif Nat.beq x 3 then 3 else bif Nat.beq x 4 then 4 else x, fun x => x⟩
theorem slices_Insert_int_m_F : Tryd.f156 = { Go.Proofs.Body2.n22 slices_Insert_int_m_R with name := "slices.Insert[[]int,int]", targs := #[74, 3] } := by kernel_rfl
theorem slices_Insert_int_m_ok : FnOK Tryd.prog tJ 156 slices_Insert_int_m_M.S := insOK (α := Int) (x := tyE3) tt slices_Insert_int_m_R Tryd.call156 (Tryd.func156.trans (congrArg some slices_Insert_int_m_F)) (by kernel_rfl) (by kernel_rfl) (by kernel_rfl) (by kernel_rfl) (by kernel_rfl) Tryd.func170 (by kernel_rfl) (by kernel_rfl) (by kernel_rfl) (by kernel_rfl)
noncomputable def slices_Delete_int_m_M : MS ((List Int) × Int × Int) ((List Int)) := ⟨.x (.m 3) (.x .r .r), fun x => slices_Delete_int_m x.1 x.2.1 x.2.2, fun _ => .own 0, fun y => [arO 3 y], fun _ _ => []⟩
theorem slices_Delete_int_m_c {s i j y} (hm : slices_Delete_int_m s i j = some y) : slices_Delete_int_m_M.C (s, i, j) y := slices_Delete_int_m_M.c (s, i, j) hm
def slices_Delete_int_m_R : Go.Shelf.Ren := ⟨fun x => x, fun x => bif Nat.beq x 24 then 74 else bif Nat.beq x 9 then 3 else bif Nat.beq x 3 then 3 else bif Nat.beq x 4 then 4 else x, fun x => x⟩
theorem slices_Delete_int_m_F : Tryd.f157 = { Go.Proofs.Body2.n24 slices_Delete_int_m_R with name := "slices.Delete[[]int,int]", targs := #[74, 3] } := by kernel_rfl
theorem slices_Delete_int_m_ok : FnOK Tryd.prog tJ 157 slices_Delete_int_m_M.S := delOK (α := Int) (x := tyE3) tt slices_Delete_int_m_R Tryd.call157 (Tryd.func157.trans (congrArg some slices_Delete_int_m_F)) (by kernel_rfl) (by kernel_rfl) (by kernel_rfl) (by kernel_rfl) (by kernel_rfl)
noncomputable def i_withDay_M : MS ((List Int) × Int × Bool) ((List Int)) := ⟨.x .r (.x .r .r), fun x => i_withDay x.1 x.2.1 x.2.2, fun _ => .own 0, fun y => [arO 3 y], fun _ _ => []⟩
theorem i_withDay_c {days day in_ y} (hm : i_withDay days day in_ = some y) : i_withDay_M.C (days, day, in_) y := i_withDay_M.c (days, day, in_) hm
theorem i_withDay_ok : FnOK Tryd.prog tJ 120 i_withDay_M.S := by
 refine fm tt i_withDay_M [fo slices_BinarySearch_int_ok, fo slices_Clone_int_ok, fo slices_Insert_int_m_ok, fo slices_Delete_int_m_ok] Tryd.call120 Tryd.func120 rfl Tryd.results120 Tryd.ntmps120 ?_
 rintro ⟨days, day, in_⟩ y cx G hm
 have hm : i_withDay days day in_ = some y := hm
 unfold i_withDay at hm
 refine rg G ?_
 obtain ⟨r, h, hm⟩ := obind hm
 refine rs G (hC 2 (slices_BinarySearch_int_c h) h0) ?_
 obtain ⟨r1, h1, hm⟩ := obind hm
 refine rs G (hC 1 (slices_Clone_int_c h1) h0) ?_
 refine jn hm (fun v => ⟨[(9, .own 16)], [aX 16 3 v], 48⟩) (fun v hm => ?_) ?_
 ·refine Ok_block (jn hm (fun v1 => ⟨[(1, dV day), (2, dV in_), (7, dV r.1), (8, dV r.2), (9, .own 16), (18, dV v1)], [aX 16 3 r1], 48⟩) (fun v1 hm => ?_) ?_)
  ·rcases bf hm with ⟨hb, hm⟩ | ⟨hb, hm⟩
   ·refine re G (hO 1 (.b true) (hP hb h0)) ?_
    exact wJ G hm
   ·refine re G (hO 1 (.b false) (hP hb h0)) ?_
    exact wJ G hm
  rintro v1 hm
  refine cd hm (fun hm => ?_) (fun hm => ?_)
  ·obtain ⟨r2, h2, hm⟩ := obind hm
   refine re G (hC 4 (slices_Insert_int_m_c h2) h0) ?_
   exact ibN (wJ G hm)
  ·refine jn hm (fun v2 => ⟨[(7, dV r.1), (9, .own 16), (29, dV v2)], [aX 16 3 r1], 48⟩) (fun v2 hm => ?_) ?_
   ·rcases bf hm with ⟨hb1, hm⟩ | ⟨hb1, hm⟩
    ·refine re G (hO 2 (.b true) (hP hb1 h0)) ?_
     exact wJ G hm
    ·refine re G (hO 2 (.b false) (hP hb1 h0)) ?_
     exact wJ G hm
   rintro v2 hm
   refine cd hm (fun hm => ?_) (fun hm => ?_)
   ·obtain ⟨r3, h3, hm⟩ := obind hm
    refine re G (hC 4 (slices_Delete_int_m_c h3) h0) ?_
    exact ibN (wJ G hm)
   ·exact X_skip (ibN (wJ G hm))
 rintro v hm
 refine rg G ?_
 cases hm
 exact rt [16] []
noncomputable def i_ExceptDay_M : MS (Calendar × Int × Bool) (Calendar × Bool) := ⟨.x .r (.x .r .r), fun x => i_ExceptDay x.1 x.2.1 x.2.2, fun y => .tup [dV y.1, dV y.2], fun _ => [], fun _ _ => []⟩
theorem i_ExceptDay_c {c day runs y} (hm : i_ExceptDay c day runs = some y) : i_ExceptDay_M.C (c, day, runs) y := i_ExceptDay_M.c (c, day, runs) hm
theorem i_ExceptDay_ok : FnOK Tryd.prog tJ 65 i_ExceptDay_M.S := by
 refine fm tt i_ExceptDay_M [fo i_IsValidCalendar_ok, fo i_byWeekday_ok, fo i_withDay_ok] Tryd.call65 Tryd.func65 rfl Tryd.results65 Tryd.ntmps65 ?_
 rintro ⟨c, day, runs⟩ y cx G hm
 have hm : i_ExceptDay c day runs = some y := hm
 unfold i_ExceptDay at hm
 refine rg G (Ok_seq ?_)
 obtain ⟨r, h, hm⟩ := obind hm
 refine jn hm (fun v => ⟨[(1, dV day), (2, dV runs), (3, .ref 16 0), (6, .ref 32 0), (24, dV v)], [bX 16 76 [dV c.From, dV c.To, dV c.Weekdays, dV c.Added, dV c.Removed], bX 32 76 [kV .i64 0, kV .i64 0, kV .i64 0, .dat (.sc (.slice none 0 0)), .dat (.sc (.slice none 0 0))]], 64⟩) (fun v hm => ?_) ?_
 ·rcases bf hm with ⟨hb, hm⟩ | ⟨hb, hm⟩
  ·refine re G (hC 1 (i_IsValidCalendar_c h) (hO 3 (.b true) (hP hb h0))) ?_
   exact wJ G hm
  ·rcases bf hm with ⟨hb1, hm⟩ | ⟨hb1, hm⟩
   ·refine re G (hC 1 (i_IsValidCalendar_c h) (hO 3 (.b false) (hP hb (hO 9 (.b true) (hP hb1 h0))))) ?_
    exact wJ G hm
   ·refine re G (hC 1 (i_IsValidCalendar_c h) (hO 3 (.b false) (hP hb (hO 9 (.b false) (hP hb1 h0))))) ?_
    exact wJ G hm
 rintro v hm
 refine cd hm (fun hm => ?_) (fun hm => ?_)
 ·refine rg G ?_
  cases hm
  exact rt [] [[.k, .k, .k, .z 1, .z 1]]
 ·refine X_skip (thN ?_)
  obtain ⟨r1, h1, hm⟩ := obind hm
  refine rs G (hC 3 (i_byWeekday_c h1) h0) ?_
  refine rg G (jn hm (fun v1 => ⟨[(1, dV day), (2, dV runs), (3, .ref 16 0), (6, .ref 32 0), (8, dV r1), (9, .ref 48 0)], [bX 16 76 [dV c.From, dV c.To, dV c.Weekdays, dV c.Added, dV c.Removed], bX 32 76 [kV .i64 0, kV .i64 0, kV .i64 0, .dat (.sc (.slice none 0 0)), .dat (.sc (.slice none 0 0))], bX 48 76 [dV c.From, dV c.To, dV c.Weekdays, .own 64, dV c.Removed], aX 64 3 v1], 96⟩) (fun v1 hm => ?_) ?_)
  ·rcases bf hm with ⟨hb2, hm⟩ | ⟨hb2, hm⟩
   ·obtain ⟨r2, h2, hm⟩ := obind hm
    refine re G (hO 4 (.b true) (hP hb2 (hC 8 (i_withDay_c h2) h0))) ?_
    exact wJ G hm
   ·obtain ⟨r3, h3, hm⟩ := obind hm
    refine re G (hO 4 (.b false) (hP hb2 (hC 8 (i_withDay_c h3) h0))) ?_
    exact wJ G hm
  rintro v1 hm
  refine jn hm (fun v2 => ⟨[(6, .ref 16 0), (9, .ref 32 0)], [bX 16 76 [kV .i64 0, kV .i64 0, kV .i64 0, .dat (.sc (.slice none 0 0)), .dat (.sc (.slice none 0 0))], bX 32 76 [dV c.From, dV c.To, dV c.Weekdays, .own 48, .own 64], aX 48 3 v1, aX 64 3 v2], 96⟩) (fun v2 hm => ?_) ?_
  ·rcases bf hm with ⟨hb3, hm⟩ | ⟨hb3, hm⟩
   ·obtain ⟨r4, h4, hm⟩ := obind hm
    refine re G (hO 5 (.b true) (hP hb3 (hC 8 (i_withDay_c h4) h0))) ?_
    exact wJ G hm
   ·obtain ⟨r5, h5, hm⟩ := obind hm
    refine re G (hO 5 (.b false) (hP hb3 (hC 8 (i_withDay_c h5) h0))) ?_
    exact wJ G hm
  rintro v2 hm
  refine Ok_seq ?_
  obtain ⟨r6, h6, hm⟩ := obind hm
  refine rs G (hC 1 (i_IsValidCalendar_c h6) h0) ?_
  refine cd hm (fun hm => ?_) (fun hm => ?_)
  ·refine rg G ?_
   cases hm
   exact rt [] [[.k, .k, .k, .z 1, .z 1]]
  ·refine X_skip (thN (rg G ?_))
   cases hm
   exact rt [] []
noncomputable def s_l3Without_M : MS ((List Int) × Int) ((List Int)) := ⟨.x .r .r, fun x => s_l3Without x.1 x.2, fun _ => .own 0, fun y => [arO 3 y], fun _ _ => []⟩
theorem s_l3Without_c {list x y} (hm : s_l3Without list x = some y) : s_l3Without_M.C (list, x) y := s_l3Without_M.c (list, x) hm
theorem s_l3Without_ok : FnOK Tryd.prog tJ 121 s_l3Without_M.S := by
 refine fm tt s_l3Without_M [] Tryd.call121 Tryd.func121 rfl Tryd.results121 Tryd.ntmps121 ?_
 rintro ⟨list, x⟩ y cx G hm
 have hm : s_l3Without list x = some y := hm
 unfold s_l3Without at hm
 refine rg G (rg G (Ok_seq (rg G (tl hm (fun v3 => ⟨[(5, .own 16)], [aX 16 3 v3], 48⟩) (fun v3 hm => ?_) ?_))))
 ·refine Ok_block (lp G hm (fun (v, v1) => ⟨[(0, dV list), (1, dV x), (5, .own 16), (6, dV v)], [aX 16 3 v1], 48⟩) ?_)
  rintro ⟨v, v1⟩ r0 hb hm
  rw [s_l3Without_L1] at hm
  refine Ok_seq (rs G (hN 2 list h0) ?_)
  refine cd hm (fun hm => ?_) (fun hm => ?_)
  ·refine X_skip (thN (jn hm (fun v2 => ⟨[(0, dV list), (1, dV x), (5, .own 16), (6, dV v)], [aX 16 3 v2], 48⟩) (fun v2 hm => ?_) ?_))
   ·refine Ok_block ?_
    obtain ⟨e, h, hm⟩ := obind hm
    refine rs G (hD 2 h h0) ?_
    refine cd hm (fun hm => ?_) (fun hm => ?_)
    ·obtain ⟨e1, h1, hm⟩ := obind hm
     obtain ⟨u, h2, hm⟩ := obind hm
     refine re G (hD 3 h1 (hA 6 8 h2 h0)) ?_
     exact ibN (wJ G hm)
    ·exact X_skip (ibN (wJ G hm))
   rintro v2 hm
   exact rh G (wL G hm)
  ·exact Ok_exit (thE (thE (ibE (wD G hm hb))))
 rintro v3 hm s hw
 refine thN (Ok_weak hw ?_)
 refine rg G ?_
 cases hm
 exact rt [16] []
noncomputable def s_l1Put_M : MS ((List Int) × Int) ((List Int)) := ⟨.x .r .r, fun x => s_l1Put x.1 x.2, fun y => dV y, fun _ => [], fun _ _ => []⟩
theorem s_l1Put_c {l n y} (hm : s_l1Put l n = some y) : s_l1Put_M.C (l, n) y := s_l1Put_M.c (l, n) hm
theorem s_l1Put_ok : FnOK Tryd.prog tJ 123 s_l1Put_M.S := by
 refine fm tt s_l1Put_M [] Tryd.call123 Tryd.func123 rfl Tryd.results123 Tryd.ntmps123 ?_
 rintro ⟨l, n⟩ y cx G hm
 have hm : s_l1Put l n = some y := hm
 unfold s_l1Put at hm
 refine rg G (rg G (jn hm (fun v2 => ⟨[(0, dV l), (1, dV n), (5, dV v2)], [], 32⟩) (fun v2 hm => ?_) ?_))
 ·refine Ok_block (lp G hm (fun v => ⟨[(0, dV l), (1, dV n), (5, dV v)], [], 32⟩) ?_)
  rintro v r0 hb hm
  rw [s_l1Put_L1] at hm
  refine Ok_seq (jn hm (fun v1 => ⟨[(0, dV l), (1, dV n), (5, dV v), (17, dV v1)], [], 32⟩) (fun v1 hm => ?_) ?_)
  ·rcases bf hm with ⟨hb1, hm⟩ | ⟨hb1, hm⟩
   ·obtain ⟨e, h, hm⟩ := obind hm
    refine re G (hN 2 l (hO 4 (.b true) (hP hb1 (hD 7 h h0)))) ?_
    exact wJ G hm
   ·refine re G (hN 2 l (hO 4 (.b false) (hP hb1 h0))) ?_
    exact wJ G hm
  rintro v1 hm
  refine cd hm (fun hm => ?_) (fun hm => ?_)
  ·exact X_skip (thN (Ok_block (rh G (ibN (wL G hm)))))
  ·exact Ok_exit (thE (thE (ibE (wD G hm hb))))
 rintro v2 hm
 refine Ok_seq (jn hm (fun v3 => ⟨[(0, dV l), (1, dV n), (5, dV v2), (31, dV v3)], [], 32⟩) (fun v3 hm => ?_) ?_)
 ·rcases bf hm with ⟨hb2, hm⟩ | ⟨hb2, hm⟩
  ·obtain ⟨e1, h1, hm⟩ := obind hm
   refine re G (hN 2 l (hO 4 (.b true) (hP hb2 (hD 7 h1 h0)))) ?_
   exact wJ G hm
  ·refine re G (hN 2 l (hO 4 (.b false) (hP hb2 h0))) ?_
   exact wJ G hm
 rintro v3 hm
 refine cd hm (fun hm => ?_) (fun hm => ?_)
 ·refine rg G ?_
  cases hm
  exact rt [] []
 ·refine X_skip (thN ?_)
  obtain ⟨u5, h7, hm⟩ := obind hm
  obtain ⟨u6, h8, hm⟩ := obind hm
  obtain ⟨u7, h9, hm⟩ := obind hm
  obtain ⟨u8, h10, hm⟩ := obind hm
  obtain ⟨u9, h11, hm⟩ := obind hm
  refine ds G [(3, []), (4, [32]), (7, [96, 128]), (10, []), (11, [144])] (hU 3 h7 (hA 4 8 h8 (hA 7 8 h9 (hV 10 h10 (hA 11 8 h11 h0))))) ?_
  cases hm
  exact rt [] []
noncomputable def s_ExceptDay_M : MS (Calendar × Int × Bool) (Calendar × Bool) := ⟨.x .r (.x .r .r), fun x => s_ExceptDay x.1 x.2.1 x.2.2, fun y => .tup [dV y.1, dV y.2], fun _ => [], fun _ _ => []⟩
theorem s_ExceptDay_c {c day runs y} (hm : s_ExceptDay c day runs = some y) : s_ExceptDay_M.C (c, day, runs) y := s_ExceptDay_M.c (c, day, runs) hm
theorem s_ExceptDay_ok : FnOK Tryd.prog tJ 66 s_ExceptDay_M.S := by
 refine fm tt s_ExceptDay_M [fo s_l3Good_ok, fo s_l1In_ok, fo s_l3Without_ok, fo s_l3Regular_ok, fo s_l1Put_ok] Tryd.call66 Tryd.func66 rfl Tryd.results66 Tryd.ntmps66 ?_
 rintro ⟨c, day, runs⟩ y cx G hm
 have hm : s_ExceptDay c day runs = some y := hm
 unfold s_ExceptDay at hm
 refine rg G (Ok_seq ?_)
 obtain ⟨r, h, hm⟩ := obind hm
 refine jn hm (fun v => ⟨[(1, dV day), (2, dV runs), (3, .ref 16 0), (6, .ref 32 0), (20, dV v)], [bX 16 76 [dV c.From, dV c.To, dV c.Weekdays, dV c.Added, dV c.Removed], bX 32 76 [kV .i64 0, kV .i64 0, kV .i64 0, .dat (.sc (.slice none 0 0)), .dat (.sc (.slice none 0 0))]], 64⟩) (fun v hm => ?_) ?_
 ·rcases bf hm with ⟨hb, hm⟩ | ⟨hb, hm⟩
  ·refine re G (hC 1 (s_l3Good_c h) (hO 3 (.b true) (hP hb h0))) ?_
   exact wJ G hm
  ·obtain ⟨r1, h1, hm⟩ := obind hm
   refine re G (hC 1 (s_l3Good_c h) (hO 3 (.b false) (hP hb (hC 9 (s_l1In_c h1) h0)))) ?_
   exact wJ G hm
 rintro v hm
 refine cd hm (fun hm => ?_) (fun hm => ?_)
 ·refine rg G ?_
  cases hm
  exact rt [] [[.k, .k, .k, .z 1, .z 1]]
 ·refine X_skip (thN (rg G ?_))
  obtain ⟨r2, h2, hm⟩ := obind hm
  refine rs G (hC 3 (s_l3Without_c h2) h0) ?_
  obtain ⟨r3, h3, hm⟩ := obind hm
  refine rs G (hC 3 (s_l3Without_c h3) h0) ?_
  refine jn hm (fun (v1, v2) => ⟨[(6, .ref 16 0), (8, .ref 32 0)], [bX 16 76 [kV .i64 0, kV .i64 0, kV .i64 0, .dat (.sc (.slice none 0 0)), .dat (.sc (.slice none 0 0))], bX 32 76 [dV c.From, dV c.To, dV c.Weekdays, dV v1, dV v2]], 64⟩) (fun vv hm => ?_) ?_
  ·refine Ok_block (jn hm (fun v3 => ⟨[(1, dV day), (2, dV runs), (3, .ref 16 0), (6, .ref 32 0), (8, .ref 48 0), (33, dV v3)], [bX 16 76 [dV c.From, dV c.To, dV c.Weekdays, dV c.Added, dV c.Removed], bX 32 76 [kV .i64 0, kV .i64 0, kV .i64 0, .dat (.sc (.slice none 0 0)), .dat (.sc (.slice none 0 0))], bX 48 76 [dV c.From, dV c.To, dV c.Weekdays, .own 64, .own 80], aX 64 3 r2, aX 80 3 r3], 112⟩) (fun v3 hm => ?_) ?_)
   ·rcases bf hm with ⟨hb1, hm⟩ | ⟨hb1, hm⟩
    ·obtain ⟨r4, h4, hm⟩ := obind hm
     refine re G (hO 1 (.b true) (hP hb1 (hC 4 (s_l3Regular_c h4) h0))) ?_
     exact wJ G hm
    ·refine re G (hO 1 (.b false) (hP hb1 h0)) ?_
     exact wJ G hm
   rintro v3 hm
   refine cd hm (fun hm => ?_) (fun hm => ?_)
   ·obtain ⟨r5, h5, hm⟩ := obind hm
    refine re G (hO 3 (.fz [64] [] []) (hC 3 (s_l1Put_c h5) h0)) ?_
    exact ibN (wJ G hm)
   ·refine jn hm (fun v4 => ⟨[(1, dV day), (6, .ref 16 0), (8, .ref 32 0), (46, dV v4)], [bX 16 76 [kV .i64 0, kV .i64 0, kV .i64 0, .dat (.sc (.slice none 0 0)), .dat (.sc (.slice none 0 0))], bX 32 76 [dV c.From, dV c.To, dV c.Weekdays, .own 48, .own 64], aX 48 3 r2, aX 64 3 r3], 96⟩) (fun v4 hm => ?_) ?_
    ·rcases bf hm with ⟨hb2, hm⟩ | ⟨hb2, hm⟩
     ·obtain ⟨r6, h6, hm⟩ := obind hm
      refine re G (hO 2 (.b true) (hP hb2 (hC 5 (s_l3Regular_c h6) h0))) ?_
      exact wJ G hm
     ·refine re G (hO 2 (.b false) (hP hb2 h0)) ?_
      exact wJ G hm
    rintro v4 hm
    refine cd hm (fun hm => ?_) (fun hm => ?_)
    ·obtain ⟨r7, h7, hm⟩ := obind hm
     refine re G (hO 3 (.fz [64] [] []) (hC 3 (s_l1Put_c h7) h0)) ?_
     exact ibN (wJ G hm)
    ·exact X_skip (ibN (wJ G hm))
  rintro ⟨v1, v2⟩ hm
  refine Ok_seq ?_
  obtain ⟨r8, h8, hm⟩ := obind hm
  refine rs G (hC 1 (s_l3Good_c h8) h0) ?_
  refine cd hm (fun hm => ?_) (fun hm => ?_)
  ·refine rg G ?_
   cases hm
   exact rt [] [[.k, .k, .k, .z 1, .z 1]]
  ·refine X_skip (thN (rg G ?_))
   cases hm
   exact rt [] []
noncomputable def slices_Index_int_M : MS ((List Int) × Int) Int := ⟨.x .r .r, fun x => slices_Index_int x.1 x.2, fun y => dV y, fun _ => [], fun _ _ => []⟩
theorem slices_Index_int_c {s v y} (hm : slices_Index_int s v = some y) : slices_Index_int_M.C (s, v) y := slices_Index_int_M.c (s, v) hm
theorem slices_Index_int_ok : FnOK Tryd.prog tJ 172 slices_Index_int_M.S := by
 refine fm tt slices_Index_int_M [] Tryd.call172 Tryd.func172 rfl Tryd.results172 Tryd.ntmps172 ?_
 rintro ⟨s, v⟩ y cx G hm
 have hm : slices_Index_int s v = some y := hm
 unfold slices_Index_int at hm
 refine rg G (Ok_seq (rs G (hN 1 s h0) ?_))
 refine tF hm (fun _ => ⟨[], [], 32⟩) (fun v2 hr hm => ?_) ?_
 ·refine Ok_block (lp G hm (fun v1 => ⟨[(0, dV s), (1, dV v), (7, dV (s.length : Int)), (8, dV v1)], [], 32⟩) ?_)
  rintro v1 r0 hb hm
  rw [slices_Index_int_L1] at hm
  refine rg G (Ok_seq (cd hm (fun hm => ?_) (fun hm => ?_)))
  ·refine X_skip (thN (Ok_seq (Ok_block (rg G ?_))))
   obtain ⟨e, h, hm⟩ := obind hm
   refine rs G (hD 3 h h0) ?_
   refine cd hm (fun hm => ?_) (fun hm => ?_)
   ·refine rg G ?_
    have hm := eL hm hb hr
    cases hm
    exact rt [] []
   ·exact X_skip (ibN (thN (rh G (wL G hm))))
  ·exact Ok_exit (thE (thE (ibE (wE G hm hb))))
 rintro ⟨⟩ hm s1 hw
 refine thN (Ok_weak hw ?_)
 refine rg G ?_
 cases hm
 exact rt [] []
noncomputable def slices_Contains_int_M : MS ((List Int) × Int) Bool := ⟨.x .r .r, fun x => slices_Contains_int x.1 x.2, fun y => dV y, fun _ => [], fun _ _ => []⟩
theorem slices_Contains_int_c {s v y} (hm : slices_Contains_int s v = some y) : slices_Contains_int_M.C (s, v) y := slices_Contains_int_M.c (s, v) hm
theorem slices_Contains_int_ok : FnOK Tryd.prog tJ 158 slices_Contains_int_M.S := by
 refine fm tt slices_Contains_int_M [fo slices_Index_int_ok] Tryd.call158 Tryd.func158 rfl Tryd.results158 Tryd.ntmps158 ?_
 rintro ⟨s, v⟩ y cx G hm
 have hm : slices_Contains_int s v = some y := hm
 unfold slices_Contains_int at hm
 refine rg G ?_
 obtain ⟨r, h, hm⟩ := obind hm
 refine rs G (hC 2 (slices_Index_int_c h) h0) ?_
 cases hm
 exact rt [] []
noncomputable def i_runsOn_M : MS (Calendar × Int) Bool := ⟨.x .r .r, fun x => i_runsOn x.1 x.2, fun y => dV y, fun _ => [], fun _ _ => []⟩
theorem i_runsOn_c {c day y} (hm : i_runsOn c day = some y) : i_runsOn_M.C (c, day) y := i_runsOn_M.c (c, day) hm
theorem i_runsOn_ok : FnOK Tryd.prog tJ 124 i_runsOn_M.S := by
 refine fm tt i_runsOn_M [fo i_byWeekday_ok, fo slices_Contains_int_ok] Tryd.call124 Tryd.func124 rfl Tryd.results124 Tryd.ntmps124 ?_
 rintro ⟨c, day⟩ y cx G hm
 have hm : i_runsOn c day = some y := hm
 unfold i_runsOn at hm
 refine rg G (Ok_seq (jn hm (fun v => ⟨[(1, dV day), (2, .ref 16 0), (14, dV v)], [bX 16 76 [dV c.From, dV c.To, dV c.Weekdays, dV c.Added, dV c.Removed]], 48⟩) (fun v hm => ?_) ?_))
 ·rcases bf hm with ⟨hb, hm⟩ | ⟨hb, hm⟩
  ·refine re G (hO 4 (.b true) (hP hb h0)) ?_
   exact wJ G hm
  ·refine re G (hO 4 (.b false) (hP hb h0)) ?_
   exact wJ G hm
 rintro v hm
 refine cd hm (fun hm => ?_) (fun hm => ?_)
 ·refine rg G ?_
  cases hm
  exact rt [] []
 ·refine X_skip (thN ?_)
  obtain ⟨r, h, hm⟩ := obind hm
  refine jn hm (fun v1 => ⟨[(4, dV v1)], [], 32⟩) (fun v1 hm => ?_) ?_
  ·rcases bf hm with ⟨hb1, hm⟩ | ⟨hb1, hm⟩
   ·obtain ⟨r1, h1, hm⟩ := obind hm
    rcases bf hm with ⟨hb2, hm⟩ | ⟨hb2, hm⟩
    ·refine re G (hC 3 (i_byWeekday_c h) (hO 4 (.b true) (hP hb1 (hC 8 (slices_Contains_int_c h1) (hO 11 (.b true) (hP hb2 h0)))))) ?_
     exact wJ G hm
    ·obtain ⟨r2, h2, hm⟩ := obind hm
     refine re G (hC 3 (i_byWeekday_c h) (hO 4 (.b true) (hP hb1 (hC 8 (slices_Contains_int_c h1) (hO 11 (.b false) (hP hb2 (hC 15 (slices_Contains_int_c h2) h0))))))) ?_
     exact wJ G hm
   ·obtain ⟨r3, h3, hm⟩ := obind hm
    refine re G (hC 3 (i_byWeekday_c h) (hO 4 (.b false) (hP hb1 (hC 15 (slices_Contains_int_c h3) h0)))) ?_
    exact wJ G hm
  rintro v1 hm
  cases hm
  exact rt [] []
noncomputable def i_RunsOn_M : MS (Calendar × Int) (Bool × Bool) := ⟨.x .r .r, fun x => i_RunsOn x.1 x.2, fun y => .tup [dV y.1, dV y.2], fun _ => [], fun _ _ => []⟩
theorem i_RunsOn_c {c day y} (hm : i_RunsOn c day = some y) : i_RunsOn_M.C (c, day) y := i_RunsOn_M.c (c, day) hm
theorem i_RunsOn_ok : FnOK Tryd.prog tJ 67 i_RunsOn_M.S := by
 refine fm tt i_RunsOn_M [fo i_IsValidCalendar_ok, fo i_isDay_ok, fo i_runsOn_ok] Tryd.call67 Tryd.func67 rfl Tryd.results67 Tryd.ntmps67 ?_
 rintro ⟨c, day⟩ y cx G hm
 have hm : i_RunsOn c day = some y := hm
 unfold i_RunsOn at hm
 refine rg G (Ok_seq ?_)
 obtain ⟨r, h, hm⟩ := obind hm
 refine jn hm (fun v => ⟨[(1, dV day), (2, .ref 16 0), (13, dV v)], [bX 16 76 [dV c.From, dV c.To, dV c.Weekdays, dV c.Added, dV c.Removed]], 48⟩) (fun v hm => ?_) ?_
 ·rcases bf hm with ⟨hb, hm⟩ | ⟨hb, hm⟩
  ·refine re G (hC 1 (i_IsValidCalendar_c h) (hO 3 (.b true) (hP hb h0))) ?_
   exact wJ G hm
  ·obtain ⟨r1, h1, hm⟩ := obind hm
   refine re G (hC 1 (i_IsValidCalendar_c h) (hO 3 (.b false) (hP hb (hC 5 (i_isDay_c h1) h0)))) ?_
   exact wJ G hm
 rintro v hm
 refine cd hm (fun hm => ?_) (fun hm => ?_)
 ·refine rg G ?_
  cases hm
  exact rt [] []
 ·refine X_skip (thN ?_)
  obtain ⟨r2, h2, hm⟩ := obind hm
  refine rs G (hC 2 (i_runsOn_c h2) h0) ?_
  cases hm
  exact rt [] []
noncomputable def s_l1Cur_spoilt_M : MS (l1Cur × ByteArray × ByteArray) (ByteArray × l1Cur) := ⟨.x (.b 90) (.x .r .r), fun x => s_l1Cur_spoilt x.1 x.2.1 x.2.2, fun y => dV y.1, fun _ => [], fun _ y => [bxO 90 y.2]⟩
theorem s_l1Cur_spoilt_c {c t with_ y} (hm : s_l1Cur_spoilt c t with_ = some y) : s_l1Cur_spoilt_M.C (c, t, with_) y := s_l1Cur_spoilt_M.c (c, t, with_) hm
theorem s_l1Cur_spoilt_ok : FnOK Tryd.prog tJ 99 s_l1Cur_spoilt_M.S := by
 refine fm tt s_l1Cur_spoilt_M [fo s_l1Cur_pick_ok] Tryd.call99 Tryd.func99 rfl Tryd.results99 Tryd.ntmps99 ?_
 rintro ⟨c, t, with_⟩ y cx G hm
 have hm : s_l1Cur_spoilt c t with_ = some y := hm
 unfold s_l1Cur_spoilt at hm
 refine rg G (Ok_seq (rg G (cd hm (fun hm => ?_) (fun hm => ?_))))
 ·obtain ⟨u, h, hm⟩ := obind hm
  refine rs G (hK h h0) ?_
  cases hm
  exact rt [] []
 ·refine X_skip (thN ?_)
  obtain ⟨r, h1, hm⟩ := obind hm
  refine rs G (hC 3 (s_l1Cur_pick_c h1) h0) ?_
  obtain ⟨r1, h2, hm⟩ := obind hm
  obtain ⟨u1, h3, hm⟩ := obind hm
  obtain ⟨u2, h4, hm⟩ := obind hm
  refine rs G (hC 4 (s_l1Cur_pick_c h2) (hK h3 (hK h4 h0))) ?_
  refine Ok_seq ?_
  obtain ⟨r2, h5, hm⟩ := obind hm
  refine rs G (hC 1 (s_l1Cur_pick_c h5) h0) ?_
  refine Ok_block (rg G (cd hm (fun hm => ?_) (fun hm => ?_)))
  ·obtain ⟨u7, h10, hm⟩ := obind hm
   obtain ⟨u8, h11, hm⟩ := obind hm
   obtain ⟨u9, h12, hm⟩ := obind hm
   obtain ⟨u10, h13, hm⟩ := obind hm
   refine ds G [] (hK h10 (hP (cat_p (chk_t h11)) (hK h12 (hP (cat_p (chk_t h13)) h0)))) ?_
   cases hm
   exact rt [] []
  ·refine rg G (cd hm (fun hm => ?_) (fun hm => ?_))
   ·obtain ⟨u15, h18, hm⟩ := obind hm
    obtain ⟨u16, h19, hm⟩ := obind hm
    obtain ⟨u17, h20, hm⟩ := obind hm
    obtain ⟨u18, h21, hm⟩ := obind hm
    refine ds G [] (hK h18 (hP (cat_p (chk_t h19)) (hK h20 (hP (cat_p (chk_t h21)) h0)))) ?_
    cases hm
    exact rt [] []
   ·refine X_skip (ibN (thN ?_))
    obtain ⟨u22, h25, hm⟩ := obind hm
    obtain ⟨u23, h26, hm⟩ := obind hm
    obtain ⟨u24, h27, hm⟩ := obind hm
    refine ds G [] (hK h25 (hK h26 (hP (cat_p (chk_t h27)) h0))) ?_
    cases hm
    exact rt [] []
noncomputable def s_DrawParseCalendar_M : MS ((List UInt8)) ByteArray := ⟨.r, s_DrawParseCalendar, fun y => dV y, fun _ => [], fun _ _ => []⟩
theorem s_DrawParseCalendar_c {code y} (hm : s_DrawParseCalendar code = some y) : s_DrawParseCalendar_M.C code y := s_DrawParseCalendar_M.c code hm
theorem s_DrawParseCalendar_ok : FnOK Tryd.prog tJ 68 s_DrawParseCalendar_M.S := by
 refine fm tt s_DrawParseCalendar_M [fo s_l1Cur_calendar_ok, fo s_l3Text_ok, fo s_l1Cur_one_ok, fo s_l1Cur_spoilt_ok] Tryd.call68 Tryd.func68 rfl Tryd.results68 Tryd.ntmps68 ?_
 rintro code y cx G hm
 have hm : s_DrawParseCalendar code = some y := hm
 unfold s_DrawParseCalendar at hm
 refine rg G (rg G ?_)
 obtain ⟨r, h, hm⟩ := obind hm
 obtain ⟨r1, h1, hm⟩ := obind hm
 refine rs G (hC 1 (s_l1Cur_calendar_c h) (hC 2 (s_l3Text_c h1) h0)) ?_
 refine jn hm (fun v => ⟨[(4, dV v)], [], 32⟩) (fun v hm => ?_) ?_
 ·obtain ⟨r2, h2, hm⟩ := obind hm
  refine rs G (hC 1 (s_l1Cur_one_c h2) h0) ?_
  refine cd hm (fun hm => ?_) (fun hm => ?_)
  ·obtain ⟨r3, h3, hm⟩ := obind hm
   refine re G (hC 2 (s_l1Cur_spoilt_c h3) h0) ?_
   exact wJ G hm
  ·exact X_skip (wJ G hm)
 rintro v hm
 refine rg G ?_
 cases hm
 exact rt [] []
noncomputable def s_l1Split_M : MS (ByteArray × UInt8) ((List ByteArray)) := ⟨.x .r .r, fun x => s_l1Split x.1 x.2, fun _ => .own 0, fun y => [arO 9 y], fun _ _ => []⟩
theorem s_l1Split_c {s b y} (hm : s_l1Split s b = some y) : s_l1Split_M.C (s, b) y := s_l1Split_M.c (s, b) hm
theorem s_l1Split_ok : FnOK Tryd.prog tJ 125 s_l1Split_M.S := by
 refine fm tt s_l1Split_M [] Tryd.call125 Tryd.func125 rfl Tryd.results125 Tryd.ntmps125 ?_
 rintro ⟨s, b⟩ y cx G hm
 have hm : s_l1Split s b = some y := hm
 unfold s_l1Split at hm
 refine rg G (rg G (rg G (Ok_seq (rg G (tl hm (fun (v3, i2) => ⟨[(0, dV s), (5, .own 16), (6, dV v3)], [aX 16 9 i2], 48⟩) (fun vv1 hm => ?_) ?_)))))
 ·refine Ok_block (lp G hm (fun (v, v1, i) => ⟨[(0, dV s), (1, dV b), (5, .own 16), (6, dV v), (7, dV v1)], [aX 16 9 i], 48⟩) ?_)
  rintro ⟨v, v1, i⟩ r0 hb hm
  rw [s_l1Split_L1] at hm
  refine Ok_seq (rg G (cd hm (fun hm => ?_) (fun hm => ?_)))
  ·refine X_skip (thN (jn hm (fun (v2, i1) => ⟨[(0, dV s), (1, dV b), (5, .own 16), (6, dV v2), (7, dV v1)], [aX 16 9 i1], 48⟩) (fun vv hm => ?_) ?_))
   ·refine Ok_block ?_
    obtain ⟨u, h, hm⟩ := obind hm
    refine rs G (hK h h0) ?_
    refine cd hm (fun hm => ?_) (fun hm => ?_)
    ·obtain ⟨u1, h1, hm⟩ := obind hm
     obtain ⟨u2, h2, hm⟩ := obind hm
     refine rs G (hK h1 (hA 6 16 h2 h0)) ?_
     exact rh G (ibN (wJ G hm))
    ·exact X_skip (ibN (wJ G hm))
   rintro ⟨v2, i1⟩ hm
   exact rh G (wL G hm)
  ·exact Ok_exit (thE (thE (ibE (wD G hm hb))))
 rintro ⟨v3, i2⟩ hm s1 hw
 refine thN (Ok_weak hw ?_)
 obtain ⟨u3, h3, hm⟩ := obind hm
 obtain ⟨u4, h4, hm⟩ := obind hm
 refine rs G (hK h3 (hA 5 16 h4 h0)) ?_
 cases hm
 exact rt [128] []
noncomputable def s_l1Read_M : MS ByteArray (Int × Bool) := ⟨.r, s_l1Read, fun y => .tup [dV y.1, dV y.2], fun _ => [], fun _ _ => []⟩
theorem s_l1Read_c {s y} (hm : s_l1Read s = some y) : s_l1Read_M.C s y := s_l1Read_M.c s hm
theorem s_l1Read_ok : FnOK Tryd.prog tJ 84 s_l1Read_M.S := by
 refine fm tt s_l1Read_M [fo s_l1In_ok, fo s_l1Num_ok] Tryd.call84 Tryd.func84 rfl Tryd.results84 Tryd.ntmps84 ?_
 rintro s y cx G hm
 have hm : s_l1Read s = some y := hm
 unfold s_l1Read at hm
 refine rg G (rg G (jn hm (fun n => ⟨[(0, dV s), (4, dV n)], [], 32⟩) (fun n hm => ?_) ?_))
 ·refine jn hm (fun v => ⟨[(0, dV s), (4, dV s), (15, dV v)], [], 32⟩) (fun v hm => ?_) ?_
  ·rcases bf hm with ⟨hb, hm⟩ | ⟨hb, hm⟩
   ·obtain ⟨u, h, hm⟩ := obind hm
    refine re G (hO 3 (.b true) (hP hb (hK h h0))) ?_
    exact wJ G hm
   ·refine re G (hO 3 (.b false) (hP hb h0)) ?_
    exact wJ G hm
  rintro v hm
  refine cd hm (fun hm => ?_) (fun hm => ?_)
  ·obtain ⟨u1, h1, hm⟩ := obind hm
   refine re G (hK h1 h0) ?_
   exact wJ G hm
  ·exact X_skip (wJ G hm)
 rintro n hm
 refine Ok_seq ?_
 obtain ⟨r, h2, hm⟩ := obind hm
 refine rs G (hC 2 (s_l1In_c h2) h0) ?_
 refine cd hm (fun hm => ?_) (fun hm => ?_)
 ·refine rg G ?_
  cases hm
  exact rt [] []
 ·refine X_skip (thN (rg G (Ok_seq (rg G (tF hm (fun i1 => ⟨[(0, dV s), (4, dV n), (5, dV i1)], [], 32⟩) (fun v3 hr1 hm => ?_) ?_)))))
  ·refine Ok_block (lp G hm (fun (i, v1) => ⟨[(0, dV s), (4, dV n), (5, dV i), (6, dV v1)], [], 32⟩) ?_)
   rintro ⟨i, v1⟩ r0 hb1 hm
   rw [s_l1Read_L1] at hm
   refine Ok_seq (rg G (cd hm (fun hm => ?_) (fun hm => ?_)))
   ·refine X_skip (thN (Ok_seq (Ok_block (Ok_seq ?_))))
    obtain ⟨u2, h3, hm⟩ := obind hm
    refine jn hm (fun v2 => ⟨[(0, dV s), (4, dV n), (5, dV i), (6, dV v1), (37, dV v2)], [], 32⟩) (fun v2 hm => ?_) ?_
    ·rcases bf hm with ⟨hb2, hm⟩ | ⟨hb2, hm⟩
     ·refine re G (hK h3 (hO 4 (.b true) (hP hb2 h0))) ?_
      exact wJ G hm
     ·obtain ⟨u3, h4, hm⟩ := obind hm
      refine re G (hK h3 (hO 4 (.b false) (hP hb2 (hK h4 h0)))) ?_
      exact wJ G hm
    rintro v2 hm
    refine cd hm (fun hm => ?_) (fun hm => ?_)
    ·refine rg G ?_
     have hm := eL hm hb1 hr1
     cases hm
     exact rt [] []
    ·refine X_skip (thN ?_)
     obtain ⟨u4, h5, hm⟩ := obind hm
     refine re G (hK h5 h0) ?_
     exact ibN (thN (rh G (wL G hm)))
   ·exact Ok_exit (thE (thE (ibE (wE G hm hb1))))
  rintro i1 hm s1 hw
  refine thN (Ok_weak hw ?_)
  refine jn hm (fun i2 => ⟨[(0, dV s), (5, dV i2)], [], 32⟩) (fun i2 hm => ?_) ?_
  ·refine rg G (cd hm (fun hm => ?_) (fun hm => ?_))
   ·exact rh G (wJ G hm)
   ·exact X_skip (wJ G hm)
  rintro i2 hm
  refine Ok_seq ?_
  obtain ⟨r2, h6, hm⟩ := obind hm
  refine rs G (hC 1 (s_l1Num_c h6) h0) ?_
  refine cd hm (fun hm => ?_) (fun hm => ?_)
  ·refine rg G ?_
   cases hm
   exact rt [] []
  ·refine X_skip (thN (rg G ?_))
   cases hm
   exact rt [] []
noncomputable def s_ParseCalendar_M : MS ByteArray (Calendar × Bool) := ⟨.r, s_ParseCalendar, fun y => .tup [dV y.1, dV y.2], fun _ => [], fun _ _ => []⟩
theorem s_ParseCalendar_c {s y} (hm : s_ParseCalendar s = some y) : s_ParseCalendar_M.C s y := s_ParseCalendar_M.c s hm
theorem s_ParseCalendar_ok : FnOK Tryd.prog tJ 69 s_ParseCalendar_M.S := by
 refine fm tt s_ParseCalendar_M [fo s_l1Split_ok, fo s_l1Read_ok, fo s_l3Good_ok, fo s_l3Text_ok] Tryd.call69 Tryd.func69 rfl Tryd.results69 Tryd.ntmps69 ?_
 rintro s y cx G hm
 have hm : s_ParseCalendar s = some y := hm
 unfold s_ParseCalendar at hm
 refine rg G (rg G ?_)
 obtain ⟨r, h, hm⟩ := obind hm
 refine rs G (hC 1 (s_l1Split_c h) h0) ?_
 refine Ok_seq (jn hm (fun v => ⟨[(0, dV s), (2, .ref 16 0), (4, .ref 32 0), (5, .own 48), (33, dV v)], [bX 16 76 [kV .i64 0, kV .i64 0, kV .i64 0, .dat (.sc (.slice none 0 0)), .dat (.sc (.slice none 0 0))], bX 32 76 [kV .i64 0, kV .i64 0, kV .i64 0, .dat (.sc (.slice none 0 0)), .dat (.sc (.slice none 0 0))], aX 48 9 r], 80⟩) (fun v hm => ?_) ?_)
 ·rcases bf hm with ⟨hb, hm⟩ | ⟨hb, hm⟩
  ·refine re G (hO 3 (.b true) (hP hb h0)) ?_
   exact wJ G hm
  ·rcases bf hm with ⟨hb1, hm⟩ | ⟨hb1, hm⟩
   ·refine re G (hO 3 (.b false) (hP hb (hN 5 r (hO 8 (.b true) (hP hb1 h0))))) ?_
    exact wJ G hm
   ·obtain ⟨e, h1, hm⟩ := obind hm
    refine re G (hO 3 (.b false) (hP hb (hN 5 r (hO 8 (.b false) (hP hb1 (hD 10 h1 (hE 11 h1 h0))))))) ?_
    exact wJ G hm
 rintro v hm
 refine cd hm (fun hm => ?_) (fun hm => ?_)
 ·refine rg G ?_
  cases hm
  exact rt [] [[.k, .k, .k, .z 1, .z 1]]
 ·refine X_skip (thN (rg G ?_))
  obtain ⟨e1, h2, hm⟩ := obind hm
  obtain ⟨r1, h3, hm⟩ := obind hm
  refine rs G (hD 1 h2 (hE 2 h2 (hC 3 (s_l1Split_c h3) h0))) ?_
  refine Ok_seq (rs G (hN 1 r1 h0) ?_)
  refine cd hm (fun hm => ?_) (fun hm => ?_)
  ·refine rg G ?_
   cases hm
   exact rt [] [[.k, .k, .k, .z 1, .z 1]]
  ·refine X_skip (thN ?_)
   obtain ⟨e2, h4, hm⟩ := obind hm
   obtain ⟨r2, h5, hm⟩ := obind hm
   refine rs G (hD 1 h4 (hE 2 h4 (hC 3 (s_l1Read_c h5) h0))) ?_
   obtain ⟨e3, h6, hm⟩ := obind hm
   obtain ⟨r3, h7, hm⟩ := obind hm
   refine rs G (hD 1 h6 (hE 2 h6 (hC 3 (s_l1Read_c h7) h0))) ?_
   refine Ok_seq (jn hm (fun v1 => ⟨[(0, dV s), (2, .ref 16 0), (4, .ref 32 0), (5, .own 48), (6, .ref 64 0), (8, dV r2.1), (10, dV r3.1), (65, dV v1)], [bX 16 76 [kV .i64 0, kV .i64 0, kV .i64 0, .dat (.sc (.slice none 0 0)), .dat (.sc (.slice none 0 0))], bX 32 76 [kV .i64 0, kV .i64 0, kV .i64 0, .dat (.sc (.slice none 0 0)), .dat (.sc (.slice none 0 0))], aX 48 9 r, bX 64 76 [kV .i64 0, kV .i64 0, kV .i64 0, .own 80, .own 96], aX 80 3 ([] : List Int), aX 96 3 ([] : List Int)], 128⟩) (fun v1 hm => ?_) ?_)
   ·rcases bf hm with ⟨hb2, hm⟩ | ⟨hb2, hm⟩
    ·refine re G (hO 2 (.b true) (hP hb2 h0)) ?_
     exact wJ G hm
    ·refine re G (hO 2 (.b false) (hP hb2 h0)) ?_
     exact wJ G hm
   rintro v1 hm
   refine cd hm (fun hm => ?_) (fun hm => ?_)
   ·refine rg G ?_
    cases hm
    exact rt [] [[.k, .k, .k, .z 1, .z 1]]
   ·refine X_skip (thN (rg G (rg G (Ok_seq (rg G (tl hm (fun v4 => ⟨[(0, dV s), (2, .ref 16 0), (4, .ref 32 0), (5, .own 48), (6, .ref 64 0)], [bX 16 76 [kV .i64 0, kV .i64 0, kV .i64 0, .dat (.sc (.slice none 0 0)), .dat (.sc (.slice none 0 0))], bX 32 76 [kV .i64 0, kV .i64 0, kV .i64 0, .dat (.sc (.slice none 0 0)), .dat (.sc (.slice none 0 0))], aX 48 9 r, bX 64 76 [dV r2.1, dV r3.1, dV v4, .own 80, .own 96], aX 80 3 ([] : List Int), aX 96 3 ([] : List Int)], 128⟩) (fun v4 hm => ?_) ?_))))))
    ·refine Ok_block (lp G hm (fun (i, v2) => ⟨[(0, dV s), (2, .ref 16 0), (4, .ref 32 0), (5, .own 48), (6, .ref 64 0), (12, dV i)], [bX 16 76 [kV .i64 0, kV .i64 0, kV .i64 0, .dat (.sc (.slice none 0 0)), .dat (.sc (.slice none 0 0))], bX 32 76 [kV .i64 0, kV .i64 0, kV .i64 0, .dat (.sc (.slice none 0 0)), .dat (.sc (.slice none 0 0))], aX 48 9 r, bX 64 76 [dV r2.1, dV r3.1, dV v2, .own 80, .own 96], aX 80 3 ([] : List Int), aX 96 3 ([] : List Int)], 128⟩) ?_)
     rintro ⟨i, v2⟩ r0 hb3 hm
     rw [s_ParseCalendar_L1] at hm
     refine Ok_seq (rg G (cd hm (fun hm => ?_) (fun hm => ?_)))
     ·refine X_skip (thN (jn hm (fun v3 => ⟨[(0, dV s), (2, .ref 16 0), (4, .ref 32 0), (5, .own 48), (6, .ref 64 0), (12, dV i)], [bX 16 76 [kV .i64 0, kV .i64 0, kV .i64 0, .dat (.sc (.slice none 0 0)), .dat (.sc (.slice none 0 0))], bX 32 76 [kV .i64 0, kV .i64 0, kV .i64 0, .dat (.sc (.slice none 0 0)), .dat (.sc (.slice none 0 0))], aX 48 9 r, bX 64 76 [dV r2.1, dV r3.1, dV v3, .own 80, .own 96], aX 80 3 ([] : List Int), aX 96 3 ([] : List Int)], 128⟩) (fun v3 hm => ?_) ?_))
      ·refine Ok_block ?_
       obtain ⟨e4, h8, hm⟩ := obind hm
       obtain ⟨u, h9, hm⟩ := obind hm
       refine rs G (hD 1 h8 (hE 2 h8 (hK h9 h0))) ?_
       refine cd hm (fun hm => ?_) (fun hm => ?_)
       ·obtain ⟨u1, h10, hm⟩ := obind hm
        refine re G (hK h10 h0) ?_
        exact ibN (wJ G hm)
       ·exact X_skip (ibN (wJ G hm))
      rintro v3 hm
      exact rh G (wL G hm)
     ·exact Ok_exit (thE (thE (ibE (wD G hm hb3))))
    rintro v4 hm s1 hw
    refine thN (Ok_weak hw ?_)
    refine Ok_seq (rg G (tF hm (fun (v10, v11) => ⟨[(0, dV s), (2, .ref 16 0), (4, .ref 32 0), (6, .ref 48 0)], [bX 16 76 [kV .i64 0, kV .i64 0, kV .i64 0, .dat (.sc (.slice none 0 0)), .dat (.sc (.slice none 0 0))], bX 32 76 [kV .i64 0, kV .i64 0, kV .i64 0, .dat (.sc (.slice none 0 0)), .dat (.sc (.slice none 0 0))], bX 48 76 [dV r2.1, dV r3.1, dV v4, .own 64, .own 80], aX 64 3 v10, aX 80 3 v11], 112⟩) (fun v13 hr2 hm => ?_) ?_))
    ·refine Ok_block (lp G hm (fun (day, v5, v6) => ⟨[(0, dV s), (2, .ref 16 0), (4, .ref 32 0), (5, .own 48), (6, .ref 64 0), (13, dV day)], [bX 16 76 [kV .i64 0, kV .i64 0, kV .i64 0, .dat (.sc (.slice none 0 0)), .dat (.sc (.slice none 0 0))], bX 32 76 [kV .i64 0, kV .i64 0, kV .i64 0, .dat (.sc (.slice none 0 0)), .dat (.sc (.slice none 0 0))], aX 48 9 r, bX 64 76 [dV r2.1, dV r3.1, dV v4, .own 80, .own 96], aX 80 3 v5, aX 96 3 v6], 128⟩) ?_)
     rintro ⟨day, v5, v6⟩ r0 hb4 hm
     rw [s_ParseCalendar_L2] at hm
     refine Ok_seq (rs G (hN 2 r h0) ?_)
     refine cd hm (fun hm => ?_) (fun hm => ?_)
     ·refine X_skip (thN (jF hm (fun (v7, v8) => ⟨[(0, dV s), (2, .ref 16 0), (4, .ref 32 0), (5, .own 48), (6, .ref 64 0), (13, dV day)], [bX 16 76 [kV .i64 0, kV .i64 0, kV .i64 0, .dat (.sc (.slice none 0 0)), .dat (.sc (.slice none 0 0))], bX 32 76 [kV .i64 0, kV .i64 0, kV .i64 0, .dat (.sc (.slice none 0 0)), .dat (.sc (.slice none 0 0))], aX 48 9 r, bX 64 76 [dV r2.1, dV r3.1, dV v4, .own 80, .own 96], aX 80 3 v7, aX 96 3 v8], 128⟩) (fun v9 hr3 hm => ?_) ?_))
      ·refine Ok_block (Ok_seq ?_)
       obtain ⟨e5, h11, hm⟩ := obind hm
       refine rs G (hD 2 h11 (hE 3 h11 h0)) ?_
       refine cd hm (fun hm => ?_) (fun hm => ?_)
       ·refine rg G ?_
        have hm := eR hm hr3
        have hm := eL hm hb4 hr2
        cases hm
        exact rt [] [[.k, .k, .k, .z 1, .z 1]]
       ·refine X_skip (thN ?_)
        obtain ⟨e8, h12, hm⟩ := obind hm
        obtain ⟨u2, h13, hm⟩ := obind hm
        obtain ⟨r6, h14, hm⟩ := obind hm
        refine rs G (hD 2 h12 (hE 3 h12 (hK h13 (hC 5 (s_l1Read_c h14) h0)))) ?_
        refine Ok_seq (rg G (cd hm (fun hm => ?_) (fun hm => ?_)))
        ·refine rg G ?_
         have hm := eR hm hr3
         have hm := eL hm hb4 hr2
         cases hm
         exact rt [] [[.k, .k, .k, .z 1, .z 1]]
        ·refine X_skip (thN ?_)
         obtain ⟨e11, h15, hm⟩ := obind hm
         obtain ⟨u3, h16, hm⟩ := obind hm
         refine rs G (hD 2 h15 (hE 3 h15 (hK h16 h0))) ?_
         refine cd hm (fun hm => ?_) (fun hm => ?_)
         ·obtain ⟨u4, h17, hm⟩ := obind hm
          refine re G (hA 4 8 h17 h0) ?_
          exact ibN (wF G hm)
         ·obtain ⟨u5, h18, hm⟩ := obind hm
          refine re G (hA 4 8 h18 h0) ?_
          exact ibN (wF G hm)
      rintro ⟨v7, v8⟩ hm
      exact rh G (wL G hm)
     ·exact Ok_exit (thE (thE (ibE (wE G hm hb4))))
    rintro ⟨v10, v11⟩ hm s2 hw1
    refine thN (Ok_weak hw1 ?_)
    refine Ok_seq ?_
    obtain ⟨r9, h19, hm⟩ := obind hm
    refine jn hm (fun v12 => ⟨[(2, .ref 16 0), (4, .ref 32 0), (6, .ref 48 0), (138, dV v12)], [bX 16 76 [kV .i64 0, kV .i64 0, kV .i64 0, .dat (.sc (.slice none 0 0)), .dat (.sc (.slice none 0 0))], bX 32 76 [kV .i64 0, kV .i64 0, kV .i64 0, .dat (.sc (.slice none 0 0)), .dat (.sc (.slice none 0 0))], bX 48 76 [dV r2.1, dV r3.1, dV v4, .own 64, .own 80], aX 64 3 v10, aX 80 3 v11], 112⟩) (fun v12 hm => ?_) ?_
    ·rcases bf hm with ⟨hb5, hm⟩ | ⟨hb5, hm⟩
     ·refine re G (hC 1 (s_l3Good_c h19) (hO 3 (.b true) (hP hb5 h0))) ?_
      exact wJ G hm
     ·obtain ⟨r10, h20, hm⟩ := obind hm
      refine re G (hC 1 (s_l3Good_c h19) (hO 3 (.b false) (hP hb5 (hC 5 (s_l3Text_c h20) h0)))) ?_
      exact wJ G hm
    rintro v12 hm
    refine cd hm (fun hm => ?_) (fun hm => ?_)
    ·refine rg G ?_
     cases hm
     exact rt [] [[.k, .k, .k, .z 1, .z 1]]
    ·refine X_skip (thN (rg G ?_))
     cases hm
     exact rt [] []
noncomputable def v_FnCalendars_M : MS ((List UInt8)) Bool := ⟨.r, v_FnCalendars, fun y => dV y, fun _ => [], fun _ _ => []⟩
theorem v_FnCalendars_c {code y} (hm : v_FnCalendars code = some y) : v_FnCalendars_M.C code y := v_FnCalendars_M.c code hm
theorem v_FnCalendars_ok : FnOK Tryd.prog tJ 10 v_FnCalendars_M.S := by
 refine fm tt v_FnCalendars_M [fo v_rBig_ok, fo s_DrawExceptDay_ok, fo i_FormatCalendar_ok, fo s_FormatCalendar_ok, fo i_IsValidCalendar_ok, fo i_ParseCalendar_ok, fo v_rCalendars_ok, fo i_ExceptDay_ok, fo s_ExceptDay_ok, fo i_RunsOn_ok, fo s_DrawParseCalendar_ok, fo s_ParseCalendar_ok] Tryd.call10 Tryd.func10 rfl Tryd.results10 Tryd.ntmps10 ?_
 rintro code y cx G hm
 have hm : v_FnCalendars code = some y := hm
 unfold v_FnCalendars at hm
 refine rg G (Ok_seq ?_)
 obtain ⟨r, h, hm⟩ := obind hm
 refine rs G (hC 1 (v_rBig_c h) h0) ?_
 refine cd hm (fun hm => ?_) (fun hm => ?_)
 ·refine rg G ?_
  cases hm
  exact rt [] []
 ·refine X_skip (thN ?_)
  obtain ⟨r1, h1, hm⟩ := obind hm
  refine rs G (hC 1 (s_DrawExceptDay_c h1) h0) ?_
  obtain ⟨r2, h2, hm⟩ := obind hm
  refine rs G (hC 1 (i_FormatCalendar_c h2) h0) ?_
  refine Ok_seq ?_
  obtain ⟨r3, h3, hm⟩ := obind hm
  refine rs G (hC 1 (s_FormatCalendar_c h3) h0) ?_
  refine jn hm (fun v => ⟨[(0, dV code), (3, .ref 16 0), (4, dV r1.2.1), (5, dV r1.2.2), (6, dV r2.1), (7, dV r2.2), (57, dV v)], [bX 16 76 [dV r1.1.From, dV r1.1.To, dV r1.1.Weekdays, dV r1.1.Added, dV r1.1.Removed]], 48⟩) (fun v hm => ?_) ?_
  ·rcases bf hm with ⟨hb, hm⟩ | ⟨hb, hm⟩
   ·refine re G (hO 3 (.b true) (hP hb h0)) ?_
    exact wJ G hm
   ·rcases bf hm with ⟨hb1, hm⟩ | ⟨hb1, hm⟩
    ·refine re G (hO 3 (.b false) (hP hb (hO 8 (.b true) (hP hb1 h0)))) ?_
     exact wJ G hm
    ·obtain ⟨r4, h4, hm⟩ := obind hm
     refine re G (hO 3 (.b false) (hP hb (hO 8 (.b false) (hP hb1 (hC 11 (i_IsValidCalendar_c h4) h0))))) ?_
     exact wJ G hm
  rintro v hm
  refine cd hm (fun hm => ?_) (fun hm => ?_)
  ·refine rg G ?_
   cases hm
   exact rt [] []
  ·refine X_skip (thN (jF hm (fun _ => ⟨[(0, dV code), (3, .ref 16 0), (4, dV r1.2.1), (5, dV r1.2.2)], [bX 16 76 [dV r1.1.From, dV r1.1.To, dV r1.1.Weekdays, dV r1.1.Added, dV r1.1.Removed]], 48⟩) (fun v6 hr hm => ?_) ?_))
   ·refine rg G (cd hm (fun hm => ?_) (fun hm => ?_))
    ·obtain ⟨r5, h5, hm⟩ := obind hm
     refine rs G (hC 1 (i_ParseCalendar_c h5) h0) ?_
     refine jn hm (fun v1 => ⟨[(0, dV code), (3, .ref 16 0), (4, dV r1.2.1), (5, dV r1.2.2), (71, dV v1)], [bX 16 76 [dV r1.1.From, dV r1.1.To, dV r1.1.Weekdays, dV r1.1.Added, dV r1.1.Removed]], 48⟩) (fun v1 hm => ?_) ?_
     ·rcases bf hm with ⟨hb2, hm⟩ | ⟨hb2, hm⟩
      ·refine re G (hO 2 (.b true) (hP hb2 h0)) ?_
       exact wJ G hm
      ·obtain ⟨r6, h6, hm⟩ := obind hm
       refine re G (hO 2 (.b false) (hP hb2 (hC 5 (v_rCalendars_c h6) h0))) ?_
       exact wJ G hm
     rintro v1 hm
     refine cd hm (fun hm => ?_) (fun hm => ?_)
     ·refine rg G ?_
      have hm := eR hm hr
      cases hm
      exact rt [] []
     ·exact X_skip (wF G hm)
    ·exact X_skip (wF G hm)
   rintro ⟨⟩ hm
   obtain ⟨r8, h7, hm⟩ := obind hm
   refine rs G (hC 3 (i_ExceptDay_c h7) h0) ?_
   refine Ok_seq ?_
   obtain ⟨r9, h8, hm⟩ := obind hm
   refine rs G (hC 3 (s_ExceptDay_c h8) h0) ?_
   refine jn hm (fun v2 => ⟨[(0, dV code), (3, .ref 16 0), (4, dV r1.2.1), (5, dV r1.2.2), (12, .ref 32 0), (13, dV r8.2), (94, dV v2)], [bX 16 76 [dV r1.1.From, dV r1.1.To, dV r1.1.Weekdays, dV r1.1.Added, dV r1.1.Removed], bX 32 76 [dV r8.1.From, dV r8.1.To, dV r8.1.Weekdays, dV r8.1.Added, dV r8.1.Removed]], 64⟩) (fun v2 hm => ?_) ?_
   ·rcases bf hm with ⟨hb3, hm⟩ | ⟨hb3, hm⟩
    ·refine re G (hO 3 (.b true) (hP hb3 h0)) ?_
     exact wJ G hm
    ·obtain ⟨r10, h9, hm⟩ := obind hm
     refine re G (hO 3 (.b false) (hP hb3 (hC 6 (v_rCalendars_c h9) h0))) ?_
     exact wJ G hm
   rintro v2 hm
   refine cd hm (fun hm => ?_) (fun hm => ?_)
   ·refine rg G ?_
    cases hm
    exact rt [] []
   ·refine X_skip (thN (Ok_seq (rg G (tF hm (fun _ => ⟨[(0, dV code)], [], 32⟩) (fun v5 hr1 hm => ?_) ?_))))
    ·refine Ok_block (lp G hm (fun a => ⟨[(0, dV code), (3, .ref 16 0), (4, dV r1.2.1), (5, dV r1.2.2), (12, .ref 32 0), (13, dV r8.2), (16, dV a)], [bX 16 76 [dV r1.1.From, dV r1.1.To, dV r1.1.Weekdays, dV r1.1.Added, dV r1.1.Removed], bX 32 76 [dV r8.1.From, dV r8.1.To, dV r8.1.Weekdays, dV r8.1.Added, dV r8.1.Removed]], 64⟩) ?_)
     rintro a r0 hb4 hm
     rw [v_FnCalendars_L1] at hm
     refine Ok_seq (jn hm (fun v3 => ⟨[(0, dV code), (3, .ref 16 0), (4, dV r1.2.1), (5, dV r1.2.2), (12, .ref 32 0), (13, dV r8.2), (16, dV a), (110, dV v3)], [bX 16 76 [dV r1.1.From, dV r1.1.To, dV r1.1.Weekdays, dV r1.1.Added, dV r1.1.Removed], bX 32 76 [dV r8.1.From, dV r8.1.To, dV r8.1.Weekdays, dV r8.1.Added, dV r8.1.Removed]], 64⟩) (fun v3 hm => ?_) ?_)
     ·rcases bf hm with ⟨hb5, hm⟩ | ⟨hb5, hm⟩
      ·rcases bf hm with ⟨hb6, hm⟩ | ⟨hb6, hm⟩
       ·refine re G (hO 4 (.b true) (hP hb5 (hO 7 (.b true) (hP hb6 h0)))) ?_
        exact wJ G hm
       ·refine re G (hO 4 (.b true) (hP hb5 (hO 7 (.b false) (hP hb6 h0)))) ?_
        exact wJ G hm
      ·refine re G (hO 4 (.b false) (hP hb5 h0)) ?_
       exact wJ G hm
     rintro v3 hm
     refine cd hm (fun hm => ?_) (fun hm => ?_)
     ·refine X_skip (thN (Ok_seq (Ok_block ?_)))
      obtain ⟨r11, h10, hm⟩ := obind hm
      refine rs G (hC 2 (i_RunsOn_c h10) h0) ?_
      obtain ⟨r12, h11, hm⟩ := obind hm
      refine rs G (hC 2 (i_RunsOn_c h11) h0) ?_
      refine jn hm (fun v4 => ⟨[(0, dV code), (3, .ref 16 0), (4, dV r1.2.1), (5, dV r1.2.2), (12, .ref 32 0), (13, dV r8.2), (16, dV a), (150, dV v4)], [bX 16 76 [dV r1.1.From, dV r1.1.To, dV r1.1.Weekdays, dV r1.1.Added, dV r1.1.Removed], bX 32 76 [dV r8.1.From, dV r8.1.To, dV r8.1.Weekdays, dV r8.1.Added, dV r8.1.Removed]], 64⟩) (fun v4 hm => ?_) ?_
      ·rcases bf hm with ⟨hb7, hm⟩ | ⟨hb7, hm⟩
       ·refine re G (hO 2 (.b true) (hP hb7 h0)) ?_
        exact wJ G hm
       ·rcases bf hm with ⟨hb8, hm⟩ | ⟨hb8, hm⟩
        ·refine re G (hO 2 (.b false) (hP hb7 (hO 6 (.b true) (hP hb8 h0)))) ?_
         exact wJ G hm
        ·rcases bf hm with ⟨hb9, hm⟩ | ⟨hb9, hm⟩
         ·rcases bf hm with ⟨hb10, hm⟩ | ⟨hb10, hm⟩
          ·refine re G (hO 2 (.b false) (hP hb7 (hO 6 (.b false) (hP hb8 (hO 10 (.b true) (hP hb9 (hO 16 (.b true) (hP hb10 h0)))))))) ?_
           exact wJ G hm
          ·rcases bf hm with ⟨hb11, hm⟩ | ⟨hb11, hm⟩
           ·refine re G (hO 2 (.b false) (hP hb7 (hO 6 (.b false) (hP hb8 (hO 10 (.b true) (hP hb9 (hO 16 (.b false) (hP hb10 (hO 20 (.b true) (hP hb11 h0)))))))))) ?_
            exact wJ G hm
           ·refine re G (hO 2 (.b false) (hP hb7 (hO 6 (.b false) (hP hb8 (hO 10 (.b true) (hP hb9 (hO 16 (.b false) (hP hb10 (hO 20 (.b false) (hP hb11 h0)))))))))) ?_
            exact wJ G hm
         ·rcases bf hm with ⟨hb12, hm⟩ | ⟨hb12, hm⟩
          ·refine re G (hO 2 (.b false) (hP hb7 (hO 6 (.b false) (hP hb8 (hO 10 (.b false) (hP hb9 (hO 20 (.b true) (hP hb12 h0)))))))) ?_
           exact wJ G hm
          ·refine re G (hO 2 (.b false) (hP hb7 (hO 6 (.b false) (hP hb8 (hO 10 (.b false) (hP hb9 (hO 20 (.b false) (hP hb12 h0)))))))) ?_
           exact wJ G hm
      rintro v4 hm
      refine cd hm (fun hm => ?_) (fun hm => ?_)
      ·refine rg G ?_
       have hm := eL hm hb4 hr1
       cases hm
       exact rt [] []
      ·exact X_skip (ibN (thN (rh G (wL G hm))))
     ·exact Ok_exit (thE (thE (ibE (wE G hm hb4))))
    rintro ⟨⟩ hm s hw
    refine thN (Ok_weak hw ?_)
    obtain ⟨r14, h12, hm⟩ := obind hm
    refine rs G (hC 1 (s_DrawParseCalendar_c h12) h0) ?_
    obtain ⟨r15, h13, hm⟩ := obind hm
    refine rs G (hC 1 (i_ParseCalendar_c h13) h0) ?_
    obtain ⟨r16, h14, hm⟩ := obind hm
    refine rs G (hC 1 (s_ParseCalendar_c h14) h0) ?_
    refine jn hm (fun c => ⟨[(2, dV c)], [], 32⟩) (fun c hm => ?_) ?_
    ·rcases bf hm with ⟨hb13, hm⟩ | ⟨hb13, hm⟩
     ·obtain ⟨r17, h15, hm⟩ := obind hm
      refine re G (hO 3 (.b true) (hP hb13 (hC 6 (v_rCalendars_c h15) h0))) ?_
      exact wJ G hm
     ·refine re G (hO 3 (.b false) (hP hb13 h0)) ?_
      exact wJ G hm
    rintro c hm
    cases hm
    exact rt [] []
end Go.Proofs.YtbedhobglodjbaaDoor
