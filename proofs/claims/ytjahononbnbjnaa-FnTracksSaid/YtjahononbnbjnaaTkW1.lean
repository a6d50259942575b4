/- Each function computes what its model says. Made by program (dec.py). -/
import Derived.Test.YtjahononbnbjnaaTy
import Derived.Test.YtjahononbnbjnaaAbC
import Derived.Test.YtjahononbnbjnaaTkM
namespace Go.Proofs.Ytjahononbnbjnaa
open Go Go.Ab
set_option maxRecDepth 100000
set_option maxHeartbeats 4000000
set_option linter.unusedVariables false
set_option linter.unusedSimpArgs false
theorem tt : TT Try.prog ty := ⟨by kernel_rfl, ty_ok⟩
abbrev tJ : Inv := .none
noncomputable def v_rBig_M : MS ((List UInt8)) Bool := ⟨.r, v_rBig, fun y => dV y, fun _ => [], fun _ _ => []⟩
theorem v_rBig_c {code y} (hm : v_rBig code = some y) : v_rBig_M.C code y := v_rBig_M.c code hm
theorem v_rBig_ok : FnOK Try.prog tJ 8 v_rBig_M.S := by
 refine fm tt v_rBig_M [] Try.call8 Try.func8 rfl Try.results8 Try.ntmps8 ?_
 rintro code y cx G hm
 have hm : v_rBig code = some y := hm
 unfold v_rBig at hm
 refine rg G (rs G (hN 1 code h0) ?_)
 cases hm
 exact rt [] []
noncomputable def s_l1Cur_next_M : MS l1Cur (Int × l1Cur) := ⟨.b 118, s_l1Cur_next, fun y => dV y.1, fun _ => [], fun _ y => [bxO 118 y.2]⟩
theorem s_l1Cur_next_c {c y} (hm : s_l1Cur_next c = some y) : s_l1Cur_next_M.C c y := s_l1Cur_next_M.c c hm
theorem s_l1Cur_next_ok : FnOK Try.prog tJ 154 s_l1Cur_next_M.S := by
 refine fm tt s_l1Cur_next_M [] Try.call154 Try.func154 rfl Try.results154 Try.ntmps154 ?_
 rintro c y cx G hm
 have hm : s_l1Cur_next c = some y := hm
 unfold s_l1Cur_next at hm
 refine rg G (rg G (jn hm (fun v => ⟨[(0, .ref 0 0), (3, dV v)], [bX 0 118 [dV c.code_, dV c.at_, kV .u64 c.seed_.v]], 48⟩) (fun v hm => ?_) ?_))
 ·refine ds G [] (hN 8 c.code_ h0) ?_
  refine cd hm (fun hm => ?_) (fun hm => ?_)
  ·obtain ⟨e1, h1, hm⟩ := obind hm
   refine de G [] (hD 8 h1 h0) ?_
   exact wJ G hm
  ·exact X_skip (wJ G hm)
 rintro v hm
 refine rg G (rg G (Ok_seq (ds G [] (hN 8 c.code_ h0) ?_)))
 refine cd hm (fun hm => ?_) (fun hm => ?_)
 ·refine rg G ?_
  cases hm
  exact rt [] []
 ·refine X_skip (thN ?_)
  obtain ⟨u, h2, hm⟩ := obind hm
  refine rs G (hK h2 h0) ?_
  cases hm
  exact rt [] []
noncomputable def s_l1Cur_pick_M : MS (l1Cur × Int) (Int × l1Cur) := ⟨.x (.b 118) .r, fun x => s_l1Cur_pick x.1 x.2, fun y => dV y.1, fun _ => [], fun _ y => [bxO 118 y.2]⟩
theorem s_l1Cur_pick_c {c n y} (hm : s_l1Cur_pick c n = some y) : s_l1Cur_pick_M.C (c, n) y := s_l1Cur_pick_M.c (c, n) hm
theorem s_l1Cur_pick_ok : FnOK Try.prog tJ 81 s_l1Cur_pick_M.S := by
 refine fm tt s_l1Cur_pick_M [fo s_l1Cur_next_ok] Try.call81 Try.func81 rfl Try.results81 Try.ntmps81 ?_
 rintro ⟨c, n⟩ y cx G hm
 have hm : s_l1Cur_pick c n = some y := hm
 unfold s_l1Cur_pick at hm
 refine rg G (Ok_seq (rg G (cd hm (fun hm => ?_) (fun hm => ?_))))
 ·refine rg G ?_
  cases hm
  exact rt [] []
 ·refine X_skip (thN ?_)
  obtain ⟨r, h, hm⟩ := obind hm
  refine rs G (hC 1 (s_l1Cur_next_c h) h0) ?_
  refine jn hm (fun (v, v1, v2, v3) => ⟨[(0, .ref 0 0), (1, dV n), (5, dV v)], [bX 0 118 [dV v1, dV v2, kV .u64 v3]], 48⟩) (fun vv hm => ?_) ?_
  ·refine rg G (cd hm (fun hm => ?_) (fun hm => ?_))
   ·obtain ⟨r1, h1, hm⟩ := obind hm
    refine re G (hC 3 (s_l1Cur_next_c h1) h0) ?_
    exact wJ G hm
   ·exact X_skip (wJ G hm)
  rintro ⟨v, v1, v2, v3⟩ hm
  obtain ⟨u, h2, hm⟩ := obind hm
  refine rs G (hK h2 h0) ?_
  cases hm
  exact rt [] []
noncomputable def s_l1Cur_among_M : MS (l1Cur × (List Int)) (Int × l1Cur) := ⟨.x (.b 118) .r, fun x => s_l1Cur_among x.1 x.2, fun y => dV y.1, fun _ => [], fun _ y => [bxO 118 y.2]⟩
theorem s_l1Cur_among_c {c list y} (hm : s_l1Cur_among c list = some y) : s_l1Cur_among_M.C (c, list) y := s_l1Cur_among_M.c (c, list) hm
theorem s_l1Cur_among_ok : FnOK Try.prog tJ 141 s_l1Cur_among_M.S := by
 refine fm tt s_l1Cur_among_M [fo s_l1Cur_pick_ok] Try.call141 Try.func141 rfl Try.results141 Try.ntmps141 ?_
 rintro ⟨c, list⟩ y cx G hm
 have hm : s_l1Cur_among c list = some y := hm
 unfold s_l1Cur_among at hm
 refine rg G ?_
 obtain ⟨r, h, hm⟩ := obind hm
 obtain ⟨e, h1, hm⟩ := obind hm
 refine rs G (hN 3 list (hC 4 (s_l1Cur_pick_c h) (hD 5 h1 h0))) ?_
 cases hm
 exact rt [] []
noncomputable def s_l1Cur_among_w_M : MS (l1Cur × (List Int)) (Int × l1Cur) := ⟨.x (.b 118) (.s 3), fun x => s_l1Cur_among_w x.1 x.2, fun y => dV y.1, fun _ => [], fun x y => [bxO 118 y.2, arO 3 x.2]⟩
theorem s_l1Cur_among_w_c {c list y} (hm : s_l1Cur_among_w c list = some y) : s_l1Cur_among_w_M.C (c, list) y := s_l1Cur_among_w_M.c (c, list) hm
theorem s_l1Cur_among_w_ok : FnOK Try.prog tJ 141 s_l1Cur_among_w_M.S := by
 refine fm tt s_l1Cur_among_w_M [fo s_l1Cur_pick_ok] Try.call141 Try.func141 rfl Try.results141 Try.ntmps141 ?_
 rintro ⟨c, list⟩ y cx G hm
 have hm : s_l1Cur_among_w c list = some y := hm
 unfold s_l1Cur_among_w at hm
 refine rg G ?_
 obtain ⟨r, h, hm⟩ := obind hm
 obtain ⟨e, h1, hm⟩ := obind hm
 refine rs G (hN 3 list (hC 4 (s_l1Cur_pick_c h) (hD 5 h1 (hE 6 h1 h0)))) ?_
 cases hm
 exact rt [] []
noncomputable def s_l1Cur_depot_M : MS l1Cur (Depot × l1Cur) := ⟨.b 118, s_l1Cur_depot, fun _ => .aggv [.own 0, .own 1], fun y => [arO 3 y.1.Sizes, taO 24 [some 3] y.1.Tracks], fun _ y => [bxO 118 y.2]⟩
theorem s_l1Cur_depot_c {c y} (hm : s_l1Cur_depot c = some y) : s_l1Cur_depot_M.C c y := s_l1Cur_depot_M.c c hm
theorem s_l1Cur_depot_ok : FnOK Try.prog tJ 62 s_l1Cur_depot_M.S := by
 refine fm tt s_l1Cur_depot_M [fo s_l1Cur_pick_ok, fo s_l1Cur_among_w_ok] Try.call62 Try.func62 rfl Try.results62 Try.ntmps62 ?_
 rintro c y cx G hm
 have hm : s_l1Cur_depot c = some y := hm
 unfold s_l1Cur_depot at hm
 refine rg G (rg G (rg G (Ok_seq ?_)))
 obtain ⟨r, h, hm⟩ := obind hm
 refine rs G (hC 1 (s_l1Cur_pick_c h) h0) ?_
 refine tl hm (fun (v12, v13, v14, v15, v16) => ⟨[(0, .ref 0 0), (2, .ref 32 0), (3, .ref 48 0)], [bX 0 118 [dV v12, dV v13, kV .u64 v14], bX 32 27 [.dat (.sc (.slice none 0 0)), .dat (.sc (.slice none 0 0))], bX 48 27 [.own 64, .own 80], aX 64 3 v15, tX 80 24 [some 3] v16 80 none], 112⟩) (fun vv2 hm => ?_) ?_
 ·refine Ok_block (lpP hm (fun (n, size, v, v1, v2, v3, v4) => ⟨[(0, .ref 0 0), (2, .ref 32 0), (3, .ref 48 0), (4, dV n), (5, dV size)], [bX 0 118 [dV v, dV v1, kV .u64 v2], bX 32 27 [.dat (.sc (.slice none 0 0)), .dat (.sc (.slice none 0 0))], bX 48 27 [.own 64, .own 80], aX 64 3 v3, tX 80 24 [some 3] v4 80 none], 112⟩) (Wk_J G.hL ⟨[(0, []), (2, []), (3, []), (4, []), (5, [])], [(0, 0, []), (32, 16, []), (48, 48, [.o 64, .o 80])], [(64, 3, 1, []), (80, 24, 1, [some 3])], 112⟩ (by kernel_rfl)) ?_)
  rintro ⟨n, size, v, v1, v2, v3, v4⟩ r0 hb hm
  rw [s_l1Cur_depot_L2] at hm
  refine Ok_seq (rg G (cd hm (fun hm => ?_) (fun hm => ?_)))
  ·refine X_skip (thN (Ok_seq (Ok_block ?_)))
   obtain ⟨r1, h1, hm⟩ := obind hm
   refine rs G (hC 2 (s_l1Cur_among_w_c h1) h0) ?_
   refine rg G (Ok_seq ?_)
   obtain ⟨r2, h2, hm⟩ := obind hm
   refine rs G (hC 3 (s_l1Cur_pick_c h2) h0) ?_
   refine tl hm (fun (n2, v9, v10, v11, k1) => ⟨[(0, .ref 0 0), (2, .ref 32 0), (3, .ref 48 0), (4, dV n2), (5, dV size), (6, dV r1.1), (7, .own 64)], [bX 0 118 [dV v9, dV v10, kV .u64 v11], bX 32 27 [.dat (.sc (.slice none 0 0)), .dat (.sc (.slice none 0 0))], bX 48 27 [.own 80, .own 96], aX 64 3 k1, aX 80 3 v3, tX 96 24 [some 3] v4 96 none], 128⟩) (fun vv hm => ?_) ?_
   ·refine Ok_block (lp G hm (fun (n1, v5, v6, v7, v8, k) => ⟨[(0, .ref 0 0), (2, .ref 32 0), (3, .ref 48 0), (4, dV n1), (5, dV size), (6, dV r1.1), (7, .own 64), (8, dV v5)], [bX 0 118 [dV v6, dV v7, kV .u64 v8], bX 32 27 [.dat (.sc (.slice none 0 0)), .dat (.sc (.slice none 0 0))], bX 48 27 [.own 80, .own 96], aX 64 3 k, aX 80 3 v3, tX 96 24 [some 3] v4 96 none], 128⟩) ?_)
    rintro ⟨n1, v5, v6, v7, v8, k⟩ r0 hb1 hm
    rw [s_l1Cur_depot_L1] at hm
    refine Ok_seq (rg G (cd hm (fun hm => ?_) (fun hm => ?_)))
    ·refine X_skip (thN (Ok_seq (Ok_block ?_)))
     obtain ⟨u, h3, hm⟩ := obind hm
     refine rs G (hA 3 8 h3 h0) ?_
     obtain ⟨r3, h4, hm⟩ := obind hm
     refine re G (hC 3 (s_l1Cur_pick_c h4) h0) ?_
     exact ibN (thN (rh G (wL G hm)))
    ·exact Ok_exit (thE (thE (ibE (wD G hm hb1))))
   rintro ⟨n2, v9, v10, v11, k1⟩ hm s hw
   refine thN (Ok_weak hw ?_)
   obtain ⟨u1, h5, hm⟩ := obind hm
   refine rs G (hA 4 8 h5 h0) ?_
   obtain ⟨u2, h6, hm⟩ := obind hm
   refine re G (hP (nodupB_ok (l := [64]) rfl) (hA 4 24 h6 h0)) ?_
   exact ibN (thN (rh G (wL G hm)))
  ·exact Ok_exit (thE (thE (ibE (wD G hm hb))))
 rintro ⟨v12, v13, v14, v15, v16⟩ hm s1 hw1
 refine thN (Ok_weak hw1 ?_)
 refine jn hm (fun (v17, v18, v19, v20, v21) => ⟨[(0, .ref 0 0), (2, .ref 32 0), (3, .ref 48 0)], [bX 0 118 [dV v17, dV v18, kV .u64 v19], bX 32 27 [.dat (.sc (.slice none 0 0)), .dat (.sc (.slice none 0 0))], bX 48 27 [.own 64, .own 80], aX 64 3 v20, tX 80 24 [some 3] v21 80 none], 112⟩) (fun vv1 hm => ?_) ?_
 ·obtain ⟨r4, h7, hm⟩ := obind hm
  refine rs G (hC 1 (s_l1Cur_pick_c h7) h0) ?_
  refine Ok_block (rg G (cd hm (fun hm => ?_) (fun hm => ?_)))
  ·obtain ⟨r6, h10, hm⟩ := obind hm
   obtain ⟨u4, h11, hm⟩ := obind hm
   refine de G [(4, [0, 224]), (6, [64, 256]), (8, [48, 272])] (hC 4 (s_l1Cur_among_w_c h10) (hA 6 8 h11 h0)) ?_
   exact ibN (wJ G hm)
  ·refine rg G (cd hm (fun hm => ?_) (fun hm => ?_))
   ·obtain ⟨e2, h16, hm⟩ := obind hm
    obtain ⟨r8, h17, hm⟩ := obind hm
    obtain ⟨u6, h18, hm⟩ := obind hm
    obtain ⟨e3, h19, hm⟩ := obind hm
    refine de G [(8, [0, 320]), (10, [80, 352]), (12, [80, 368])] (hD 4 h16 (hE 5 h16 (hC 8 (s_l1Cur_among_w_c h17) (hO 10 (.sd (Enc.e e2) (List.map Enc.e (e2 ++ ([r8.1] : List Int)))) (hP (idx_m2 (f := Enc.e) h16) (hP (app_p (f := Enc.e) (g := Enc.e) (l := e2) (r := ([r8.1] : List Int)) (b := 8) (chk_t h18) rfl) (hP (app_m Enc.e e2 ([r8.1] : List Int)) (hD 11 h19 (hS 12 h16 (e2 ++ ([r8.1] : List Int)) (hP (Eq.refl (0 : Int).toNat) h0)))))))))) ?_
    exact ibN (wJ G hm)
   ·exact X_skip (ibN (wJ G hm))
 rintro ⟨v17, v18, v19, v20, v21⟩ hm
 refine rg G ?_
 cases hm
 exact rt [64, 80] []
noncomputable def s_l1Cur_one_M : MS (l1Cur × Int) (Bool × l1Cur) := ⟨.x (.b 118) .r, fun x => s_l1Cur_one x.1 x.2, fun y => dV y.1, fun _ => [], fun _ y => [bxO 118 y.2]⟩
theorem s_l1Cur_one_c {c n y} (hm : s_l1Cur_one c n = some y) : s_l1Cur_one_M.C (c, n) y := s_l1Cur_one_M.c (c, n) hm
theorem s_l1Cur_one_ok : FnOK Try.prog tJ 79 s_l1Cur_one_M.S := by
 refine fm tt s_l1Cur_one_M [fo s_l1Cur_pick_ok] Try.call79 Try.func79 rfl Try.results79 Try.ntmps79 ?_
 rintro ⟨c, n⟩ y cx G hm
 have hm : s_l1Cur_one c n = some y := hm
 unfold s_l1Cur_one at hm
 refine rg G ?_
 obtain ⟨r, h, hm⟩ := obind hm
 refine rs G (hC 2 (s_l1Cur_pick_c h) h0) ?_
 cases hm
 exact rt [] []
noncomputable def s_l1Cur_vehicleOf_M : MS (l1Cur × Depot) (Int × l1Cur) := ⟨.x (.b 118) .r, fun x => s_l1Cur_vehicleOf x.1 x.2, fun y => dV y.1, fun _ => [], fun _ y => [bxO 118 y.2]⟩
theorem s_l1Cur_vehicleOf_c {c d y} (hm : s_l1Cur_vehicleOf c d = some y) : s_l1Cur_vehicleOf_M.C (c, d) y := s_l1Cur_vehicleOf_M.c (c, d) hm
theorem s_l1Cur_vehicleOf_ok : FnOK Try.prog tJ 82 s_l1Cur_vehicleOf_M.S := by
 refine fm tt s_l1Cur_vehicleOf_M [fo s_l1Cur_one_ok, fo s_l1Cur_among_ok, fo s_l1Cur_pick_ok] Try.call82 Try.func82 rfl Try.results82 Try.ntmps82 ?_
 rintro ⟨c, d⟩ y cx G hm
 have hm : s_l1Cur_vehicleOf c d = some y := hm
 unfold s_l1Cur_vehicleOf at hm
 refine rg G (rg G (Ok_seq (rg G (tl hm (fun v2 => ⟨[(0, .ref 0 0), (5, .own 32)], [bX 0 118 [dV c.code_, dV c.at_, kV .u64 c.seed_.v], aX 32 3 v2], 64⟩) (fun v2 hm => ?_) ?_))))
 ·refine Ok_block (lp G hm (fun (v, v1) => ⟨[(0, .ref 0 0), (3, .ref 32 0), (5, .own 48), (6, dV v)], [bX 0 118 [dV c.code_, dV c.at_, kV .u64 c.seed_.v], bX 32 27 [dV d.Sizes, dV d.Tracks], aX 48 3 v1], 80⟩) ?_)
  rintro ⟨v, v1⟩ r0 hb hm
  rw [s_l1Cur_vehicleOf_L1] at hm
  refine Ok_seq (rs G (hN 3 d.Tracks h0) ?_)
  refine cd hm (fun hm => ?_) (fun hm => ?_)
  ·refine X_skip (thN (Ok_seq (Ok_block ?_)))
   obtain ⟨e, h, hm⟩ := obind hm
   obtain ⟨u, h1, hm⟩ := obind hm
   refine re G (hD 4 h (hA 6 8 h1 h0)) ?_
   exact ibN (thN (rh G (wL G hm)))
  ·exact Ok_exit (thE (thE (ibE (wD G hm hb))))
 rintro v2 hm s hw
 refine thN (Ok_weak hw ?_)
 refine Ok_seq (jn hm (fun (v3, v4, v5, v6) => ⟨[(0, .ref 0 0), (5, .own 32), (28, dV v3)], [bX 0 118 [dV v4, dV v5, kV .u64 v6], aX 32 3 v2], 64⟩) (fun vv hm => ?_) ?_)
 ·rcases bf hm with ⟨hb1, hm⟩ | ⟨hb1, hm⟩
  ·refine re G (hN 1 v2 (hO 3 (.b true) (hP hb1 h0))) ?_
   exact wJ G hm
  ·obtain ⟨r, h2, hm⟩ := obind hm
   refine re G (hN 1 v2 (hO 3 (.b false) (hP hb1 (hC 5 (s_l1Cur_one_c h2) h0)))) ?_
   exact wJ G hm
 rintro ⟨v3, v4, v5, v6⟩ hm
 refine cd hm (fun hm => ?_) (fun hm => ?_)
 ·obtain ⟨r1, h3, hm⟩ := obind hm
  refine rs G (hO 2 (.fz [80] [] []) (hC 2 (s_l1Cur_among_c h3) h0)) ?_
  cases hm
  exact rt [] []
 ·refine X_skip (thN ?_)
  obtain ⟨r2, h4, hm⟩ := obind hm
  obtain ⟨e1, h5, hm⟩ := obind hm
  refine rs G (hN 3 v2 (hC 4 (s_l1Cur_pick_c h4) (hD 5 h5 (hE 6 h5 h0)))) ?_
  cases hm
  exact rt [] []
noncomputable def s_l1Cur_moves15_M : MS (l1Cur × Depot) ((List Move) × l1Cur) := ⟨.x (.b 118) .r, fun x => s_l1Cur_moves15 x.1 x.2, fun _ => .own 0, fun y => [arO 122 y.1], fun _ y => [bxO 118 y.2]⟩
theorem s_l1Cur_moves15_c {c d y} (hm : s_l1Cur_moves15 c d = some y) : s_l1Cur_moves15_M.C (c, d) y := s_l1Cur_moves15_M.c (c, d) hm
theorem s_l1Cur_moves15_ok : FnOK Try.prog tJ 63 s_l1Cur_moves15_M.S := by
 refine fm tt s_l1Cur_moves15_M [fo s_l1Cur_pick_ok, fo s_l1Cur_one_ok, fo s_l1Cur_vehicleOf_ok] Try.call63 Try.func63 rfl Try.results63 Try.ntmps63 ?_
 rintro ⟨c, d⟩ y cx G hm
 have hm : s_l1Cur_moves15 c d = some y := hm
 unfold s_l1Cur_moves15 at hm
 refine rg G (rg G (rg G (Ok_seq ?_)))
 obtain ⟨r, h, hm⟩ := obind hm
 refine rs G (hC 1 (s_l1Cur_pick_c h) h0) ?_
 refine tl hm (fun (v11, v12, v13, n2) => ⟨[(0, .ref 0 0), (5, .own 32)], [bX 0 118 [dV v11, dV v12, kV .u64 v13], aX 32 122 n2], 64⟩) (fun vv4 hm => ?_) ?_
 ·refine Ok_block (lp G hm (fun (v, v1, v2, v3, n, k) => ⟨[(0, .ref 0 0), (3, .ref 32 0), (5, .own 48), (6, .own 64), (7, dV v)], [bX 0 118 [dV v1, dV v2, kV .u64 v3], bX 32 27 [dV d.Sizes, dV d.Tracks], aX 48 122 n, aX 64 3 k], 96⟩) ?_)
  rintro ⟨v, v1, v2, v3, n, k⟩ r0 hb hm
  rw [s_l1Cur_moves15_L1] at hm
  refine Ok_seq (rg G (cd hm (fun hm => ?_) (fun hm => ?_)))
  ·refine X_skip (thN (jn hm (fun (v4, v5, v6, n1, k1) => ⟨[(0, .ref 0 0), (3, .ref 32 0), (5, .own 48), (6, .own 64), (7, dV v)], [bX 0 118 [dV v4, dV v5, kV .u64 v6], bX 32 27 [dV d.Sizes, dV d.Tracks], aX 48 122 n1, aX 64 3 k1], 96⟩) (fun vv1 hm => ?_) ?_))
   ·refine Ok_block (Ok_block (jn hm (fun (v7, v8, v9, v10) => ⟨[(0, .ref 0 0), (3, .ref 32 0), (5, .own 48), (6, .own 64), (7, dV v), (30, dV v7)], [bX 0 118 [dV v8, dV v9, kV .u64 v10], bX 32 27 [dV d.Sizes, dV d.Tracks], aX 48 122 n, aX 64 3 k], 96⟩) (fun vv hm => ?_) ?_))
    ·rcases bf hm with ⟨hb1, hm⟩ | ⟨hb1, hm⟩
     ·obtain ⟨r1, h1, hm⟩ := obind hm
      refine re G (hN 1 k (hO 3 (.b true) (hP hb1 (hC 5 (s_l1Cur_one_c h1) h0)))) ?_
      exact wJ G hm
     ·refine re G (hN 1 k (hO 3 (.b false) (hP hb1 h0))) ?_
      exact wJ G hm
    rintro ⟨v7, v8, v9, v10⟩ hm
    refine cd hm (fun hm => ?_) (fun hm => ?_)
    ·obtain ⟨r2, h2, hm⟩ := obind hm
     refine rs G (hN 2 k (hC 3 (s_l1Cur_pick_c h2) h0)) ?_
     obtain ⟨e, h3, hm⟩ := obind hm
     obtain ⟨u, h4, hm⟩ := obind hm
     refine rs G (hD 3 h3 (hE 4 h3 (hA 7 16 h4 h0))) ?_
     refine Ok_weak (Wk_J (x' := (⟨[(0, .ref 0 0), (3, .ref 32 0), (5, .own 48), (6, dV k), (7, dV v), (8, dV r2.1)], [bX 0 118 [dV r2.2.code_, dV r2.2.at_, kV .u64 r2.2.seed_.v], bX 32 27 [dV d.Sizes, dV d.Tracks], aX 48 122 (n ++ ([(⟨e, true⟩ : Move)] : List Move))], 80⟩ : X)) G.hL ⟨[(0, []), (3, []), (5, []), (6, []), (7, []), (8, [])], [(0, 0, []), (32, 32, []), (48, 288, [])], [], 80⟩ (by kernel_rfl)) ?_
     obtain ⟨u5, h9, hm⟩ := obind hm
     obtain ⟨u6, h10, hm⟩ := obind hm
     obtain ⟨u7, h11, hm⟩ := obind hm
     obtain ⟨u8, h12, hm⟩ := obind hm
     refine de G [(3, []), (4, [80]), (8, []), (9, [144])] (hU 3 h9 (hA 4 8 h10 (hV 8 h11 (hA 9 8 h12 h0)))) ?_
     exact ibN (ibN (wJ G hm))
    ·obtain ⟨r3, h13, hm⟩ := obind hm
     refine rs G (hC 1 (s_l1Cur_one_c h13) h0) ?_
     refine cd hm (fun hm => ?_) (fun hm => ?_)
     ·obtain ⟨r4, h14, hm⟩ := obind hm
      obtain ⟨u9, h15, hm⟩ := obind hm
      refine re G (hC 3 (s_l1Cur_vehicleOf_c h14) (hA 6 16 h15 h0)) ?_
      exact ibN (ibN (wJ G hm))
     ·refine rs G (hN 1 n h0) ?_
      obtain ⟨u10, h16, hm⟩ := obind hm
      refine rs G (hA 4 16 h16 h0) ?_
      obtain ⟨u11, h17, hm⟩ := obind hm
      refine re G (hA 3 8 h17 h0) ?_
      exact ibN (ibN (wJ G hm))
   rintro ⟨v4, v5, v6, n1, k1⟩ hm
   exact rh G (wL G hm)
  ·exact Ok_exit (thE (thE (ibE (wD G hm hb))))
 rintro ⟨v11, v12, v13, n2⟩ hm s hw
 refine thN (Ok_weak hw ?_)
 refine jn hm (fun (v14, v15, v16, n3) => ⟨[(0, .ref 0 0), (5, .own 32)], [bX 0 118 [dV v14, dV v15, kV .u64 v16], aX 32 122 n3], 64⟩) (fun vv3 hm => ?_) ?_
 ·obtain ⟨r5, h18, hm⟩ := obind hm
  refine rs G (hC 1 (s_l1Cur_one_c h18) h0) ?_
  refine cd hm (fun hm => ?_) (fun hm => ?_)
  ·refine tl hm (fun (v20, v21, v22, n5) => ⟨[(0, .ref 0 0), (5, .own 32)], [bX 0 118 [dV v20, dV v21, kV .u64 v22], aX 32 122 n5], 64⟩) (fun vv2 hm => ?_) ?_
   ·refine Ok_block (lp G hm (fun (v17, v18, v19, n4) => ⟨[(0, .ref 0 0), (5, .own 32)], [bX 0 118 [dV v17, dV v18, kV .u64 v19], aX 32 122 n4], 64⟩) ?_)
    rintro ⟨v17, v18, v19, n4⟩ r0 hb2 hm
    rw [s_l1Cur_moves15_L2] at hm
    refine Ok_seq ?_
    obtain ⟨r6, h19, hm⟩ := obind hm
    refine rs G (hN 1 n4 (hC 3 (s_l1Cur_pick_c h19) h0)) ?_
    refine cd hm (fun hm => ?_) (fun hm => ?_)
    ·refine X_skip (thN (Ok_block ?_))
     obtain ⟨u12, h20, hm⟩ := obind hm
     obtain ⟨u13, h21, hm⟩ := obind hm
     refine re G (hN 2 n4 (hK h20 (hA 7 16 h21 h0))) ?_
     exact ibN (wL G hm)
    ·exact Ok_exit (thE (thE (ibE (wD G hm hb2))))
   rintro ⟨v20, v21, v22, n5⟩ hm s1 hw1
   exact wJp hm (Wk.trans hw1 (Wk_J G.hL ⟨[(0, []), (5, [])], [(0, 0, []), (32, 32, [])], [], 64⟩ (by kernel_rfl)))
  ·exact X_skip (wJ G hm)
 rintro ⟨v14, v15, v16, n3⟩ hm
 refine rg G ?_
 cases hm
 exact rt [32] []
noncomputable def s_DrawAssignTracks_M : MS ((List UInt8)) (Depot × (List Move)) := ⟨.r, s_DrawAssignTracks, fun y => .tup [dV y.1, .own 0], fun y => [arO 122 y.2], fun _ _ => []⟩
theorem s_DrawAssignTracks_c {code y} (hm : s_DrawAssignTracks code = some y) : s_DrawAssignTracks_M.C code y := s_DrawAssignTracks_M.c code hm
theorem s_DrawAssignTracks_ok : FnOK Try.prog tJ 9 s_DrawAssignTracks_M.S := by
 refine fm tt s_DrawAssignTracks_M [fo s_l1Cur_depot_ok, fo s_l1Cur_moves15_ok] Try.call9 Try.func9 rfl Try.results9 Try.ntmps9 ?_
 rintro code y cx G hm
 have hm : s_DrawAssignTracks code = some y := hm
 unfold s_DrawAssignTracks at hm
 refine rg G (rg G ?_)
 obtain ⟨r, h, hm⟩ := obind hm
 refine rs G (hC 1 (s_l1Cur_depot_c h) h0) ?_
 refine Ok_weak (Wk_J (x' := (⟨[(2, .ref 16 0), (4, .ref 32 0), (5, .ref 48 0)], [bX 16 27 [.dat (.sc (.slice none 0 0)), .dat (.sc (.slice none 0 0))], bX 32 118 [dV r.2.code_, dV r.2.at_, kV .u64 r.2.seed_.v], bX 48 27 [dV r.1.Sizes, dV r.1.Tracks]], 80⟩ : X)) G.hL ⟨[(2, []), (4, []), (5, [])], [(16, 16, []), (32, 80, []), (48, 144, [])], [], 80⟩ (by kernel_rfl)) ?_
 obtain ⟨r2, h2, hm⟩ := obind hm
 refine ds G [(3, [32]), (4, [16])] (hC 3 (s_l1Cur_moves15_c h2) h0) ?_
 cases hm
 exact rt [128] []
noncomputable def i_within_M : MS (Int × Int × Int) Bool := ⟨.x .r (.x .r .r), fun x => i_within x.1 x.2.1 x.2.2, fun y => dV y, fun _ => [], fun _ _ => []⟩
theorem i_within_c {n lo hi y} (hm : i_within n lo hi = some y) : i_within_M.C (n, lo, hi) y := i_within_M.c (n, lo, hi) hm
theorem i_within_ok : FnOK Try.prog tJ 143 i_within_M.S := by
 refine fm tt i_within_M [] Try.call143 Try.func143 rfl Try.results143 Try.ntmps143 ?_
 rintro ⟨n, lo, hi⟩ y cx G hm
 have hm : i_within n lo hi = some y := hm
 unfold i_within at hm
 refine rg G (jn hm (fun v => ⟨[(6, dV v)], [], 32⟩) (fun v hm => ?_) ?_)
 ·rcases bf hm with ⟨hb, hm⟩ | ⟨hb, hm⟩
  ·refine re G (hO 3 (.b true) (hP hb h0)) ?_
   exact wJ G hm
  ·refine re G (hO 3 (.b false) (hP hb h0)) ?_
   exact wJ G hm
 rintro v hm
 cases hm
 exact rt [] []
noncomputable def i_IsValidDepot_M : MS Depot Bool := ⟨.r, i_IsValidDepot, fun y => dV y, fun _ => [], fun _ _ => []⟩
theorem i_IsValidDepot_c {d y} (hm : i_IsValidDepot d = some y) : i_IsValidDepot_M.C d y := i_IsValidDepot_M.c d hm
theorem i_IsValidDepot_ok : FnOK Try.prog tJ 64 i_IsValidDepot_M.S := by
 refine fm tt i_IsValidDepot_M [fo i_within_ok] Try.call64 Try.func64 rfl Try.results64 Try.ntmps64 ?_
 rintro d y cx G hm
 have hm : i_IsValidDepot d = some y := hm
 unfold i_IsValidDepot at hm
 refine rg G (Ok_seq ?_)
 obtain ⟨r, h, hm⟩ := obind hm
 refine jn hm (fun v => ⟨[(1, .ref 16 0), (21, dV v)], [bX 16 27 [dV d.Sizes, dV d.Tracks]], 48⟩) (fun v hm => ?_) ?_
 ·rcases bf hm with ⟨hb, hm⟩ | ⟨hb, hm⟩
  ·refine re G (hN 2 d.Sizes (hC 3 (i_within_c h) (hO 5 (.b true) (hP hb h0)))) ?_
   exact wJ G hm
  ·refine re G (hN 2 d.Sizes (hC 3 (i_within_c h) (hO 5 (.b false) (hP hb (hN 8 d.Tracks (hN 11 d.Sizes h0)))))) ?_
   exact wJ G hm
 rintro v hm
 refine cd hm (fun hm => ?_) (fun hm => ?_)
 ·refine rg G ?_
  cases hm
  exact rt [] []
 ·refine X_skip (thN (rg G (Ok_seq (rs G (hN 2 d.Sizes h0) ?_))))
  refine tF hm (fun _ => ⟨[], [], 32⟩) (fun v9 hr hm => ?_) ?_
  ·refine Ok_block (lp G hm (fun (v1, v2) => ⟨[(1, .ref 16 0), (3, .eref 32 1 0 0), (23, dV d.Sizes), (24, dV (d.Sizes.length : Int)), (25, dV v1)], [bX 16 27 [dV d.Sizes, dV d.Tracks], aX 32 4 v2], 64⟩) ?_)
   rintro ⟨v1, v2⟩ r0 hb1 hm
   rw [i_IsValidDepot_L2] at hm
   refine rg G (Ok_seq (cd hm (fun hm => ?_) (fun hm => ?_)))
   ·refine X_skip (thN (Ok_seq (Ok_block ?_)))
    obtain ⟨e, h1, hm⟩ := obind hm
    refine rs G (hD 1 h1 h0) ?_
    refine Ok_seq ?_
    obtain ⟨r1, h2, hm⟩ := obind hm
    refine jn hm (fun v3 => ⟨[(1, .ref 16 0), (3, .eref 32 1 0 0), (4, dV v1), (23, dV d.Sizes), (24, dV (d.Sizes.length : Int)), (25, dV v1), (42, dV v3)], [bX 16 27 [dV d.Sizes, dV d.Tracks], aX 32 4 v2], 64⟩) (fun v3 hm => ?_) ?_
    ·rcases bf hm with ⟨hb2, hm⟩ | ⟨hb2, hm⟩
     ·refine re G (hC 1 (i_within_c h2) (hO 3 (.b true) (hP hb2 h0))) ?_
      exact wJ G hm
     ·obtain ⟨e1, h3, hm⟩ := obind hm
      refine re G (hC 1 (i_within_c h2) (hO 3 (.b false) (hP hb2 (hD 7 h3 (hN 9 e1 h0))))) ?_
      exact wJ G hm
    rintro v3 hm
    refine cd hm (fun hm => ?_) (fun hm => ?_)
    ·refine rg G ?_
     have hm := eL hm hb1 hr
     cases hm
     exact rt [] []
    ·refine X_skip (thN ?_)
     obtain ⟨e3, h4, hm⟩ := obind hm
     refine rs G (hD 3 h4 (hN 5 e3 h0)) ?_
     refine tF hm (fun v7 => ⟨[(1, .ref 16 0), (3, .eref 32 1 0 0), (23, dV d.Sizes), (24, dV (d.Sizes.length : Int)), (25, dV v1)], [bX 16 27 [dV d.Sizes, dV d.Tracks], aX 32 4 v7], 64⟩) (fun v8 hr1 hm => ?_) ?_
     ·refine Ok_block (lp G hm (fun (v4, v5) => ⟨[(1, .ref 16 0), (3, .eref 32 1 0 0), (23, dV d.Sizes), (24, dV (d.Sizes.length : Int)), (25, dV v1), (47, dV e3), (48, dV (e3.length : Int)), (49, dV v4)], [bX 16 27 [dV d.Sizes, dV d.Tracks], aX 32 4 v5], 64⟩) ?_)
      rintro ⟨v4, v5⟩ r0 hb3 hm
      rw [i_IsValidDepot_L1] at hm
      refine rg G (Ok_seq (cd hm (fun hm => ?_) (fun hm => ?_)))
      ·refine X_skip (thN (Ok_seq (Ok_block ?_)))
       obtain ⟨e4, h5, hm⟩ := obind hm
       refine rs G (hD 0 h5 h0) ?_
       refine Ok_seq ?_
       obtain ⟨r3, h6, hm⟩ := obind hm
       refine jn hm (fun v6 => ⟨[(1, .ref 16 0), (3, .eref 32 1 0 0), (7, dV e4), (23, dV d.Sizes), (24, dV (d.Sizes.length : Int)), (25, dV v1), (47, dV e3), (48, dV (e3.length : Int)), (49, dV v4), (60, dV v6)], [bX 16 27 [dV d.Sizes, dV d.Tracks], aX 32 4 v5], 64⟩) (fun v6 hm => ?_) ?_
       ·rcases bf hm with ⟨hb4, hm⟩ | ⟨hb4, hm⟩
        ·refine re G (hC 1 (i_within_c h6) (hO 3 (.b true) (hP hb4 h0))) ?_
         exact wJ G hm
        ·obtain ⟨u, h8, hm⟩ := obind hm
         obtain ⟨e5, h7, hm⟩ := obind hm
         refine re G (hC 1 (i_within_c h6) (hO 3 (.b false) (hP hb4 (hK h8 (hE 6 h7 h0))))) ?_
         exact wJ G hm
       rintro v6 hm
       refine cd hm (fun hm => ?_) (fun hm => ?_)
       ·refine rg G ?_
        have hm := eL hm hb3 hr1
        have hm := eL hm hb1 hr
        cases hm
        exact rt [] []
       ·refine X_skip (thN ?_)
        obtain ⟨u1, h10, hm⟩ := obind hm
        obtain ⟨e8, h9, hm⟩ := obind hm
        refine re G (hK h10 (hS 2 h9 true h0)) ?_
        exact ibN (thN (rh G (wL G hm)))
      ·exact Ok_exit (thE (thE (ibE (wE G hm hb3))))
     rintro v7 hm s hw
     refine ibN (thN (Ok_weak hw ?_))
     exact rh G (wL G hm)
   ·exact Ok_exit (thE (thE (ibE (wE G hm hb1))))
  rintro ⟨⟩ hm s1 hw1
  refine thN (Ok_weak hw1 ?_)
  refine rg G ?_
  cases hm
  exact rt [] []
noncomputable def slices_Clone_int_M : MS ((List Int)) ((List Int)) := ⟨.r, slices_Clone_int, fun _ => .own 0, fun y => [arO 3 y], fun _ _ => []⟩
theorem slices_Clone_int_c {s y} (hm : slices_Clone_int s = some y) : slices_Clone_int_M.C s y := slices_Clone_int_M.c s hm
theorem slices_Clone_int_ok : FnOK Try.prog tJ 84 slices_Clone_int_M.S := by
 refine fm tt slices_Clone_int_M [] Try.call84 Try.func84 rfl Try.results84 Try.ntmps84 ?_
 rintro s y cx G hm
 have hm : slices_Clone_int s = some y := hm
 unfold slices_Clone_int at hm
 obtain ⟨u, h, hm⟩ := obind hm
 cases hm
 refine rg G (Ok_seq (X_nil_seq G.t.ty G.ok 1 (ds := List.map Enc.e s) (es := 1) [] .nil (by kernel_rfl) (by rfl) (by rfl) (by kernel_rfl) ?_))
 intro b hb
 refine X_cond b (by kernel_rfl) (fun hc => ?_) (fun hc => ?_)
 ·have hl : s = [] := by
   cases s with
   | nil => rfl
   | cons a r => have := hb (by simp); rw [hc] at this; cases this
  subst hl
  refine rg G (Ok_weak (Wk_J (x' := ⟨[(2, .own 16)], [(16, some (.arr 3 1 []))], 32⟩) G.hL ⟨[(2, [.o 16])], [], [(16, 3, 1, [])], 32⟩ (by kernel_rfl)) ?_)
  exact rt [16] []
 ·refine sN (rs G (hA 2 8 h h0) ?_)
  exact rt [96] []
noncomputable def i_copyLists_M : MS ((List (List Int))) ((List (List Int))) := ⟨.r, i_copyLists, fun _ => .own 0, fun y => [taO 24 [some 3] y], fun _ _ => []⟩
theorem i_copyLists_c {lists y} (hm : i_copyLists lists = some y) : i_copyLists_M.C lists y := i_copyLists_M.c lists hm
theorem i_copyLists_ok : FnOK Try.prog tJ 124 i_copyLists_M.S := by
 refine fm tt i_copyLists_M [fo slices_Clone_int_ok] Try.call124 Try.func124 rfl Try.results124 Try.ntmps124 ?_
 rintro lists y cx G hm
 have hm : i_copyLists lists = some y := hm
 unfold i_copyLists at hm
 refine rg G ?_
 obtain ⟨u, h, hm⟩ := obind hm
 refine rs G (hN 1 lists (hO 2 (.l (List.map Enc.e (List.replicate (lists.length : Int).toNat (([] : List Int) : List Int)))) (hP (mk_p (b := 24) (chk_t h) rfl) (hP (rep_m Enc.e (lists.length : Int).toNat (([] : List Int) : List Int)) h0)))) ?_
 refine Ok_seq (rs G (hN 1 lists h0) ?_)
 refine tl hm (fun i1 => ⟨[(3, .own 16)], [tX 16 24 [some 3] i1 16 none], 48⟩) (fun i1 hm => ?_) ?_
 ·refine Ok_block (lp G hm (fun (v, i) => ⟨[(3, .own 16), (9, dV lists), (10, dV (lists.length : Int)), (11, dV v)], [tX 16 24 [some 3] i 16 none], 48⟩) ?_)
  rintro ⟨v, i⟩ r0 hb hm
  rw [i_copyLists_L1] at hm
  refine rg G (Ok_seq (cd hm (fun hm => ?_) (fun hm => ?_)))
  ·refine X_skip (thN (Ok_seq (Ok_block ?_)))
   obtain ⟨e, h1, hm⟩ := obind hm
   refine rs G (hD 1 h1 h0) ?_
   obtain ⟨r, h2, hm⟩ := obind hm
   obtain ⟨e1, h3, hm⟩ := obind hm
   refine re G (hC 3 (slices_Clone_int_c h2) (hD 4 h3 (hS 5 h3 r h0))) ?_
   exact ibN (thN (rh G (wL G hm)))
  ·exact Ok_exit (thE (thE (ibE (wD G hm hb))))
 rintro i1 hm s hw
 refine thN (Ok_weak hw ?_)
 refine rg G ?_
 cases hm
 exact rt [16] []
noncomputable def i_copyDepot_M : MS Depot Depot := ⟨.r, i_copyDepot, fun _ => .aggv [.own 0, .own 1], fun y => [arO 3 y.Sizes, taO 24 [some 3] y.Tracks], fun _ _ => []⟩
theorem i_copyDepot_c {d y} (hm : i_copyDepot d = some y) : i_copyDepot_M.C d y := i_copyDepot_M.c d hm
theorem i_copyDepot_ok : FnOK Try.prog tJ 68 i_copyDepot_M.S := by
 refine fm tt i_copyDepot_M [fo slices_Clone_int_ok, fo i_copyLists_ok] Try.call68 Try.func68 rfl Try.results68 Try.ntmps68 ?_
 rintro d y cx G hm
 have hm : i_copyDepot d = some y := hm
 unfold i_copyDepot at hm
 refine rg G ?_
 obtain ⟨r2, h2, hm⟩ := obind hm
 obtain ⟨r3, h3, hm⟩ := obind hm
 refine ds G [(7, [32, 80, 128])] (hC 2 (slices_Clone_int_c h2) (hC 5 (i_copyLists_c h3) h0)) ?_
 cases hm
 exact rt [80, 128] []
noncomputable def slices_Index_int_M : MS ((List Int) × Int) Int := ⟨.x .r .r, fun x => slices_Index_int x.1 x.2, fun y => dV y, fun _ => [], fun _ _ => []⟩
theorem slices_Index_int_c {s v y} (hm : slices_Index_int s v = some y) : slices_Index_int_M.C (s, v) y := slices_Index_int_M.c (s, v) hm
theorem slices_Index_int_ok : FnOK Try.prog tJ 155 slices_Index_int_M.S := by
 refine fm tt slices_Index_int_M [] Try.call155 Try.func155 rfl Try.results155 Try.ntmps155 ?_
 rintro ⟨s, v⟩ y cx G hm
 have hm : slices_Index_int s v = some y := hm
 unfold slices_Index_int at hm
 refine rg G (Ok_seq (rs G (hN 1 s h0) ?_))
 refine tF hm (fun _ => ⟨[], [], 32⟩) (fun v2 hr hm => ?_) ?_
 ·refine Ok_block (lp G hm (fun v1 => ⟨[(0, dV s), (1, dV v), (7, dV (s.length : Int)), (8, dV v1)], [], 32⟩) ?_)
  rintro v1 r0 hb hm
  rw [slices_Index_int_L1] at hm
  refine rg G (Ok_seq (cd hm (fun hm => ?_) (fun hm => ?_)))
  ·refine X_skip (thN (Ok_seq (Ok_block (rg G ?_))))
   obtain ⟨e, h, hm⟩ := obind hm
   refine rs G (hD 3 h h0) ?_
   refine cd hm (fun hm => ?_) (fun hm => ?_)
   ·refine rg G ?_
    have hm := eL hm hb hr
    cases hm
    exact rt [] []
   ·exact X_skip (ibN (thN (rh G (wL G hm))))
  ·exact Ok_exit (thE (thE (ibE (wE G hm hb))))
 rintro ⟨⟩ hm s1 hw
 refine thN (Ok_weak hw ?_)
 refine rg G ?_
 cases hm
 exact rt [] []
noncomputable def i_placeIn_M : MS ((List (List Int)) × Int) (Int × Int) := ⟨.x .r .r, fun x => i_placeIn x.1 x.2, fun y => .tup [dV y.1, dV y.2], fun _ => [], fun _ _ => []⟩
theorem i_placeIn_c {blocks id y} (hm : i_placeIn blocks id = some y) : i_placeIn_M.C (blocks, id) y := i_placeIn_M.c (blocks, id) hm
theorem i_placeIn_ok : FnOK Try.prog tJ 83 i_placeIn_M.S := by
 refine fm tt i_placeIn_M [fo slices_Index_int_ok] Try.call83 Try.func83 rfl Try.results83 Try.ntmps83 ?_
 rintro ⟨blocks, id⟩ y cx G hm
 have hm : i_placeIn blocks id = some y := hm
 unfold i_placeIn at hm
 refine rg G (Ok_seq (rs G (hN 1 blocks h0) ?_))
 refine tF hm (fun _ => ⟨[], [], 32⟩) (fun v1 hr hm => ?_) ?_
 ·refine Ok_block (lp G hm (fun v => ⟨[(1, dV id), (9, dV blocks), (10, dV (blocks.length : Int)), (11, dV v)], [], 32⟩) ?_)
  rintro v r0 hb hm
  rw [i_placeIn_L1] at hm
  refine rg G (Ok_seq (cd hm (fun hm => ?_) (fun hm => ?_)))
  ·refine X_skip (thN (Ok_seq (Ok_block ?_)))
   obtain ⟨e, h, hm⟩ := obind hm
   refine rs G (hD 1 h h0) ?_
   obtain ⟨r, h1, hm⟩ := obind hm
   refine rs G (hC 2 (slices_Index_int_c h1) h0) ?_
   refine rg G (cd hm (fun hm => ?_) (fun hm => ?_))
   ·refine rg G ?_
    have hm := eL hm hb hr
    cases hm
    exact rt [] []
   ·exact X_skip (ibN (thN (rh G (wL G hm))))
  ·exact Ok_exit (thE (thE (ibE (wE G hm hb))))
 rintro ⟨⟩ hm s hw
 refine thN (Ok_weak hw ?_)
 refine rg G ?_
 cases hm
 exact rt [] []
noncomputable def i_take_a_M : MS (Depot × Int) (Bool × (List (List Int))) := ⟨⟨[.ag [.sl, .sl], .rd], fun x => [.agg [.sc undef, .sc undef], Enc.e x.2], fun x => [arO 3 x.1.Sizes, taO 24 [some 3] x.1.Tracks], 2, 2, fun _ => rfl, fun _ => rfl, rfl, (by
  rintro ⟨a0, a1⟩ ⟨b0, b1⟩ h hO
  have q0 : a0 = b0 := Enc.inj _ _ (congrArg D.agg (cons_eq (congrArg (fun l => D.sl 1 (obL l 0)) hO) (cons_eq (congrArg (fun l => D.sl 1 (obL l 1)) hO) rfl)))
  have q1 : a1 = b1 := qI 1 h
  subst q0; subst q1; rfl)⟩, fun x => i_take_a x.1 x.2, fun y => dV y.1, fun _ => [], fun x y => [arO 3 x.1.Sizes, taO 24 [some 3] y.2]⟩
theorem i_take_a_c {d vehicle y} (hm : i_take_a d vehicle = some y) : i_take_a_M.C (d, vehicle) y := i_take_a_M.c (d, vehicle) hm
theorem i_take_a_ok : FnOK Try.prog tJ 72 i_take_a_M.S := by
 refine fm tt i_take_a_M [fo i_placeIn_ok] Try.call72 Try.func72 rfl Try.results72 Try.ntmps72 ?_
 rintro ⟨d, vehicle⟩ y cx G hm
 have hm : i_take_a d vehicle = some y := hm
 unfold i_take_a at hm
 refine rg G ?_
 obtain ⟨r, h, hm⟩ := obind hm
 refine rs G (hC 3 (i_placeIn_c h) h0) ?_
 refine Ok_seq (jn hm (fun v => ⟨[(0, .aggv [.own 0, .own 1]), (2, .ref 32 0), (5, dV r.1), (6, dV r.2), (26, dV v)], [aX 0 3 d.Sizes, tX 1 24 [some 3] d.Tracks 1 none, bX 32 27 [.own 0, .own 1]], 64⟩) (fun v hm => ?_) ?_)
 ·rcases bf hm with ⟨hb, hm⟩ | ⟨hb, hm⟩
  ·refine re G (hO 2 (.b true) (hP hb h0)) ?_
   exact wJ G hm
  ·obtain ⟨e, h1, hm⟩ := obind hm
   refine re G (hO 2 (.b false) (hP hb (hD 7 h1 (hE 8 h1 (hO 9 (.dn (Enc.e e) (e.length : Int)) (hP (idx_m2 (f := Enc.e) h1) (hP (len_m Enc.e e) h0))))))) ?_
   exact wJ G hm
 rintro v hm
 refine cd hm (fun hm => ?_) (fun hm => ?_)
 ·refine rg G ?_
  cases hm
  exact rt [] []
 ·refine X_skip (thN ?_)
  obtain ⟨e3, h5, hm⟩ := obind hm
  obtain ⟨u1, h6, hm⟩ := obind hm
  obtain ⟨e4, h7, hm⟩ := obind hm
  refine ds G [(9, [1]), (11, [1])] (hD 6 h5 (hE 7 h5 (hP (vw_p (j := 0) (lo := 0) (hi := r.2) h5 rfl (chk_t h6)) (hD 10 h7 (hO 11 (.sd (Enc.e e3) (List.map Enc.e (d.Tracks.set r.1.toNat (e3.take r.2.toNat)))) (hP (idx_m2 (f := Enc.e) h5) (hP (set_vw d.Tracks r.1.toNat e3 (lo := 0) (hi := r.2) (chk_t h6)) (hP (Eq.refl r.1.toNat) h0)))))))) ?_
  refine rg G ?_
  cases hm
  exact rt [] []
noncomputable def i_park_a_M : MS (Depot × Int × Int) (Bool × (List (List Int))) := ⟨⟨[.ag [.sl, .sl], .rd, .rd], fun x => [.agg [.sc undef, .sc undef], Enc.e x.2.1, Enc.e x.2.2], fun x => [arO 3 x.1.Sizes, taO 24 [some 3] x.1.Tracks], 2, 2, fun _ => rfl, fun _ => rfl, rfl, (by
  rintro ⟨a0, a1, a2⟩ ⟨b0, b1, b2⟩ h hO
  have q0 : a0 = b0 := Enc.inj _ _ (congrArg D.agg (cons_eq (congrArg (fun l => D.sl 1 (obL l 0)) hO) (cons_eq (congrArg (fun l => D.sl 1 (obL l 1)) hO) rfl)))
  have q1 : a1 = b1 := qI 1 h
  have q2 : a2 = b2 := qI 2 h
  subst q0; subst q1; subst q2; rfl)⟩, fun x => i_park_a x.1 x.2.1 x.2.2, fun y => dV y.1, fun _ => [], fun x y => [arO 3 x.1.Sizes, taO 24 [some 3] y.2]⟩
theorem i_park_a_c {d vehicle track y} (hm : i_park_a d vehicle track = some y) : i_park_a_M.C (d, vehicle, track) y := i_park_a_M.c (d, vehicle, track) hm
theorem i_park_a_ok : FnOK Try.prog tJ 73 i_park_a_M.S := by
 refine fm tt i_park_a_M [fo i_within_ok, fo i_placeIn_ok] Try.call73 Try.func73 rfl Try.results73 Try.ntmps73 ?_
 rintro ⟨d, vehicle, track⟩ y cx G hm
 have hm : i_park_a d vehicle track = some y := hm
 unfold i_park_a at hm
 refine rg G (Ok_seq (jn hm (fun v => ⟨[(0, .aggv [.own 0, .own 1]), (1, dV vehicle), (2, dV track), (3, .ref 32 0), (36, dV v)], [aX 0 3 d.Sizes, tX 1 24 [some 3] d.Tracks 1 none, bX 32 27 [.own 0, .own 1]], 64⟩) (fun v hm => ?_) ?_))
 ·rcases bf hm with ⟨hb, hm⟩ | ⟨hb, hm⟩
  ·refine de G [] (hO 2 (.b true) (hP hb h0)) ?_
   exact wJ G hm
  ·rcases bf hm with ⟨hb1, hm⟩ | ⟨hb1, hm⟩
   ·refine de G [] (hO 2 (.b false) (hP hb (hN 6 d.Tracks (hO 9 (.b true) (hP hb1 h0))))) ?_
    exact wJ G hm
   ·obtain ⟨e2, h3, hm⟩ := obind hm
    obtain ⟨e3, h4, hm⟩ := obind hm
    rcases bf hm with ⟨hb2, hm⟩ | ⟨hb2, hm⟩
    ·refine de G [] (hO 2 (.b false) (hP hb (hN 6 d.Tracks (hO 9 (.b false) (hP hb1 (hD 13 h3 (hE 14 h3 (hO 15 (.dn (Enc.e e2) (e2.length : Int)) (hP (idx_m2 (f := Enc.e) h3) (hP (len_m Enc.e e2) (hD 19 h4 (hE 20 h4 (hO 23 (.b true) (hP hb2 h0)))))))))))))) ?_
     exact wJ G hm
    ·obtain ⟨r1, h5, hm⟩ := obind hm
     refine de G [] (hO 2 (.b false) (hP hb (hN 6 d.Tracks (hO 9 (.b false) (hP hb1 (hD 13 h3 (hE 14 h3 (hO 15 (.dn (Enc.e e2) (e2.length : Int)) (hP (idx_m2 (f := Enc.e) h3) (hP (len_m Enc.e e2) (hD 19 h4 (hE 20 h4 (hO 23 (.b false) (hP hb2 (hC 25 (i_within_c h5) h0))))))))))))))) ?_
     exact wJ G hm
 rintro v hm
 refine cd hm (fun hm => ?_) (fun hm => ?_)
 ·refine rg G ?_
  cases hm
  exact rt [] []
 ·refine X_skip (thN (Ok_seq ?_))
  obtain ⟨r2, h6, hm⟩ := obind hm
  refine rs G (hC 3 (i_placeIn_c h6) h0) ?_
  refine rg G (cd hm (fun hm => ?_) (fun hm => ?_))
  ·refine rg G ?_
   cases hm
   exact rt [] []
  ·refine X_skip (thN ?_)
   obtain ⟨e6, h10, hm⟩ := obind hm
   obtain ⟨u1, h11, hm⟩ := obind hm
   obtain ⟨e7, h12, hm⟩ := obind hm
   refine ds G [(10, [1, 384]), (12, [1, 400])] (hD 6 h10 (hE 7 h10 (hO 10 (.sd (Enc.e e6) (List.map Enc.e (e6 ++ ([vehicle] : List Int)))) (hP (idx_m2 (f := Enc.e) h10) (hP (app_p (f := Enc.e) (g := Enc.e) (l := e6) (r := ([vehicle] : List Int)) (b := 8) (chk_t h11) rfl) (hP (app_m Enc.e e6 ([vehicle] : List Int)) (hD 11 h12 (hS 12 h10 (e6 ++ ([vehicle] : List Int)) (hP (Eq.refl track.toNat) h0))))))))) ?_
   refine rg G ?_
   cases hm
   exact rt [] []
noncomputable def i_assign_MR (rec_ : Depot → (List Move) → Option ((List Int) × Bool)) : MS (Depot × (List Move)) ((List Int) × Bool) := ⟨.x .r .r, fun x => rec_ x.1 x.2, fun y => .tup [dV y.1, dV y.2], fun _ => [], fun _ _ => []⟩
noncomputable def i_assign_M : MS (Depot × (List Move)) ((List Int) × Bool) := i_assign_MR i_assign
theorem i_assign_c {d list y} (hm : i_assign d list = some y) : i_assign_M.C (d, list) y := i_assign_M.c (d, list) hm
theorem i_assign_cR {rec_ : Depot → (List Move) → Option ((List Int) × Bool)} {d list y} (hm : rec_ d list = some y) : (i_assign_MR rec_).C (d, list) y := (i_assign_MR rec_).c (d, list) hm
theorem i_assign_okF {rec_ : Depot → (List Move) → Option ((List Int) × Bool)} (hrec : FnOK Try.prog tJ 65 (i_assign_MR rec_).S) : FnOK Try.prog tJ 65 (i_assign_MR (i_assign_F rec_)).S := by
 refine fm tt (i_assign_MR (i_assign_F rec_)) [fo hrec, fo i_copyDepot_ok, fo i_take_a_ok, fo i_park_a_ok] Try.call65 Try.func65 rfl Try.results65 Try.ntmps65 ?_
 rintro ⟨d, list⟩ y cx G hm
 have hm : i_assign_F rec_ d list = some y := hm
 unfold i_assign_F at hm
 refine rg G ?_
 obtain ⟨r, h, hm⟩ := obind hm
 refine rs G (hC 1 (i_copyDepot_c h) h0) ?_
 refine Ok_seq (rs G (hN 1 list h0) ?_)
 refine tF hm (fun _ => ⟨[], [], 32⟩) (fun v5 hr hm => ?_) ?_
 ·refine Ok_block (lp G hm (fun (v, v1) => ⟨[(1, dV list), (2, .ref 16 0), (14, dV list), (15, dV (list.length : Int)), (16, dV v)], [bX 16 27 [.own 32, .own 48], aX 32 3 r.Sizes, tX 48 24 [some 3] v1 48 none], 80⟩) ?_)
  rintro ⟨v, v1⟩ r0 hb hm
  rw [i_assign_L2] at hm
  refine rg G (Ok_seq (cd hm (fun hm => ?_) (fun hm => ?_)))
  ·refine X_skip (thN (Ok_seq (Ok_block ?_)))
   obtain ⟨e, h1, hm⟩ := obind hm
   refine rs G (hD 1 h1 h0) ?_
   refine Ok_seq (rg G (cd hm (fun hm => ?_) (fun hm => ?_)))
   ·refine Ok_seq ?_
    obtain ⟨r1, h2, hm⟩ := obind hm
    refine rs G (hC 3 (i_take_a_c h2) h0) ?_
    refine cd hm (fun hm => ?_) (fun hm => ?_)
    ·refine rg G ?_
     have hm := eL hm hb hr
     cases hm
     exact rt [] [[.z 1]]
    ·exact X_skip (thN (Ok_exit (thE (ibE (thN (rh G (wL G hm)))))))
   ·refine X_skip (thN (Ok_seq (rs G (hN 2 v1 h0) ?_)))
    refine tF hm (fun _ => ⟨[], [], 32⟩) (fun v4 hr1 hm => ?_) ?_
    ·refine Ok_block (lp G hm (fun v2 => ⟨[(1, dV list), (2, .ref 16 0), (6, dV v), (7, .ref 32 0), (30, dV (v1.length : Int)), (31, dV v2)], [bX 16 27 [.own 48, .own 64], bX 32 122 [dV e.Vehicle, dV e.Out], aX 48 3 r.Sizes, tX 64 24 [some 3] v1 64 none], 96⟩) ?_)
     rintro v2 r0 hb1 hm
     rw [i_assign_L1] at hm
     refine rg G (Ok_seq (cd hm (fun hm => ?_) (fun hm => ?_)))
     ·refine X_skip (thN (jF hm (fun _ => ⟨[(1, dV list), (2, .ref 16 0), (6, dV v), (7, .ref 32 0), (30, dV (v1.length : Int)), (31, dV v2)], [bX 16 27 [.own 48, .own 64], bX 32 122 [dV e.Vehicle, dV e.Out], aX 48 3 r.Sizes, tX 64 24 [some 3] v1 64 none], 96⟩) (fun v3 hr2 hm => ?_) ?_))
      ·refine Ok_block (rg G ?_)
       obtain ⟨r3, h3, hm⟩ := obind hm
       refine rs G (hF 1 (i_copyDepot_c h3) ⟨(flat_cons flat_arr (flat_cons flat_rows flat_nil)), flat_nil⟩ h0) ?_
       refine Ok_seq ?_
       obtain ⟨r4, h4, hm⟩ := obind hm
       refine rs G (hC 4 (i_park_a_c h4) h0) ?_
       refine cd hm (fun hm => ?_) (fun hm => ?_)
       ·exact Ok_exit (thE (ibE (wF G hm)))
       ·refine X_skip (thN (Ok_weak (Wk_J (x' := (⟨[(1, dV list), (2, .ref 16 0), (6, dV v), (7, .ref 32 0), (8, dV v2), (9, .ref 48 0), (30, dV (v1.length : Int)), (31, dV v2)], [bX 16 27 [.own 64, .own 80], bX 32 122 [dV e.Vehicle, dV e.Out], bX 48 27 [dV r3.Sizes, dV r4.2], aX 64 3 r.Sizes, tX 80 24 [some 3] v1 80 none], 112⟩ : X)) G.hL ⟨[(1, []), (2, []), (6, []), (7, []), (8, []), (9, []), (30, []), (31, [])], [(16, 16, []), (32, 32, []), (48, 176, []), (64, 48, []), (80, 64, [])], [], 112⟩ (by kernel_rfl)) ?_))
        obtain ⟨u1, h7, hm⟩ := obind hm
        obtain ⟨r6, h8, hm⟩ := obind hm
        refine ds G [(4, [])] (hV 4 h7 (hC 5 (i_assign_cR h8) h0)) ?_
        refine rg G (cd hm (fun hm => ?_) (fun hm => ?_))
        ·obtain ⟨u2, h9, hm⟩ := obind hm
         refine rs G (hA 3 8 h9 h0) ?_
         have hm := eR hm hr2
         have hm := eL hm hb1 hr1
         have hm := eL hm hb hr
         cases hm
         exact rt [] []
        ·exact X_skip (ibN (wF G hm))
      rintro ⟨⟩ hm
      exact rh G (wL G hm)
     ·exact Ok_exit (thE (thE (ibE (wE G hm hb1))))
    rintro ⟨⟩ hm s hw
    refine thN (Ok_weak hw ?_)
    refine rg G ?_
    have hm := eL hm hb hr
    cases hm
    exact rt [] [[.z 1]]
  ·exact Ok_exit (thE (thE (ibE (wE G hm hb))))
 rintro ⟨⟩ hm s1 hw1
 refine thN (Ok_weak hw1 ?_)
 refine rg G ?_
 cases hm
 exact rt [] [[.z 1]]
theorem i_assign_okn : ∀ k, FnOK Try.prog tJ 65 (i_assign_MR (i_assign_k k)).S
 | 0 => ⟨fun args w => Try.call65 args w, fun vs w F ds obs κ hp => by obtain ⟨x, y, _, _, h⟩ := hp; cases h⟩
 | k + 1 => i_assign_okF (i_assign_okn k)
theorem i_assign_ok : FnOK Try.prog tJ 65 i_assign_M.S := i_assign_okn 4294967296
noncomputable def i_AssignTracks_M : MS (Depot × (List Move)) ((List Int) × Bool × Bool) := ⟨.x .r .r, fun x => i_AssignTracks x.1 x.2, fun y => .tup [dV y.1, dV y.2.1, dV y.2.2], fun _ => [], fun _ _ => []⟩
theorem i_AssignTracks_c {d list y} (hm : i_AssignTracks d list = some y) : i_AssignTracks_M.C (d, list) y := i_AssignTracks_M.c (d, list) hm
theorem i_AssignTracks_ok : FnOK Try.prog tJ 10 i_AssignTracks_M.S := by
 refine fm tt i_AssignTracks_M [fo i_IsValidDepot_ok, fo i_assign_ok] Try.call10 Try.func10 rfl Try.results10 Try.ntmps10 ?_
 rintro ⟨d, list⟩ y cx G hm
 have hm : i_AssignTracks d list = some y := hm
 unfold i_AssignTracks at hm
 refine rg G (rg G (Ok_seq (rs G (hN 1 list h0) ?_)))
 refine tl hm (fun m2 => ⟨[(1, dV list), (2, .ref 16 0), (7, dV m2)], [bX 16 27 [dV d.Sizes, dV d.Tracks]], 48⟩) (fun m2 hm => ?_) ?_
 ·refine Ok_block (lp G hm (fun (m, v) => ⟨[(1, dV list), (2, .ref 16 0), (7, dV m), (12, dV list), (13, dV (list.length : Int)), (14, dV v)], [bX 16 27 [dV d.Sizes, dV d.Tracks]], 48⟩) ?_)
  rintro ⟨m, v⟩ r0 hb hm
  rw [i_AssignTracks_L1] at hm
  refine rg G (Ok_seq (cd hm (fun hm => ?_) (fun hm => ?_)))
  ·refine X_skip (thN (jn hm (fun m1 => ⟨[(1, dV list), (2, .ref 16 0), (7, dV m1), (12, dV list), (13, dV (list.length : Int)), (14, dV v)], [bX 16 27 [dV d.Sizes, dV d.Tracks]], 48⟩) (fun m1 hm => ?_) ?_))
   ·refine Ok_block ?_
    obtain ⟨e, h, hm⟩ := obind hm
    refine rs G (hD 0 h h0) ?_
    refine rg G (cd hm (fun hm => ?_) (fun hm => ?_))
    ·exact rh G (ibN (wJ G hm))
    ·exact X_skip (ibN (wJ G hm))
   rintro m1 hm
   exact rh G (wL G hm)
  ·exact Ok_exit (thE (thE (ibE (wD G hm hb))))
 rintro m2 hm s hw
 refine thN (Ok_weak hw ?_)
 refine Ok_seq ?_
 obtain ⟨r, h1, hm⟩ := obind hm
 refine jn hm (fun v1 => ⟨[(1, dV list), (2, .ref 16 0), (35, dV v1)], [bX 16 27 [dV d.Sizes, dV d.Tracks]], 48⟩) (fun v1 hm => ?_) ?_
 ·rcases bf hm with ⟨hb1, hm⟩ | ⟨hb1, hm⟩
  ·refine re G (hC 1 (i_IsValidDepot_c h1) (hO 3 (.b true) (hP hb1 h0))) ?_
   exact wJ G hm
  ·rcases bf hm with ⟨hb2, hm⟩ | ⟨hb2, hm⟩
   ·refine re G (hC 1 (i_IsValidDepot_c h1) (hO 3 (.b false) (hP hb1 (hN 5 list (hO 8 (.b true) (hP hb2 h0)))))) ?_
    exact wJ G hm
   ·refine re G (hC 1 (i_IsValidDepot_c h1) (hO 3 (.b false) (hP hb1 (hN 5 list (hO 8 (.b false) (hP hb2 h0)))))) ?_
    exact wJ G hm
 rintro v1 hm
 refine cd hm (fun hm => ?_) (fun hm => ?_)
 ·refine rg G ?_
  cases hm
  exact rt [] [[.z 1]]
 ·refine X_skip (thN ?_)
  obtain ⟨r1, h2, hm⟩ := obind hm
  refine rs G (hC 2 (i_assign_c h2) h0) ?_
  refine rg G ?_
  cases hm
  exact rt [] []
noncomputable def s_l1In_M : MS (Int × Int × Int) Bool := ⟨.x .r (.x .r .r), fun x => s_l1In x.1 x.2.1 x.2.2, fun y => dV y, fun _ => [], fun _ _ => []⟩
theorem s_l1In_c {x a b y} (hm : s_l1In x a b = some y) : s_l1In_M.C (x, a, b) y := s_l1In_M.c (x, a, b) hm
theorem s_l1In_ok : FnOK Try.prog tJ 146 s_l1In_M.S := by
 refine fm tt s_l1In_M [] Try.call146 Try.func146 rfl Try.results146 Try.ntmps146 ?_
 rintro ⟨x, a, b⟩ y cx G hm
 have hm : s_l1In x a b = some y := hm
 unfold s_l1In at hm
 refine rg G (jn hm (fun v => ⟨[(6, dV v)], [], 32⟩) (fun v hm => ?_) ?_)
 ·rcases bf hm with ⟨hb, hm⟩ | ⟨hb, hm⟩
  ·refine re G (hO 3 (.b true) (hP hb h0)) ?_
   exact wJ G hm
  ·refine re G (hO 3 (.b false) (hP hb h0)) ?_
   exact wJ G hm
 rintro v hm
 cases hm
 exact rt [] []
noncomputable def s_l1Has_M : MS ((List Int) × Int) Bool := ⟨.x .r .r, fun x => s_l1Has x.1 x.2, fun y => dV y, fun _ => [], fun _ _ => []⟩
theorem s_l1Has_c {l n y} (hm : s_l1Has l n = some y) : s_l1Has_M.C (l, n) y := s_l1Has_M.c (l, n) hm
theorem s_l1Has_ok : FnOK Try.prog tJ 152 s_l1Has_M.S := by
 refine fm tt s_l1Has_M [] Try.call152 Try.func152 rfl Try.results152 Try.ntmps152 ?_
 rintro ⟨l, n⟩ y cx G hm
 have hm : s_l1Has l n = some y := hm
 unfold s_l1Has at hm
 refine rg G (Ok_seq (rg G (tF hm (fun _ => ⟨[], [], 32⟩) (fun v1 hr hm => ?_) ?_)))
 ·refine Ok_block (lp G hm (fun v => ⟨[(0, dV l), (1, dV n), (5, dV v)], [], 32⟩) ?_)
  rintro v r0 hb hm
  rw [s_l1Has_L1] at hm
  refine Ok_seq (rs G (hN 2 l h0) ?_)
  refine cd hm (fun hm => ?_) (fun hm => ?_)
  ·refine X_skip (thN (Ok_seq (Ok_block ?_)))
   obtain ⟨e, h, hm⟩ := obind hm
   refine rs G (hD 2 h h0) ?_
   refine cd hm (fun hm => ?_) (fun hm => ?_)
   ·refine rg G ?_
    have hm := eL hm hb hr
    cases hm
    exact rt [] []
   ·exact X_skip (ibN (thN (rh G (wL G hm))))
  ·exact Ok_exit (thE (thE (ibE (wE G hm hb))))
 rintro ⟨⟩ hm s hw
 refine thN (Ok_weak hw ?_)
 refine rg G ?_
 cases hm
 exact rt [] []
noncomputable def s_l15Good_M : MS Depot Bool := ⟨.r, s_l15Good, fun y => dV y, fun _ => [], fun _ _ => []⟩
theorem s_l15Good_c {d y} (hm : s_l15Good d = some y) : s_l15Good_M.C d y := s_l15Good_M.c d hm
theorem s_l15Good_ok : FnOK Try.prog tJ 66 s_l15Good_M.S := by
 refine fm tt s_l15Good_M [fo s_l1In_ok, fo s_l1Has_ok] Try.call66 Try.func66 rfl Try.results66 Try.ntmps66 ?_
 rintro d y cx G hm
 have hm : s_l15Good d = some y := hm
 unfold s_l15Good at hm
 refine rg G (Ok_seq ?_)
 obtain ⟨r, h, hm⟩ := obind hm
 refine jn hm (fun v => ⟨[(1, .ref 16 0), (20, dV v)], [bX 16 27 [dV d.Sizes, dV d.Tracks]], 48⟩) (fun v hm => ?_) ?_
 ·rcases bf hm with ⟨hb, hm⟩ | ⟨hb, hm⟩
  ·refine re G (hN 2 d.Sizes (hC 3 (s_l1In_c h) (hO 5 (.b true) (hP hb h0)))) ?_
   exact wJ G hm
  ·refine re G (hN 2 d.Sizes (hC 3 (s_l1In_c h) (hO 5 (.b false) (hP hb (hN 8 d.Tracks (hN 11 d.Sizes h0)))))) ?_
   exact wJ G hm
 rintro v hm
 refine cd hm (fun hm => ?_) (fun hm => ?_)
 ·refine rg G ?_
  cases hm
  exact rt [] []
 ·refine X_skip (thN (rg G (Ok_seq (rg G (tF hm (fun _ => ⟨[], [], 32⟩) (fun v5 hr hm => ?_) ?_)))))
  ·refine Ok_block (lp G hm (fun (k, i) => ⟨[(1, .ref 16 0), (3, .own 32), (4, dV k)], [bX 16 27 [dV d.Sizes, dV d.Tracks], aX 32 3 i], 64⟩) ?_)
   rintro ⟨k, i⟩ r0 hb1 hm
   rw [s_l15Good_L2] at hm
   refine Ok_seq (rs G (hN 3 d.Sizes h0) ?_)
   refine cd hm (fun hm => ?_) (fun hm => ?_)
   ·refine X_skip (thN (Ok_seq (Ok_block (Ok_seq ?_))))
    obtain ⟨e3, h5, hm⟩ := obind hm
    obtain ⟨r2, h6, hm⟩ := obind hm
    refine jn hm (fun v1 => ⟨[(1, .ref 16 0), (3, .own 32), (4, dV k), (49, dV v1)], [bX 16 27 [dV d.Sizes, dV d.Tracks], aX 32 3 i], 64⟩) (fun v1 hm => ?_) ?_
    ·rcases bf hm with ⟨hb2, hm⟩ | ⟨hb2, hm⟩
     ·refine de G [] (hD 3 h5 (hC 5 (s_l1In_c h6) (hO 7 (.b true) (hP hb2 h0)))) ?_
      exact wJ G hm
     ·obtain ⟨e4, h7, hm⟩ := obind hm
      obtain ⟨e5, h8, hm⟩ := obind hm
      refine de G [] (hD 3 h5 (hC 5 (s_l1In_c h6) (hO 7 (.b false) (hP hb2 (hD 11 h7 (hN 13 e4 (hD 17 h8 h0))))))) ?_
      exact wJ G hm
    rintro v1 hm
    refine cd hm (fun hm => ?_) (fun hm => ?_)
    ·refine rg G ?_
     have hm := eL hm hb1 hr
     cases hm
     exact rt [] []
    ·refine X_skip (thN (rg G (tF hm (fun i2 => ⟨[(1, .ref 16 0), (3, .own 32), (4, dV k)], [bX 16 27 [dV d.Sizes, dV d.Tracks], aX 32 3 i2], 64⟩) (fun v4 hr1 hm => ?_) ?_)))
     ·refine Ok_block (lp G hm (fun (v2, i1) => ⟨[(1, .ref 16 0), (3, .own 32), (4, dV k), (5, dV v2)], [bX 16 27 [dV d.Sizes, dV d.Tracks], aX 32 3 i1], 64⟩) ?_)
      rintro ⟨v2, i1⟩ r0 hb3 hm
      rw [s_l15Good_L1] at hm
      refine Ok_seq ?_
      obtain ⟨e7, h9, hm⟩ := obind hm
      refine rs G (hD 4 h9 (hN 6 e7 h0)) ?_
      refine cd hm (fun hm => ?_) (fun hm => ?_)
      ·refine X_skip (thN (Ok_seq (Ok_block ?_)))
       obtain ⟨e8, h10, hm⟩ := obind hm
       obtain ⟨e9, h11, hm⟩ := obind hm
       refine rs G (hD 3 h10 (hD 6 h11 h0)) ?_
       refine Ok_seq ?_
       obtain ⟨r4, h12, hm⟩ := obind hm
       refine jn hm (fun v3 => ⟨[(1, .ref 16 0), (3, .own 32), (4, dV k), (5, dV v2), (6, dV e9), (75, dV v3)], [bX 16 27 [dV d.Sizes, dV d.Tracks], aX 32 3 i1], 64⟩) (fun v3 hm => ?_) ?_
       ·rcases bf hm with ⟨hb4, hm⟩ | ⟨hb4, hm⟩
        ·refine re G (hC 1 (s_l1In_c h12) (hO 3 (.b true) (hP hb4 h0))) ?_
         exact wJ G hm
        ·obtain ⟨r5, h13, hm⟩ := obind hm
         refine re G (hC 1 (s_l1In_c h12) (hO 3 (.b false) (hP hb4 (hC 6 (s_l1Has_c h13) h0)))) ?_
         exact wJ G hm
       rintro v3 hm
       refine cd hm (fun hm => ?_) (fun hm => ?_)
       ·refine rg G ?_
        have hm := eL hm hb3 hr1
        have hm := eL hm hb1 hr
        cases hm
        exact rt [] []
       ·refine X_skip (thN ?_)
        obtain ⟨u, h14, hm⟩ := obind hm
        refine re G (hA 3 8 h14 h0) ?_
        exact ibN (thN (rh G (wL G hm)))
      ·exact Ok_exit (thE (thE (ibE (wE G hm hb3))))
     rintro i2 hm s hw
     refine ibN (thN (Ok_weak hw ?_))
     exact rh G (wL G hm)
   ·exact Ok_exit (thE (thE (ibE (wE G hm hb1))))
  rintro ⟨⟩ hm s1 hw1
  refine thN (Ok_weak hw1 ?_)
  refine rg G ?_
  cases hm
  exact rt [] []
noncomputable def s_l15Track_M : MS (Depot × Int) (Int × Int) := ⟨.x .r .r, fun x => s_l15Track x.1 x.2, fun y => .tup [dV y.1, dV y.2], fun _ => [], fun _ _ => []⟩
theorem s_l15Track_c {d vehicle y} (hm : s_l15Track d vehicle = some y) : s_l15Track_M.C (d, vehicle) y := s_l15Track_M.c (d, vehicle) hm
theorem s_l15Track_ok : FnOK Try.prog tJ 74 s_l15Track_M.S := by
 refine fm tt s_l15Track_M [] Try.call74 Try.func74 rfl Try.results74 Try.ntmps74 ?_
 rintro ⟨d, vehicle⟩ y cx G hm
 have hm : s_l15Track d vehicle = some y := hm
 unfold s_l15Track at hm
 refine rg G (Ok_seq (rg G (tF hm (fun _ => ⟨[], [], 32⟩) (fun v3 hr hm => ?_) ?_)))
 ·refine Ok_block (lp G hm (fun v => ⟨[(1, dV vehicle), (2, .ref 16 0), (6, dV v)], [bX 16 27 [dV d.Sizes, dV d.Tracks]], 48⟩) ?_)
  rintro v r0 hb hm
  rw [s_l15Track_L2] at hm
  refine Ok_seq (rs G (hN 3 d.Tracks h0) ?_)
  refine cd hm (fun hm => ?_) (fun hm => ?_)
  ·refine X_skip (thN (Ok_seq (Ok_block (rg G (tF hm (fun _ => ⟨[(1, dV vehicle), (2, .ref 16 0), (6, dV v)], [bX 16 27 [dV d.Sizes, dV d.Tracks]], 48⟩) (fun v2 hr1 hm => ?_) ?_)))))
   ·refine Ok_block (lp G hm (fun v1 => ⟨[(1, dV vehicle), (2, .ref 16 0), (6, dV v), (7, dV v1)], [bX 16 27 [dV d.Sizes, dV d.Tracks]], 48⟩) ?_)
    rintro v1 r0 hb1 hm
    rw [s_l15Track_L1] at hm
    refine Ok_seq ?_
    obtain ⟨e, h, hm⟩ := obind hm
    refine rs G (hD 4 h (hN 6 e h0)) ?_
    refine cd hm (fun hm => ?_) (fun hm => ?_)
    ·refine X_skip (thN (Ok_seq (Ok_block ?_)))
     obtain ⟨e1, h1, hm⟩ := obind hm
     obtain ⟨e2, h2, hm⟩ := obind hm
     refine rs G (hD 3 h1 (hD 6 h2 h0)) ?_
     refine cd hm (fun hm => ?_) (fun hm => ?_)
     ·refine rg G ?_
      have hm := eL hm hb1 hr1
      have hm := eL hm hb hr
      cases hm
      exact rt [] []
     ·exact X_skip (ibN (thN (rh G (wL G hm))))
    ·exact Ok_exit (thE (thE (ibE (wE G hm hb1))))
   rintro ⟨⟩ hm s hw
   refine ibN (thN (Ok_weak hw ?_))
   exact rh G (wL G hm)
  ·exact Ok_exit (thE (thE (ibE (wE G hm hb))))
 rintro ⟨⟩ hm s1 hw1
 refine thN (Ok_weak hw1 ?_)
 refine rg G ?_
 cases hm
 exact rt [] []
noncomputable def s_l1Own_M : MS ((List Int)) ((List Int)) := ⟨.r, s_l1Own, fun _ => .own 0, fun y => [arO 3 y], fun _ _ => []⟩
theorem s_l1Own_c {l y} (hm : s_l1Own l = some y) : s_l1Own_M.C l y := s_l1Own_M.c l hm
theorem s_l1Own_ok : FnOK Try.prog tJ 128 s_l1Own_M.S := by
 refine fm tt s_l1Own_M [] Try.call128 Try.func128 rfl Try.results128 Try.ntmps128 ?_
 rintro l y cx G hm
 have hm : s_l1Own l = some y := hm
 unfold s_l1Own at hm
 refine rg G ?_
 obtain ⟨u, h, hm⟩ := obind hm
 refine rs G (hA 2 8 h h0) ?_
 cases hm
 exact rt [64] []
noncomputable def s_l1Own_f_M : MS ((List Int)) ((List Int)) := ⟨.r, s_l1Own_f, fun y => dV y, fun _ => [], fun _ _ => []⟩
theorem s_l1Own_f_c {l y} (hm : s_l1Own_f l = some y) : s_l1Own_f_M.C l y := s_l1Own_f_M.c l hm
theorem s_l1Own_f_ok : FnOK Try.prog tJ 128 s_l1Own_f_M.S := by
 refine fm tt s_l1Own_f_M [] Try.call128 Try.func128 rfl Try.results128 Try.ntmps128 ?_
 rintro l y cx G hm
 have hm : s_l1Own_f l = some y := hm
 unfold s_l1Own_f at hm
 refine rg G ?_
 obtain ⟨u, h, hm⟩ := obind hm
 refine rs G (hA 2 8 h h0) ?_
 cases hm
 exact rt [] []
noncomputable def s_l15Own_M : MS Depot Depot := ⟨.r, s_l15Own, fun y => .aggv [dV y.Sizes, .own 0], fun y => [arO 24 y.Tracks], fun _ _ => []⟩
theorem s_l15Own_c {d y} (hm : s_l15Own d = some y) : s_l15Own_M.C d y := s_l15Own_M.c d hm
theorem s_l15Own_ok : FnOK Try.prog tJ 75 s_l15Own_M.S := by
 refine fm tt s_l15Own_M [fo s_l1Own_f_ok] Try.call75 Try.func75 rfl Try.results75 Try.ntmps75 ?_
 rintro d y cx G hm
 have hm : s_l15Own d = some y := hm
 unfold s_l15Own at hm
 refine rg G ?_
 obtain ⟨r, h, hm⟩ := obind hm
 refine rs G (hC 2 (s_l1Own_f_c h) h0) ?_
 refine Ok_seq (rg G (tl hm (fun v2 => ⟨[(2, .ref 16 0), (3, .ref 32 0)], [bX 16 27 [.dat (.sc (.slice none 0 0)), .dat (.sc (.slice none 0 0))], bX 32 27 [dV r, .own 48], aX 48 24 v2], 80⟩) (fun v2 hm => ?_) ?_))
 ·refine Ok_block (lpP hm (fun (v, v1) => ⟨[(1, .ref 16 0), (2, .ref 32 0), (3, .ref 48 0), (4, dV v)], [bX 16 27 [dV d.Sizes, dV d.Tracks], bX 32 27 [.dat (.sc (.slice none 0 0)), .dat (.sc (.slice none 0 0))], bX 48 27 [dV r, .own 64], aX 64 24 v1], 96⟩) (Wk_J G.hL ⟨[(1, []), (2, []), (3, []), (4, [])], [(16, 16, []), (32, 32, []), (48, 112, [.k, .o 64])], [(64, 24, 1, [])], 96⟩ (by kernel_rfl)) ?_)
  rintro ⟨v, v1⟩ r0 hb hm
  rw [s_l15Own_L1] at hm
  refine Ok_seq (rs G (hN 3 d.Tracks h0) ?_)
  refine cd hm (fun hm => ?_) (fun hm => ?_)
  ·refine X_skip (thN (Ok_seq (Ok_block ?_)))
   obtain ⟨e1, h4, hm⟩ := obind hm
   obtain ⟨r2, h5, hm⟩ := obind hm
   obtain ⟨u1, h6, hm⟩ := obind hm
   refine de G [(8, []), (9, [64, 304]), (11, [48, 320])] (hD 5 h4 (hC 7 (s_l1Own_f_c h5) (hA 9 24 h6 h0))) ?_
   exact ibN (thN (rh G (wL G hm)))
  ·exact Ok_exit (thE (thE (ibE (wD G hm hb))))
 rintro v2 hm s hw
 refine thN (Ok_weak hw ?_)
 refine rg G ?_
 cases hm
 exact rt [48] []
noncomputable def s_l15Take_M : MS (Depot × Int) (Depot × Bool) := ⟨.x .r .r, fun x => s_l15Take x.1 x.2, fun y => .tup [dV y.1, dV y.2], fun _ => [], fun _ _ => []⟩
theorem s_l15Take_c {d vehicle y} (hm : s_l15Take d vehicle = some y) : s_l15Take_M.C (d, vehicle) y := s_l15Take_M.c (d, vehicle) hm
theorem s_l15Take_ok : FnOK Try.prog tJ 77 s_l15Take_M.S := by
 refine fm tt s_l15Take_M [fo s_l15Track_ok, fo s_l15Own_ok] Try.call77 Try.func77 rfl Try.results77 Try.ntmps77 ?_
 rintro ⟨d, vehicle⟩ y cx G hm
 have hm : s_l15Take d vehicle = some y := hm
 unfold s_l15Take at hm
 refine rg G ?_
 obtain ⟨r, h, hm⟩ := obind hm
 refine rs G (hC 2 (s_l15Track_c h) h0) ?_
 refine Ok_seq (jn hm (fun v => ⟨[(2, .ref 16 0), (4, .ref 32 0), (6, dV r.1), (7, dV r.2), (27, dV v)], [bX 16 27 [dV d.Sizes, dV d.Tracks], bX 32 27 [.dat (.sc (.slice none 0 0)), .dat (.sc (.slice none 0 0))]], 64⟩) (fun v hm => ?_) ?_)
 ·rcases bf hm with ⟨hb, hm⟩ | ⟨hb, hm⟩
  ·refine re G (hO 2 (.b true) (hP hb h0)) ?_
   exact wJ G hm
  ·obtain ⟨e, h1, hm⟩ := obind hm
   refine re G (hO 2 (.b false) (hP hb (hD 7 h1 (hN 9 e h0)))) ?_
   exact wJ G hm
 rintro v hm
 refine cd hm (fun hm => ?_) (fun hm => ?_)
 ·refine rg G ?_
  cases hm
  exact rt [] []
 ·refine X_skip (thN ?_)
  obtain ⟨r1, h2, hm⟩ := obind hm
  refine rs G (hC 1 (s_l15Own_c h2) h0) ?_
  obtain ⟨e3, h6, hm⟩ := obind hm
  obtain ⟨u1, h7, hm⟩ := obind hm
  obtain ⟨e4, h8, hm⟩ := obind hm
  refine ds G [(9, []), (11, [80])] (hD 6 h6 (hE 7 h6 (hU 9 h7 (hD 10 h8 (hS 11 h8 ((e3.take r.2.toNat).drop (0 : Int).toNat) h0))))) ?_
  refine rg G ?_
  cases hm
  exact rt [] []
noncomputable def s_l15Own_t_M : MS Depot Depot := ⟨.r, s_l15Own_t, fun _ => .aggv [.own 0, .own 1], fun y => [arO 3 y.Sizes, taO 24 [some 3] y.Tracks], fun _ _ => []⟩
theorem s_l15Own_t_c {d y} (hm : s_l15Own_t d = some y) : s_l15Own_t_M.C d y := s_l15Own_t_M.c d hm
theorem s_l15Own_t_ok : FnOK Try.prog tJ 75 s_l15Own_t_M.S := by
 refine fm tt s_l15Own_t_M [fo s_l1Own_ok] Try.call75 Try.func75 rfl Try.results75 Try.ntmps75 ?_
 rintro d y cx G hm
 have hm : s_l15Own_t d = some y := hm
 unfold s_l15Own_t at hm
 refine rg G ?_
 obtain ⟨r, h, hm⟩ := obind hm
 refine rs G (hC 2 (s_l1Own_c h) h0) ?_
 refine Ok_seq (rg G (tl hm (fun v2 => ⟨[(2, .ref 16 0), (3, .ref 32 0)], [bX 16 27 [.dat (.sc (.slice none 0 0)), .dat (.sc (.slice none 0 0))], bX 32 27 [.own 48, .own 64], aX 48 3 r, tX 64 24 [some 3] v2 64 none], 96⟩) (fun v2 hm => ?_) ?_))
 ·refine Ok_block (lpP hm (fun (v, v1) => ⟨[(1, .ref 16 0), (2, .ref 32 0), (3, .ref 48 0), (4, dV v)], [bX 16 27 [dV d.Sizes, dV d.Tracks], bX 32 27 [.dat (.sc (.slice none 0 0)), .dat (.sc (.slice none 0 0))], bX 48 27 [.own 64, .own 80], aX 64 3 r, tX 80 24 [some 3] v1 80 none], 112⟩) (Wk_J G.hL ⟨[(1, []), (2, []), (3, []), (4, [])], [(16, 16, []), (32, 32, []), (48, 112, [.k, .o 80]), (64, 80, [])], [(80, 24, 1, [some 3])], 112⟩ (by kernel_rfl)) ?_)
  rintro ⟨v, v1⟩ r0 hb hm
  rw [s_l15Own_t_L1] at hm
  refine Ok_seq (rs G (hN 3 d.Tracks h0) ?_)
  refine cd hm (fun hm => ?_) (fun hm => ?_)
  ·refine X_skip (thN (Ok_seq (Ok_block ?_)))
   obtain ⟨e1, h4, hm⟩ := obind hm
   obtain ⟨r2, h5, hm⟩ := obind hm
   obtain ⟨u1, h6, hm⟩ := obind hm
   refine de G [(8, [304]), (9, [80, 320]), (11, [48, 336])] (hD 5 h4 (hC 7 (s_l1Own_c h5) (hP (nodupB_ok (l := [304]) rfl) (hA 9 24 h6 h0)))) ?_
   exact ibN (thN (rh G (wL G hm)))
  ·exact Ok_exit (thE (thE (ibE (wD G hm hb))))
 rintro v2 hm s hw
 refine thN (Ok_weak hw ?_)
 refine rg G ?_
 cases hm
 exact rt [48, 64] []
noncomputable def s_l15Park_M : MS (Depot × Int × Int) (Depot × Bool) := ⟨.x .r (.x .r .r), fun x => s_l15Park x.1 x.2.1 x.2.2, fun y => .tup [dV y.1, dV y.2], fun _ => [], fun _ _ => []⟩
theorem s_l15Park_c {d vehicle track y} (hm : s_l15Park d vehicle track = some y) : s_l15Park_M.C (d, vehicle, track) y := s_l15Park_M.c (d, vehicle, track) hm
theorem s_l15Park_ok : FnOK Try.prog tJ 78 s_l15Park_M.S := by
 refine fm tt s_l15Park_M [fo s_l1In_ok, fo s_l15Track_ok, fo s_l15Own_t_ok] Try.call78 Try.func78 rfl Try.results78 Try.ntmps78 ?_
 rintro ⟨d, vehicle, track⟩ y cx G hm
 have hm : s_l15Park d vehicle track = some y := hm
 unfold s_l15Park at hm
 refine rg G (Ok_seq ?_)
 obtain ⟨r2, h4, hm⟩ := obind hm
 refine jn hm (fun v => ⟨[(1, dV vehicle), (2, dV track), (3, .ref 16 0), (6, .ref 32 0), (36, dV v)], [bX 16 27 [dV d.Sizes, dV d.Tracks], bX 32 27 [.dat (.sc (.slice none 0 0)), .dat (.sc (.slice none 0 0))]], 64⟩) (fun v hm => ?_) ?_
 ·rcases bf hm with ⟨hb, hm⟩ | ⟨hb, hm⟩
  ·refine de G [] (hN 3 d.Sizes (hC 5 (s_l1In_c h4) (hO 7 (.b true) (hP hb h0)))) ?_
   exact wJ G hm
  ·obtain ⟨e2, h5, hm⟩ := obind hm
   obtain ⟨e3, h6, hm⟩ := obind hm
   rcases bf hm with ⟨hb1, hm⟩ | ⟨hb1, hm⟩
   ·refine de G [] (hN 3 d.Sizes (hC 5 (s_l1In_c h4) (hO 7 (.b false) (hP hb (hD 11 h5 (hN 13 e2 (hD 17 h6 (hO 21 (.b true) (hP hb1 h0))))))))) ?_
    exact wJ G hm
   ·obtain ⟨r3, h7, hm⟩ := obind hm
    refine de G [] (hN 3 d.Sizes (hC 5 (s_l1In_c h4) (hO 7 (.b false) (hP hb (hD 11 h5 (hN 13 e2 (hD 17 h6 (hO 21 (.b false) (hP hb1 (hC 23 (s_l1In_c h7) h0)))))))))) ?_
    exact wJ G hm
 rintro v hm
 refine cd hm (fun hm => ?_) (fun hm => ?_)
 ·refine rg G ?_
  cases hm
  exact rt [] []
 ·refine X_skip (thN (Ok_seq ?_))
  obtain ⟨r4, h8, hm⟩ := obind hm
  refine rs G (hC 2 (s_l15Track_c h8) h0) ?_
  refine rg G (cd hm (fun hm => ?_) (fun hm => ?_))
  ·refine rg G ?_
   cases hm
   exact rt [] []
  ·refine X_skip (thN ?_)
   obtain ⟨r5, h9, hm⟩ := obind hm
   refine rs G (hC 1 (s_l15Own_t_c h9) h0) ?_
   obtain ⟨e6, h13, hm⟩ := obind hm
   obtain ⟨u1, h14, hm⟩ := obind hm
   obtain ⟨e7, h15, hm⟩ := obind hm
   refine ds G [(10, [241, 432]), (12, [241, 448])] (hD 6 h13 (hE 7 h13 (hO 10 (.sd (Enc.e e6) (List.map Enc.e (e6 ++ ([vehicle] : List Int)))) (hP (idx_m2 (f := Enc.e) h13) (hP (app_p (f := Enc.e) (g := Enc.e) (l := e6) (r := ([vehicle] : List Int)) (b := 8) (chk_t h14) rfl) (hP (app_m Enc.e e6 ([vehicle] : List Int)) (hD 11 h15 (hS 12 h13 (e6 ++ ([vehicle] : List Int)) (hP (Eq.refl track.toNat) h0))))))))) ?_
   refine rg G ?_
   cases hm
   exact rt [] []
noncomputable def s_l15Assign_m_MR (rec_ : Depot → (List Move) → Int → (List Int) → Option ((List Int) × Bool)) : MS (Depot × (List Move) × Int × (List Int)) ((List Int) × Bool) := ⟨.x .r (.x .r (.x .r (.m 3))), fun x => rec_ x.1 x.2.1 x.2.2.1 x.2.2.2, fun y => .tup [.own 0, dV y.2], fun y => [arO 3 y.1], fun _ _ => []⟩
noncomputable def s_l15Assign_m_M : MS (Depot × (List Move) × Int × (List Int)) ((List Int) × Bool) := s_l15Assign_m_MR s_l15Assign_m
theorem s_l15Assign_m_c {d list at_ tracks y} (hm : s_l15Assign_m d list at_ tracks = some y) : s_l15Assign_m_M.C (d, list, at_, tracks) y := s_l15Assign_m_M.c (d, list, at_, tracks) hm
theorem s_l15Assign_m_cR {rec_ : Depot → (List Move) → Int → (List Int) → Option ((List Int) × Bool)} {d list at_ tracks y} (hm : rec_ d list at_ tracks = some y) : (s_l15Assign_m_MR rec_).C (d, list, at_, tracks) y := (s_l15Assign_m_MR rec_).c (d, list, at_, tracks) hm
theorem s_l15Assign_m_okF {rec_ : Depot → (List Move) → Int → (List Int) → Option ((List Int) × Bool)} (hrec : FnOK Try.prog tJ 67 (s_l15Assign_m_MR rec_).S) : FnOK Try.prog tJ 67 (s_l15Assign_m_MR (s_l15Assign_m_F rec_)).S := by
 refine fm tt (s_l15Assign_m_MR (s_l15Assign_m_F rec_)) [fo hrec, fo s_l15Take_ok, fo s_l15Park_ok, fo s_l1Own_ok] Try.call67 Try.func67 rfl Try.results67 Try.ntmps67 ?_
 rintro ⟨d, list, at_, tracks⟩ y cx G hm
 have hm : s_l15Assign_m_F rec_ d list at_ tracks = some y := hm
 unfold s_l15Assign_m_F at hm
 refine rg G (jF hm (fun (at_2, v3, v4) => ⟨[(1, dV list), (2, dV at_2), (3, .own 16), (4, .ref 32 0)], [aX 16 3 tracks, bX 32 27 [dV v3, dV v4]], 64⟩) (fun v7 hr hm => ?_) ?_)
 ·refine Ok_block (lp G hm (fun (at_1, v, v1) => ⟨[(1, dV list), (2, dV at_1), (3, .own 16), (4, .ref 32 0)], [aX 16 3 tracks, bX 32 27 [dV v, dV v1]], 64⟩) ?_)
  rintro ⟨at_1, v, v1⟩ r0 hb hm
  rw [s_l15Assign_m_L1] at hm
  refine Ok_seq (jn hm (fun v2 => ⟨[(1, dV list), (2, dV at_1), (3, .own 16), (4, .ref 32 0), (27, dV v2)], [aX 16 3 tracks, bX 32 27 [dV v, dV v1]], 64⟩) (fun v2 hm => ?_) ?_)
  ·rcases bf hm with ⟨hb1, hm⟩ | ⟨hb1, hm⟩
   ·obtain ⟨e, h, hm⟩ := obind hm
    refine re G (hN 2 list (hO 4 (.b true) (hP hb1 (hD 7 h h0)))) ?_
    exact wJ G hm
   ·refine re G (hN 2 list (hO 4 (.b false) (hP hb1 h0))) ?_
    exact wJ G hm
  rintro v2 hm
  refine cd hm (fun hm => ?_) (fun hm => ?_)
  ·refine X_skip (thN (Ok_block ?_))
   obtain ⟨e2, h3, hm⟩ := obind hm
   obtain ⟨r1, h4, hm⟩ := obind hm
   refine ds G [(11, [224])] (hD 3 h3 (hC 6 (s_l15Take_c h4) h0)) ?_
   refine Ok_seq (rg G (cd hm (fun hm => ?_) (fun hm => ?_)))
   ·refine rg G ?_
    have hm := eL hm hb hr
    cases hm
    exact rt [304] []
   ·exact X_skip (thN (rg G (rh G (ibN (wL G hm)))))
  ·exact Ok_exit (thE (thE (ibE (wE G hm hb))))
 rintro ⟨at_2, v3, v4⟩ hm
 refine Ok_seq (rs G (hN 2 list h0) ?_)
 refine cd hm (fun hm => ?_) (fun hm => ?_)
 ·refine rg G ?_
  cases hm
  exact rt [16] []
 ·refine X_skip (thN (Ok_seq (rg G (tF hm (fun _ => ⟨[], [], 32⟩) (fun v6 hr1 hm => ?_) ?_))))
  ·refine Ok_block (lp G hm (fun fine => ⟨[(1, dV list), (2, dV at_2), (3, .own 16), (4, .ref 32 0), (12, dV fine)], [aX 16 3 tracks, bX 32 27 [dV v3, dV v4]], 64⟩) ?_)
   rintro fine r0 hb2 hm
   rw [s_l15Assign_m_L2] at hm
   refine Ok_seq (rs G (hN 3 v3 h0) ?_)
   refine cd hm (fun hm => ?_) (fun hm => ?_)
   ·refine X_skip (thN (jF hm (fun _ => ⟨[(1, dV list), (2, dV at_2), (3, .own 16), (4, .ref 32 0), (12, dV fine)], [aX 16 3 tracks, bX 32 27 [dV v3, dV v4]], 64⟩) (fun v5 hr2 hm => ?_) ?_))
    ·refine Ok_block ?_
     obtain ⟨e5, h7, hm⟩ := obind hm
     obtain ⟨r4, h8, hm⟩ := obind hm
     refine ds G [(12, [320])] (hD 3 h7 (hC 7 (s_l15Park_c h8) h0)) ?_
     refine Ok_seq (rg G (cd hm (fun hm => ?_) (fun hm => ?_)))
     ·exact Ok_exit (thE (ibE (wF G hm)))
     ·refine X_skip (thN ?_)
      obtain ⟨r7, h12, hm⟩ := obind hm
      obtain ⟨u1, h13, hm⟩ := obind hm
      obtain ⟨r8, h14, hm⟩ := obind hm
      refine ds G [(8, [480, 512]), (9, [528])] (hF 5 (s_l1Own_c h12) ⟨(flat_cons flat_arr flat_nil), flat_nil⟩ (hA 8 8 h13 (hC 9 (s_l15Assign_m_cR h14) h0))) ?_
      refine rg G (cd hm (fun hm => ?_) (fun hm => ?_))
      ·refine rg G ?_
       have hm := eR hm hr2
       have hm := eL hm hb2 hr1
       cases hm
       exact rt [544] []
      ·exact X_skip (ibN (wF G hm))
    rintro ⟨⟩ hm
    exact rh G (wL G hm)
   ·exact Ok_exit (thE (thE (ibE (wE G hm hb2))))
  rintro ⟨⟩ hm s hw
  refine thN (Ok_weak hw ?_)
  refine rg G ?_
  cases hm
  exact rt [32] []
theorem s_l15Assign_m_okn : ∀ k, FnOK Try.prog tJ 67 (s_l15Assign_m_MR (s_l15Assign_m_k k)).S
 | 0 => ⟨fun args w => Try.call67 args w, fun vs w F ds obs κ hp => by obtain ⟨x, y, _, _, h⟩ := hp; cases h⟩
 | k + 1 => s_l15Assign_m_okF (s_l15Assign_m_okn k)
theorem s_l15Assign_m_ok : FnOK Try.prog tJ 67 s_l15Assign_m_M.S := s_l15Assign_m_okn 4294967296
noncomputable def s_l15Assign_M : MS (Depot × (List Move) × Int × (List Int)) ((List Int) × Bool) := ⟨.x .r (.x .r (.x .r .r)), fun x => s_l15Assign x.1 x.2.1 x.2.2.1 x.2.2.2, fun y => .tup [dV y.1, dV y.2], fun _ => [], fun _ _ => []⟩
theorem s_l15Assign_c {d list at_ tracks y} (hm : s_l15Assign d list at_ tracks = some y) : s_l15Assign_M.C (d, list, at_, tracks) y := s_l15Assign_M.c (d, list, at_, tracks) hm
theorem s_l15Assign_ok : FnOK Try.prog tJ 67 s_l15Assign_M.S := by
 refine fm tt s_l15Assign_M [fo s_l15Take_ok, fo s_l15Park_ok, fo s_l1Own_ok, fo s_l15Assign_m_ok] Try.call67 Try.func67 rfl Try.results67 Try.ntmps67 ?_
 rintro ⟨d, list, at_, tracks⟩ y cx G hm
 have hm : s_l15Assign d list at_ tracks = some y := hm
 unfold s_l15Assign at hm
 refine rg G (jF hm (fun (at_2, v3, v4) => ⟨[(1, dV list), (2, dV at_2), (3, dV tracks), (4, .ref 16 0)], [bX 16 27 [dV v3, dV v4]], 48⟩) (fun v7 hr hm => ?_) ?_)
 ·refine Ok_block (lp G hm (fun (at_1, v, v1) => ⟨[(1, dV list), (2, dV at_1), (3, dV tracks), (4, .ref 16 0)], [bX 16 27 [dV v, dV v1]], 48⟩) ?_)
  rintro ⟨at_1, v, v1⟩ r0 hb hm
  rw [s_l15Assign_L1] at hm
  refine Ok_seq (jn hm (fun v2 => ⟨[(1, dV list), (2, dV at_1), (3, dV tracks), (4, .ref 16 0), (27, dV v2)], [bX 16 27 [dV v, dV v1]], 48⟩) (fun v2 hm => ?_) ?_)
  ·rcases bf hm with ⟨hb1, hm⟩ | ⟨hb1, hm⟩
   ·obtain ⟨e, h, hm⟩ := obind hm
    refine re G (hN 2 list (hO 4 (.b true) (hP hb1 (hD 7 h h0)))) ?_
    exact wJ G hm
   ·refine re G (hN 2 list (hO 4 (.b false) (hP hb1 h0))) ?_
    exact wJ G hm
  rintro v2 hm
  refine cd hm (fun hm => ?_) (fun hm => ?_)
  ·refine X_skip (thN (Ok_block ?_))
   obtain ⟨e2, h3, hm⟩ := obind hm
   obtain ⟨r1, h4, hm⟩ := obind hm
   refine ds G [(11, [208])] (hD 3 h3 (hC 6 (s_l15Take_c h4) h0)) ?_
   refine Ok_seq (rg G (cd hm (fun hm => ?_) (fun hm => ?_)))
   ·refine rg G ?_
    have hm := eL hm hb hr
    cases hm
    exact rt [] []
   ·exact X_skip (thN (rg G (rh G (ibN (wL G hm)))))
  ·exact Ok_exit (thE (thE (ibE (wE G hm hb))))
 rintro ⟨at_2, v3, v4⟩ hm
 refine Ok_seq (rs G (hN 2 list h0) ?_)
 refine cd hm (fun hm => ?_) (fun hm => ?_)
 ·refine rg G ?_
  cases hm
  exact rt [] []
 ·refine X_skip (thN (Ok_seq (rg G (tF hm (fun _ => ⟨[], [], 32⟩) (fun v6 hr1 hm => ?_) ?_))))
  ·refine Ok_block (lp G hm (fun fine => ⟨[(1, dV list), (2, dV at_2), (3, dV tracks), (4, .ref 16 0), (12, dV fine)], [bX 16 27 [dV v3, dV v4]], 48⟩) ?_)
   rintro fine r0 hb2 hm
   rw [s_l15Assign_L2] at hm
   refine Ok_seq (rs G (hN 3 v3 h0) ?_)
   refine cd hm (fun hm => ?_) (fun hm => ?_)
   ·refine X_skip (thN (jF hm (fun _ => ⟨[(1, dV list), (2, dV at_2), (3, dV tracks), (4, .ref 16 0), (12, dV fine)], [bX 16 27 [dV v3, dV v4]], 48⟩) (fun v5 hr2 hm => ?_) ?_))
    ·refine Ok_block ?_
     obtain ⟨e5, h7, hm⟩ := obind hm
     obtain ⟨r4, h8, hm⟩ := obind hm
     refine ds G [(12, [304])] (hD 3 h7 (hC 7 (s_l15Park_c h8) h0)) ?_
     refine Ok_seq (rg G (cd hm (fun hm => ?_) (fun hm => ?_)))
     ·exact Ok_exit (thE (ibE (wF G hm)))
     ·refine X_skip (thN ?_)
      obtain ⟨r7, h12, hm⟩ := obind hm
      obtain ⟨u1, h13, hm⟩ := obind hm
      obtain ⟨r8, h14, hm⟩ := obind hm
      refine ds G [(8, [464, 496]), (9, [512])] (hC 5 (s_l1Own_c h12) (hA 8 8 h13 (hC 9 (s_l15Assign_m_c h14) h0))) ?_
      refine rg G (cd hm (fun hm => ?_) (fun hm => ?_))
      ·refine rg G ?_
       have hm := eR hm hr2
       have hm := eL hm hb2 hr1
       cases hm
       exact rt [] []
      ·exact X_skip (ibN (wF G hm))
    rintro ⟨⟩ hm
    exact rh G (wL G hm)
   ·exact Ok_exit (thE (thE (ibE (wE G hm hb2))))
  rintro ⟨⟩ hm s hw
  refine thN (Ok_weak hw ?_)
  refine rg G ?_
  cases hm
  exact rt [] []
noncomputable def s_AssignTracks_M : MS (Depot × (List Move)) ((List Int) × Bool × Bool) := ⟨.x .r .r, fun x => s_AssignTracks x.1 x.2, fun y => .tup [dV y.1, dV y.2.1, dV y.2.2], fun _ => [], fun _ _ => []⟩
theorem s_AssignTracks_c {d list y} (hm : s_AssignTracks d list = some y) : s_AssignTracks_M.C (d, list) y := s_AssignTracks_M.c (d, list) hm
theorem s_AssignTracks_ok : FnOK Try.prog tJ 11 s_AssignTracks_M.S := by
 refine fm tt s_AssignTracks_M [fo s_l15Good_ok, fo s_l15Assign_ok] Try.call11 Try.func11 rfl Try.results11 Try.ntmps11 ?_
 rintro ⟨d, list⟩ y cx G hm
 have hm : s_AssignTracks d list = some y := hm
 unfold s_AssignTracks at hm
 refine rg G (rg G (Ok_seq (rg G (tl hm (fun out2 => ⟨[(1, dV list), (2, .ref 16 0), (7, dV out2)], [bX 16 27 [dV d.Sizes, dV d.Tracks]], 48⟩) (fun out2 hm => ?_) ?_))))
 ·refine Ok_block (lp G hm (fun (out, ok) => ⟨[(1, dV list), (2, .ref 16 0), (7, dV out), (8, dV ok)], [bX 16 27 [dV d.Sizes, dV d.Tracks]], 48⟩) ?_)
  rintro ⟨out, ok⟩ r0 hb hm
  rw [s_AssignTracks_L1] at hm
  refine Ok_seq (rs G (hN 2 list h0) ?_)
  refine cd hm (fun hm => ?_) (fun hm => ?_)
  ·refine X_skip (thN (jn hm (fun out1 => ⟨[(1, dV list), (2, .ref 16 0), (7, dV out1), (8, dV ok)], [bX 16 27 [dV d.Sizes, dV d.Tracks]], 48⟩) (fun out1 hm => ?_) ?_))
   ·refine Ok_block ?_
    obtain ⟨e, h, hm⟩ := obind hm
    refine rs G (hD 2 h h0) ?_
    refine cd hm (fun hm => ?_) (fun hm => ?_)
    ·exact rh G (ibN (wJ G hm))
    ·exact X_skip (ibN (wJ G hm))
   rintro out1 hm
   exact rh G (wL G hm)
  ·exact Ok_exit (thE (thE (ibE (wD G hm hb))))
 rintro out2 hm s hw
 refine thN (Ok_weak hw ?_)
 refine Ok_seq ?_
 obtain ⟨r, h1, hm⟩ := obind hm
 refine jn hm (fun v => ⟨[(1, dV list), (2, .ref 16 0), (36, dV v)], [bX 16 27 [dV d.Sizes, dV d.Tracks]], 48⟩) (fun v hm => ?_) ?_
 ·rcases bf hm with ⟨hb1, hm⟩ | ⟨hb1, hm⟩
  ·refine re G (hC 1 (s_l15Good_c h1) (hO 3 (.b true) (hP hb1 h0))) ?_
   exact wJ G hm
  ·rcases bf hm with ⟨hb2, hm⟩ | ⟨hb2, hm⟩
   ·refine re G (hC 1 (s_l15Good_c h1) (hO 3 (.b false) (hP hb1 (hN 5 list (hO 8 (.b true) (hP hb2 h0)))))) ?_
    exact wJ G hm
   ·refine re G (hC 1 (s_l15Good_c h1) (hO 3 (.b false) (hP hb1 (hN 5 list (hO 8 (.b false) (hP hb2 h0)))))) ?_
    exact wJ G hm
 rintro v hm
 refine cd hm (fun hm => ?_) (fun hm => ?_)
 ·refine rg G ?_
  cases hm
  exact rt [] []
 ·refine X_skip (thN ?_)
  obtain ⟨r1, h2, hm⟩ := obind hm
  refine rs G (hO 3 (.fz [80] [] []) (hC 3 (s_l15Assign_c h2) h0)) ?_
  refine rg G ?_
  cases hm
  exact rt [] []
noncomputable def v_rInts_M : MS ((List Int) × (List Int)) Bool := ⟨.x .r .r, fun x => v_rInts x.1 x.2, fun y => dV y, fun _ => [], fun _ _ => []⟩
theorem v_rInts_c {a b y} (hm : v_rInts a b = some y) : v_rInts_M.C (a, b) y := v_rInts_M.c (a, b) hm
theorem v_rInts_ok : FnOK Try.prog tJ 12 v_rInts_M.S := by
 refine fm tt v_rInts_M [] Try.call12 Try.func12 rfl Try.results12 Try.ntmps12 ?_
 rintro ⟨a, b⟩ y cx G hm
 have hm : v_rInts a b = some y := hm
 unfold v_rInts at hm
 refine rg G (Ok_seq (rs G (hN 1 a (hN 3 b h0)) ?_))
 refine cd hm (fun hm => ?_) (fun hm => ?_)
 ·refine rg G ?_
  cases hm
  exact rt [] []
 ·refine X_skip (thN (Ok_seq (rg G (tF hm (fun _ => ⟨[], [], 32⟩) (fun v1 hr hm => ?_) ?_))))
  ·refine Ok_block (lp G hm (fun v => ⟨[(0, dV a), (1, dV b), (5, dV v)], [], 32⟩) ?_)
   rintro v r0 hb hm
   rw [v_rInts_L1] at hm
   refine Ok_seq (rs G (hN 2 a h0) ?_)
   refine cd hm (fun hm => ?_) (fun hm => ?_)
   ·refine X_skip (thN (Ok_seq (Ok_block ?_)))
    obtain ⟨e2, h2, hm⟩ := obind hm
    obtain ⟨e3, h3, hm⟩ := obind hm
    refine ds G [] (hD 2 h2 (hD 6 h3 h0)) ?_
    refine cd hm (fun hm => ?_) (fun hm => ?_)
    ·refine rg G ?_
     have hm := eL hm hb hr
     cases hm
     exact rt [] []
    ·exact X_skip (ibN (thN (rh G (wL G hm))))
   ·exact Ok_exit (thE (thE (ibE (wE G hm hb))))
  rintro ⟨⟩ hm s hw
  refine thN (Ok_weak hw ?_)
  refine rg G ?_
  cases hm
  exact rt [] []
noncomputable def i_runMoves_a_M : MS (Depot × (List Move) × (List Int)) (Int × (List (List Int))) := ⟨⟨[.ag [.sl, .sl], .rd, .rd], fun x => [.agg [.sc undef, .sc undef], Enc.e x.2.1, Enc.e x.2.2], fun x => [arO 3 x.1.Sizes, taO 24 [some 3] x.1.Tracks], 2, 2, fun _ => rfl, fun _ => rfl, rfl, (by
  rintro ⟨a0, a1, a2⟩ ⟨b0, b1, b2⟩ h hO
  have q0 : a0 = b0 := Enc.inj _ _ (congrArg D.agg (cons_eq (congrArg (fun l => D.sl 1 (obL l 0)) hO) (cons_eq (congrArg (fun l => D.sl 1 (obL l 1)) hO) rfl)))
  have q1 : a1 = b1 := qI 1 h
  have q2 : a2 = b2 := qI 2 h
  subst q0; subst q1; subst q2; rfl)⟩, fun x => i_runMoves_a x.1 x.2.1 x.2.2, fun y => dV y.1, fun _ => [], fun x y => [arO 3 x.1.Sizes, taO 24 [some 3] y.2]⟩
theorem i_runMoves_a_c {d list tracks y} (hm : i_runMoves_a d list tracks = some y) : i_runMoves_a_M.C (d, list, tracks) y := i_runMoves_a_M.c (d, list, tracks) hm
theorem i_runMoves_a_ok : FnOK Try.prog tJ 69 i_runMoves_a_M.S := by
 refine fm tt i_runMoves_a_M [fo i_take_a_ok, fo i_park_a_ok] Try.call69 Try.func69 rfl Try.results69 Try.ntmps69 ?_
 rintro ⟨d, list, tracks⟩ y cx G hm
 have hm : i_runMoves_a d list tracks = some y := hm
 unfold i_runMoves_a at hm
 refine rg G (rg G (Ok_seq (rs G (hN 1 list h0) ?_)))
 refine tF hm (fun v8 => ⟨[(0, .aggv [.own 0, .own 1]), (1, dV list)], [aX 0 3 d.Sizes, tX 1 24 [some 3] v8 1 none], 48⟩) (fun v9 hr hm => ?_) ?_
 ·refine Ok_block (lp G hm (fun (v, v1, v2) => ⟨[(0, .aggv [.own 0, .own 1]), (1, dV list), (2, dV tracks), (3, .ref 32 0), (7, dV v), (10, dV list), (11, dV (list.length : Int)), (12, dV v1)], [aX 0 3 d.Sizes, tX 1 24 [some 3] v2 1 none, bX 32 27 [.own 0, .own 1]], 64⟩) ?_)
  rintro ⟨v, v1, v2⟩ r0 hb hm
  rw [i_runMoves_a_L1] at hm
  refine rg G (Ok_seq (cd hm (fun hm => ?_) (fun hm => ?_)))
  ·refine X_skip (thN (jF hm (fun (v3, v4) => ⟨[(0, .aggv [.own 0, .own 1]), (1, dV list), (2, dV tracks), (3, .ref 32 0), (7, dV v3), (10, dV list), (11, dV (list.length : Int)), (12, dV v1)], [aX 0 3 d.Sizes, tX 1 24 [some 3] v4 1 none, bX 32 27 [.own 0, .own 1]], 64⟩) (fun v7 hr1 hm => ?_) ?_))
   ·refine Ok_block ?_
    obtain ⟨e, h, hm⟩ := obind hm
    refine rs G (hD 1 h h0) ?_
    refine Ok_seq (rg G (cd hm (fun hm => ?_) (fun hm => ?_)))
    ·refine Ok_seq ?_
     obtain ⟨r, h1, hm⟩ := obind hm
     refine rs G (hC 3 (i_take_a_c h1) h0) ?_
     refine cd hm (fun hm => ?_) (fun hm => ?_)
     ·refine rg G ?_
      have hm := eR hm hr1
      have hm := eL hm hb hr
      cases hm
      exact rt [] []
     ·exact X_skip (thN (Ok_exit (thE (ibE (wF G hm)))))
    ·refine X_skip (thN (Ok_seq (jn hm (fun (v5, v6) => ⟨[(0, .aggv [.own 0, .own 1]), (1, dV list), (2, dV tracks), (3, .ref 32 0), (7, dV v), (8, dV v1), (10, dV list), (11, dV (list.length : Int)), (12, dV v1), (39, dV v5)], [aX 0 3 d.Sizes, tX 1 24 [some 3] v6 1 none, bX 32 27 [.own 0, .own 1]], 64⟩) (fun vv hm => ?_) ?_)))
     ·rcases bf hm with ⟨hb1, hm⟩ | ⟨hb1, hm⟩
      ·refine de G [(12, [0, 1])] (hN 2 tracks (hO 4 (.b true) (hP hb1 h0))) ?_
       exact wJ G hm
      ·obtain ⟨e4, h4, hm⟩ := obind hm
       obtain ⟨r4, h5, hm⟩ := obind hm
       refine de G [(12, [0, 1])] (hN 2 tracks (hO 4 (.b false) (hP hb1 (hD 10 h4 (hC 12 (i_park_a_c h5) h0))))) ?_
       exact wJ G hm
     rintro ⟨v5, v6⟩ hm
     refine cd hm (fun hm => ?_) (fun hm => ?_)
     ·refine rg G ?_
      have hm := eR hm hr1
      have hm := eL hm hb hr
      cases hm
      exact rt [] []
     ·exact X_skip (thN (rh G (ibN (wF G hm))))
   rintro ⟨v3, v4⟩ hm
   exact rh G (wL G hm)
  ·exact Ok_exit (thE (thE (ibE (wE G hm hb))))
 rintro v8 hm s hw
 refine thN (Ok_weak hw ?_)
 refine rs G (hN 1 list h0) ?_
 cases hm
 exact rt [] []
noncomputable def i_RunMoves_M : MS (Depot × (List Move) × (List Int)) (Depot × Int × Bool) := ⟨.x .r (.x .r .r), fun x => i_RunMoves x.1 x.2.1 x.2.2, fun y => .tup [dV y.1, dV y.2.1, dV y.2.2], fun _ => [], fun _ _ => []⟩
theorem i_RunMoves_c {d list tracks y} (hm : i_RunMoves d list tracks = some y) : i_RunMoves_M.C (d, list, tracks) y := i_RunMoves_M.c (d, list, tracks) hm
theorem i_RunMoves_ok : FnOK Try.prog tJ 13 i_RunMoves_M.S := by
 refine fm tt i_RunMoves_M [fo i_IsValidDepot_ok, fo i_copyDepot_ok, fo i_runMoves_a_ok] Try.call13 Try.func13 rfl Try.results13 Try.ntmps13 ?_
 rintro ⟨d, list, tracks⟩ y cx G hm
 have hm : i_RunMoves d list tracks = some y := hm
 unfold i_RunMoves at hm
 refine rg G (Ok_seq ?_)
 obtain ⟨r, h, hm⟩ := obind hm
 refine jn hm (fun v => ⟨[(1, dV list), (2, dV tracks), (3, .ref 16 0), (6, .ref 32 0), (18, dV v)], [bX 16 27 [dV d.Sizes, dV d.Tracks], bX 32 27 [.dat (.sc (.slice none 0 0)), .dat (.sc (.slice none 0 0))]], 64⟩) (fun v hm => ?_) ?_
 ·rcases bf hm with ⟨hb, hm⟩ | ⟨hb, hm⟩
  ·refine re G (hC 1 (i_IsValidDepot_c h) (hO 3 (.b true) (hP hb h0))) ?_
   exact wJ G hm
  ·refine re G (hC 1 (i_IsValidDepot_c h) (hO 3 (.b false) (hP hb (hN 5 list h0)))) ?_
   exact wJ G hm
 rintro v hm
 refine cd hm (fun hm => ?_) (fun hm => ?_)
 ·refine rg G ?_
  cases hm
  exact rt [] [[.z 1, .z 1]]
 ·refine X_skip (thN ?_)
  obtain ⟨r1, h1, hm⟩ := obind hm
  refine rs G (hC 1 (i_copyDepot_c h1) h0) ?_
  obtain ⟨r2, h2, hm⟩ := obind hm
  refine rs G (hC 3 (i_runMoves_a_c h2) h0) ?_
  refine rg G ?_
  cases hm
  exact rt [] []
noncomputable def s_DrawTakeVehicle_M : MS ((List UInt8)) (Depot × Int) := ⟨.r, s_DrawTakeVehicle, fun y => .tup [dV y.1, dV y.2], fun _ => [], fun _ _ => []⟩
theorem s_DrawTakeVehicle_c {code y} (hm : s_DrawTakeVehicle code = some y) : s_DrawTakeVehicle_M.C code y := s_DrawTakeVehicle_M.c code hm
theorem s_DrawTakeVehicle_ok : FnOK Try.prog tJ 70 s_DrawTakeVehicle_M.S := by
 refine fm tt s_DrawTakeVehicle_M [fo s_l1Cur_depot_ok, fo s_l1Cur_vehicleOf_ok] Try.call70 Try.func70 rfl Try.results70 Try.ntmps70 ?_
 rintro code y cx G hm
 have hm : s_DrawTakeVehicle code = some y := hm
 unfold s_DrawTakeVehicle at hm
 refine rg G (rg G ?_)
 obtain ⟨r, h, hm⟩ := obind hm
 refine rs G (hC 1 (s_l1Cur_depot_c h) h0) ?_
 refine Ok_weak (Wk_J (x' := (⟨[(2, .ref 16 0), (4, .ref 32 0), (5, .ref 48 0)], [bX 16 27 [.dat (.sc (.slice none 0 0)), .dat (.sc (.slice none 0 0))], bX 32 118 [dV r.2.code_, dV r.2.at_, kV .u64 r.2.seed_.v], bX 48 27 [dV r.1.Sizes, dV r.1.Tracks]], 80⟩ : X)) G.hL ⟨[(2, []), (4, []), (5, [])], [(16, 16, []), (32, 80, []), (48, 144, [])], [], 80⟩ (by kernel_rfl)) ?_
 obtain ⟨r2, h2, hm⟩ := obind hm
 refine ds G [(3, [32]), (4, [16])] (hC 3 (s_l1Cur_vehicleOf_c h2) h0) ?_
 cases hm
 exact rt [] []
noncomputable def s_DrawShuntingMoves_M : MS ((List UInt8)) (Depot × Int) := ⟨.r, s_DrawShuntingMoves, fun y => .tup [dV y.1, dV y.2], fun _ => [], fun _ _ => []⟩
theorem s_DrawShuntingMoves_c {code y} (hm : s_DrawShuntingMoves code = some y) : s_DrawShuntingMoves_M.C code y := s_DrawShuntingMoves_M.c code hm
theorem s_DrawShuntingMoves_ok : FnOK Try.prog tJ 14 s_DrawShuntingMoves_M.S := by
 refine fm tt s_DrawShuntingMoves_M [fo s_DrawTakeVehicle_ok] Try.call14 Try.func14 rfl Try.results14 Try.ntmps14 ?_
 rintro code y cx G hm
 have hm : s_DrawShuntingMoves code = some y := hm
 unfold s_DrawShuntingMoves at hm
 refine rg G ?_
 obtain ⟨r, h, hm⟩ := obind hm
 refine rs G (hC 1 (s_DrawTakeVehicle_c h) h0) ?_
 cases hm
 exact rt [] []
noncomputable def slices_Reverse_int_w_M : MS ((List Int)) ((List Int)) := ⟨.s 3, slices_Reverse_int_w, fun _ => .tup [], fun _ => [], fun _ y => [arO 3 y]⟩
theorem slices_Reverse_int_w_c {s y} (hm : slices_Reverse_int_w s = some y) : slices_Reverse_int_w_M.C s y := slices_Reverse_int_w_M.c s hm
theorem slices_Reverse_int_w_ok : FnOK Try.prog tJ 153 slices_Reverse_int_w_M.S := by
 refine fm tt slices_Reverse_int_w_M [] Try.call153 Try.func153 rfl Try.results153 Try.ntmps153 ?_
 rintro s y cx G hm
 have hm : slices_Reverse_int_w s = some y := hm
 unfold slices_Reverse_int_w at hm
 refine rs G (hN 1 s h0) ?_
 refine Ok_block (lp G hm (fun (j, v, s1) => ⟨[(0, .own 0), (2, dV j), (3, dV v)], [aX 0 3 s1], 48⟩) ?_)
 rintro ⟨j, v, s1⟩ r0 hb hm
 rw [slices_Reverse_int_w_L1] at hm
 refine Ok_seq (rg G (cd hm (fun hm => ?_) (fun hm => ?_)))
 ·refine X_skip (thN (Ok_seq (Ok_block ?_)))
  obtain ⟨e4, h4, hm⟩ := obind hm
  obtain ⟨e5, h5, hm⟩ := obind hm
  obtain ⟨e6, h6, hm⟩ := obind hm
  obtain ⟨e7, h7, hm⟩ := obind hm
  refine de G [(13, [0]), (15, [0])] (hD 6 h4 (hE 7 h4 (hD 10 h5 (hE 11 h5 (hD 12 h6 (hS 13 h6 e4 (hD 14 h7 (hS 15 h7 e5 h0)))))))) ?_
  exact ibN (thN (rh G (wL G hm)))
 ·have hm := eD hm hb
  refine Ok_exit (thE (thE (ibE ?_)))
  cases hm
  exact fN [] []
noncomputable def i_blockersOf_M : MS (Depot × Int) ((List Int) × Int) := ⟨.x .r .r, fun x => i_blockersOf x.1 x.2, fun y => .tup [dV y.1, dV y.2], fun _ => [], fun _ _ => []⟩
theorem i_blockersOf_c {d vehicle y} (hm : i_blockersOf d vehicle = some y) : i_blockersOf_M.C (d, vehicle) y := i_blockersOf_M.c (d, vehicle) hm
theorem i_blockersOf_ok : FnOK Try.prog tJ 71 i_blockersOf_M.S := by
 refine fm tt i_blockersOf_M [fo i_placeIn_ok, fo slices_Clone_int_ok, fo slices_Reverse_int_w_ok] Try.call71 Try.func71 rfl Try.results71 Try.ntmps71 ?_
 rintro ⟨d, vehicle⟩ y cx G hm
 have hm : i_blockersOf d vehicle = some y := hm
 unfold i_blockersOf at hm
 refine rg G ?_
 obtain ⟨r, h, hm⟩ := obind hm
 refine rs G (hC 3 (i_placeIn_c h) h0) ?_
 refine Ok_seq (rg G (cd hm (fun hm => ?_) (fun hm => ?_)))
 ·refine rg G ?_
  cases hm
  exact rt [] [[.z 1]]
 ·refine X_skip (thN ?_)
  obtain ⟨e, h1, hm⟩ := obind hm
  obtain ⟨u, h2, hm⟩ := obind hm
  obtain ⟨r1, h3, hm⟩ := obind hm
  refine rs G (hD 3 h1 (hV 7 h2 (hC 8 (slices_Clone_int_c h3) h0))) ?_
  obtain ⟨r2, h4, hm⟩ := obind hm
  refine rs G (hC 1 (slices_Reverse_int_w_c h4) h0) ?_
  refine rg G ?_
  cases hm
  exact rt [] []
noncomputable def i_ShuntingMoves_M : MS (Depot × Int) ((List Move) × (List Int) × Bool) := ⟨.x .r .r, fun x => i_ShuntingMoves x.1 x.2, fun y => .tup [dV y.1, dV y.2.1, dV y.2.2], fun _ => [], fun _ _ => []⟩
theorem i_ShuntingMoves_c {d vehicle y} (hm : i_ShuntingMoves d vehicle = some y) : i_ShuntingMoves_M.C (d, vehicle) y := i_ShuntingMoves_M.c (d, vehicle) hm
theorem i_ShuntingMoves_ok : FnOK Try.prog tJ 15 i_ShuntingMoves_M.S := by
 refine fm tt i_ShuntingMoves_M [fo i_IsValidDepot_ok, fo i_blockersOf_ok, fo i_copyDepot_ok, fo i_take_a_ok, fo i_park_a_ok] Try.call15 Try.func15 rfl Try.results15 Try.ntmps15 ?_
 rintro ⟨d, vehicle⟩ y cx G hm
 have hm : i_ShuntingMoves d vehicle = some y := hm
 unfold i_ShuntingMoves at hm
 refine rg G (Ok_seq ?_)
 obtain ⟨r, h, hm⟩ := obind hm
 refine rs G (hC 1 (i_IsValidDepot_c h) h0) ?_
 refine cd hm (fun hm => ?_) (fun hm => ?_)
 ·refine rg G ?_
  cases hm
  exact rt [] [[.z 2], [.z 1]]
 ·refine X_skip (thN ?_)
  obtain ⟨r1, h1, hm⟩ := obind hm
  refine rs G (hC 2 (i_blockersOf_c h1) h0) ?_
  refine Ok_seq (rg G (cd hm (fun hm => ?_) (fun hm => ?_)))
  ·refine rg G ?_
   cases hm
   exact rt [] [[.z 2], [.z 1]]
  ·refine X_skip (thN ?_)
   obtain ⟨r2, h2, hm⟩ := obind hm
   refine rs G (hC 1 (i_copyDepot_c h2) h0) ?_
   refine rg G (rg G (Ok_seq (rs G (hN 1 r1.1 h0) ?_)))
   refine tF hm (fun (v11, b1) => ⟨[(1, dV vehicle), (9, .own 16), (10, .own 32)], [aX 16 122 v11, aX 32 3 b1], 64⟩) (fun v12 hr hm => ?_) ?_
   ·refine Ok_block (lpP hm (fun (v, v1, b, v2) => ⟨[(1, dV vehicle), (2, .ref 16 0), (8, dV r1.2), (9, .own 32), (10, .own 48), (28, dV r1.1), (29, dV (r1.1.length : Int)), (30, dV v)], [bX 16 27 [.own 64, .own 80], aX 32 122 v1, aX 48 3 b, aX 64 3 r2.Sizes, tX 80 24 [some 3] v2 80 none], 112⟩) (Wk_J G.hL ⟨[(1, []), (2, []), (8, []), (9, [.o 32]), (10, [.o 48]), (28, []), (29, []), (30, [])], [(16, 16, []), (64, 304, []), (80, 305, [])], [(32, 122, 2, []), (48, 3, 1, [])], 112⟩ (by kernel_rfl)) ?_)
    rintro ⟨v, v1, b, v2⟩ r0 hb hm
    rw [i_ShuntingMoves_L2] at hm
    refine rg G (Ok_seq (cd hm (fun hm => ?_) (fun hm => ?_)))
    ·refine X_skip (thN (Ok_seq (Ok_block ?_)))
     obtain ⟨e, h3, hm⟩ := obind hm
     refine rs G (hD 0 h3 h0) ?_
     obtain ⟨r3, h4, hm⟩ := obind hm
     refine rs G (hC 2 (i_take_a_c h4) h0) ?_
     refine rg G (jn hm (fun (v3, v4) => ⟨[(1, dV vehicle), (2, .ref 16 0), (8, dV r1.2), (9, .own 32), (10, .own 48), (12, dV e), (13, dV v3), (28, dV r1.1), (29, dV (r1.1.length : Int)), (30, dV v)], [bX 16 27 [.own 64, .own 80], aX 32 122 v1, aX 48 3 b, aX 64 3 r2.Sizes, tX 80 24 [some 3] v4 80 none], 112⟩) (fun vv2 hm => ?_) ?_)
     ·refine rs G (hN 2 r3.2 h0) ?_
      refine tl hm (fun (v9, v10) => ⟨[(1, dV vehicle), (2, .ref 16 0), (8, dV r1.2), (9, .own 32), (10, .own 48), (12, dV e), (13, dV v9), (28, dV r1.1), (29, dV (r1.1.length : Int)), (30, dV v)], [bX 16 27 [.own 64, .own 80], aX 32 122 v1, aX 48 3 b, aX 64 3 r2.Sizes, tX 80 24 [some 3] v10 80 none], 112⟩) (fun vv1 hm => ?_) ?_
      ·refine Ok_block (lp G hm (fun (v5, v6) => ⟨[(1, dV vehicle), (2, .ref 16 0), (8, dV r1.2), (9, .own 32), (10, .own 48), (12, dV e), (13, kV .i64 (-1)), (28, dV r1.1), (29, dV (r1.1.length : Int)), (30, dV v), (39, dV (r3.2.length : Int)), (40, dV v5)], [bX 16 27 [.own 64, .own 80], aX 32 122 v1, aX 48 3 b, aX 64 3 r2.Sizes, tX 80 24 [some 3] v6 80 none], 112⟩) ?_)
       rintro ⟨v5, v6⟩ r0 hb1 hm
       rw [i_ShuntingMoves_L1] at hm
       refine rg G (Ok_seq (cd hm (fun hm => ?_) (fun hm => ?_)))
       ·refine X_skip (thN (Ok_seq (Ok_block (rg G (jn hm (fun (v7, v8) => ⟨[(1, dV vehicle), (2, .ref 16 0), (8, dV r1.2), (9, .own 32), (10, .own 48), (12, dV e), (13, kV .i64 (-1)), (14, dV v5), (28, dV r1.1), (29, dV (r1.1.length : Int)), (30, dV v), (39, dV (r3.2.length : Int)), (40, dV v5), (51, dV v7)], [bX 16 27 [.own 64, .own 80], aX 32 122 v1, aX 48 3 b, aX 64 3 r2.Sizes, tX 80 24 [some 3] v8 80 none], 112⟩) (fun vv hm => ?_) ?_)))))
        ·rcases bf hm with ⟨hb2, hm⟩ | ⟨hb2, hm⟩
         ·obtain ⟨r4, h5, hm⟩ := obind hm
          refine re G (hO 3 (.b true) (hP hb2 (hC 7 (i_park_a_c h5) h0))) ?_
          exact wJ G hm
         ·refine re G (hO 3 (.b false) (hP hb2 h0)) ?_
          exact wJ G hm
        rintro ⟨v7, v8⟩ hm
        refine cd hm (fun hm => ?_) (fun hm => ?_)
        ·exact rg G (Ok_exit (ibX rfl (thE (thE (ibE (wD G hm hb1))))))
        ·exact X_skip (ibN (thN (rh G (wL G hm))))
       ·exact Ok_exit (thE (thE (ibE (wD G hm hb1))))
      rintro ⟨v9, v10⟩ hm s hw
      exact wJp hm (Wk.trans hw (Wk_J G.hL ⟨[(1, []), (2, []), (8, []), (9, []), (10, []), (12, []), (13, []), (28, []), (29, []), (30, [])], [(16, 16, []), (32, 32, []), (48, 48, []), (64, 64, []), (80, 80, [])], [], 112⟩ (by kernel_rfl)))
     rintro ⟨v3, v4⟩ hm
     refine Ok_seq (rg G (cd hm (fun hm => ?_) (fun hm => ?_)))
     ·refine rg G ?_
      have hm := eL hm hb hr
      cases hm
      exact rt [] [[.z 2], [.z 1]]
     ·refine X_skip (thN ?_)
      obtain ⟨u, h6, hm⟩ := obind hm
      refine rs G (hA 6 16 h6 h0) ?_
      obtain ⟨u1, h7, hm⟩ := obind hm
      refine re G (hA 3 8 h7 h0) ?_
      exact ibN (thN (rh G (wL G hm)))
    ·exact Ok_exit (thE (thE (ibE (wE G hm hb))))
   rintro ⟨v11, b1⟩ hm s1 hw1
   refine thN (Ok_weak hw1 ?_)
   obtain ⟨u2, h8, hm⟩ := obind hm
   refine rs G (hA 4 16 h8 h0) ?_
   cases hm
   exact rt [] []
noncomputable def s_l15Blockers_M : MS (Depot × Int × Int) ((List Int)) := ⟨.x .r (.x .r .r), fun x => s_l15Blockers x.1 x.2.1 x.2.2, fun _ => .own 0, fun y => [arO 3 y], fun _ _ => []⟩
theorem s_l15Blockers_c {d i k y} (hm : s_l15Blockers d i k = some y) : s_l15Blockers_M.C (d, i, k) y := s_l15Blockers_M.c (d, i, k) hm
theorem s_l15Blockers_ok : FnOK Try.prog tJ 76 s_l15Blockers_M.S := by
 refine fm tt s_l15Blockers_M [] Try.call76 Try.func76 rfl Try.results76 Try.ntmps76 ?_
 rintro ⟨d, i, k⟩ y cx G hm
 have hm : s_l15Blockers d i k = some y := hm
 unfold s_l15Blockers at hm
 refine rg G (rg G (Ok_seq ?_))
 obtain ⟨e, h, hm⟩ := obind hm
 refine rs G (hD 3 h (hN 5 e h0)) ?_
 refine tl hm (fun v2 => ⟨[(7, .own 16)], [aX 16 3 v2], 48⟩) (fun v2 hm => ?_) ?_
 ·refine Ok_block (lp G hm (fun (v, v1) => ⟨[(1, dV i), (2, dV k), (3, .ref 16 0), (7, .own 32), (8, dV v)], [bX 16 27 [dV d.Sizes, dV d.Tracks], aX 32 3 v1], 64⟩) ?_)
  rintro ⟨v, v1⟩ r0 hb hm
  rw [s_l15Blockers_L1] at hm
  refine Ok_seq (rg G (cd hm (fun hm => ?_) (fun hm => ?_)))
  ·refine X_skip (thN (Ok_seq (Ok_block ?_)))
   obtain ⟨e1, h1, hm⟩ := obind hm
   obtain ⟨e2, h2, hm⟩ := obind hm
   obtain ⟨u, h3, hm⟩ := obind hm
   refine re G (hD 4 h1 (hD 7 h2 (hA 10 8 h3 h0))) ?_
   exact ibN (thN (rh G (wL G hm)))
  ·exact Ok_exit (thE (thE (ibE (wD G hm hb))))
 rintro v2 hm s hw
 refine thN (Ok_weak hw ?_)
 refine rg G ?_
 cases hm
 exact rt [16] []
noncomputable def s_ShuntingMoves_M : MS (Depot × Int) ((List Move) × (List Int) × Bool) := ⟨.x .r .r, fun x => s_ShuntingMoves x.1 x.2, fun y => .tup [.own 0, .own 1, dV y.2.2], fun y => [arO 122 y.1, arO 3 y.2.1], fun _ _ => []⟩
theorem s_ShuntingMoves_c {d vehicle y} (hm : s_ShuntingMoves d vehicle = some y) : s_ShuntingMoves_M.C (d, vehicle) y := s_ShuntingMoves_M.c (d, vehicle) hm
theorem s_ShuntingMoves_ok : FnOK Try.prog tJ 16 s_ShuntingMoves_M.S := by
 refine fm tt s_ShuntingMoves_M [fo s_l15Track_ok, fo s_l15Good_ok, fo s_l15Own_ok, fo s_l15Blockers_ok, fo s_l15Take_ok, fo s_l15Park_ok] Try.call16 Try.func16 rfl Try.results16 Try.ntmps16 ?_
 rintro ⟨d, vehicle⟩ y cx G hm
 have hm : s_ShuntingMoves d vehicle = some y := hm
 unfold s_ShuntingMoves at hm
 refine rg G (rg G ?_)
 obtain ⟨r, h, hm⟩ := obind hm
 refine rs G (hC 2 (s_l15Track_c h) h0) ?_
 refine Ok_seq ?_
 obtain ⟨r1, h1, hm⟩ := obind hm
 refine jn hm (fun v => ⟨[(1, dV vehicle), (2, .ref 16 0), (7, .own 32), (8, .own 48), (9, dV r.1), (10, dV r.2), (29, dV v)], [bX 16 27 [dV d.Sizes, dV d.Tracks], aX 32 122 ([] : List Move), aX 48 3 ([] : List Int)], 80⟩) (fun v hm => ?_) ?_
 ·rcases bf hm with ⟨hb, hm⟩ | ⟨hb, hm⟩
  ·refine re G (hC 1 (s_l15Good_c h1) (hO 3 (.b true) (hP hb h0))) ?_
   exact wJ G hm
  ·refine re G (hC 1 (s_l15Good_c h1) (hO 3 (.b false) (hP hb h0))) ?_
   exact wJ G hm
 rintro v hm
 refine cd hm (fun hm => ?_) (fun hm => ?_)
 ·refine rg G ?_
  cases hm
  exact rt [32, 48] []
 ·refine X_skip (thN ?_)
  obtain ⟨r2, h2, hm⟩ := obind hm
  refine rs G (hC 1 (s_l15Own_c h2) h0) ?_
  obtain ⟨r3, h3, hm⟩ := obind hm
  refine rs G (hC 3 (s_l15Blockers_c h3) h0) ?_
  refine Ok_seq (rg G (tF hm (fun (i1, k1) => ⟨[(1, dV vehicle), (7, .own 16), (8, .own 32)], [aX 16 122 i1, aX 32 3 k1], 64⟩) (fun v7 hr hm => ?_) ?_))
  ·refine Ok_block (lp G hm (fun (v1, i, k, v2, v3) => ⟨[(1, dV vehicle), (7, .own 16), (8, .own 32), (9, dV r.1), (11, .ref 48 0), (12, .own 64), (13, dV v1)], [aX 16 122 i, aX 32 3 k, bX 48 27 [dV v2, dV v3], aX 64 3 r3], 96⟩) ?_)
   rintro ⟨v1, i, k, v2, v3⟩ r0 hb1 hm
   rw [s_ShuntingMoves_L2] at hm
   refine Ok_seq (rs G (hN 2 r3 h0) ?_)
   refine cd hm (fun hm => ?_) (fun hm => ?_)
   ·refine X_skip (thN (Ok_seq (Ok_block ?_)))
    obtain ⟨e1, h6, hm⟩ := obind hm
    obtain ⟨r5, h7, hm⟩ := obind hm
    refine ds G [(9, [48])] (hD 3 h6 (hE 4 h6 (hC 5 (s_l15Take_c h7) h0))) ?_
    obtain ⟨e2, h8, hm⟩ := obind hm
    obtain ⟨u, h9, hm⟩ := obind hm
    refine rs G (hD 3 h8 (hE 4 h8 (hA 7 16 h9 h0))) ?_
    refine rg G (jn hm (fun v6 => ⟨[(1, dV vehicle), (7, .own 16), (8, .own 32), (9, dV r.1), (11, .ref 48 0), (12, .own 64), (13, dV v1), (14, dV v6)], [aX 16 122 (i ++ ([(⟨e2, true⟩ : Move)] : List Move)), aX 32 3 k, bX 48 27 [dV r5.1.Sizes, dV r5.1.Tracks], aX 64 3 r3], 96⟩) (fun v6 hm => ?_) ?_)
    ·refine Ok_block (lp G hm (fun v4 => ⟨[(1, dV vehicle), (7, .own 16), (8, .own 32), (9, dV r.1), (11, .ref 48 0), (12, .own 64), (13, dV v1), (14, dV v4)], [aX 16 122 (i ++ ([(⟨e2, true⟩ : Move)] : List Move)), aX 32 3 k, bX 48 27 [dV r5.1.Sizes, dV r5.1.Tracks], aX 64 3 r3], 96⟩) ?_)
     rintro v4 r0 hb2 hm
     rw [s_ShuntingMoves_L1] at hm
     refine Ok_seq (jn hm (fun v5 => ⟨[(1, dV vehicle), (7, .own 16), (8, .own 32), (9, dV r.1), (11, .ref 48 0), (12, .own 64), (13, dV v1), (14, dV v4), (84, dV v5)], [aX 16 122 (i ++ ([(⟨e2, true⟩ : Move)] : List Move)), aX 32 3 k, bX 48 27 [dV r5.1.Sizes, dV r5.1.Tracks], aX 64 3 r3], 96⟩) (fun v5 hm => ?_) ?_)
     ·rcases bf hm with ⟨hb3, hm⟩ | ⟨hb3, hm⟩
      ·rcases bf hm with ⟨hb4, hm⟩ | ⟨hb4, hm⟩
       ·refine de G [] (hN 3 r5.1.Sizes (hO 5 (.b true) (hP hb3 (hO 9 (.b true) (hP hb4 h0))))) ?_
        exact wJ G hm
       ·obtain ⟨e5, h12, hm⟩ := obind hm
        obtain ⟨e6, h13, hm⟩ := obind hm
        refine de G [] (hN 3 r5.1.Sizes (hO 5 (.b true) (hP hb3 (hO 9 (.b false) (hP hb4 (hD 13 h12 (hN 15 e5 (hD 19 h13 h0)))))))) ?_
        exact wJ G hm
      ·refine de G [] (hN 3 r5.1.Sizes (hO 5 (.b false) (hP hb3 h0))) ?_
       exact wJ G hm
     rintro v5 hm
     refine cd hm (fun hm => ?_) (fun hm => ?_)
     ·exact X_skip (thN (Ok_block (rh G (ibN (wL G hm)))))
     ·exact Ok_exit (thE (thE (ibE (wD G hm hb2))))
    rintro v6 hm
    refine Ok_seq (rs G (hN 3 r5.1.Sizes h0) ?_)
    refine cd hm (fun hm => ?_) (fun hm => ?_)
    ·refine rg G ?_
     have hm := eL hm hb1 hr
     cases hm
     exact rt [176, 192] []
    ·refine X_skip (thN ?_)
     obtain ⟨e9, h16, hm⟩ := obind hm
     obtain ⟨r8, h17, hm⟩ := obind hm
     refine ds G [(10, [48])] (hD 3 h16 (hE 4 h16 (hC 6 (s_l15Park_c h17) h0))) ?_
     obtain ⟨e10, h18, hm⟩ := obind hm
     obtain ⟨u1, h19, hm⟩ := obind hm
     refine rs G (hD 3 h18 (hE 4 h18 (hA 7 16 h19 h0))) ?_
     obtain ⟨u2, h20, hm⟩ := obind hm
     refine re G (hA 3 8 h20 h0) ?_
     exact ibN (thN (rh G (wL G hm)))
   ·exact Ok_exit (thE (thE (ibE (wE G hm hb1))))
  rintro ⟨i1, k1⟩ hm s hw
  refine thN (Ok_weak hw ?_)
  obtain ⟨u3, h21, hm⟩ := obind hm
  refine rs G (hA 4 16 h21 h0) ?_
  cases hm
  exact rt [128, 32] []
noncomputable def i_BlockersOf_M : MS (Depot × Int) ((List Int) × Bool) := ⟨.x .r .r, fun x => i_BlockersOf x.1 x.2, fun y => .tup [dV y.1, dV y.2], fun _ => [], fun _ _ => []⟩
theorem i_BlockersOf_c {d vehicle y} (hm : i_BlockersOf d vehicle = some y) : i_BlockersOf_M.C (d, vehicle) y := i_BlockersOf_M.c (d, vehicle) hm
theorem i_BlockersOf_ok : FnOK Try.prog tJ 17 i_BlockersOf_M.S := by
 refine fm tt i_BlockersOf_M [fo i_IsValidDepot_ok, fo i_blockersOf_ok] Try.call17 Try.func17 rfl Try.results17 Try.ntmps17 ?_
 rintro ⟨d, vehicle⟩ y cx G hm
 have hm : i_BlockersOf d vehicle = some y := hm
 unfold i_BlockersOf at hm
 refine rg G (Ok_seq ?_)
 obtain ⟨r, h, hm⟩ := obind hm
 refine rs G (hC 1 (i_IsValidDepot_c h) h0) ?_
 refine cd hm (fun hm => ?_) (fun hm => ?_)
 ·refine rg G ?_
  cases hm
  exact rt [] [[.z 1]]
 ·refine X_skip (thN ?_)
  obtain ⟨r1, h1, hm⟩ := obind hm
  refine rs G (hC 2 (i_blockersOf_c h1) h0) ?_
  refine rg G ?_
  cases hm
  exact rt [] []
noncomputable def s_l1Put_m_M : MS ((List Int) × Int) ((List Int)) := ⟨.x (.m 3) .r, fun x => s_l1Put_m x.1 x.2, fun _ => .own 0, fun y => [arO 3 y], fun _ _ => []⟩
theorem s_l1Put_m_c {l n y} (hm : s_l1Put_m l n = some y) : s_l1Put_m_M.C (l, n) y := s_l1Put_m_M.c (l, n) hm
theorem s_l1Put_m_ok : FnOK Try.prog tJ 80 s_l1Put_m_M.S := by
 refine fm tt s_l1Put_m_M [] Try.call80 Try.func80 rfl Try.results80 Try.ntmps80 ?_
 rintro ⟨l, n⟩ y cx G hm
 have hm : s_l1Put_m l n = some y := hm
 unfold s_l1Put_m at hm
 refine rg G (rg G (jn hm (fun v2 => ⟨[(0, .own 16), (1, dV n), (5, dV v2)], [aX 16 3 l], 48⟩) (fun v2 hm => ?_) ?_))
 ·refine Ok_block (lp G hm (fun v => ⟨[(0, .own 16), (1, dV n), (5, dV v)], [aX 16 3 l], 48⟩) ?_)
  rintro v r0 hb hm
  rw [s_l1Put_m_L1] at hm
  refine Ok_seq (jn hm (fun v1 => ⟨[(0, .own 16), (1, dV n), (5, dV v), (17, dV v1)], [aX 16 3 l], 48⟩) (fun v1 hm => ?_) ?_)
  ·rcases bf hm with ⟨hb1, hm⟩ | ⟨hb1, hm⟩
   ·obtain ⟨e, h, hm⟩ := obind hm
    refine re G (hN 2 l (hO 4 (.b true) (hP hb1 (hD 7 h (hE 8 h h0))))) ?_
    exact wJ G hm
   ·refine re G (hN 2 l (hO 4 (.b false) (hP hb1 h0))) ?_
    exact wJ G hm
  rintro v1 hm
  refine cd hm (fun hm => ?_) (fun hm => ?_)
  ·exact X_skip (thN (Ok_block (rh G (ibN (wL G hm)))))
  ·exact Ok_exit (thE (thE (ibE (wD G hm hb))))
 rintro v2 hm
 refine Ok_seq (jn hm (fun v3 => ⟨[(0, .own 16), (1, dV n), (5, dV v2), (31, dV v3)], [aX 16 3 l], 48⟩) (fun v3 hm => ?_) ?_)
 ·rcases bf hm with ⟨hb2, hm⟩ | ⟨hb2, hm⟩
  ·obtain ⟨e1, h1, hm⟩ := obind hm
   refine re G (hN 2 l (hO 4 (.b true) (hP hb2 (hD 7 h1 (hE 8 h1 h0))))) ?_
   exact wJ G hm
  ·refine re G (hN 2 l (hO 4 (.b false) (hP hb2 h0))) ?_
   exact wJ G hm
 rintro v3 hm
 refine cd hm (fun hm => ?_) (fun hm => ?_)
 ·refine rg G ?_
  cases hm
  exact rt [16] []
 ·refine X_skip (thN (Ok_weak (Wk_J (x' := (⟨[(0, dV l), (1, dV n), (5, dV v2)], [], 32⟩ : X)) G.hL ⟨[(0, []), (1, []), (5, [])], [], [], 32⟩ (by kernel_rfl)) ?_))
  obtain ⟨u5, h7, hm⟩ := obind hm
  obtain ⟨u6, h8, hm⟩ := obind hm
  obtain ⟨u7, h9, hm⟩ := obind hm
  obtain ⟨u8, h10, hm⟩ := obind hm
  obtain ⟨u9, h11, hm⟩ := obind hm
  refine ds G [(3, []), (4, [32]), (7, [96, 128]), (10, []), (11, [144])] (hU 3 h7 (hA 4 8 h8 (hA 7 8 h9 (hV 10 h10 (hA 11 8 h11 h0))))) ?_
  cases hm
  exact rt [208] []
noncomputable def s_DrawDepartureOrder_M : MS ((List UInt8)) (Depot × (List Int)) := ⟨.r, s_DrawDepartureOrder, fun y => .tup [dV y.1, .own 0], fun y => [arO 3 y.2], fun _ _ => []⟩
theorem s_DrawDepartureOrder_c {code y} (hm : s_DrawDepartureOrder code = some y) : s_DrawDepartureOrder_M.C code y := s_DrawDepartureOrder_M.c code hm
theorem s_DrawDepartureOrder_ok : FnOK Try.prog tJ 18 s_DrawDepartureOrder_M.S := by
 refine fm tt s_DrawDepartureOrder_M [fo s_l1Cur_depot_ok, fo s_l1Cur_one_ok, fo s_l1Put_m_ok, fo s_l1Cur_pick_ok, fo s_l1Cur_vehicleOf_ok] Try.call18 Try.func18 rfl Try.results18 Try.ntmps18 ?_
 rintro code y cx G hm
 have hm : s_DrawDepartureOrder code = some y := hm
 unfold s_DrawDepartureOrder at hm
 refine rg G (rg G ?_)
 obtain ⟨r, h, hm⟩ := obind hm
 refine rs G (hC 1 (s_l1Cur_depot_c h) h0) ?_
 refine rg G (Ok_seq (rg G (tl hm (fun (v13, v14, v15, i4) => ⟨[(2, .ref 16 0), (4, .ref 32 0), (5, .ref 48 0), (6, .own 64)], [bX 16 27 [.dat (.sc (.slice none 0 0)), .dat (.sc (.slice none 0 0))], bX 32 118 [dV v13, dV v14, kV .u64 v15], bX 48 27 [.own 80, .own 96], aX 64 3 i4, aX 80 3 r.1.Sizes, tX 96 24 [some 3] r.1.Tracks 96 none], 128⟩) (fun vv2 hm => ?_) ?_)))
 ·refine Ok_block (lp G hm (fun (k, v, v1, v2, i) => ⟨[(2, .ref 16 0), (4, .ref 32 0), (5, .ref 48 0), (6, .own 64), (7, dV k)], [bX 16 27 [.dat (.sc (.slice none 0 0)), .dat (.sc (.slice none 0 0))], bX 32 118 [dV v, dV v1, kV .u64 v2], bX 48 27 [.own 80, .own 96], aX 64 3 i, aX 80 3 r.1.Sizes, tX 96 24 [some 3] r.1.Tracks 96 none], 128⟩) ?_)
  rintro ⟨k, v, v1, v2, i⟩ r0 hb hm
  rw [s_DrawDepartureOrder_L2] at hm
  refine Ok_seq (rs G (hN 3 r.1.Tracks h0) ?_)
  refine cd hm (fun hm => ?_) (fun hm => ?_)
  ·refine X_skip (thN (jn hm (fun (v3, v4, v5, i1) => ⟨[(2, .ref 16 0), (4, .ref 32 0), (5, .ref 48 0), (6, .own 64), (7, dV k)], [bX 16 27 [.dat (.sc (.slice none 0 0)), .dat (.sc (.slice none 0 0))], bX 32 118 [dV v3, dV v4, kV .u64 v5], bX 48 27 [.own 80, .own 96], aX 64 3 i1, aX 80 3 r.1.Sizes, tX 96 24 [some 3] r.1.Tracks 96 none], 128⟩) (fun vv1 hm => ?_) ?_))
   ·refine Ok_block ?_
    obtain ⟨e, h1, hm⟩ := obind hm
    refine rs G (hD 3 h1 (hE 4 h1 (hO 5 (.dn (Enc.e e) (e.length : Int)) (hP (idx_m2 (f := Enc.e) h1) (hP (len_m Enc.e e) h0))))) ?_
    refine tl hm (fun (v10, v11, v12, i3) => ⟨[(2, .ref 16 0), (4, .ref 32 0), (5, .ref 48 0), (6, .own 64), (7, dV k)], [bX 16 27 [.dat (.sc (.slice none 0 0)), .dat (.sc (.slice none 0 0))], bX 32 118 [dV v10, dV v11, kV .u64 v12], bX 48 27 [.own 80, .own 96], aX 64 3 i3, aX 80 3 r.1.Sizes, tX 96 24 [some 3] r.1.Tracks 96 none], 128⟩) (fun vv hm => ?_) ?_
    ·refine Ok_block (lp G hm (fun (v6, v7, v8, v9, i2) => ⟨[(2, .ref 16 0), (4, .ref 32 0), (5, .ref 48 0), (6, .own 64), (7, dV k), (8, dV v6)], [bX 16 27 [.dat (.sc (.slice none 0 0)), .dat (.sc (.slice none 0 0))], bX 32 118 [dV v7, dV v8, kV .u64 v9], bX 48 27 [.own 80, .own 96], aX 64 3 i2, aX 80 3 r.1.Sizes, tX 96 24 [some 3] r.1.Tracks 96 none], 128⟩) ?_)
     rintro ⟨v6, v7, v8, v9, i2⟩ r0 hb1 hm
     rw [s_DrawDepartureOrder_L1] at hm
     refine Ok_seq (rg G (cd hm (fun hm => ?_) (fun hm => ?_)))
     ·refine X_skip (thN (Ok_seq (Ok_block (Ok_seq ?_))))
      obtain ⟨r1, h2, hm⟩ := obind hm
      refine rs G (hC 1 (s_l1Cur_one_c h2) h0) ?_
      refine cd hm (fun hm => ?_) (fun hm => ?_)
      ·exact Ok_exit (thE (ibX rfl (thE (thE (ibE (wD G hm hb1))))))
      ·refine X_skip (thN ?_)
       obtain ⟨e1, h3, hm⟩ := obind hm
       obtain ⟨e2, h4, hm⟩ := obind hm
       obtain ⟨r2, h5, hm⟩ := obind hm
       refine re G (hD 4 h3 (hE 5 h3 (hE 7 h3 (hP (idx_b (f := Enc.e) h4) (hO 8 (.d2 (Enc.e e1) (Enc.e e2)) (hP (idx_m2 (f := Enc.e) h3) (hP (idx_m2 (f := Enc.e) h4) (hC 9 (s_l1Put_m_c h5) h0)))))))) ?_
       exact ibN (thN (rh G (wL G hm)))
     ·exact Ok_exit (thE (thE (ibE (wD G hm hb1))))
    rintro ⟨v10, v11, v12, i3⟩ hm s hw
    exact ibN (wJp hm (Wk.trans hw (Wk_J G.hL ⟨[(2, []), (4, []), (5, []), (6, []), (7, [])], [(16, 16, []), (32, 32, []), (48, 48, []), (64, 64, []), (80, 80, []), (96, 96, [])], [], 128⟩ (by kernel_rfl))))
   rintro ⟨v3, v4, v5, i1⟩ hm
   exact rh G (wL G hm)
  ·exact Ok_exit (thE (thE (ibE (wD G hm hb))))
 rintro ⟨v13, v14, v15, i4⟩ hm s1 hw1
 refine thN (Ok_weak hw1 ?_)
 refine jn hm (fun i5 => ⟨[(2, .ref 16 0), (5, .ref 32 0), (6, .own 48)], [bX 16 27 [.dat (.sc (.slice none 0 0)), .dat (.sc (.slice none 0 0))], bX 32 27 [dV r.1.Sizes, dV r.1.Tracks], aX 48 3 i5], 80⟩) (fun i5 hm => ?_) ?_
 ·obtain ⟨r3, h6, hm⟩ := obind hm
  refine rs G (hC 1 (s_l1Cur_pick_c h6) h0) ?_
  refine Ok_block (rg G (cd hm (fun hm => ?_) (fun hm => ?_)))
  ·obtain ⟨r4, h7, hm⟩ := obind hm
   obtain ⟨r5, h8, hm⟩ := obind hm
   refine re G (hO 3 (.fz [80, 96] [] []) (hC 3 (s_l1Cur_vehicleOf_c h7) (hC 4 (s_l1Put_m_c h8) h0))) ?_
   exact ibN (wJ G hm)
  ·refine rg G (cd hm (fun hm => ?_) (fun hm => ?_))
   ·obtain ⟨u, h9, hm⟩ := obind hm
    refine re G (hA 2 8 h9 h0) ?_
    exact ibN (wJ G hm)
   ·exact X_skip (ibN (wJ G hm))
 rintro i5 hm
 refine rg G ?_
 cases hm
 exact rt [48] []
noncomputable def i_DepartureOrder_1_b_M : MS (Int × Depot) (Bool × (List (List Int))) := ⟨⟨[.rd, .bo 2], fun x => [Enc.e x.1, .sc undef], fun x => [.box 27 [.own 1, .own 2], arO 3 x.2.Sizes, taO 24 [some 3] x.2.Tracks], 3, 3, fun _ => rfl, fun _ => rfl, rfl, (by
  rintro ⟨a0, a1⟩ ⟨b0, b1⟩ h hO
  have q0 : a0 = b0 := qI 0 h
  have q1 : a1 = b1 := Enc.inj _ _ (congrArg D.agg (cons_eq (congrArg (fun l => D.sl 1 (obL l 1)) hO) (cons_eq (congrArg (fun l => D.sl 1 (obL l 2)) hO) rfl)))
  subst q0; subst q1; rfl)⟩, fun x => i_DepartureOrder_1_b x.1 x.2, fun y => dV y.1, fun _ => [], fun x y => [.box 27 [.own 1, .own 2], arO 3 x.2.Sizes, taO 24 [some 3] y.2]⟩
theorem i_DepartureOrder_1_b_c {v c1 y} (hm : i_DepartureOrder_1_b v c1 = some y) : i_DepartureOrder_1_b_M.C (v, c1) y := i_DepartureOrder_1_b_M.c (v, c1) hm
theorem i_DepartureOrder_1_b_ok : FnOK Try.prog tJ 86 i_DepartureOrder_1_b_M.S := by
 refine fm tt i_DepartureOrder_1_b_M [fo i_take_a_ok] Try.call86 Try.func86 rfl Try.results86 Try.ntmps86 ?_
 rintro ⟨v, c1⟩ y cx G hm
 have hm : i_DepartureOrder_1_b v c1 = some y := hm
 unfold i_DepartureOrder_1_b at hm
 refine rg G ?_
 obtain ⟨r, h, hm⟩ := obind hm
 refine rs G (hC 2 (i_take_a_c h) h0) ?_
 cases hm
 exact rt [] []
noncomputable def slices_IndexFunc_int_c_w__i_DepartureOrder_1_M : MS ((List Int) × Depot) (Int × (List (List Int))) := ⟨⟨[.sl, .fn 86 [.bo 2]], fun x => [.sc undef, .agg [.sc undef]], fun x => [arO 3 x.1, .box 27 [.own 2, .own 3], arO 3 x.2.Sizes, taO 24 [some 3] x.2.Tracks], 4, 4, fun _ => rfl, fun _ => rfl, rfl, (by
  rintro ⟨a0, a1⟩ ⟨b0, b1⟩ h hO
  have q0 : a0 = b0 := Enc.inj _ _ (congrArg (fun l => D.sl 1 (obL l 0)) hO)
  have q1 : a1 = b1 := Enc.inj _ _ (congrArg D.agg (cons_eq (congrArg (fun l => D.sl 1 (obL l 2)) hO) (cons_eq (congrArg (fun l => D.sl 1 (obL l 3)) hO) rfl)))
  subst q0; subst q1; rfl)⟩, fun x => slices_IndexFunc_int_c_w__i_DepartureOrder_1 x.1 x.2, fun y => dV y.1, fun _ => [], fun x y => [arO 3 x.1, .box 27 [.own 2, .own 3], arO 3 x.2.Sizes, taO 24 [some 3] y.2]⟩
theorem slices_IndexFunc_int_c_w__i_DepartureOrder_1_c {s c1 y} (hm : slices_IndexFunc_int_c_w__i_DepartureOrder_1 s c1 = some y) : slices_IndexFunc_int_c_w__i_DepartureOrder_1_M.C (s, c1) y := slices_IndexFunc_int_c_w__i_DepartureOrder_1_M.c (s, c1) hm
theorem slices_IndexFunc_int_c_w__i_DepartureOrder_1_ok : FnOK Try.prog tJ 85 slices_IndexFunc_int_c_w__i_DepartureOrder_1_M.S := by
 refine fm tt slices_IndexFunc_int_c_w__i_DepartureOrder_1_M [fo i_DepartureOrder_1_b_ok] Try.call85 Try.func85 rfl Try.results85 Try.ntmps85 ?_
 rintro ⟨s, c1⟩ y cx G hm
 have hm : slices_IndexFunc_int_c_w__i_DepartureOrder_1 s c1 = some y := hm
 unfold slices_IndexFunc_int_c_w__i_DepartureOrder_1 at hm
 refine rg G (Ok_seq (rs G (hN 1 s h0) ?_))
 refine tF hm (fun v2 => ⟨[(0, .own 0), (1, .fn 86 [.ref 1 0])], [aX 0 3 s, bX 1 27 [.own 2, .own 3], aX 2 3 c1.Sizes, tX 3 24 [some 3] v2 3 none], 48⟩) (fun v3 hr hm => ?_) ?_
 ·refine Ok_block (lp G hm (fun (v, v1) => ⟨[(0, .own 0), (1, .fn 86 [.ref 1 0]), (7, dV (s.length : Int)), (8, dV v)], [aX 0 3 s, bX 1 27 [.own 2, .own 3], aX 2 3 c1.Sizes, tX 3 24 [some 3] v1 3 none], 48⟩) ?_)
  rintro ⟨v, v1⟩ r0 hb hm
  rw [slices_IndexFunc_int_c_w__i_DepartureOrder_1_L1] at hm
  refine rg G (Ok_seq (cd hm (fun hm => ?_) (fun hm => ?_)))
  ·refine X_skip (thN (Ok_seq (Ok_block (rg G ?_))))
   obtain ⟨e, h, hm⟩ := obind hm
   obtain ⟨r, h1, hm⟩ := obind hm
   refine rs G (hD 3 h (hE 4 h (hC 5 (i_DepartureOrder_1_b_c h1) h0))) ?_
   refine cd hm (fun hm => ?_) (fun hm => ?_)
   ·refine rg G ?_
    have hm := eL hm hb hr
    cases hm
    exact rt [] []
   ·exact X_skip (ibN (thN (rh G (wL G hm))))
  ·exact Ok_exit (thE (thE (ibE (wE G hm hb))))
 rintro v2 hm s1 hw
 refine thN (Ok_weak hw ?_)
 refine rg G ?_
 cases hm
 exact rt [] []
noncomputable def slices_Delete_int_m_M : MS ((List Int) × Int × Int) ((List Int)) := ⟨.x (.m 3) (.x .r .r), fun x => slices_Delete_int_m x.1 x.2.1 x.2.2, fun _ => .own 0, fun y => [arO 3 y], fun _ _ => []⟩
theorem slices_Delete_int_m_c {s i j y} (hm : slices_Delete_int_m s i j = some y) : slices_Delete_int_m_M.C (s, i, j) y := slices_Delete_int_m_M.c (s, i, j) hm
def slices_Delete_int_m_R : Go.Shelf.Ren := ⟨fun x => x, fun x => bif Nat.beq x 24 then 24 else bif Nat.beq x 9 then 3 else bif Nat.beq x 3 then 3 else bif Nat.beq x 4 then 4 else x, fun x => x⟩
theorem slices_Delete_int_m_F : Try.f87 = { Go.Proofs.Body2.n24 slices_Delete_int_m_R with name := "slices.Delete[[]int,int]", targs := #[24, 3] } := by kernel_rfl
theorem slices_Delete_int_m_ok : FnOK Try.prog tJ 87 slices_Delete_int_m_M.S := delOK (α := Int) (x := tyE3) tt slices_Delete_int_m_R Try.call87 (Try.func87.trans (congrArg some slices_Delete_int_m_F)) (by kernel_rfl) (by kernel_rfl) (by kernel_rfl) (by kernel_rfl) (by kernel_rfl)
noncomputable def i_DepartureOrder_M : MS (Depot × (List Int)) ((List Int) × Bool × Bool) := ⟨.x .r .r, fun x => i_DepartureOrder x.1 x.2, fun y => .tup [dV y.1, dV y.2.1, dV y.2.2], fun _ => [], fun _ _ => []⟩
theorem i_DepartureOrder_c {d wanted y} (hm : i_DepartureOrder d wanted = some y) : i_DepartureOrder_M.C (d, wanted) y := i_DepartureOrder_M.c (d, wanted) hm
theorem i_DepartureOrder_ok : FnOK Try.prog tJ 19 i_DepartureOrder_M.S := by
 refine fm tt i_DepartureOrder_M [fo i_IsValidDepot_ok, fo i_placeIn_ok, fo i_copyDepot_ok, fo slices_Clone_int_ok, fo slices_IndexFunc_int_c_w__i_DepartureOrder_1_ok, fo slices_Delete_int_m_ok] Try.call19 Try.func19 rfl Try.results19 Try.ntmps19 ?_
 rintro ⟨d, wanted⟩ y cx G hm
 have hm : i_DepartureOrder d wanted = some y := hm
 unfold i_DepartureOrder at hm
 refine rg G (Ok_seq ?_)
 obtain ⟨r, h, hm⟩ := obind hm
 refine rs G (hC 1 (i_IsValidDepot_c h) h0) ?_
 refine cd hm (fun hm => ?_) (fun hm => ?_)
 ·refine rg G ?_
  cases hm
  exact rt [] [[.z 1]]
 ·refine X_skip (thN (Ok_seq (rs G (hN 1 wanted h0) ?_)))
  refine tF hm (fun _ => ⟨[(1, dV wanted), (2, .ref 16 0)], [bX 16 27 [dV d.Sizes, dV d.Tracks]], 48⟩) (fun v5 hr hm => ?_) ?_
  ·refine Ok_block (lp G hm (fun v => ⟨[(1, dV wanted), (2, .ref 16 0), (17, dV wanted), (18, dV (wanted.length : Int)), (19, dV v)], [bX 16 27 [dV d.Sizes, dV d.Tracks]], 48⟩) ?_)
   rintro v r0 hb hm
   rw [i_DepartureOrder_L1] at hm
   refine rg G (Ok_seq (cd hm (fun hm => ?_) (fun hm => ?_)))
   ·refine X_skip (thN (Ok_seq (Ok_block ?_)))
    obtain ⟨e, h1, hm⟩ := obind hm
    refine rs G (hD 1 h1 h0) ?_
    obtain ⟨r1, h2, hm⟩ := obind hm
    refine rs G (hC 3 (i_placeIn_c h2) h0) ?_
    refine jn hm (fun v1 => ⟨[(1, dV wanted), (2, .ref 16 0), (17, dV wanted), (18, dV (wanted.length : Int)), (19, dV v), (45, dV v1)], [bX 16 27 [dV d.Sizes, dV d.Tracks]], 48⟩) (fun v1 hm => ?_) ?_
    ·rcases bf hm with ⟨hb1, hm⟩ | ⟨hb1, hm⟩
     ·refine re G (hO 2 (.b true) (hP hb1 h0)) ?_
      exact wJ G hm
     ·rcases bf hm with ⟨hb2, hm⟩ | ⟨hb2, hm⟩
      ·obtain ⟨e1, h3, hm⟩ := obind hm
       refine re G (hO 2 (.b false) (hP hb1 (hO 5 (.b true) (hP hb2 (hD 9 h3 h0))))) ?_
       exact wJ G hm
      ·refine re G (hO 2 (.b false) (hP hb1 (hO 5 (.b false) (hP hb2 h0)))) ?_
       exact wJ G hm
    rintro v1 hm
    refine cd hm (fun hm => ?_) (fun hm => ?_)
    ·refine rg G ?_
     have hm := eL hm hb hr
     cases hm
     exact rt [] [[.z 1]]
    ·exact X_skip (ibN (thN (rh G (wL G hm))))
   ·exact Ok_exit (thE (thE (ibE (wE G hm hb))))
  rintro ⟨⟩ hm s hw
  refine thN (Ok_weak hw ?_)
  obtain ⟨r3, h4, hm⟩ := obind hm
  refine rs G (hC 1 (i_copyDepot_c h4) h0) ?_
  refine rg G (Ok_seq ?_)
  obtain ⟨r4, h5, hm⟩ := obind hm
  refine rs G (hC 1 (slices_Clone_int_c h5) h0) ?_
  refine tF hm (fun k1 => ⟨[(11, .own 16)], [aX 16 3 k1], 48⟩) (fun v4 hr1 hm => ?_) ?_
  ·refine Ok_block (lpP hm (fun (k, v2, v3) => ⟨[(2, .ref 16 0), (11, .own 32), (12, .own 48)], [bX 16 27 [.own 64, .own 80], aX 32 3 k, aX 48 3 v2, aX 64 3 r3.Sizes, tX 80 24 [some 3] v3 80 none], 112⟩) (Wk_J G.hL ⟨[(2, []), (11, [.o 32]), (12, [])], [(16, 16, []), (48, 128, []), (64, 64, []), (80, 65, [])], [(32, 3, 1, [])], 112⟩ (by kernel_rfl)) ?_)
   rintro ⟨k, v2, v3⟩ r0 hb3 hm
   rw [i_DepartureOrder_L2] at hm
   refine Ok_seq (rs G (hN 1 v2 h0) ?_)
   refine cd hm (fun hm => ?_) (fun hm => ?_)
   ·refine X_skip (thN (Ok_block ?_))
    obtain ⟨r5, h6, hm⟩ := obind hm
    refine rs G (hC 2 (slices_IndexFunc_int_c_w__i_DepartureOrder_1_c h6) h0) ?_
    refine Ok_seq (rg G (cd hm (fun hm => ?_) (fun hm => ?_)))
    ·refine rg G ?_
     have hm := eL hm hb3 hr1
     cases hm
     exact rt [] [[.z 1]]
    ·refine X_skip (thN ?_)
     obtain ⟨e4, h7, hm⟩ := obind hm
     obtain ⟨u, h8, hm⟩ := obind hm
     refine rs G (hD 3 h7 (hE 4 h7 (hA 6 8 h8 h0))) ?_
     obtain ⟨r7, h9, hm⟩ := obind hm
     refine re G (hC 4 (slices_Delete_int_m_c h9) h0) ?_
     exact ibN (wL G hm)
   ·exact Ok_exit (thE (thE (ibE (wE G hm hb3))))
  rintro k1 hm s1 hw1
  refine thN (Ok_weak hw1 ?_)
  refine rg G ?_
  cases hm
  exact rt [] []
noncomputable def s_l1Rising_M : MS ((List Int) × Int × Int) Bool := ⟨.x .r (.x .r .r), fun x => s_l1Rising x.1 x.2.1 x.2.2, fun y => dV y, fun _ => [], fun _ _ => []⟩
theorem s_l1Rising_c {l lo hi y} (hm : s_l1Rising l lo hi = some y) : s_l1Rising_M.C (l, lo, hi) y := s_l1Rising_M.c (l, lo, hi) hm
theorem s_l1Rising_ok : FnOK Try.prog tJ 88 s_l1Rising_M.S := by
 refine fm tt s_l1Rising_M [fo s_l1In_ok] Try.call88 Try.func88 rfl Try.results88 Try.ntmps88 ?_
 rintro ⟨l, lo, hi⟩ y cx G hm
 have hm : s_l1Rising l lo hi = some y := hm
 unfold s_l1Rising at hm
 refine rg G (Ok_seq (rg G (tF hm (fun _ => ⟨[], [], 32⟩) (fun v2 hr hm => ?_) ?_)))
 ·refine Ok_block (lp G hm (fun v => ⟨[(0, dV l), (1, dV lo), (2, dV hi), (7, dV v)], [], 32⟩) ?_)
  rintro v r0 hb hm
  rw [s_l1Rising_L1] at hm
  refine Ok_seq (rs G (hN 2 l h0) ?_)
  refine cd hm (fun hm => ?_) (fun hm => ?_)
  ·refine X_skip (thN (Ok_seq (Ok_block ?_)))
   obtain ⟨e3, h4, hm⟩ := obind hm
   obtain ⟨r1, h5, hm⟩ := obind hm
   refine jn hm (fun v1 => ⟨[(0, dV l), (1, dV lo), (2, dV hi), (7, dV v), (37, dV v1)], [], 32⟩) (fun v1 hm => ?_) ?_
   ·rcases bf hm with ⟨hb1, hm⟩ | ⟨hb1, hm⟩
    ·refine de G [] (hD 2 h4 (hC 6 (s_l1In_c h5) (hO 8 (.b true) (hP hb1 h0)))) ?_
     exact wJ G hm
    ·rcases bf hm with ⟨hb2, hm⟩ | ⟨hb2, hm⟩
     ·obtain ⟨e4, h6, hm⟩ := obind hm
      obtain ⟨e5, h7, hm⟩ := obind hm
      refine de G [] (hD 2 h4 (hC 6 (s_l1In_c h5) (hO 8 (.b false) (hP hb1 (hO 11 (.b true) (hP hb2 (hD 15 h6 (hD 19 h7 h0)))))))) ?_
      exact wJ G hm
     ·refine de G [] (hD 2 h4 (hC 6 (s_l1In_c h5) (hO 8 (.b false) (hP hb1 (hO 11 (.b false) (hP hb2 h0)))))) ?_
      exact wJ G hm
   rintro v1 hm
   refine cd hm (fun hm => ?_) (fun hm => ?_)
   ·refine rg G ?_
    have hm := eL hm hb hr
    cases hm
    exact rt [] []
   ·exact X_skip (ibN (thN (rh G (wL G hm))))
  ·exact Ok_exit (thE (thE (ibE (wE G hm hb))))
 rintro ⟨⟩ hm s hw
 refine thN (Ok_weak hw ?_)
 refine rg G ?_
 cases hm
 exact rt [] []
noncomputable def s_l15Order_m_MR (rec_ : Depot → (List Int) → (List Int) → Option ((List Int) × Bool)) : MS (Depot × (List Int) × (List Int)) ((List Int) × Bool) := ⟨.x .r (.x .r (.m 3)), fun x => rec_ x.1 x.2.1 x.2.2, fun y => .tup [.own 0, dV y.2], fun y => [arO 3 y.1], fun _ _ => []⟩
noncomputable def s_l15Order_m_M : MS (Depot × (List Int) × (List Int)) ((List Int) × Bool) := s_l15Order_m_MR s_l15Order_m
theorem s_l15Order_m_c {d wanted order y} (hm : s_l15Order_m d wanted order = some y) : s_l15Order_m_M.C (d, wanted, order) y := s_l15Order_m_M.c (d, wanted, order) hm
theorem s_l15Order_m_cR {rec_ : Depot → (List Int) → (List Int) → Option ((List Int) × Bool)} {d wanted order y} (hm : rec_ d wanted order = some y) : (s_l15Order_m_MR rec_).C (d, wanted, order) y := (s_l15Order_m_MR rec_).c (d, wanted, order) hm
theorem s_l15Order_m_okF {rec_ : Depot → (List Int) → (List Int) → Option ((List Int) × Bool)} (hrec : FnOK Try.prog tJ 89 (s_l15Order_m_MR rec_).S) : FnOK Try.prog tJ 89 (s_l15Order_m_MR (s_l15Order_m_F rec_)).S := by
 refine fm tt (s_l15Order_m_MR (s_l15Order_m_F rec_)) [fo hrec, fo s_l15Take_ok, fo s_l1Own_ok] Try.call89 Try.func89 rfl Try.results89 Try.ntmps89 ?_
 rintro ⟨d, wanted, order⟩ y cx G hm
 have hm : s_l15Order_m_F rec_ d wanted order = some y := hm
 unfold s_l15Order_m_F at hm
 refine rg G (Ok_seq (rs G (hN 1 order (hN 3 wanted h0)) ?_))
 refine cd hm (fun hm => ?_) (fun hm => ?_)
 ·refine rg G ?_
  cases hm
  exact rt [0] []
 ·refine X_skip (thN (Ok_seq (rg G (tF hm (fun _ => ⟨[], [], 32⟩) (fun v hr hm => ?_) ?_))))
  ·refine Ok_block (lp G hm (fun out => ⟨[(1, dV wanted), (2, .own 16), (3, .ref 32 0), (8, dV out)], [aX 16 3 order, bX 32 27 [dV d.Sizes, dV d.Tracks]], 64⟩) ?_)
   rintro out r0 hb hm
   rw [s_l15Order_m_L1] at hm
   refine Ok_seq (rs G (hN 2 wanted h0) ?_)
   refine cd hm (fun hm => ?_) (fun hm => ?_)
   ·refine X_skip (thN (Ok_seq (Ok_block ?_)))
    obtain ⟨e1, h2, hm⟩ := obind hm
    obtain ⟨r1, h3, hm⟩ := obind hm
    refine ds G [(10, [272])] (hD 3 h2 (hC 5 (s_l15Take_c h3) h0)) ?_
    refine Ok_seq (rg G (cd hm (fun hm => ?_) (fun hm => ?_)))
    ·exact Ok_exit (thE (ibE (thN (rh G (wL G hm)))))
    ·refine X_skip (thN (Ok_seq ?_))
     obtain ⟨r4, h8, hm⟩ := obind hm
     obtain ⟨e3, h9, hm⟩ := obind hm
     obtain ⟨u1, h10, hm⟩ := obind hm
     obtain ⟨r5, h11, hm⟩ := obind hm
     refine ds G [(9, [400, 480]), (10, [496])] (hF 3 (s_l1Own_c h8) ⟨(flat_cons flat_arr flat_nil), flat_nil⟩ (hD 6 h9 (hA 9 8 h10 (hC 10 (s_l15Order_m_cR h11) h0)))) ?_
     refine rg G (cd hm (fun hm => ?_) (fun hm => ?_))
     ·refine rg G ?_
      have hm := eL hm hb hr
      cases hm
      exact rt [512] []
     ·refine X_skip (thN (rg G ?_))
      have hm := eL hm hb hr
      cases hm
      exact rt [624] []
   ·exact Ok_exit (thE (thE (ibE (wE G hm hb))))
  rintro ⟨⟩ hm s hw
  refine thN (Ok_weak hw ?_)
  refine rg G ?_
  cases hm
  exact rt [32] []
theorem s_l15Order_m_okn : ∀ k, FnOK Try.prog tJ 89 (s_l15Order_m_MR (s_l15Order_m_k k)).S
 | 0 => ⟨fun args w => Try.call89 args w, fun vs w F ds obs κ hp => by obtain ⟨x, y, _, _, h⟩ := hp; cases h⟩
 | k + 1 => s_l15Order_m_okF (s_l15Order_m_okn k)
theorem s_l15Order_m_ok : FnOK Try.prog tJ 89 s_l15Order_m_M.S := s_l15Order_m_okn 4294967296
noncomputable def s_l15Order_M : MS (Depot × (List Int) × (List Int)) ((List Int) × Bool) := ⟨.x .r (.x .r .r), fun x => s_l15Order x.1 x.2.1 x.2.2, fun y => .tup [dV y.1, dV y.2], fun _ => [], fun _ _ => []⟩
theorem s_l15Order_c {d wanted order y} (hm : s_l15Order d wanted order = some y) : s_l15Order_M.C (d, wanted, order) y := s_l15Order_M.c (d, wanted, order) hm
theorem s_l15Order_ok : FnOK Try.prog tJ 89 s_l15Order_M.S := by
 refine fm tt s_l15Order_M [fo s_l15Take_ok, fo s_l1Own_ok, fo s_l15Order_m_ok] Try.call89 Try.func89 rfl Try.results89 Try.ntmps89 ?_
 rintro ⟨d, wanted, order⟩ y cx G hm
 have hm : s_l15Order d wanted order = some y := hm
 unfold s_l15Order at hm
 refine rg G (Ok_seq (rs G (hN 1 order (hN 3 wanted h0)) ?_))
 refine cd hm (fun hm => ?_) (fun hm => ?_)
 ·refine rg G ?_
  cases hm
  exact rt [] []
 ·refine X_skip (thN (Ok_seq (rg G (tF hm (fun _ => ⟨[], [], 32⟩) (fun v hr hm => ?_) ?_))))
  ·refine Ok_block (lp G hm (fun out => ⟨[(1, dV wanted), (2, dV order), (3, .ref 16 0), (8, dV out)], [bX 16 27 [dV d.Sizes, dV d.Tracks]], 48⟩) ?_)
   rintro out r0 hb hm
   rw [s_l15Order_L1] at hm
   refine Ok_seq (rs G (hN 2 wanted h0) ?_)
   refine cd hm (fun hm => ?_) (fun hm => ?_)
   ·refine X_skip (thN (Ok_seq (Ok_block ?_)))
    obtain ⟨e1, h2, hm⟩ := obind hm
    obtain ⟨r1, h3, hm⟩ := obind hm
    refine ds G [(10, [256])] (hD 3 h2 (hC 5 (s_l15Take_c h3) h0)) ?_
    refine Ok_seq (rg G (cd hm (fun hm => ?_) (fun hm => ?_)))
    ·exact Ok_exit (thE (ibE (thN (rh G (wL G hm)))))
    ·refine X_skip (thN (Ok_seq ?_))
     obtain ⟨r4, h8, hm⟩ := obind hm
     obtain ⟨e3, h9, hm⟩ := obind hm
     obtain ⟨u1, h10, hm⟩ := obind hm
     obtain ⟨r5, h11, hm⟩ := obind hm
     refine ds G [(9, [384, 464]), (10, [480])] (hC 3 (s_l1Own_c h8) (hD 6 h9 (hA 9 8 h10 (hC 10 (s_l15Order_m_c h11) h0)))) ?_
     refine rg G (cd hm (fun hm => ?_) (fun hm => ?_))
     ·refine rg G ?_
      have hm := eL hm hb hr
      cases hm
      exact rt [] []
     ·refine X_skip (thN (rg G ?_))
      have hm := eL hm hb hr
      cases hm
      exact rt [] []
   ·exact Ok_exit (thE (thE (ibE (wE G hm hb))))
  rintro ⟨⟩ hm s hw
  refine thN (Ok_weak hw ?_)
  refine rg G ?_
  cases hm
  exact rt [] []
noncomputable def s_DepartureOrder_M : MS (Depot × (List Int)) ((List Int) × Bool × Bool) := ⟨.x .r .r, fun x => s_DepartureOrder x.1 x.2, fun y => .tup [dV y.1, dV y.2.1, dV y.2.2], fun _ => [], fun _ _ => []⟩
theorem s_DepartureOrder_c {d wanted y} (hm : s_DepartureOrder d wanted = some y) : s_DepartureOrder_M.C (d, wanted) y := s_DepartureOrder_M.c (d, wanted) hm
theorem s_DepartureOrder_ok : FnOK Try.prog tJ 20 s_DepartureOrder_M.S := by
 refine fm tt s_DepartureOrder_M [fo s_l15Good_ok, fo s_l1Rising_ok, fo s_l15Track_ok, fo s_l15Order_ok] Try.call20 Try.func20 rfl Try.results20 Try.ntmps20 ?_
 rintro ⟨d, wanted⟩ y cx G hm
 have hm : s_DepartureOrder d wanted = some y := hm
 unfold s_DepartureOrder at hm
 refine rg G (Ok_seq ?_)
 obtain ⟨r, h, hm⟩ := obind hm
 refine jn hm (fun v => ⟨[(1, dV wanted), (2, .ref 16 0), (19, dV v)], [bX 16 27 [dV d.Sizes, dV d.Tracks]], 48⟩) (fun v hm => ?_) ?_
 ·rcases bf hm with ⟨hb, hm⟩ | ⟨hb, hm⟩
  ·refine re G (hC 1 (s_l15Good_c h) (hO 3 (.b true) (hP hb h0))) ?_
   exact wJ G hm
  ·obtain ⟨r1, h1, hm⟩ := obind hm
   refine re G (hC 1 (s_l15Good_c h) (hO 3 (.b false) (hP hb (hC 5 (s_l1Rising_c h1) h0)))) ?_
   exact wJ G hm
 rintro v hm
 refine cd hm (fun hm => ?_) (fun hm => ?_)
 ·refine rg G ?_
  cases hm
  exact rt [] []
 ·refine X_skip (thN (Ok_seq (rg G (tF hm (fun _ => ⟨[(1, dV wanted), (2, .ref 16 0)], [bX 16 27 [dV d.Sizes, dV d.Tracks]], 48⟩) (fun v2 hr hm => ?_) ?_))))
  ·refine Ok_block (lp G hm (fun v1 => ⟨[(1, dV wanted), (2, .ref 16 0), (7, dV v1)], [bX 16 27 [dV d.Sizes, dV d.Tracks]], 48⟩) ?_)
   rintro v1 r0 hb1 hm
   rw [s_DepartureOrder_L1] at hm
   refine Ok_seq (rs G (hN 2 wanted h0) ?_)
   refine cd hm (fun hm => ?_) (fun hm => ?_)
   ·refine X_skip (thN (Ok_seq (Ok_block ?_)))
    obtain ⟨e1, h4, hm⟩ := obind hm
    obtain ⟨r3, h5, hm⟩ := obind hm
    refine ds G [] (hD 3 h4 (hC 5 (s_l15Track_c h5) h0)) ?_
    refine rg G (cd hm (fun hm => ?_) (fun hm => ?_))
    ·refine rg G ?_
     have hm := eL hm hb1 hr
     cases hm
     exact rt [] []
    ·exact X_skip (ibN (thN (rh G (wL G hm))))
   ·exact Ok_exit (thE (thE (ibE (wE G hm hb1))))
  rintro ⟨⟩ hm s hw
  refine thN (Ok_weak hw ?_)
  obtain ⟨r5, h6, hm⟩ := obind hm
  refine rs G (hO 3 (.fz [80] [] []) (hC 3 (s_l15Order_c h6) h0)) ?_
  refine rg G ?_
  cases hm
  exact rt [] []
noncomputable def i_TakeVehicle_M : MS (Depot × Int) (Depot × Bool) := ⟨.x .r .r, fun x => i_TakeVehicle x.1 x.2, fun y => .tup [dV y.1, dV y.2], fun _ => [], fun _ _ => []⟩
theorem i_TakeVehicle_c {d vehicle y} (hm : i_TakeVehicle d vehicle = some y) : i_TakeVehicle_M.C (d, vehicle) y := i_TakeVehicle_M.c (d, vehicle) hm
theorem i_TakeVehicle_ok : FnOK Try.prog tJ 21 i_TakeVehicle_M.S := by
 refine fm tt i_TakeVehicle_M [fo i_IsValidDepot_ok, fo i_copyDepot_ok, fo i_take_a_ok] Try.call21 Try.func21 rfl Try.results21 Try.ntmps21 ?_
 rintro ⟨d, vehicle⟩ y cx G hm
 have hm : i_TakeVehicle d vehicle = some y := hm
 unfold i_TakeVehicle at hm
 refine rg G (Ok_seq ?_)
 obtain ⟨r, h, hm⟩ := obind hm
 refine rs G (hC 1 (i_IsValidDepot_c h) h0) ?_
 refine cd hm (fun hm => ?_) (fun hm => ?_)
 ·refine rg G ?_
  cases hm
  exact rt [] [[.z 1, .z 1]]
 ·refine X_skip (thN ?_)
  obtain ⟨r1, h1, hm⟩ := obind hm
  refine rs G (hC 1 (i_copyDepot_c h1) h0) ?_
  refine Ok_seq ?_
  obtain ⟨r2, h2, hm⟩ := obind hm
  refine rs G (hC 2 (i_take_a_c h2) h0) ?_
  refine cd hm (fun hm => ?_) (fun hm => ?_)
  ·refine rg G ?_
   cases hm
   exact rt [] [[.z 1, .z 1]]
  ·refine X_skip (thN (rg G ?_))
   cases hm
   exact rt [] []
noncomputable def s_DrawRunMoves_M : MS ((List UInt8)) (Depot × (List Move) × (List Int)) := ⟨.r, s_DrawRunMoves, fun y => .tup [dV y.1, dV y.2.1, dV y.2.2], fun _ => [], fun _ _ => []⟩
theorem s_DrawRunMoves_c {code y} (hm : s_DrawRunMoves code = some y) : s_DrawRunMoves_M.C code y := s_DrawRunMoves_M.c code hm
theorem s_DrawRunMoves_ok : FnOK Try.prog tJ 22 s_DrawRunMoves_M.S := by
 refine fm tt s_DrawRunMoves_M [fo s_l1Cur_depot_ok, fo s_l1Cur_moves15_ok, fo s_AssignTracks_ok, fo s_l1Cur_one_ok, fo s_l1Cur_pick_ok] Try.call22 Try.func22 rfl Try.results22 Try.ntmps22 ?_
 rintro code y cx G hm
 have hm : s_DrawRunMoves code = some y := hm
 unfold s_DrawRunMoves at hm
 refine rg G (rg G ?_)
 obtain ⟨r, h, hm⟩ := obind hm
 refine rs G (hC 1 (s_l1Cur_depot_c h) h0) ?_
 obtain ⟨r1, h1, hm⟩ := obind hm
 refine rs G (hO 2 (.fz [144, 145] [] []) (hC 2 (s_l1Cur_moves15_c h1) h0)) ?_
 obtain ⟨r2, h2, hm⟩ := obind hm
 refine rs G (hO 2 (.fz [224] [] []) (hC 2 (s_AssignTracks_c h2) h0)) ?_
 refine jn hm (fun v => ⟨[(2, .ref 16 0), (6, .ref 32 0), (7, dV r1.1), (8, dV v)], [bX 16 27 [.dat (.sc (.slice none 0 0)), .dat (.sc (.slice none 0 0))], bX 32 27 [dV r.1.Sizes, dV r.1.Tracks]], 64⟩) (fun v hm => ?_) ?_
 ·obtain ⟨r3, h3, hm⟩ := obind hm
  refine rs G (hC 1 (s_l1Cur_one_c h3) h0) ?_
  refine cd hm (fun hm => ?_) (fun hm => ?_)
  ·refine rg G ?_
   obtain ⟨r4, h4, hm⟩ := obind hm
   refine rs G (hC 1 (s_l1Cur_pick_c h4) h0) ?_
   refine tl hm (fun v6 => ⟨[(2, .ref 16 0), (6, .ref 32 0), (7, dV r1.1), (8, .own 48)], [bX 16 27 [.dat (.sc (.slice none 0 0)), .dat (.sc (.slice none 0 0))], bX 32 27 [dV r.1.Sizes, dV r.1.Tracks], aX 48 3 v6], 80⟩) (fun v6 hm => ?_) ?_
   ·refine Ok_block (lp G hm (fun (v1, v2, v3, v4, v5) => ⟨[(2, .ref 16 0), (5, .ref 32 0), (6, .ref 48 0), (7, dV r1.1), (8, .own 64), (11, dV v1)], [bX 16 27 [.dat (.sc (.slice none 0 0)), .dat (.sc (.slice none 0 0))], bX 32 118 [dV v2, dV v3, kV .u64 v4], bX 48 27 [dV r.1.Sizes, dV r.1.Tracks], aX 64 3 v5], 96⟩) ?_)
    rintro ⟨v1, v2, v3, v4, v5⟩ r0 hb hm
    rw [s_DrawRunMoves_L1] at hm
    refine Ok_seq (rg G (cd hm (fun hm => ?_) (fun hm => ?_)))
    ·refine X_skip (thN (Ok_seq (Ok_block ?_)))
     obtain ⟨r5, h5, hm⟩ := obind hm
     obtain ⟨u, h6, hm⟩ := obind hm
     refine re G (hC 2 (s_l1Cur_pick_c h5) (hA 4 8 h6 h0)) ?_
     exact ibN (thN (rh G (wL G hm)))
    ·exact Ok_exit (thE (thE (ibE (wD G hm hb))))
   rintro v6 hm s hw
   exact wJp hm (Wk.trans hw (Wk_J G.hL ⟨[(2, []), (6, []), (7, []), (8, [])], [(16, 16, []), (32, 32, [])], [], 64⟩ (by kernel_rfl)))
  ·exact X_skip (wJ G hm)
 rintro v hm
 refine rg G ?_
 cases hm
 exact rt [] []
noncomputable def s_l15Run_M : MS (Depot × (List Move) × (List Int)) (Depot × Int) := ⟨.x .r (.x .r .r), fun x => s_l15Run x.1 x.2.1 x.2.2, fun y => .tup [dV y.1, dV y.2], fun _ => [], fun _ _ => []⟩
theorem s_l15Run_c {d list tracks y} (hm : s_l15Run d list tracks = some y) : s_l15Run_M.C (d, list, tracks) y := s_l15Run_M.c (d, list, tracks) hm
theorem s_l15Run_ok : FnOK Try.prog tJ 90 s_l15Run_M.S := by
 refine fm tt s_l15Run_M [fo s_l15Own_ok, fo s_l15Take_ok, fo s_l15Park_ok] Try.call90 Try.func90 rfl Try.results90 Try.ntmps90 ?_
 rintro ⟨d, list, tracks⟩ y cx G hm
 have hm : s_l15Run d list tracks = some y := hm
 unfold s_l15Run at hm
 refine rg G ?_
 obtain ⟨r, h, hm⟩ := obind hm
 refine rs G (hC 1 (s_l15Own_c h) h0) ?_
 refine rg G (Ok_seq (rg G (tF hm (fun (v6, v7) => ⟨[(1, dV list), (6, .ref 16 0), (8, .ref 32 0)], [bX 16 27 [.dat (.sc (.slice none 0 0)), .dat (.sc (.slice none 0 0))], bX 32 27 [dV v6, dV v7]], 64⟩) (fun v8 hr hm => ?_) ?_)))
 ·refine Ok_block (lp G hm (fun (ok, v, v1, v2) => ⟨[(1, dV list), (2, dV tracks), (6, .ref 16 0), (8, .ref 32 0), (9, dV ok), (10, dV v)], [bX 16 27 [.dat (.sc (.slice none 0 0)), .dat (.sc (.slice none 0 0))], bX 32 27 [dV v1, dV v2]], 64⟩) ?_)
  rintro ⟨ok, v, v1, v2⟩ r0 hb hm
  rw [s_l15Run_L1] at hm
  refine Ok_seq (rs G (hN 2 list h0) ?_)
  refine cd hm (fun hm => ?_) (fun hm => ?_)
  ·refine X_skip (thN (Ok_seq (Ok_block (rg G (jn hm (fun (ok1, v3, v4, v5) => ⟨[(1, dV list), (2, dV tracks), (6, .ref 16 0), (8, .ref 32 0), (9, dV ok1), (10, dV v), (11, .ref 48 0), (12, dV v3)], [bX 16 27 [.dat (.sc (.slice none 0 0)), .dat (.sc (.slice none 0 0))], bX 32 27 [dV v1, dV v2], bX 48 27 [dV v4, dV v5]], 80⟩) (fun vv hm => ?_) ?_)))))
   ·obtain ⟨e, h1, hm⟩ := obind hm
    refine rs G (hD 2 h1 h0) ?_
    refine cd hm (fun hm => ?_) (fun hm => ?_)
    ·obtain ⟨e2, h4, hm⟩ := obind hm
     obtain ⟨r2, h5, hm⟩ := obind hm
     refine de G [(10, [144])] (hD 3 h4 (hC 6 (s_l15Take_c h5) h0)) ?_
     exact wJ G hm
    ·refine rs G (hN 2 tracks h0) ?_
     refine cd hm (fun hm => ?_) (fun hm => ?_)
     ·obtain ⟨e5, h9, hm⟩ := obind hm
      obtain ⟨e6, h10, hm⟩ := obind hm
      obtain ⟨r4, h11, hm⟩ := obind hm
      refine ds G [(14, [144])] (hD 3 h9 (hD 8 h10 (hC 10 (s_l15Park_c h11) h0))) ?_
      exact rh G (wJ G hm)
     ·exact X_skip (wJ G hm)
   rintro ⟨ok1, v3, v4, v5⟩ hm
   refine Ok_seq (rg G (cd hm (fun hm => ?_) (fun hm => ?_)))
   ·refine rg G ?_
    have hm := eL hm hb hr
    cases hm
    exact rt [] []
   ·exact X_skip (thN (rh G (ibN (thN (rh G (wL G hm))))))
  ·exact Ok_exit (thE (thE (ibE (wE G hm hb))))
 rintro ⟨v6, v7⟩ hm s hw
 refine thN (Ok_weak hw ?_)
 refine rs G (hN 2 list h0) ?_
 cases hm
 exact rt [] []
noncomputable def s_RunMoves_M : MS (Depot × (List Move) × (List Int)) (Depot × Int × Bool) := ⟨.x .r (.x .r .r), fun x => s_RunMoves x.1 x.2.1 x.2.2, fun y => .tup [dV y.1, dV y.2.1, dV y.2.2], fun _ => [], fun _ _ => []⟩
theorem s_RunMoves_c {d list tracks y} (hm : s_RunMoves d list tracks = some y) : s_RunMoves_M.C (d, list, tracks) y := s_RunMoves_M.c (d, list, tracks) hm
theorem s_RunMoves_ok : FnOK Try.prog tJ 23 s_RunMoves_M.S := by
 refine fm tt s_RunMoves_M [fo s_l15Good_ok, fo s_l15Run_ok] Try.call23 Try.func23 rfl Try.results23 Try.ntmps23 ?_
 rintro ⟨d, list, tracks⟩ y cx G hm
 have hm : s_RunMoves d list tracks = some y := hm
 unfold s_RunMoves at hm
 refine rg G (Ok_seq ?_)
 obtain ⟨r, h, hm⟩ := obind hm
 refine jn hm (fun v => ⟨[(1, dV list), (2, dV tracks), (3, .ref 16 0), (6, .ref 32 0), (18, dV v)], [bX 16 27 [dV d.Sizes, dV d.Tracks], bX 32 27 [.dat (.sc (.slice none 0 0)), .dat (.sc (.slice none 0 0))]], 64⟩) (fun v hm => ?_) ?_
 ·rcases bf hm with ⟨hb, hm⟩ | ⟨hb, hm⟩
  ·refine re G (hC 1 (s_l15Good_c h) (hO 3 (.b true) (hP hb h0))) ?_
   exact wJ G hm
  ·refine re G (hC 1 (s_l15Good_c h) (hO 3 (.b false) (hP hb (hN 5 list h0)))) ?_
   exact wJ G hm
 rintro v hm
 refine cd hm (fun hm => ?_) (fun hm => ?_)
 ·refine rg G ?_
  cases hm
  exact rt [] [[.z 1, .z 1]]
 ·refine X_skip (thN ?_)
  obtain ⟨r1, h1, hm⟩ := obind hm
  refine rs G (hC 3 (s_l15Run_c h1) h0) ?_
  refine rg G ?_
  cases hm
  exact rt [] []
noncomputable def v_rTable_M : MS ((List (List Int)) × (List (List Int))) Bool := ⟨.x .r .r, fun x => v_rTable x.1 x.2, fun y => dV y, fun _ => [], fun _ _ => []⟩
theorem v_rTable_c {a b y} (hm : v_rTable a b = some y) : v_rTable_M.C (a, b) y := v_rTable_M.c (a, b) hm
theorem v_rTable_ok : FnOK Try.prog tJ 91 v_rTable_M.S := by
 refine fm tt v_rTable_M [fo v_rInts_ok] Try.call91 Try.func91 rfl Try.results91 Try.ntmps91 ?_
 rintro ⟨a, b⟩ y cx G hm
 have hm : v_rTable a b = some y := hm
 unfold v_rTable at hm
 refine rg G (Ok_seq (rs G (hN 1 a (hN 3 b h0)) ?_))
 refine cd hm (fun hm => ?_) (fun hm => ?_)
 ·refine rg G ?_
  cases hm
  exact rt [] []
 ·refine X_skip (thN (Ok_seq (rg G (tF hm (fun _ => ⟨[], [], 32⟩) (fun v1 hr hm => ?_) ?_))))
  ·refine Ok_block (lp G hm (fun v => ⟨[(0, dV a), (1, dV b), (5, dV v)], [], 32⟩) ?_)
   rintro v r0 hb hm
   rw [v_rTable_L1] at hm
   refine Ok_seq (rs G (hN 2 a h0) ?_)
   refine cd hm (fun hm => ?_) (fun hm => ?_)
   ·refine X_skip (thN (Ok_seq (Ok_block ?_)))
    obtain ⟨e2, h3, hm⟩ := obind hm
    obtain ⟨e3, h4, hm⟩ := obind hm
    obtain ⟨r1, h5, hm⟩ := obind hm
    refine ds G [] (hD 2 h3 (hD 6 h4 (hC 8 (v_rInts_c h5) h0))) ?_
    refine cd hm (fun hm => ?_) (fun hm => ?_)
    ·refine rg G ?_
     have hm := eL hm hb hr
     cases hm
     exact rt [] []
    ·exact X_skip (ibN (thN (rh G (wL G hm))))
   ·exact Ok_exit (thE (thE (ibE (wE G hm hb))))
  rintro ⟨⟩ hm s hw
  refine thN (Ok_weak hw ?_)
  refine rg G ?_
  cases hm
  exact rt [] []
noncomputable def v_rDepots_M : MS (Depot × Depot) Bool := ⟨.x .r .r, fun x => v_rDepots x.1 x.2, fun y => dV y, fun _ => [], fun _ _ => []⟩
theorem v_rDepots_c {a b y} (hm : v_rDepots a b = some y) : v_rDepots_M.C (a, b) y := v_rDepots_M.c (a, b) hm
theorem v_rDepots_ok : FnOK Try.prog tJ 24 v_rDepots_M.S := by
 refine fm tt v_rDepots_M [fo v_rInts_ok, fo v_rTable_ok] Try.call24 Try.func24 rfl Try.results24 Try.ntmps24 ?_
 rintro ⟨a, b⟩ y cx G hm
 have hm : v_rDepots a b = some y := hm
 unfold v_rDepots at hm
 refine rg G ?_
 obtain ⟨r, h, hm⟩ := obind hm
 refine jn hm (fun v => ⟨[(4, dV v)], [], 32⟩) (fun v hm => ?_) ?_
 ·rcases bf hm with ⟨hb, hm⟩ | ⟨hb, hm⟩
  ·obtain ⟨r1, h1, hm⟩ := obind hm
   refine re G (hC 4 (v_rInts_c h) (hO 5 (.b true) (hP hb (hC 10 (v_rTable_c h1) h0)))) ?_
   exact wJ G hm
  ·refine re G (hC 4 (v_rInts_c h) (hO 5 (.b false) (hP hb h0))) ?_
   exact wJ G hm
 rintro v hm
 cases hm
 exact rt [] []
noncomputable def v_FnTracks_M : MS ((List UInt8)) Bool := ⟨.r, v_FnTracks, fun y => dV y, fun _ => [], fun _ _ => []⟩
theorem v_FnTracks_c {code y} (hm : v_FnTracks code = some y) : v_FnTracks_M.C code y := v_FnTracks_M.c code hm
theorem v_FnTracks_ok : FnOK Try.prog tJ 3 v_FnTracks_M.S := by
 refine fm tt v_FnTracks_M [fo v_rBig_ok, fo s_DrawAssignTracks_ok, fo i_AssignTracks_ok, fo s_AssignTracks_ok, fo v_rInts_ok, fo i_RunMoves_ok, fo s_DrawShuntingMoves_ok, fo i_ShuntingMoves_ok, fo s_ShuntingMoves_ok, fo i_BlockersOf_ok, fo s_DrawDepartureOrder_ok, fo i_DepartureOrder_ok, fo s_DepartureOrder_ok, fo i_TakeVehicle_ok, fo s_DrawRunMoves_ok, fo s_RunMoves_ok, fo v_rDepots_ok] Try.call3 Try.func3 rfl Try.results3 Try.ntmps3 ?_
 rintro code y cx G hm
 have hm : v_FnTracks code = some y := hm
 unfold v_FnTracks at hm
 refine rg G (Ok_seq ?_)
 obtain ⟨r, h, hm⟩ := obind hm
 refine rs G (hC 1 (v_rBig_c h) h0) ?_
 refine cd hm (fun hm => ?_) (fun hm => ?_)
 ·refine rg G ?_
  cases hm
  exact rt [] []
 ·refine X_skip (thN ?_)
  obtain ⟨r1, h1, hm⟩ := obind hm
  refine rs G (hC 1 (s_DrawAssignTracks_c h1) h0) ?_
  obtain ⟨r2, h2, hm⟩ := obind hm
  refine rs G (hO 2 (.fz [80] [] []) (hC 2 (i_AssignTracks_c h2) h0)) ?_
  obtain ⟨r3, h3, hm⟩ := obind hm
  refine rs G (hC 2 (s_AssignTracks_c h3) h0) ?_
  refine Ok_seq (jn hm (fun v => ⟨[(0, dV code), (3, .ref 16 0), (4, dV r1.2), (5, dV r2.1), (6, dV r2.2.1), (82, dV v)], [bX 16 27 [dV r1.1.Sizes, dV r1.1.Tracks]], 48⟩) (fun v hm => ?_) ?_)
  ·rcases bf hm with ⟨hb, hm⟩ | ⟨hb, hm⟩
   ·refine re G (hO 3 (.b true) (hP hb h0)) ?_
    exact wJ G hm
   ·rcases bf hm with ⟨hb1, hm⟩ | ⟨hb1, hm⟩
    ·refine re G (hO 3 (.b false) (hP hb (hO 8 (.b true) (hP hb1 h0)))) ?_
     exact wJ G hm
    ·obtain ⟨r4, h4, hm⟩ := obind hm
     refine re G (hO 3 (.b false) (hP hb (hO 8 (.b false) (hP hb1 (hC 11 (v_rInts_c h4) h0))))) ?_
     exact wJ G hm
  rintro v hm
  refine cd hm (fun hm => ?_) (fun hm => ?_)
  ·refine rg G ?_
   cases hm
   exact rt [] []
  ·refine X_skip (thN (jF hm (fun _ => ⟨[(0, dV code)], [], 32⟩) (fun v11 hr hm => ?_) ?_))
   ·refine rg G (cd hm (fun hm => ?_) (fun hm => ?_))
    ·obtain ⟨r5, h5, hm⟩ := obind hm
     refine rs G (hC 3 (i_RunMoves_c h5) h0) ?_
     refine jn hm (fun v1 => ⟨[(0, dV code), (99, dV v1)], [], 32⟩) (fun v1 hm => ?_) ?_
     ·rcases bf hm with ⟨hb2, hm⟩ | ⟨hb2, hm⟩
      ·refine re G (hO 2 (.b true) (hP hb2 h0)) ?_
       exact wJ G hm
      ·refine re G (hO 2 (.b false) (hP hb2 (hN 5 r1.2 h0))) ?_
       exact wJ G hm
     rintro v1 hm
     refine cd hm (fun hm => ?_) (fun hm => ?_)
     ·refine rg G ?_
      have hm := eR hm hr
      cases hm
      exact rt [] []
     ·exact X_skip (wF G hm)
    ·exact X_skip (wF G hm)
   rintro ⟨⟩ hm
   obtain ⟨r7, h6, hm⟩ := obind hm
   refine rs G (hC 1 (s_DrawShuntingMoves_c h6) h0) ?_
   obtain ⟨r8, h7, hm⟩ := obind hm
   refine rs G (hC 2 (i_ShuntingMoves_c h7) h0) ?_
   obtain ⟨r9, h8, hm⟩ := obind hm
   refine rs G (hC 2 (s_ShuntingMoves_c h8) h0) ?_
   refine Ok_seq (jn hm (fun v2 => ⟨[(0, dV code), (14, .ref 16 0), (15, dV r7.2), (16, dV r8.1), (17, dV r8.2.1), (18, dV r8.2.2), (134, dV v2)], [bX 16 27 [dV r7.1.Sizes, dV r7.1.Tracks]], 48⟩) (fun v2 hm => ?_) ?_)
   ·rcases bf hm with ⟨hb3, hm⟩ | ⟨hb3, hm⟩
    ·refine re G (hO 3 (.b true) (hP hb3 h0)) ?_
     exact wJ G hm
    ·rcases bf hm with ⟨hb4, hm⟩ | ⟨hb4, hm⟩
     ·refine re G (hO 3 (.b false) (hP hb3 (hN 5 r8.1 (hN 7 r9.1 (hO 10 (.b true) (hP hb4 h0)))))) ?_
      exact wJ G hm
     ·obtain ⟨r10, h9, hm⟩ := obind hm
      refine re G (hO 3 (.b false) (hP hb3 (hN 5 r8.1 (hN 7 r9.1 (hO 10 (.b false) (hP hb4 (hC 13 (v_rInts_c h9) h0))))))) ?_
      exact wJ G hm
   rintro v2 hm
   refine cd hm (fun hm => ?_) (fun hm => ?_)
   ·refine rg G ?_
    cases hm
    exact rt [] []
   ·refine X_skip (thN (jF hm (fun _ => ⟨[(0, dV code)], [], 32⟩) (fun v10 hr1 hm => ?_) ?_))
    ·refine jn hm (fun v3 => ⟨[(0, dV code), (14, .ref 16 0), (15, dV r7.2), (16, dV r8.1), (17, dV r8.2.1), (140, dV v3)], [bX 16 27 [dV r7.1.Sizes, dV r7.1.Tracks]], 48⟩) (fun v3 hm => ?_) ?_
     ·rcases bf hm with ⟨hb5, hm⟩ | ⟨hb5, hm⟩
      ·refine re G (hO 1 (.b true) (hP hb5 (hN 3 r8.1 h0))) ?_
       exact wJ G hm
      ·refine re G (hO 1 (.b false) (hP hb5 h0)) ?_
       exact wJ G hm
     rintro v3 hm
     refine cd hm (fun hm => ?_) (fun hm => ?_)
     ·obtain ⟨r11, h10, hm⟩ := obind hm
      refine rs G (hC 3 (i_RunMoves_c h10) h0) ?_
      obtain ⟨r12, h11, hm⟩ := obind hm
      refine rs G (hC 2 (i_BlockersOf_c h11) h0) ?_
      refine jn hm (fun v4 => ⟨[(0, dV code), (165, dV v4)], [], 32⟩) (fun v4 hm => ?_) ?_
      ·rcases bf hm with ⟨hb6, hm⟩ | ⟨hb6, hm⟩
       ·refine re G (hO 2 (.b true) (hP hb6 h0)) ?_
        exact wJ G hm
       ·rcases bf hm with ⟨hb7, hm⟩ | ⟨hb7, hm⟩
        ·refine re G (hO 2 (.b false) (hP hb6 (hN 5 r8.1 (hO 8 (.b true) (hP hb7 h0))))) ?_
         exact wJ G hm
        ·refine re G (hO 2 (.b false) (hP hb6 (hN 5 r8.1 (hO 8 (.b false) (hP hb7 h0))))) ?_
         exact wJ G hm
      rintro v4 hm
      refine cd hm (fun hm => ?_) (fun hm => ?_)
      ·refine rg G ?_
       have hm := eR hm hr1
       cases hm
       exact rt [] []
      ·exact X_skip (wF G hm)
     ·exact X_skip (wF G hm)
    rintro ⟨⟩ hm
    obtain ⟨r14, h12, hm⟩ := obind hm
    refine rs G (hC 1 (s_DrawDepartureOrder_c h12) h0) ?_
    obtain ⟨r15, h13, hm⟩ := obind hm
    refine rs G (hO 2 (.fz [48] [] []) (hC 2 (i_DepartureOrder_c h13) h0)) ?_
    obtain ⟨r16, h14, hm⟩ := obind hm
    refine rs G (hC 2 (s_DepartureOrder_c h14) h0) ?_
    refine Ok_seq (jn hm (fun v5 => ⟨[(0, dV code), (27, .ref 16 0), (29, dV r15.1), (30, dV r15.2.1), (198, dV v5)], [bX 16 27 [dV r14.1.Sizes, dV r14.1.Tracks]], 48⟩) (fun v5 hm => ?_) ?_)
    ·rcases bf hm with ⟨hb8, hm⟩ | ⟨hb8, hm⟩
     ·refine re G (hO 3 (.b true) (hP hb8 h0)) ?_
      exact wJ G hm
     ·rcases bf hm with ⟨hb9, hm⟩ | ⟨hb9, hm⟩
      ·refine re G (hO 3 (.b false) (hP hb8 (hO 8 (.b true) (hP hb9 h0)))) ?_
       exact wJ G hm
      ·obtain ⟨r17, h15, hm⟩ := obind hm
       refine re G (hO 3 (.b false) (hP hb8 (hO 8 (.b false) (hP hb9 (hC 11 (v_rInts_c h15) h0))))) ?_
       exact wJ G hm
    rintro v5 hm
    refine cd hm (fun hm => ?_) (fun hm => ?_)
    ·refine rg G ?_
     cases hm
     exact rt [] []
    ·refine X_skip (thN (rg G (Ok_seq (rg G (tF hm (fun _ => ⟨[(0, dV code)], [], 32⟩) (fun v9 hr2 hm => ?_) ?_)))))
     ·refine Ok_block (lp G hm (fun (next, v6, v7) => ⟨[(0, dV code), (29, dV r15.1), (30, dV r15.2.1), (35, .ref 16 0), (36, dV next)], [bX 16 27 [dV v6, dV v7]], 48⟩) ?_)
      rintro ⟨next, v6, v7⟩ r0 hb10 hm
      rw [v_FnTracks_L1] at hm
      refine Ok_seq (jn hm (fun v8 => ⟨[(0, dV code), (29, dV r15.1), (30, dV r15.2.1), (35, .ref 16 0), (36, dV next), (206, dV v8)], [bX 16 27 [dV v6, dV v7]], 48⟩) (fun v8 hm => ?_) ?_)
      ·rcases bf hm with ⟨hb11, hm⟩ | ⟨hb11, hm⟩
       ·refine re G (hN 2 r15.1 (hO 4 (.b true) (hP hb11 h0))) ?_
        exact wJ G hm
       ·refine re G (hN 2 r15.1 (hO 4 (.b false) (hP hb11 h0))) ?_
        exact wJ G hm
      rintro v8 hm
      refine cd hm (fun hm => ?_) (fun hm => ?_)
      ·refine X_skip (thN (Ok_seq (Ok_block ?_)))
       obtain ⟨e3, h18, hm⟩ := obind hm
       obtain ⟨r19, h19, hm⟩ := obind hm
       refine ds G [(10, [192])] (hD 3 h18 (hC 5 (i_TakeVehicle_c h19) h0)) ?_
       refine Ok_seq (rg G (cd hm (fun hm => ?_) (fun hm => ?_)))
       ·refine rg G ?_
        have hm := eL hm hb10 hr2
        cases hm
        exact rt [] []
       ·exact X_skip (thN (rh G (ibN (thN (rh G (wL G hm))))))
      ·exact Ok_exit (thE (thE (ibE (wE G hm hb10))))
     rintro ⟨⟩ hm s hw
     refine thN (Ok_weak hw ?_)
     obtain ⟨r21, h20, hm⟩ := obind hm
     refine rs G (hC 1 (s_DrawRunMoves_c h20) h0) ?_
     obtain ⟨r22, h21, hm⟩ := obind hm
     refine rs G (hC 3 (i_RunMoves_c h21) h0) ?_
     obtain ⟨r23, h22, hm⟩ := obind hm
     refine rs G (hC 3 (s_RunMoves_c h22) h0) ?_
     refine jn hm (fun d => ⟨[(2, dV d)], [], 32⟩) (fun d hm => ?_) ?_
     ·rcases bf hm with ⟨hb12, hm⟩ | ⟨hb12, hm⟩
      ·rcases bf hm with ⟨hb13, hm⟩ | ⟨hb13, hm⟩
       ·obtain ⟨r24, h23, hm⟩ := obind hm
        refine re G (hO 3 (.b true) (hP hb12 (hO 8 (.b true) (hP hb13 (hC 11 (v_rDepots_c h23) h0))))) ?_
        exact wJ G hm
       ·refine re G (hO 3 (.b true) (hP hb12 (hO 8 (.b false) (hP hb13 h0)))) ?_
        exact wJ G hm
      ·refine re G (hO 3 (.b false) (hP hb12 h0)) ?_
       exact wJ G hm
     rintro d hm
     cases hm
     exact rt [] []
end Go.Proofs.Ytjahononbnbjnaa
