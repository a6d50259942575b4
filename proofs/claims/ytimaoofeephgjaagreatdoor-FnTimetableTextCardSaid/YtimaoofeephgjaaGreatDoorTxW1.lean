/- Each function computes what its model says. Made by program (dec.py). -/
import Derived.Test.YtimaoofeephgjaaGreatDoorTy
import Derived.Test.YtimaoofeephgjaaGreatDoorAbArr
import Derived.Test.YtimaoofeephgjaaGreatDoorTxM
import Derived.Test.YtimaoofeephgjaaGreatDoorSh
namespace Go.Proofs.YtimaoofeephgjaaGreatDoor
open Go Go.Ab
set_option maxRecDepth 100000
set_option maxHeartbeats 4000000
set_option linter.unusedVariables false
set_option linter.unusedSimpArgs false
theorem tt : TT Tryz.prog ty := ⟨by kernel_rfl, ty_ok⟩
abbrev tJ : Inv := strJ Tryz.prog (some Lib.pow10Tab)
noncomputable def zq86_M : MS ((List UInt8)) Bool := ⟨.r, zq86, fun y => dV y, fun _ => [], fun _ _ => []⟩
theorem zq86_c {code y} (hm : zq86 code = some y) : zq86_M.C code y := zq86_M.c code hm
theorem zq86_ok : FnOK Tryz.prog tJ 5 zq86_M.S := by
 refine fm tt zq86_M [] Tryz.call5 Tryz.func5 rfl Tryz.results5 Tryz.ntmps5 ?_
 rintro code y cx G hm
 have hm : zq86 code = some y := hm
 unfold zq86 at hm
 refine rg G (rs G (hN 1 code h0) ?_)
 cases hm
 exact rt [] []
noncomputable def zq45_M : MS l1Cur (Int × l1Cur) := ⟨.b 68, zq45, fun y => dV y.1, fun _ => [], fun _ y => [bxO 68 y.2]⟩
theorem zq45_c {c y} (hm : zq45 c = some y) : zq45_M.C c y := zq45_M.c c hm
theorem zq45_ok : FnOK Tryz.prog tJ 96 zq45_M.S := by
 refine fm tt zq45_M [] Tryz.call96 Tryz.func96 rfl Tryz.results96 Tryz.ntmps96 ?_
 rintro c y cx G hm
 have hm : zq45 c = some y := hm
 unfold zq45 at hm
 refine rg G (rg G (jn hm (fun v => ⟨[(0, .ref 0 0), (3, dV v)], [bX 0 68 [dV c.code_, dV c.at_, kV .u64 c.seed_.v]], 48⟩) (fun v hm => ?_) ?_))
 ·refine ds G [] (hN 8 c.code_ h0) ?_
  refine cd hm (fun hm => ?_) (fun hm => ?_)
  ·obtain ⟨e1, h1, hm⟩ := obind hm
   refine de G [] (hD 8 h1 h0) ?_
   exact wJ G hm
  ·exact X_skip (wJ G hm)
 rintro v hm
 refine rg G (rg G (Ok_seq (ds G [] (hN 8 c.code_ h0) ?_)))
 refine cd hm (fun hm => ?_) (fun hm => ?_)
 ·refine rg G ?_
  cases hm
  exact rt [] []
 ·refine X_skip (thN ?_)
  obtain ⟨u, h2, hm⟩ := obind hm
  refine rs G (hK h2 h0) ?_
  cases hm
  exact rt [] []
noncomputable def zq49_M : MS (l1Cur × Int) (Int × l1Cur) := ⟨.x (.b 68) .r, fun x => zq49 x.1 x.2, fun y => dV y.1, fun _ => [], fun _ y => [bxO 68 y.2]⟩
theorem zq49_c {c n y} (hm : zq49 c n = some y) : zq49_M.C (c, n) y := zq49_M.c (c, n) hm
theorem zq49_ok : FnOK Tryz.prog tJ 49 zq49_M.S := by
 refine fm tt zq49_M [fo zq45_ok] Tryz.call49 Tryz.func49 rfl Tryz.results49 Tryz.ntmps49 ?_
 rintro ⟨c, n⟩ y cx G hm
 have hm : zq49 c n = some y := hm
 unfold zq49 at hm
 refine rg G (Ok_seq (rg G (cd hm (fun hm => ?_) (fun hm => ?_))))
 ·refine rg G ?_
  cases hm
  exact rt [] []
 ·refine X_skip (thN ?_)
  obtain ⟨r, h, hm⟩ := obind hm
  refine rs G (hC 1 (zq45_c h) h0) ?_
  refine jn hm (fun (v, v1, v2, v3) => ⟨[(0, .ref 0 0), (1, dV n), (5, dV v)], [bX 0 68 [dV v1, dV v2, kV .u64 v3]], 48⟩) (fun vv hm => ?_) ?_
  ·refine rg G (cd hm (fun hm => ?_) (fun hm => ?_))
   ·obtain ⟨r1, h1, hm⟩ := obind hm
    refine re G (hC 3 (zq45_c h1) h0) ?_
    exact wJ G hm
   ·exact X_skip (wJ G hm)
  rintro ⟨v, v1, v2, v3⟩ hm
  obtain ⟨u, h2, hm⟩ := obind hm
  refine rs G (hK h2 h0) ?_
  cases hm
  exact rt [] []
noncomputable def zq53_MR (rec_ : Int → Option (ByteArray)) : MS Int ByteArray := ⟨.r, rec_, fun y => dV y, fun _ => [], fun _ _ => []⟩
noncomputable def zq53_M : MS Int ByteArray := zq53_MR zq53
theorem zq53_c {n y} (hm : zq53 n = some y) : zq53_M.C n y := zq53_M.c n hm
theorem zq53_cR {rec_ : Int → Option (ByteArray)} {n y} (hm : rec_ n = some y) : (zq53_MR rec_).C n y := (zq53_MR rec_).c n hm
theorem zq53_okF {rec_ : Int → Option (ByteArray)} (hrec : FnOK Tryz.prog tJ 82 (zq53_MR rec_).S) : FnOK Tryz.prog tJ 82 (zq53_MR (zq53_F rec_)).S := by
 refine fm tt (zq53_MR (zq53_F rec_)) [fo hrec] Tryz.call82 Tryz.func82 rfl Tryz.results82 Tryz.ntmps82 ?_
 rintro n y cx G hm
 have hm : zq53_F rec_ n = some y := hm
 unfold zq53_F at hm
 refine rg G (Ok_seq (rg G (cd hm (fun hm => ?_) (fun hm => ?_))))
 ·obtain ⟨r, h, hm⟩ := obind hm
  obtain ⟨u, h1, hm⟩ := obind hm
  refine rs G (hC 2 (zq53_cR h) (hP (cat_p (chk_t h1)) h0)) ?_
  cases hm
  exact rt [] []
 ·refine X_skip (thN (Ok_seq (rg G (cd hm (fun hm => ?_) (fun hm => ?_)))))
  ·obtain ⟨u1, h2, hm⟩ := obind hm
   refine rs G (hK h2 h0) ?_
   cases hm
   exact rt [] []
  ·refine X_skip (thN ?_)
   obtain ⟨u7, h9, hm⟩ := obind hm
   obtain ⟨r2, h10, hm⟩ := obind hm
   obtain ⟨u8, h11, hm⟩ := obind hm
   obtain ⟨u9, h12, hm⟩ := obind hm
   obtain ⟨u10, h13, hm⟩ := obind hm
   obtain ⟨u11, h14, hm⟩ := obind hm
   refine ds G [] (hK h9 (hC 2 (zq53_cR h10) (hK h11 (hK h12 (hK h13 (hP (cat_p (chk_t h14)) h0)))))) ?_
   cases hm
   exact rt [] []
theorem zq53_okn : ∀ k, FnOK Tryz.prog tJ 82 (zq53_MR (zq53_k k)).S
 | 0 => ⟨fun args w => Tryz.call82 args w, fun vs w F ds obs κ hp => by obtain ⟨x, y, _, _, h⟩ := hp; cases h⟩
 | k + 1 => zq53_okF (zq53_okn k)
theorem zq53_ok : FnOK Tryz.prog tJ 82 zq53_M.S := zq53_okn 4294967296
noncomputable def zq65_M : MS (Line × Int) Int := ⟨.x .r .r, fun x => zq65 x.1 x.2, fun y => dV y, fun _ => [], fun _ _ => []⟩
theorem zq65_c {x stop y} (hm : zq65 x stop = some y) : zq65_M.C (x, stop) y := zq65_M.c (x, stop) hm
theorem zq65_ok : FnOK Tryz.prog tJ 109 zq65_M.S := by
 refine fm tt zq65_M [] Tryz.call109 Tryz.func109 rfl Tryz.results109 Tryz.ntmps109 ?_
 rintro ⟨x, stop⟩ y cx G hm
 have hm : zq65 x stop = some y := hm
 unfold zq65 at hm
 refine rg G (Ok_seq (rg G (tF hm (fun _ => ⟨[], [], 32⟩) (fun v1 hr hm => ?_) ?_)))
 ·refine Ok_block (lp G hm (fun v => ⟨[(1, dV stop), (2, .ref 16 0), (5, dV v)], [bX 16 75 [dV x.Name, dV x.Stops, dV x.Runs]], 48⟩) ?_)
  rintro v r0 hb hm
  rw [zq65_L1] at hm
  refine Ok_seq (rs G (hN 3 x.Stops h0) ?_)
  refine cd hm (fun hm => ?_) (fun hm => ?_)
  ·refine X_skip (thN (Ok_seq (Ok_block ?_)))
   obtain ⟨e, h, hm⟩ := obind hm
   refine rs G (hD 3 h h0) ?_
   refine cd hm (fun hm => ?_) (fun hm => ?_)
   ·refine rg G ?_
    have hm := eL hm hb hr
    cases hm
    exact rt [] []
   ·exact X_skip (ibN (thN (rh G (wL G hm))))
  ·exact Ok_exit (thE (thE (ibE (wE G hm hb))))
 rintro ⟨⟩ hm s hw
 refine thN (Ok_weak hw ?_)
 refine rg G ?_
 cases hm
 exact rt [] []
noncomputable def zq41_M : MS (l1Cur × ByteArray × Int) (Line × l1Cur) := ⟨.x (.b 68) (.x .r .r), fun x => zq41 x.1 x.2.1 x.2.2, fun y => .aggv [dV y.1.Name, .own 0, .own 1], fun y => [arO 3 y.1.Stops, arO 3 y.1.Runs], fun _ y => [bxO 68 y.2]⟩
theorem zq41_c {c name stops y} (hm : zq41 c name stops = some y) : zq41_M.C (c, name, stops) y := zq41_M.c (c, name, stops) hm
theorem zq41_ok : FnOK Tryz.prog tJ 123 zq41_M.S := by
 refine fm tt zq41_M [fo zq49_ok, fo zq65_ok] Tryz.call123 Tryz.func123 rfl Tryz.results123 Tryz.ntmps123 ?_
 rintro ⟨c, name, stops⟩ y cx G hm
 have hm : zq41 c name stops = some y := hm
 unfold zq41 at hm
 refine rg G (rg G ?_)
 obtain ⟨r, h, hm⟩ := obind hm
 refine rs G (hC 2 (zq49_c h) h0) ?_
 refine Ok_seq ?_
 obtain ⟨r1, h1, hm⟩ := obind hm
 refine rs G (hC 1 (zq49_c h1) h0) ?_
 refine tl hm (fun (v7, v8, v9, v10) => ⟨[(0, .ref 0 0), (2, dV stops), (6, .ref 32 0), (7, .ref 48 0)], [bX 0 68 [dV v7, dV v8, kV .u64 v9], bX 32 75 [dV ByteArray.empty, .dat (.sc (.slice none 0 0)), .dat (.sc (.slice none 0 0))], bX 48 75 [dV name, .own 64, .dat (.sc (.slice none 0 0))], aX 64 3 v10], 96⟩) (fun vv1 hm => ?_) ?_
 ·refine Ok_block (lpP hm (fun (v, v1, v2, v3, v4, v5) => ⟨[(0, .ref 0 0), (2, dV stops), (6, .ref 32 0), (7, .ref 48 0), (8, dV v), (9, dV v1)], [bX 0 68 [dV v2, dV v3, kV .u64 v4], bX 32 75 [dV ByteArray.empty, .dat (.sc (.slice none 0 0)), .dat (.sc (.slice none 0 0))], bX 48 75 [dV name, .own 64, .dat (.sc (.slice none 0 0))], aX 64 3 v5], 96⟩) (Wk_J G.hL ⟨[(0, []), (2, []), (6, []), (7, []), (8, []), (9, [])], [(0, 0, []), (32, 16, []), (48, 64, [.k, .o 64])], [(64, 3, 1, [])], 96⟩ (by kernel_rfl)) ?_)
  rintro ⟨v, v1, v2, v3, v4, v5⟩ r0 hb hm
  rw [zq41_L1] at hm
  refine Ok_seq (rg G (cd hm (fun hm => ?_) (fun hm => ?_)))
  ·refine X_skip (thN (Ok_seq (Ok_block (jn hm (fun v6 => ⟨[(0, .ref 0 0), (2, dV stops), (6, .ref 32 0), (7, .ref 48 0), (8, dV v), (9, dV v1)], [bX 0 68 [dV v2, dV v3, kV .u64 v4], bX 32 75 [dV ByteArray.empty, .dat (.sc (.slice none 0 0)), .dat (.sc (.slice none 0 0))], bX 48 75 [dV name, .own 64, .dat (.sc (.slice none 0 0))], aX 64 3 v6], 96⟩) (fun v6 hm => ?_) ?_))))
   ·obtain ⟨r2, h2, hm⟩ := obind hm
    refine rs G (hC 2 (zq65_c h2) h0) ?_
    refine cd hm (fun hm => ?_) (fun hm => ?_)
    ·obtain ⟨u, h3, hm⟩ := obind hm
     refine re G (hA 4 8 h3 h0) ?_
     exact wJ G hm
    ·exact X_skip (wJ G hm)
   rintro v6 hm
   obtain ⟨r3, h4, hm⟩ := obind hm
   obtain ⟨u1, h5, hm⟩ := obind hm
   refine re G (hC 3 (zq49_c h4) (hK h5 h0)) ?_
   exact ibN (thN (rh G (wL G hm)))
  ·exact Ok_exit (thE (thE (ibE (wD G hm hb))))
 rintro ⟨v7, v8, v9, v10⟩ hm s hw
 refine thN (Ok_weak hw ?_)
 refine jn hm (fun v11 => ⟨[(0, .ref 0 0), (6, .ref 32 0), (7, .ref 48 0)], [bX 0 68 [dV v7, dV v8, kV .u64 v9], bX 32 75 [dV ByteArray.empty, .dat (.sc (.slice none 0 0)), .dat (.sc (.slice none 0 0))], bX 48 75 [dV name, .own 64, .dat (.sc (.slice none 0 0))], aX 64 3 v11], 96⟩) (fun v11 hm => ?_) ?_
 ·refine rs G (hN 2 v10 h0) ?_
  refine cd hm (fun hm => ?_) (fun hm => ?_)
  ·obtain ⟨e1, h9, hm⟩ := obind hm
   obtain ⟨u4, h10, hm⟩ := obind hm
   obtain ⟨u5, h11, hm⟩ := obind hm
   refine de G [(10, [64, 304]), (12, [48, 320])] (hD 4 h9 (hE 5 h9 (hK h10 (hA 10 8 h11 h0)))) ?_
   exact wJ G hm
  ·exact X_skip (wJ G hm)
 rintro v11 hm
 refine Ok_seq (rg G (tl hm (fun (v17, v18, v19, v20) => ⟨[(0, .ref 0 0), (6, .ref 32 0), (7, .ref 48 0)], [bX 0 68 [dV v17, dV v18, kV .u64 v19], bX 32 75 [dV ByteArray.empty, .dat (.sc (.slice none 0 0)), .dat (.sc (.slice none 0 0))], bX 48 75 [dV name, .own 64, .own 80], aX 64 3 v11, aX 80 3 v20], 112⟩) (fun vv hm => ?_) ?_))
 ·refine Ok_block (lpP hm (fun (v12, v13, v14, v15, v16) => ⟨[(0, .ref 0 0), (6, .ref 32 0), (7, .ref 48 0), (10, dV v12)], [bX 0 68 [dV v13, dV v14, kV .u64 v15], bX 32 75 [dV ByteArray.empty, .dat (.sc (.slice none 0 0)), .dat (.sc (.slice none 0 0))], bX 48 75 [dV name, .own 64, .own 80], aX 64 3 v11, aX 80 3 v16], 112⟩) (Wk_J G.hL ⟨[(0, []), (6, []), (7, []), (10, [])], [(0, 0, []), (32, 32, []), (48, 48, [.k, .k, .o 80]), (64, 64, [])], [(80, 3, 1, [])], 112⟩ (by kernel_rfl)) ?_)
  rintro ⟨v12, v13, v14, v15, v16⟩ r0 hb1 hm
  rw [zq41_L2] at hm
  refine Ok_seq (rs G (hN 3 v11 h0) ?_)
  refine cd hm (fun hm => ?_) (fun hm => ?_)
  ·refine X_skip (thN (Ok_seq (Ok_block ?_)))
   obtain ⟨r5, h14, hm⟩ := obind hm
   obtain ⟨u7, h15, hm⟩ := obind hm
   refine de G [(3, [0]), (6, [80, 272]), (8, [48, 288])] (hC 3 (zq49_c h14) (hA 6 8 h15 h0)) ?_
   exact ibN (thN (rh G (wL G hm)))
  ·exact Ok_exit (thE (thE (ibE (wD G hm hb1))))
 rintro ⟨v17, v18, v19, v20⟩ hm s1 hw1
 refine thN (Ok_weak hw1 ?_)
 refine rg G ?_
 cases hm
 exact rt [64, 80] []
noncomputable def zq42_M : MS (l1Cur × ByteArray × Int) (Line × l1Cur) := ⟨.x (.b 68) (.x .r .r), fun x => zq42 x.1 x.2.1 x.2.2, fun y => dV y.1, fun _ => [], fun _ y => [bxO 68 y.2]⟩
theorem zq42_c {c name stops y} (hm : zq42 c name stops = some y) : zq42_M.C (c, name, stops) y := zq42_M.c (c, name, stops) hm
theorem zq42_ok : FnOK Tryz.prog tJ 123 zq42_M.S := by
 refine fm tt zq42_M [fo zq49_ok, fo zq65_ok] Tryz.call123 Tryz.func123 rfl Tryz.results123 Tryz.ntmps123 ?_
 rintro ⟨c, name, stops⟩ y cx G hm
 have hm : zq42 c name stops = some y := hm
 unfold zq42 at hm
 refine rg G (rg G ?_)
 obtain ⟨r, h, hm⟩ := obind hm
 refine rs G (hC 2 (zq49_c h) h0) ?_
 refine Ok_seq ?_
 obtain ⟨r1, h1, hm⟩ := obind hm
 refine rs G (hC 1 (zq49_c h1) h0) ?_
 refine tl hm (fun (v7, v8, v9, v10) => ⟨[(0, .ref 0 0), (2, dV stops), (6, .ref 32 0), (7, .ref 48 0)], [bX 0 68 [dV v7, dV v8, kV .u64 v9], bX 32 75 [dV ByteArray.empty, .dat (.sc (.slice none 0 0)), .dat (.sc (.slice none 0 0))], bX 48 75 [dV name, .own 64, .dat (.sc (.slice none 0 0))], aX 64 3 v10], 96⟩) (fun vv1 hm => ?_) ?_
 ·refine Ok_block (lpP hm (fun (v, v1, v2, v3, v4, v5) => ⟨[(0, .ref 0 0), (2, dV stops), (6, .ref 32 0), (7, .ref 48 0), (8, dV v), (9, dV v1)], [bX 0 68 [dV v2, dV v3, kV .u64 v4], bX 32 75 [dV ByteArray.empty, .dat (.sc (.slice none 0 0)), .dat (.sc (.slice none 0 0))], bX 48 75 [dV name, .own 64, .dat (.sc (.slice none 0 0))], aX 64 3 v5], 96⟩) (Wk_J G.hL ⟨[(0, []), (2, []), (6, []), (7, []), (8, []), (9, [])], [(0, 0, []), (32, 16, []), (48, 64, [.k, .o 64])], [(64, 3, 1, [])], 96⟩ (by kernel_rfl)) ?_)
  rintro ⟨v, v1, v2, v3, v4, v5⟩ r0 hb hm
  rw [zq42_L1] at hm
  refine Ok_seq (rg G (cd hm (fun hm => ?_) (fun hm => ?_)))
  ·refine X_skip (thN (Ok_seq (Ok_block (jn hm (fun v6 => ⟨[(0, .ref 0 0), (2, dV stops), (6, .ref 32 0), (7, .ref 48 0), (8, dV v), (9, dV v1)], [bX 0 68 [dV v2, dV v3, kV .u64 v4], bX 32 75 [dV ByteArray.empty, .dat (.sc (.slice none 0 0)), .dat (.sc (.slice none 0 0))], bX 48 75 [dV name, .own 64, .dat (.sc (.slice none 0 0))], aX 64 3 v6], 96⟩) (fun v6 hm => ?_) ?_))))
   ·obtain ⟨r2, h2, hm⟩ := obind hm
    refine rs G (hC 2 (zq65_c h2) h0) ?_
    refine cd hm (fun hm => ?_) (fun hm => ?_)
    ·obtain ⟨u, h3, hm⟩ := obind hm
     refine re G (hA 4 8 h3 h0) ?_
     exact wJ G hm
    ·exact X_skip (wJ G hm)
   rintro v6 hm
   obtain ⟨r3, h4, hm⟩ := obind hm
   obtain ⟨u1, h5, hm⟩ := obind hm
   refine re G (hC 3 (zq49_c h4) (hK h5 h0)) ?_
   exact ibN (thN (rh G (wL G hm)))
  ·exact Ok_exit (thE (thE (ibE (wD G hm hb))))
 rintro ⟨v7, v8, v9, v10⟩ hm s hw
 refine thN (Ok_weak hw ?_)
 refine jn hm (fun v11 => ⟨[(0, .ref 0 0), (6, .ref 32 0), (7, .ref 48 0)], [bX 0 68 [dV v7, dV v8, kV .u64 v9], bX 32 75 [dV ByteArray.empty, .dat (.sc (.slice none 0 0)), .dat (.sc (.slice none 0 0))], bX 48 75 [dV name, .own 64, .dat (.sc (.slice none 0 0))], aX 64 3 v11], 96⟩) (fun v11 hm => ?_) ?_
 ·refine rs G (hN 2 v10 h0) ?_
  refine cd hm (fun hm => ?_) (fun hm => ?_)
  ·obtain ⟨e1, h9, hm⟩ := obind hm
   obtain ⟨u4, h10, hm⟩ := obind hm
   obtain ⟨u5, h11, hm⟩ := obind hm
   refine de G [(10, [64, 304]), (12, [48, 320])] (hD 4 h9 (hE 5 h9 (hK h10 (hA 10 8 h11 h0)))) ?_
   exact wJ G hm
  ·exact X_skip (wJ G hm)
 rintro v11 hm
 refine Ok_seq (rg G (tl hm (fun (v17, v18, v19, v20) => ⟨[(0, .ref 0 0), (6, .ref 32 0), (7, .ref 48 0)], [bX 0 68 [dV v17, dV v18, kV .u64 v19], bX 32 75 [dV ByteArray.empty, .dat (.sc (.slice none 0 0)), .dat (.sc (.slice none 0 0))], bX 48 75 [dV name, .own 64, .own 80], aX 64 3 v11, aX 80 3 v20], 112⟩) (fun vv hm => ?_) ?_))
 ·refine Ok_block (lpP hm (fun (v12, v13, v14, v15, v16) => ⟨[(0, .ref 0 0), (6, .ref 32 0), (7, .ref 48 0), (10, dV v12)], [bX 0 68 [dV v13, dV v14, kV .u64 v15], bX 32 75 [dV ByteArray.empty, .dat (.sc (.slice none 0 0)), .dat (.sc (.slice none 0 0))], bX 48 75 [dV name, .own 64, .own 80], aX 64 3 v11, aX 80 3 v16], 112⟩) (Wk_J G.hL ⟨[(0, []), (6, []), (7, []), (10, [])], [(0, 0, []), (32, 32, []), (48, 48, [.k, .k, .o 80]), (64, 64, [])], [(80, 3, 1, [])], 112⟩ (by kernel_rfl)) ?_)
  rintro ⟨v12, v13, v14, v15, v16⟩ r0 hb1 hm
  rw [zq42_L2] at hm
  refine Ok_seq (rs G (hN 3 v11 h0) ?_)
  refine cd hm (fun hm => ?_) (fun hm => ?_)
  ·refine X_skip (thN (Ok_seq (Ok_block ?_)))
   obtain ⟨r5, h14, hm⟩ := obind hm
   obtain ⟨u7, h15, hm⟩ := obind hm
   refine de G [(3, [0]), (6, [80, 272]), (8, [48, 288])] (hC 3 (zq49_c h14) (hA 6 8 h15 h0)) ?_
   exact ibN (thN (rh G (wL G hm)))
  ·exact Ok_exit (thE (thE (ibE (wD G hm hb1))))
 rintro ⟨v17, v18, v19, v20⟩ hm s1 hw1
 refine thN (Ok_weak hw1 ?_)
 refine rg G ?_
 cases hm
 exact rt [] []
noncomputable def zq48_M : MS (l1Cur × Int) (Bool × l1Cur) := ⟨.x (.b 68) .r, fun x => zq48 x.1 x.2, fun y => dV y.1, fun _ => [], fun _ y => [bxO 68 y.2]⟩
theorem zq48_c {c n y} (hm : zq48 c n = some y) : zq48_M.C (c, n) y := zq48_M.c (c, n) hm
theorem zq48_ok : FnOK Tryz.prog tJ 36 zq48_M.S := by
 refine fm tt zq48_M [fo zq49_ok] Tryz.call36 Tryz.func36 rfl Tryz.results36 Tryz.ntmps36 ?_
 rintro ⟨c, n⟩ y cx G hm
 have hm : zq48 c n = some y := hm
 unfold zq48 at hm
 refine rg G ?_
 obtain ⟨r, h, hm⟩ := obind hm
 refine rs G (hC 2 (zq49_c h) h0) ?_
 cases hm
 exact rt [] []
noncomputable def zq57_M : MS ((List Int)) ((List Int)) := ⟨.r, zq57, fun y => dV y, fun _ => [], fun _ _ => []⟩
theorem zq57_c {list y} (hm : zq57 list = some y) : zq57_M.C list y := zq57_M.c list hm
theorem zq57_ok : FnOK Tryz.prog tJ 124 zq57_M.S := by
 refine fm tt zq57_M [] Tryz.call124 Tryz.func124 rfl Tryz.results124 Tryz.ntmps124 ?_
 rintro list y cx G hm
 have hm : zq57 list = some y := hm
 unfold zq57 at hm
 refine rg G (rg G (Ok_seq (rs G (hN 1 list h0) ?_)))
 refine tl hm (fun i1 => ⟨[(3, .own 16)], [aX 16 3 i1], 48⟩) (fun i1 hm => ?_) ?_
 ·refine Ok_block (lp G hm (fun (v, i) => ⟨[(0, dV list), (3, .own 16), (4, dV v)], [aX 16 3 i], 48⟩) ?_)
  rintro ⟨v, i⟩ r0 hb hm
  rw [zq57_L1] at hm
  refine Ok_seq (rg G (cd hm (fun hm => ?_) (fun hm => ?_)))
  ·refine X_skip (thN (Ok_seq (Ok_block ?_)))
   obtain ⟨e, h, hm⟩ := obind hm
   obtain ⟨u, h1, hm⟩ := obind hm
   refine re G (hD 3 h (hA 6 8 h1 h0)) ?_
   exact ibN (thN (rh G (wL G hm)))
  ·exact Ok_exit (thE (thE (ibE (wD G hm hb))))
 rintro i1 hm s hw
 refine thN (Ok_weak hw ?_)
 refine rg G ?_
 cases hm
 exact rt [] []
noncomputable def zq54_M : MS ((List Int)) ((List Int)) := ⟨.r, zq54, fun _ => .own 0, fun y => [arO 3 y], fun _ _ => []⟩
theorem zq54_c {l y} (hm : zq54 l = some y) : zq54_M.C l y := zq54_M.c l hm
theorem zq54_ok : FnOK Tryz.prog tJ 142 zq54_M.S := by
 refine fm tt zq54_M [] Tryz.call142 Tryz.func142 rfl Tryz.results142 Tryz.ntmps142 ?_
 rintro l y cx G hm
 have hm : zq54 l = some y := hm
 unfold zq54 at hm
 refine rg G ?_
 obtain ⟨u, h, hm⟩ := obind hm
 refine rs G (hA 2 8 h h0) ?_
 cases hm
 exact rt [64] []
noncomputable def zq55_M : MS ((List Int)) ((List Int)) := ⟨.r, zq55, fun y => dV y, fun _ => [], fun _ _ => []⟩
theorem zq55_c {l y} (hm : zq55 l = some y) : zq55_M.C l y := zq55_M.c l hm
theorem zq55_ok : FnOK Tryz.prog tJ 142 zq55_M.S := by
 refine fm tt zq55_M [] Tryz.call142 Tryz.func142 rfl Tryz.results142 Tryz.ntmps142 ?_
 rintro l y cx G hm
 have hm : zq55 l = some y := hm
 unfold zq55 at hm
 refine rg G ?_
 obtain ⟨u, h, hm⟩ := obind hm
 refine rs G (hA 2 8 h h0) ?_
 cases hm
 exact rt [] []
noncomputable def zq63_M : MS Network Network := ⟨.r, zq63, fun _ => .aggv [.own 0, .own 1], fun y => [arO 9 y.Stops, arO 75 y.Lines], fun _ _ => []⟩
theorem zq63_c {n y} (hm : zq63 n = some y) : zq63_M.C n y := zq63_M.c n hm
theorem zq63_ok : FnOK Tryz.prog tJ 125 zq63_M.S := by
 refine fm tt zq63_M [fo zq55_ok] Tryz.call125 Tryz.func125 rfl Tryz.results125 Tryz.ntmps125 ?_
 rintro n y cx G hm
 have hm : zq63 n = some y := hm
 unfold zq63 at hm
 refine rg G ?_
 obtain ⟨u, h, hm⟩ := obind hm
 refine rs G (hA 3 16 h h0) ?_
 refine Ok_seq (rg G (tl hm (fun v2 => ⟨[(2, .ref 16 0), (3, .ref 32 0)], [bX 16 27 [.dat (.sc (.slice none 0 0)), .dat (.sc (.slice none 0 0))], bX 32 27 [.own 48, .own 64], aX 48 9 (([] : List ByteArray) ++ n.Stops), aX 64 75 v2], 96⟩) (fun v2 hm => ?_) ?_))
 ·refine Ok_block (lpP hm (fun (v, v1) => ⟨[(1, .ref 16 0), (2, .ref 32 0), (3, .ref 48 0), (4, dV v)], [bX 16 27 [dV n.Stops, dV n.Lines], bX 32 27 [.dat (.sc (.slice none 0 0)), .dat (.sc (.slice none 0 0))], bX 48 27 [.own 64, .own 80], aX 64 9 (([] : List ByteArray) ++ n.Stops), aX 80 75 v1], 112⟩) (Wk_J G.hL ⟨[(1, []), (2, []), (3, []), (4, [])], [(16, 16, []), (32, 32, []), (48, 128, [.k, .o 80]), (64, 96, [])], [(80, 75, 3, [])], 112⟩ (by kernel_rfl)) ?_)
  rintro ⟨v, v1⟩ r0 hb hm
  rw [zq63_L1] at hm
  refine Ok_seq (rs G (hN 3 n.Lines h0) ?_)
  refine cd hm (fun hm => ?_) (fun hm => ?_)
  ·refine X_skip (thN (Ok_seq (Ok_block ?_)))
   obtain ⟨e3, h7, hm⟩ := obind hm
   obtain ⟨e4, h8, hm⟩ := obind hm
   obtain ⟨r2, h9, hm⟩ := obind hm
   obtain ⟨e5, h10, hm⟩ := obind hm
   obtain ⟨r3, h11, hm⟩ := obind hm
   obtain ⟨u2, h12, hm⟩ := obind hm
   refine de G [(23, []), (24, [80, 560]), (26, [48, 576])] (hD 5 h7 (hD 11 h8 (hC 14 (zq55_c h9) (hD 18 h10 (hC 21 (zq55_c h11) (hA 24 64 h12 h0)))))) ?_
   exact ibN (thN (rh G (wL G hm)))
  ·exact Ok_exit (thE (thE (ibE (wD G hm hb))))
 rintro v2 hm s hw
 refine thN (Ok_weak hw ?_)
 refine rg G ?_
 cases hm
 exact rt [48, 64] []
noncomputable def zq43_M : MS l1Cur (Network × l1Cur) := ⟨.b 68, zq43, fun _ => .aggv [.own 0, .own 1], fun y => [arO 9 y.1.Stops, arO 75 y.1.Lines], fun _ y => [bxO 68 y.2]⟩
theorem zq43_c {c y} (hm : zq43 c = some y) : zq43_M.C c y := zq43_M.c c hm
theorem zq43_ok : FnOK Tryz.prog tJ 85 zq43_M.S := by
 refine fm tt zq43_M [fo zq49_ok, fo zq53_ok, fo zq42_ok, fo zq48_ok, fo zq57_ok, fo zq63_ok] Tryz.call85 Tryz.func85 rfl Tryz.results85 Tryz.ntmps85 ?_
 rintro c y cx G hm
 have hm : zq43 c = some y := hm
 unfold zq43 at hm
 refine rg G ?_
 obtain ⟨r, h, hm⟩ := obind hm
 refine rs G (hC 1 (zq49_c h) h0) ?_
 obtain ⟨u, h1, hm⟩ := obind hm
 refine rs G (hO 2 (.fz [96] [] []) (hU 2 h1 h0)) ?_
 refine Ok_seq ?_
 obtain ⟨r1, h2, hm⟩ := obind hm
 refine rs G (hC 1 (zq49_c h2) h0) ?_
 refine tl hm (fun (v4, v5, v6, v7) => ⟨[(0, .ref 0 0), (2, .ref 32 0), (4, .ref 48 0)], [bX 0 68 [dV v4, dV v5, kV .u64 v6], bX 32 27 [.dat (.sc (.slice none 0 0)), .dat (.sc (.slice none 0 0))], bX 48 27 [dV ((([(str [112, 111, 114, 116]), (str [109, 105, 108, 108]), (str [112, 97, 114, 107]), (str [104, 97, 108, 108]), (str [100, 111, 99, 107]), (str [102, 97, 105, 114])] : List ByteArray).take (w64 (2 + r.1)).toNat).drop (0 : Int).toNat), .own 64], aX 64 75 v7], 96⟩) (fun vv1 hm => ?_) ?_
 ·refine Ok_block (lpP hm (fun (x, v, v1, v2, v3) => ⟨[(0, .ref 0 0), (2, .ref 32 0), (3, dV (w64 (2 + r.1))), (4, .ref 48 0), (5, dV x)], [bX 0 68 [dV v, dV v1, kV .u64 v2], bX 32 27 [.dat (.sc (.slice none 0 0)), .dat (.sc (.slice none 0 0))], bX 48 27 [dV ((([(str [112, 111, 114, 116]), (str [109, 105, 108, 108]), (str [112, 97, 114, 107]), (str [104, 97, 108, 108]), (str [100, 111, 99, 107]), (str [102, 97, 105, 114])] : List ByteArray).take (w64 (2 + r.1)).toNat).drop (0 : Int).toNat), .own 64], aX 64 75 v3], 96⟩) (Wk_J G.hL ⟨[(0, []), (2, []), (3, []), (4, []), (5, [])], [(0, 0, []), (32, 16, []), (48, 160, [.k, .o 64])], [(64, 75, 3, [])], 96⟩ (by kernel_rfl)) ?_)
  rintro ⟨x, v, v1, v2, v3⟩ r0 hb hm
  rw [zq43_L1] at hm
  refine Ok_seq (rg G (cd hm (fun hm => ?_) (fun hm => ?_)))
  ·refine X_skip (thN (Ok_seq (Ok_block ?_)))
   obtain ⟨r4, h7, hm⟩ := obind hm
   obtain ⟨u3, h8, hm⟩ := obind hm
   obtain ⟨r5, h9, hm⟩ := obind hm
   obtain ⟨u4, h10, hm⟩ := obind hm
   refine de G [(7, [0]), (8, []), (9, [64, 256]), (11, [48, 272])] (hC 4 (zq53_c h7) (hP (cat_p (chk_t h8)) (hC 7 (zq42_c h9) (hA 9 64 h10 h0)))) ?_
   exact ibN (thN (rh G (wL G hm)))
  ·exact Ok_exit (thE (thE (ibE (wD G hm hb))))
 rintro ⟨v4, v5, v6, v7⟩ hm s hw
 refine thN (Ok_weak hw ?_)
 refine jn hm (fun (v8, v9, v10, v11) => ⟨[(0, .ref 0 0), (2, .ref 32 0), (4, .ref 48 0)], [bX 0 68 [dV v8, dV v9, kV .u64 v10], bX 32 27 [.dat (.sc (.slice none 0 0)), .dat (.sc (.slice none 0 0))], bX 48 27 [dV ((([(str [112, 111, 114, 116]), (str [109, 105, 108, 108]), (str [112, 97, 114, 107]), (str [104, 97, 108, 108]), (str [100, 111, 99, 107]), (str [102, 97, 105, 114])] : List ByteArray).take (w64 (2 + r.1)).toNat).drop (0 : Int).toNat), .own 64], aX 64 75 v11], 96⟩) (fun vv hm => ?_) ?_
 ·obtain ⟨r6, h11, hm⟩ := obind hm
  refine rs G (hC 1 (zq48_c h11) h0) ?_
  refine cd hm (fun hm => ?_) (fun hm => ?_)
  ·obtain ⟨e, h12, hm⟩ := obind hm
   refine rs G (hD 2 h12 (hE 3 h12 h0)) ?_
   obtain ⟨r9, h16, hm⟩ := obind hm
   obtain ⟨r10, h17, hm⟩ := obind hm
   obtain ⟨u6, h18, hm⟩ := obind hm
   refine de G [(9, []), (10, [64, 368]), (12, [48, 384])] (hC 4 (zq57_c h16) (hC 7 (zq57_c h17) (hA 10 64 h18 h0))) ?_
   exact wJ G hm
  ·exact X_skip (wJ G hm)
 rintro ⟨v8, v9, v10, v11⟩ hm
 obtain ⟨r11, h19, hm⟩ := obind hm
 refine rs G (hO 1 (.fz [64] [] []) (hC 1 (zq63_c h19) h0)) ?_
 cases hm
 exact rt [112, 113] []
noncomputable def zq51_M : MS l1Cur (Timetable × l1Cur) := ⟨.b 68, zq51, fun _ => .aggv [.own 0, .own 1, .own 2], fun y => [arO 9 y.1.Network.Stops, arO 75 y.1.Network.Lines, arO 64 y.1.Trips], fun _ y => [bxO 68 y.2]⟩
theorem zq51_c {c y} (hm : zq51 c = some y) : zq51_M.C c y := zq51_M.c c hm
theorem zq51_ok : FnOK Tryz.prog tJ 35 zq51_M.S := by
 refine fm tt zq51_M [fo zq43_ok, fo zq49_ok] Tryz.call35 Tryz.func35 rfl Tryz.results35 Tryz.ntmps35 ?_
 rintro c y cx G hm
 have hm : zq51 c = some y := hm
 unfold zq51 at hm
 refine rg G ?_
 obtain ⟨r, h, hm⟩ := obind hm
 refine rs G (hC 1 (zq43_c h) h0) ?_
 refine rg G (Ok_seq ?_)
 obtain ⟨r1, h1, hm⟩ := obind hm
 refine rs G (hC 1 (zq49_c h1) h0) ?_
 refine tl hm (fun (v5, v6, v7, v8) => ⟨[(0, .ref 0 0), (2, .ref 32 0), (3, .ref 48 0)], [bX 0 68 [dV v5, dV v6, kV .u64 v7], bX 32 30 [.dat (.sc (.slice none 0 0)), .dat (.sc (.slice none 0 0)), .dat (.sc (.slice none 0 0))], bX 48 30 [.own 64, .own 80, .own 96], aX 64 9 r.1.Stops, aX 80 75 r.1.Lines, aX 96 64 v8], 128⟩) (fun vv hm => ?_) ?_
 ·refine Ok_block (lpP hm (fun (n, v, v1, v2, v3, v4) => ⟨[(0, .ref 0 0), (2, .ref 32 0), (3, .ref 48 0), (4, dV n), (5, dV v)], [bX 0 68 [dV v1, dV v2, kV .u64 v3], bX 32 30 [.dat (.sc (.slice none 0 0)), .dat (.sc (.slice none 0 0)), .dat (.sc (.slice none 0 0))], bX 48 30 [.own 64, .own 80, .own 96], aX 64 9 r.1.Stops, aX 80 75 r.1.Lines, aX 96 64 v4], 128⟩) (Wk_J G.hL ⟨[(0, []), (2, []), (3, []), (4, []), (5, [])], [(0, 0, []), (32, 16, []), (48, 80, [.k, .k, .o 96]), (64, 48, []), (80, 49, [])], [(96, 64, 3, [])], 128⟩ (by kernel_rfl)) ?_)
  rintro ⟨n, v, v1, v2, v3, v4⟩ r0 hb hm
  rw [zq51_L1] at hm
  refine Ok_seq (rg G (cd hm (fun hm => ?_) (fun hm => ?_)))
  ·refine X_skip (thN (Ok_seq (Ok_block ?_)))
   obtain ⟨r2, h2, hm⟩ := obind hm
   refine rs G (hC 3 (zq49_c h2) h0) ?_
   obtain ⟨r5, h6, hm⟩ := obind hm
   obtain ⟨r6, h7, hm⟩ := obind hm
   obtain ⟨u1, h8, hm⟩ := obind hm
   refine de G [(8, [0]), (10, [0]), (15, [96, 480]), (17, [48, 496])] (hN 7 r.1.Lines (hC 8 (zq49_c h6) (hC 10 (zq49_c h7) (hA 15 24 h8 h0)))) ?_
   exact ibN (thN (rh G (wL G hm)))
  ·exact Ok_exit (thE (thE (ibE (wD G hm hb))))
 rintro ⟨v5, v6, v7, v8⟩ hm s hw
 refine thN (Ok_weak hw ?_)
 refine rg G ?_
 cases hm
 exact rt [64, 80, 96] []
noncomputable def zq37_M : MS (l1Cur × (List Int)) (Int × l1Cur) := ⟨.x (.b 68) .r, fun x => zq37 x.1 x.2, fun y => dV y.1, fun _ => [], fun _ y => [bxO 68 y.2]⟩
theorem zq37_c {c list y} (hm : zq37 c list = some y) : zq37_M.C (c, list) y := zq37_M.c (c, list) hm
theorem zq37_ok : FnOK Tryz.prog tJ 48 zq37_M.S := by
 refine fm tt zq37_M [fo zq49_ok] Tryz.call48 Tryz.func48 rfl Tryz.results48 Tryz.ntmps48 ?_
 rintro ⟨c, list⟩ y cx G hm
 have hm : zq37 c list = some y := hm
 unfold zq37 at hm
 refine rg G ?_
 obtain ⟨r, h, hm⟩ := obind hm
 obtain ⟨e, h1, hm⟩ := obind hm
 refine rs G (hN 3 list (hC 4 (zq49_c h) (hD 5 h1 h0))) ?_
 cases hm
 exact rt [] []
noncomputable def zq47_M : MS (l1Cur × (List ByteArray)) (ByteArray × l1Cur) := ⟨.x (.b 68) (.s 9), fun x => zq47 x.1 x.2, fun y => dV y.1, fun _ => [], fun x y => [bxO 68 y.2, arO 9 x.2]⟩
theorem zq47_c {c list y} (hm : zq47 c list = some y) : zq47_M.C (c, list) y := zq47_M.c (c, list) hm
theorem zq47_ok : FnOK Tryz.prog tJ 66 zq47_M.S := by
 refine fm tt zq47_M [fo zq49_ok] Tryz.call66 Tryz.func66 rfl Tryz.results66 Tryz.ntmps66 ?_
 rintro ⟨c, list⟩ y cx G hm
 have hm : zq47 c list = some y := hm
 unfold zq47 at hm
 refine rg G ?_
 obtain ⟨r, h, hm⟩ := obind hm
 obtain ⟨e, h1, hm⟩ := obind hm
 refine rs G (hN 3 list (hC 4 (zq49_c h) (hD 5 h1 (hE 6 h1 h0)))) ?_
 cases hm
 exact rt [] []
noncomputable def zq64_M : MS Network Network := ⟨.r, zq64, fun _ => .aggv [.own 0, .own 1], fun y => [arO 9 y.Stops, taO 75 [none, some 3, some 3] y.Lines], fun _ _ => []⟩
theorem zq64_c {n y} (hm : zq64 n = some y) : zq64_M.C n y := zq64_M.c n hm
theorem zq64_ok : FnOK Tryz.prog tJ 125 zq64_M.S := by
 refine fm tt zq64_M [fo zq54_ok] Tryz.call125 Tryz.func125 rfl Tryz.results125 Tryz.ntmps125 ?_
 rintro n y cx G hm
 have hm : zq64 n = some y := hm
 unfold zq64 at hm
 refine rg G ?_
 obtain ⟨u, h, hm⟩ := obind hm
 refine rs G (hA 3 16 h h0) ?_
 refine Ok_seq (rg G (tl hm (fun v2 => ⟨[(2, .ref 16 0), (3, .ref 32 0)], [bX 16 27 [.dat (.sc (.slice none 0 0)), .dat (.sc (.slice none 0 0))], bX 32 27 [.own 48, .own 64], aX 48 9 (([] : List ByteArray) ++ n.Stops), tX 64 75 [none, some 3, some 3] v2 64 none], 96⟩) (fun v2 hm => ?_) ?_))
 ·refine Ok_block (lpP hm (fun (v, v1) => ⟨[(1, .ref 16 0), (2, .ref 32 0), (3, .ref 48 0), (4, dV v)], [bX 16 27 [dV n.Stops, dV n.Lines], bX 32 27 [.dat (.sc (.slice none 0 0)), .dat (.sc (.slice none 0 0))], bX 48 27 [.own 64, .own 80], aX 64 9 (([] : List ByteArray) ++ n.Stops), tX 80 75 [none, some 3, some 3] v1 80 none], 112⟩) (Wk_J G.hL ⟨[(1, []), (2, []), (3, []), (4, [])], [(16, 16, []), (32, 32, []), (48, 128, [.k, .o 80]), (64, 96, [])], [(80, 75, 3, [none, some 3, some 3])], 112⟩ (by kernel_rfl)) ?_)
  rintro ⟨v, v1⟩ r0 hb hm
  rw [zq64_L1] at hm
  refine Ok_seq (rs G (hN 3 n.Lines h0) ?_)
  refine cd hm (fun hm => ?_) (fun hm => ?_)
  ·refine X_skip (thN (Ok_seq (Ok_block ?_)))
   obtain ⟨e3, h7, hm⟩ := obind hm
   obtain ⟨e4, h8, hm⟩ := obind hm
   obtain ⟨r2, h9, hm⟩ := obind hm
   obtain ⟨e5, h10, hm⟩ := obind hm
   obtain ⟨r3, h11, hm⟩ := obind hm
   obtain ⟨u2, h12, hm⟩ := obind hm
   refine de G [(23, [416, 528]), (24, [80, 560]), (26, [48, 576])] (hD 5 h7 (hD 11 h8 (hC 14 (zq54_c h9) (hD 18 h10 (hC 21 (zq54_c h11) (hP (nodupB_ok (l := [416, 528]) rfl) (hA 24 64 h12 h0))))))) ?_
   exact ibN (thN (rh G (wL G hm)))
  ·exact Ok_exit (thE (thE (ibE (wD G hm hb))))
 rintro v2 hm s hw
 refine thN (Ok_weak hw ?_)
 refine rg G ?_
 cases hm
 exact rt [48, 64] []
noncomputable def zq44_M : MS l1Cur (Network × l1Cur) := ⟨.b 68, zq44, fun _ => .aggv [.own 0, .own 1], fun y => [arO 9 y.1.Stops, taO 75 [none, some 3, some 3] y.1.Lines], fun _ y => [bxO 68 y.2]⟩
theorem zq44_c {c y} (hm : zq44 c = some y) : zq44_M.C c y := zq44_M.c c hm
theorem zq44_ok : FnOK Tryz.prog tJ 85 zq44_M.S := by
 refine fm tt zq44_M [fo zq49_ok, fo zq53_ok, fo zq42_ok, fo zq48_ok, fo zq57_ok, fo zq64_ok] Tryz.call85 Tryz.func85 rfl Tryz.results85 Tryz.ntmps85 ?_
 rintro c y cx G hm
 have hm : zq44 c = some y := hm
 unfold zq44 at hm
 refine rg G ?_
 obtain ⟨r, h, hm⟩ := obind hm
 refine rs G (hC 1 (zq49_c h) h0) ?_
 obtain ⟨u, h1, hm⟩ := obind hm
 refine rs G (hO 2 (.fz [96] [] []) (hU 2 h1 h0)) ?_
 refine Ok_seq ?_
 obtain ⟨r1, h2, hm⟩ := obind hm
 refine rs G (hC 1 (zq49_c h2) h0) ?_
 refine tl hm (fun (v4, v5, v6, v7) => ⟨[(0, .ref 0 0), (2, .ref 32 0), (4, .ref 48 0)], [bX 0 68 [dV v4, dV v5, kV .u64 v6], bX 32 27 [.dat (.sc (.slice none 0 0)), .dat (.sc (.slice none 0 0))], bX 48 27 [dV ((([(str [112, 111, 114, 116]), (str [109, 105, 108, 108]), (str [112, 97, 114, 107]), (str [104, 97, 108, 108]), (str [100, 111, 99, 107]), (str [102, 97, 105, 114])] : List ByteArray).take (w64 (2 + r.1)).toNat).drop (0 : Int).toNat), .own 64], aX 64 75 v7], 96⟩) (fun vv1 hm => ?_) ?_
 ·refine Ok_block (lpP hm (fun (x, v, v1, v2, v3) => ⟨[(0, .ref 0 0), (2, .ref 32 0), (3, dV (w64 (2 + r.1))), (4, .ref 48 0), (5, dV x)], [bX 0 68 [dV v, dV v1, kV .u64 v2], bX 32 27 [.dat (.sc (.slice none 0 0)), .dat (.sc (.slice none 0 0))], bX 48 27 [dV ((([(str [112, 111, 114, 116]), (str [109, 105, 108, 108]), (str [112, 97, 114, 107]), (str [104, 97, 108, 108]), (str [100, 111, 99, 107]), (str [102, 97, 105, 114])] : List ByteArray).take (w64 (2 + r.1)).toNat).drop (0 : Int).toNat), .own 64], aX 64 75 v3], 96⟩) (Wk_J G.hL ⟨[(0, []), (2, []), (3, []), (4, []), (5, [])], [(0, 0, []), (32, 16, []), (48, 160, [.k, .o 64])], [(64, 75, 3, [])], 96⟩ (by kernel_rfl)) ?_)
  rintro ⟨x, v, v1, v2, v3⟩ r0 hb hm
  rw [zq44_L1] at hm
  refine Ok_seq (rg G (cd hm (fun hm => ?_) (fun hm => ?_)))
  ·refine X_skip (thN (Ok_seq (Ok_block ?_)))
   obtain ⟨r4, h7, hm⟩ := obind hm
   obtain ⟨u3, h8, hm⟩ := obind hm
   obtain ⟨r5, h9, hm⟩ := obind hm
   obtain ⟨u4, h10, hm⟩ := obind hm
   refine de G [(7, [0]), (8, []), (9, [64, 256]), (11, [48, 272])] (hC 4 (zq53_c h7) (hP (cat_p (chk_t h8)) (hC 7 (zq42_c h9) (hA 9 64 h10 h0)))) ?_
   exact ibN (thN (rh G (wL G hm)))
  ·exact Ok_exit (thE (thE (ibE (wD G hm hb))))
 rintro ⟨v4, v5, v6, v7⟩ hm s hw
 refine thN (Ok_weak hw ?_)
 refine jn hm (fun (v8, v9, v10, v11) => ⟨[(0, .ref 0 0), (2, .ref 32 0), (4, .ref 48 0)], [bX 0 68 [dV v8, dV v9, kV .u64 v10], bX 32 27 [.dat (.sc (.slice none 0 0)), .dat (.sc (.slice none 0 0))], bX 48 27 [dV ((([(str [112, 111, 114, 116]), (str [109, 105, 108, 108]), (str [112, 97, 114, 107]), (str [104, 97, 108, 108]), (str [100, 111, 99, 107]), (str [102, 97, 105, 114])] : List ByteArray).take (w64 (2 + r.1)).toNat).drop (0 : Int).toNat), .own 64], aX 64 75 v11], 96⟩) (fun vv hm => ?_) ?_
 ·obtain ⟨r6, h11, hm⟩ := obind hm
  refine rs G (hC 1 (zq48_c h11) h0) ?_
  refine cd hm (fun hm => ?_) (fun hm => ?_)
  ·obtain ⟨e, h12, hm⟩ := obind hm
   refine rs G (hD 2 h12 (hE 3 h12 h0)) ?_
   obtain ⟨r9, h16, hm⟩ := obind hm
   obtain ⟨r10, h17, hm⟩ := obind hm
   obtain ⟨u6, h18, hm⟩ := obind hm
   refine de G [(9, []), (10, [64, 368]), (12, [48, 384])] (hC 4 (zq57_c h16) (hC 7 (zq57_c h17) (hA 10 64 h18 h0))) ?_
   exact wJ G hm
  ·exact X_skip (wJ G hm)
 rintro ⟨v8, v9, v10, v11⟩ hm
 obtain ⟨r11, h19, hm⟩ := obind hm
 refine rs G (hO 1 (.fz [64] [] []) (hC 1 (zq64_c h19) h0)) ?_
 cases hm
 exact rt [112, 113] []
noncomputable def zq38_M : MS (l1Cur × (List Int)) (Int × l1Cur) := ⟨.x (.b 68) (.s 3), fun x => zq38 x.1 x.2, fun y => dV y.1, fun _ => [], fun x y => [bxO 68 y.2, arO 3 x.2]⟩
theorem zq38_c {c list y} (hm : zq38 c list = some y) : zq38_M.C (c, list) y := zq38_M.c (c, list) hm
theorem zq38_ok : FnOK Tryz.prog tJ 48 zq38_M.S := by
 refine fm tt zq38_M [fo zq49_ok] Tryz.call48 Tryz.func48 rfl Tryz.results48 Tryz.ntmps48 ?_
 rintro ⟨c, list⟩ y cx G hm
 have hm : zq38 c list = some y := hm
 unfold zq38 at hm
 refine rg G ?_
 obtain ⟨r, h, hm⟩ := obind hm
 obtain ⟨e, h1, hm⟩ := obind hm
 refine rs G (hN 3 list (hC 4 (zq49_c h) (hD 5 h1 (hE 6 h1 h0)))) ?_
 cases hm
 exact rt [] []
noncomputable def zq39_M : MS l1Cur (Network × l1Cur) := ⟨.b 68, zq39, fun y => .aggv [.own 0, dV y.1.Lines], fun y => [arO 9 y.1.Stops], fun _ y => [bxO 68 y.2]⟩
theorem zq39_c {c y} (hm : zq39 c = some y) : zq39_M.C c y := zq39_M.c c hm
theorem zq39_ok : FnOK Tryz.prog tJ 86 zq39_M.S := by
 refine fm tt zq39_M [fo zq44_ok, fo zq49_ok, fo zq47_ok, fo zq38_ok, fo zq53_ok, fo zq41_ok] Tryz.call86 Tryz.func86 rfl Tryz.results86 Tryz.ntmps86 ?_
 rintro c y cx G hm
 have hm : zq39 c = some y := hm
 unfold zq39 at hm
 refine rg G ?_
 obtain ⟨r, h, hm⟩ := obind hm
 refine rs G (hC 1 (zq44_c h) h0) ?_
 obtain ⟨r1, h1, hm⟩ := obind hm
 refine rs G (hN 3 r.1.Lines (hC 4 (zq49_c h1) h0)) ?_
 obtain ⟨e, h2, hm⟩ := obind hm
 refine rs G (hD 3 h2 (hE 4 h2 h0)) ?_
 refine jF hm (fun (v, v1, v2, v3, v4, v5, v6) => ⟨[(0, .ref 0 0), (2, .ref 32 0), (3, .ref 48 0), (4, dV r1.1), (5, .ref 64 0)], [bX 0 68 [dV v, dV v1, kV .u64 v2], bX 32 27 [.dat (.sc (.slice none 0 0)), .dat (.sc (.slice none 0 0))], bX 48 27 [.own 80, .own 96], bX 64 75 [dV v3, .row 96 96 r1.1.toNat 1, .own 112], aX 80 9 v4, tX 96 75 [none, some 3, some 3] v5 96 (some (r1.1.toNat, 2)), aX 112 3 v6], 144⟩) (fun v17 hr hm => ?_) ?_
 ·obtain ⟨r2, h3, hm⟩ := obind hm
  refine rs G (hC 1 (zq49_c h3) h0) ?_
  refine Ok_block (rg G (cd hm (fun hm => ?_) (fun hm => ?_)))
  ·obtain ⟨r4, h6, hm⟩ := obind hm
   obtain ⟨e2, h7, hm⟩ := obind hm
   refine de G [(4, [0, 416]), (6, [48])] (hC 4 (zq47_c h6) (hD 5 h7 (hS 6 h7 r4.1 h0))) ?_
   exact ibN (wFp hm (Wk.trans (Wk_S (.c 272 2) (Enc.e e) (.cons (idx_m2 (f := Enc.e) (l := r.1.Lines) (i := r1.1) h2) .nil) (by kernel_rfl)) (Wk_J G.hL ⟨[(0, []), (2, []), (3, []), (4, []), (5, [])], [(0, 0, []), (32, 16, []), (48, 64, []), (64, 272, []), (80, 48, []), (96, 49, []), (112, 480, [])], [], 144⟩ (by kernel_rfl))))
  ·refine rg G (cd hm (fun hm => ?_) (fun hm => ?_))
   ·obtain ⟨r5, h8, hm⟩ := obind hm
    refine re G (hC 2 (zq47_c h8) h0) ?_
    exact ibN (wFp hm (Wk.trans (Wk_S (.c 272 2) (Enc.e e) (.cons (idx_m2 (f := Enc.e) (l := r.1.Lines) (i := r1.1) h2) .nil) (by kernel_rfl)) (Wk_J G.hL ⟨[(0, []), (2, []), (3, []), (4, []), (5, [])], [(0, 0, []), (32, 16, []), (48, 64, []), (64, 272, []), (80, 48, []), (96, 49, []), (112, 480, [])], [], 144⟩ (by kernel_rfl))))
   ·refine rg G (cd hm (fun hm => ?_) (fun hm => ?_))
    ·obtain ⟨r8, h12, hm⟩ := obind hm
     obtain ⟨r9, h13, hm⟩ := obind hm
     obtain ⟨e4, h14, hm⟩ := obind hm
     refine de G [(6, [0]), (8, [0]), (11, [49])] (hO 5 (.dn (Enc.e e) (e.Stops.length : Int)) (hP (idx_m2 (f := Enc.e) h2) (hP (len_m Enc.e e.Stops) (hC 6 (zq49_c h12) (hC 8 (zq49_c h13) (hE 10 h2 (hP (idx_b (f := Enc.e) h14) (hO 11 (.sd2 (Enc.e e) (Enc.e e4) (List.map Enc.e (e.Stops.set r8.1.toNat (w64 (r9.1 - 1)))) (List.map Enc.e (r.1.Lines.set r1.1.toNat (⟨e.Name, (e.Stops.set r8.1.toNat (w64 (r9.1 - 1))), e.Runs⟩ : Line)))) (hP (idx_m2 (f := Enc.e) h2) (hP (idx_m2 (f := Enc.e) h14) (hP (set_m Enc.e e.Stops r8.1.toNat (w64 (r9.1 - 1))) (hP (set_m Enc.e r.1.Lines r1.1.toNat (⟨e.Name, (e.Stops.set r8.1.toNat (w64 (r9.1 - 1))), e.Runs⟩ : Line)) h0)))))))))))) ?_
     exact ibN (wFp hm (Wk.trans (Wk_S (.c 272 2) (Enc.e (⟨e.Name, (e.Stops.set r8.1.toNat (w64 (r9.1 - 1))), e.Runs⟩ : Line)) (.cons (idx_m2 (f := Enc.e) (l := (r.1.Lines.set r1.1.toNat (⟨e.Name, (e.Stops.set r8.1.toNat (w64 (r9.1 - 1))), e.Runs⟩ : Line))) (i := r1.1) (idx_set (y := (⟨e.Name, (e.Stops.set r8.1.toNat (w64 (r9.1 - 1))), e.Runs⟩ : Line)) h2)) .nil) (by kernel_rfl)) (Wk_J G.hL ⟨[(0, []), (2, []), (3, []), (4, []), (5, [])], [(0, 0, []), (32, 16, []), (48, 64, []), (64, 272, []), (80, 48, []), (96, 49, []), (112, 624, [])], [], 144⟩ (by kernel_rfl))))
    ·refine rg G (cd hm (fun hm => ?_) (fun hm => ?_))
     ·obtain ⟨r12, h18, hm⟩ := obind hm
      obtain ⟨r13, h19, hm⟩ := obind hm
      obtain ⟨e6, h20, hm⟩ := obind hm
      refine de G [(6, [0]), (9, [0, 592]), (11, [49])] (hO 5 (.dn (Enc.e e) (e.Runs.length : Int)) (hP (idx_m2 (f := Enc.e) h2) (hP (len_m Enc.e e.Runs) (hC 6 (zq49_c h18) (hC 9 (zq38_c h19) (hE 10 h2 (hP (idx_b (f := Enc.e) h20) (hO 11 (.sd2 (Enc.e e) (Enc.e e6) (List.map Enc.e (e.Runs.set r12.1.toNat r13.1)) (List.map Enc.e (r.1.Lines.set r1.1.toNat (⟨e.Name, e.Stops, (e.Runs.set r12.1.toNat r13.1)⟩ : Line)))) (hP (idx_m2 (f := Enc.e) h2) (hP (idx_m2 (f := Enc.e) h20) (hP (set_m Enc.e e.Runs r12.1.toNat r13.1) (hP (set_m Enc.e r.1.Lines r1.1.toNat (⟨e.Name, e.Stops, (e.Runs.set r12.1.toNat r13.1)⟩ : Line)) h0)))))))))))) ?_
      exact ibN (wFp hm (Wk.trans (Wk_S (.c 272 2) (Enc.e (⟨e.Name, e.Stops, (e.Runs.set r12.1.toNat r13.1)⟩ : Line)) (.cons (idx_m2 (f := Enc.e) (l := (r.1.Lines.set r1.1.toNat (⟨e.Name, e.Stops, (e.Runs.set r12.1.toNat r13.1)⟩ : Line))) (i := r1.1) (idx_set (y := (⟨e.Name, e.Stops, (e.Runs.set r12.1.toNat r13.1)⟩ : Line)) h2)) .nil) (by kernel_rfl)) (Wk_J G.hL ⟨[(0, []), (2, []), (3, []), (4, []), (5, [])], [(0, 0, []), (32, 16, []), (48, 64, []), (64, 272, []), (80, 48, []), (96, 49, []), (112, 656, [])], [], 144⟩ (by kernel_rfl))))
     ·refine rg G (cd hm (fun hm => ?_) (fun hm => ?_))
      ·obtain ⟨u, h21, hm⟩ := obind hm
       refine re G (hO 3 (.sd (Enc.e e) (List.map Enc.e (e.Runs ++ ([3] : List Int)))) (hP (idx_m2 (f := Enc.e) h2) (hP (app_p (f := Enc.e) (g := Enc.e) (l := e.Runs) (r := ([3] : List Int)) (b := 8) (chk_t h21) rfl) (hP (app_m Enc.e e.Runs ([3] : List Int)) h0)))) ?_
       exact ibN (wF G hm)
      ·refine rg G (cd hm (fun hm => ?_) (fun hm => ?_))
       ·refine rg G (rg G ?_)
        have hm := eR hm hr
        cases hm
        exact rt [48] []
       ·refine rg G (cd hm (fun hm => ?_) (fun hm => ?_))
        ·refine Ok_seq (rg G (tl hm (fun (v13, v14, v15, v16) => ⟨[(0, .ref 0 0), (2, .ref 32 0), (3, .ref 48 0)], [bX 0 68 [dV v13, dV v14, kV .u64 v15], bX 32 27 [.dat (.sc (.slice none 0 0)), .dat (.sc (.slice none 0 0))], bX 48 27 [.own 64, .own 80], aX 64 9 r.1.Stops, tX 80 75 [none, some 3, some 3] v16 80 none], 112⟩) (fun vv hm => ?_) ?_))
         ·refine Ok_block (lp G hm (fun (v7, v8, v9, v10, v11) => ⟨[(0, .ref 0 0), (2, .ref 32 0), (3, .ref 48 0), (6, dV v7)], [bX 0 68 [dV v8, dV v9, kV .u64 v10], bX 32 27 [.dat (.sc (.slice none 0 0)), .dat (.sc (.slice none 0 0))], bX 48 27 [.own 64, .own 80], aX 64 9 r.1.Stops, tX 80 75 [none, some 3, some 3] v11 80 none], 112⟩) ?_)
          rintro ⟨v7, v8, v9, v10, v11⟩ r0 hb hm
          rw [zq39_L1] at hm
          refine Ok_seq ?_
          obtain ⟨r16, h23, hm⟩ := obind hm
          refine jn hm (fun v12 => ⟨[(0, .ref 0 0), (2, .ref 32 0), (3, .ref 48 0), (6, dV v7), (85, dV v12)], [bX 0 68 [dV r16.2.code_, dV r16.2.at_, kV .u64 r16.2.seed_.v], bX 32 27 [.dat (.sc (.slice none 0 0)), .dat (.sc (.slice none 0 0))], bX 48 27 [.own 64, .own 80], aX 64 9 r.1.Stops, tX 80 75 [none, some 3, some 3] v11 80 none], 112⟩) (fun v12 hm => ?_) ?_
          ·rcases bf hm with ⟨hb1, hm⟩ | ⟨hb1, hm⟩
           ·refine de G [(4, [0])] (hN 2 v11 (hC 4 (zq49_c h23) (hO 7 (.b true) (hP hb1 h0)))) ?_
            exact wJ G hm
           ·refine de G [(4, [0])] (hN 2 v11 (hC 4 (zq49_c h23) (hO 7 (.b false) (hP hb1 h0)))) ?_
            exact wJ G hm
          rintro v12 hm
          refine cd hm (fun hm => ?_) (fun hm => ?_)
          ·refine X_skip (thN (Ok_seq (Ok_block ?_)))
           obtain ⟨r19, h28, hm⟩ := obind hm
           obtain ⟨u3, h29, hm⟩ := obind hm
           obtain ⟨r20, h30, hm⟩ := obind hm
           obtain ⟨u4, h31, hm⟩ := obind hm
           refine de G [(9, [0]), (10, [256, 257]), (11, [80, 272]), (13, [48, 288])] (hC 4 (zq53_c h28) (hP (cat_p (chk_t h29)) (hN 8 r.1.Stops (hC 9 (zq41_c h30) (hP (nodupB_ok (l := [256, 257]) rfl) (hA 11 64 h31 h0)))))) ?_
           exact ibN (thN (rh G (wL G hm)))
          ·exact Ok_exit (thE (thE (ibE (wD G hm hb))))
         rintro ⟨v13, v14, v15, v16⟩ hm s hw
         refine thN (Ok_weak hw ?_)
         refine rg G ?_
         have hm := eR hm hr
         cases hm
         exact rt [64] []
        ·exact X_skip (ibN (wFp hm (Wk.trans (Wk_S (.c 272 2) (Enc.e e) (.cons (idx_m2 (f := Enc.e) (l := r.1.Lines) (i := r1.1) h2) .nil) (by kernel_rfl)) (Wk_J G.hL ⟨[(0, []), (2, []), (3, []), (4, []), (5, [])], [(0, 0, []), (32, 16, []), (48, 64, []), (64, 272, []), (80, 48, []), (96, 49, []), (112, 560, [])], [], 144⟩ (by kernel_rfl)))))
 rintro ⟨v, v1, v2, v3, v4, v5, v6⟩ hm
 obtain ⟨e9, h32, hm⟩ := obind hm
 refine rs G (hD 4 h32 (hS 5 h32 (⟨v3, e9.Stops, v6⟩ : Line) (hP (Eq.refl r1.1.toNat) (hP (Eq.refl r1.1.toNat) h0)))) ?_
 refine rg G ?_
 cases hm
 exact rt [80] []
noncomputable def zq40_M : MS l1Cur (Timetable × l1Cur) := ⟨.b 68, zq40, fun y => .aggv [.own 0, dV y.1.Network.Lines, .own 1], fun y => [arO 9 y.1.Network.Stops, arO 64 y.1.Trips], fun _ y => [bxO 68 y.2]⟩
theorem zq40_c {c y} (hm : zq40 c = some y) : zq40_M.C c y := zq40_M.c c hm
theorem zq40_ok : FnOK Tryz.prog tJ 44 zq40_M.S := by
 refine fm tt zq40_M [fo zq51_ok, fo zq49_ok, fo zq37_ok, fo zq39_ok] Tryz.call44 Tryz.func44 rfl Tryz.results44 Tryz.ntmps44 ?_
 rintro c y cx G hm
 have hm : zq40 c = some y := hm
 unfold zq40 at hm
 refine rg G ?_
 obtain ⟨r, h, hm⟩ := obind hm
 refine rs G (hC 1 (zq51_c h) h0) ?_
 refine Ok_seq (rs G (hN 2 r.1.Trips h0) ?_)
 refine cd hm (fun hm => ?_) (fun hm => ?_)
 ·refine rg G ?_
  cases hm
  exact rt [48, 50] []
 ·refine X_skip (thN ?_)
  obtain ⟨r1, h1, hm⟩ := obind hm
  refine rs G (hN 3 r.1.Trips (hC 4 (zq49_c h1) h0)) ?_
  obtain ⟨e, h2, hm⟩ := obind hm
  refine rs G (hD 3 h2 (hE 4 h2 h0)) ?_
  refine jF hm (fun (v, v1, v2, v3, v4, v5, v6, v7) => ⟨[(0, .ref 0 0), (2, .ref 32 0), (3, .ref 48 0), (4, dV r1.1), (5, .ref 64 0)], [bX 0 68 [dV v, dV v1, kV .u64 v2], bX 32 30 [.dat (.sc (.slice none 0 0)), .dat (.sc (.slice none 0 0)), .dat (.sc (.slice none 0 0))], bX 48 30 [.own 80, dV v3, .own 96], bX 64 64 [dV v4, dV v5, dV v6], aX 80 9 v7, aX 96 64 r.1.Trips], 128⟩) (fun v18 hr hm => ?_) ?_
  ·obtain ⟨r2, h3, hm⟩ := obind hm
   refine rs G (hC 1 (zq49_c h3) h0) ?_
   refine Ok_block (rg G (cd hm (fun hm => ?_) (fun hm => ?_)))
   ·obtain ⟨r3, h4, hm⟩ := obind hm
    refine re G (hO 2 (.fz [448] [] []) (hC 2 (zq37_c h4) h0)) ?_
    exact ibN (wF G hm)
   ·refine rg G (cd hm (fun hm => ?_) (fun hm => ?_))
    ·obtain ⟨r4, h5, hm⟩ := obind hm
     refine re G (hC 1 (zq49_c h5) h0) ?_
     exact ibN (wF G hm)
    ·refine rg G (cd hm (fun hm => ?_) (fun hm => ?_))
     ·obtain ⟨r5, h6, hm⟩ := obind hm
      refine re G (hO 2 (.fz [512] [] []) (hC 2 (zq37_c h6) h0)) ?_
      exact ibN (wF G hm)
     ·refine rg G (cd hm (fun hm => ?_) (fun hm => ?_))
      ·obtain ⟨r6, h7, hm⟩ := obind hm
       refine re G (hC 1 (zq39_c h7) h0) ?_
       exact ibN (wF G hm)
      ·refine rg G (cd hm (fun hm => ?_) (fun hm => ?_))
       ·refine Ok_seq (rg G (tl hm (fun (v14, v15, v16, v17) => ⟨[(0, .ref 0 0), (2, .ref 32 0), (3, .ref 48 0)], [bX 0 68 [dV v14, dV v15, kV .u64 v16], bX 32 30 [.dat (.sc (.slice none 0 0)), .dat (.sc (.slice none 0 0)), .dat (.sc (.slice none 0 0))], bX 48 30 [.own 64, .own 80, .own 96], aX 64 9 r.1.Network.Stops, aX 80 75 r.1.Network.Lines, aX 96 64 v17], 128⟩) (fun vv hm => ?_) ?_))
        ·refine Ok_block (lp G hm (fun (v8, v9, v10, v11, v12) => ⟨[(0, .ref 0 0), (2, .ref 32 0), (3, .ref 48 0), (6, dV v8)], [bX 0 68 [dV v9, dV v10, kV .u64 v11], bX 32 30 [.dat (.sc (.slice none 0 0)), .dat (.sc (.slice none 0 0)), .dat (.sc (.slice none 0 0))], bX 48 30 [.own 64, .own 80, .own 96], aX 64 9 r.1.Network.Stops, aX 80 75 r.1.Network.Lines, aX 96 64 v12], 128⟩) ?_)
         rintro ⟨v8, v9, v10, v11, v12⟩ r0 hb hm
         rw [zq40_L1] at hm
         refine Ok_seq ?_
         obtain ⟨r8, h9, hm⟩ := obind hm
         refine jn hm (fun v13 => ⟨[(0, .ref 0 0), (2, .ref 32 0), (3, .ref 48 0), (6, dV v8), (61, dV v13)], [bX 0 68 [dV r8.2.code_, dV r8.2.at_, kV .u64 r8.2.seed_.v], bX 32 30 [.dat (.sc (.slice none 0 0)), .dat (.sc (.slice none 0 0)), .dat (.sc (.slice none 0 0))], bX 48 30 [.own 64, .own 80, .own 96], aX 64 9 r.1.Network.Stops, aX 80 75 r.1.Network.Lines, aX 96 64 v12], 128⟩) (fun v13 hm => ?_) ?_
         ·rcases bf hm with ⟨hb1, hm⟩ | ⟨hb1, hm⟩
          ·refine de G [(4, [0])] (hN 2 v12 (hC 4 (zq49_c h9) (hO 7 (.b true) (hP hb1 h0)))) ?_
           exact wJ G hm
          ·refine de G [(4, [0])] (hN 2 v12 (hC 4 (zq49_c h9) (hO 7 (.b false) (hP hb1 h0)))) ?_
           exact wJ G hm
         rintro v13 hm
         refine cd hm (fun hm => ?_) (fun hm => ?_)
         ·refine X_skip (thN (Ok_seq (Ok_block ?_)))
          obtain ⟨u, h10, hm⟩ := obind hm
          refine re G (hA 8 24 h10 h0) ?_
          exact ibN (thN (rh G (wL G hm)))
         ·exact Ok_exit (thE (thE (ibE (wD G hm hb))))
        rintro ⟨v14, v15, v16, v17⟩ hm s hw
        refine thN (Ok_weak hw ?_)
        refine rg G ?_
        have hm := eR hm hr
        cases hm
        exact rt [64, 96] []
       ·exact X_skip (ibN (wF G hm))
  rintro ⟨v, v1, v2, v3, v4, v5, v6, v7⟩ hm
  obtain ⟨e2, h11, hm⟩ := obind hm
  refine rs G (hD 4 h11 (hS 5 h11 (⟨v4, v5, v6⟩ : Trip) h0)) ?_
  refine rg G ?_
  cases hm
  exact rt [80, 96] []
noncomputable def zq33_M : MS ((List UInt8)) Timetable := ⟨.r, zq33, fun y => .aggv [.own 0, dV y.Network.Lines, .own 1], fun y => [arO 9 y.Network.Stops, arO 64 y.Trips], fun _ _ => []⟩
theorem zq33_c {code y} (hm : zq33 code = some y) : zq33_M.C code y := zq33_M.c code hm
theorem zq33_ok : FnOK Tryz.prog tJ 29 zq33_M.S := by
 refine fm tt zq33_M [fo zq40_ok] Tryz.call29 Tryz.func29 rfl Tryz.results29 Tryz.ntmps29 ?_
 rintro code y cx G hm
 have hm : zq33 code = some y := hm
 unfold zq33 at hm
 refine rg G (rg G ?_)
 obtain ⟨r, h, hm⟩ := obind hm
 refine rs G (hC 1 (zq40_c h) h0) ?_
 cases hm
 exact rt [112, 113] []
noncomputable def zq31_M : MS ((List UInt8)) Timetable := ⟨.r, zq31, fun y => .aggv [.own 0, dV y.Network.Lines, .own 1], fun y => [arO 9 y.Network.Stops, arO 64 y.Trips], fun _ _ => []⟩
theorem zq31_c {code y} (hm : zq31 code = some y) : zq31_M.C code y := zq31_M.c code hm
theorem zq31_ok : FnOK Tryz.prog tJ 6 zq31_M.S := by
 refine fm tt zq31_M [fo zq33_ok] Tryz.call6 Tryz.func6 rfl Tryz.results6 Tryz.ntmps6 ?_
 rintro code y cx G hm
 have hm : zq31 code = some y := hm
 unfold zq31 at hm
 refine rg G ?_
 obtain ⟨r, h, hm⟩ := obind hm
 refine rs G (hC 1 (zq33_c h) h0) ?_
 cases hm
 exact rt [48, 49] []
noncomputable def zq29_M : MS (Int × Int × Int) Bool := ⟨.x .r (.x .r .r), fun x => zq29 x.1 x.2.1 x.2.2, fun y => dV y, fun _ => [], fun _ _ => []⟩
theorem zq29_c {n lo hi y} (hm : zq29 n lo hi = some y) : zq29_M.C (n, lo, hi) y := zq29_M.c (n, lo, hi) hm
theorem zq29_ok : FnOK Tryz.prog tJ 51 zq29_M.S := by
 refine fm tt zq29_M [] Tryz.call51 Tryz.func51 rfl Tryz.results51 Tryz.ntmps51 ?_
 rintro ⟨n, lo, hi⟩ y cx G hm
 have hm : zq29 n lo hi = some y := hm
 unfold zq29 at hm
 refine rg G (jn hm (fun v => ⟨[(6, dV v)], [], 32⟩) (fun v hm => ?_) ?_)
 ·rcases bf hm with ⟨hb, hm⟩ | ⟨hb, hm⟩
  ·refine re G (hO 3 (.b true) (hP hb h0)) ?_
   exact wJ G hm
  ·refine re G (hO 3 (.b false) (hP hb h0)) ?_
   exact wJ G hm
 rintro v hm
 cases hm
 exact rt [] []
noncomputable def zq18_M : MS ByteArray Bool := ⟨.r, zq18, fun y => dV y, fun _ => [], fun _ _ => []⟩
theorem zq18_c {s y} (hm : zq18 s = some y) : zq18_M.C s y := zq18_M.c s hm
theorem zq18_ok : FnOK Tryz.prog tJ 60 zq18_M.S := by
 refine fm tt zq18_M [] Tryz.call60 Tryz.func60 rfl Tryz.results60 Tryz.ntmps60 ?_
 rintro s y cx G hm
 have hm : zq18 s = some y := hm
 unfold zq18 at hm
 refine rg G (Ok_seq (jn hm (fun v => ⟨[(0, dV s), (12, dV v)], [], 32⟩) (fun v hm => ?_) ?_))
 ·rcases bf hm with ⟨hb, hm⟩ | ⟨hb, hm⟩
  ·refine re G (hO 3 (.b true) (hP hb h0)) ?_
   exact wJ G hm
  ·refine re G (hO 3 (.b false) (hP hb h0)) ?_
   exact wJ G hm
 rintro v hm
 refine cd hm (fun hm => ?_) (fun hm => ?_)
 ·refine rg G ?_
  cases hm
  exact rt [] []
 ·refine X_skip (thN (Ok_seq (rg G (tF hm (fun _ => ⟨[], [], 32⟩) (fun v4 hr hm => ?_) ?_))))
  ·refine Ok_block (lp G hm (fun v1 => ⟨[(0, dV s), (14, dV (s.size : Int)), (15, dV v1)], [], 32⟩) ?_)
   rintro v1 r0 hb1 hm
   rw [zq18_L1] at hm
   refine rg G (Ok_seq (cd hm (fun hm => ?_) (fun hm => ?_)))
   ·refine X_skip (thN (Ok_seq (Ok_block (rg G ?_))))
    obtain ⟨u, h, hm⟩ := obind hm
    refine jn hm (fun v2 => ⟨[(0, dV s), (3, dV v1), (4, dV v2), (14, dV (s.size : Int)), (15, dV v1)], [], 32⟩) (fun v2 hm => ?_) ?_
    ·rcases bf hm with ⟨hb2, hm⟩ | ⟨hb2, hm⟩
     ·obtain ⟨u1, h1, hm⟩ := obind hm
      refine re G (hK h (hO 4 (.b true) (hP hb2 (hK h1 h0)))) ?_
      exact wJ G hm
     ·refine re G (hK h (hO 4 (.b false) (hP hb2 h0))) ?_
      exact wJ G hm
    rintro v2 hm
    refine jn hm (fun v3 => ⟨[(0, dV s), (14, dV (s.size : Int)), (15, dV v1), (45, dV v3)], [], 32⟩) (fun v3 hm => ?_) ?_
    ·rcases bf hm with ⟨hb3, hm⟩ | ⟨hb3, hm⟩
     ·rcases bf hm with ⟨hb4, hm⟩ | ⟨hb4, hm⟩
      ·refine re G (hO 2 (.b true) (hP hb3 (hO 5 (.b true) (hP hb4 h0)))) ?_
       exact wJ G hm
      ·obtain ⟨u2, h2, hm⟩ := obind hm
       rcases bf hm with ⟨hb5, hm⟩ | ⟨hb5, hm⟩
       ·refine re G (hO 2 (.b true) (hP hb3 (hO 5 (.b false) (hP hb4 (hK h2 (hO 11 (.b true) (hP hb5 h0))))))) ?_
        exact wJ G hm
       ·obtain ⟨u3, h3, hm⟩ := obind hm
        refine re G (hO 2 (.b true) (hP hb3 (hO 5 (.b false) (hP hb4 (hK h2 (hO 11 (.b false) (hP hb5 (hK h3 h0)))))))) ?_
        exact wJ G hm
     ·refine re G (hO 2 (.b false) (hP hb3 h0)) ?_
      exact wJ G hm
    rintro v3 hm
    refine cd hm (fun hm => ?_) (fun hm => ?_)
    ·refine rg G ?_
     have hm := eL hm hb1 hr
     cases hm
     exact rt [] []
    ·exact X_skip (ibN (thN (rh G (wL G hm))))
   ·exact Ok_exit (thE (thE (ibE (wE G hm hb1))))
  rintro ⟨⟩ hm s1 hw
  refine thN (Ok_weak hw ?_)
  refine rg G ?_
  cases hm
  exact rt [] []
noncomputable def zq78_M : MS ((List ByteArray) × ByteArray) Int := ⟨.x .r .r, fun x => zq78 x.1 x.2, fun y => dV y, fun _ => [], fun _ _ => []⟩
theorem zq78_c {s v y} (hm : zq78 s v = some y) : zq78_M.C (s, v) y := zq78_M.c (s, v) hm
theorem zq78_ok : FnOK Tryz.prog tJ 120 zq78_M.S := by
 refine fm tt zq78_M [] Tryz.call120 Tryz.func120 rfl Tryz.results120 Tryz.ntmps120 ?_
 rintro ⟨s, v⟩ y cx G hm
 have hm : zq78 s v = some y := hm
 unfold zq78 at hm
 refine rg G (Ok_seq (rs G (hN 1 s h0) ?_))
 refine tF hm (fun _ => ⟨[], [], 32⟩) (fun v2 hr hm => ?_) ?_
 ·refine Ok_block (lp G hm (fun v1 => ⟨[(0, dV s), (1, dV v), (7, dV (s.length : Int)), (8, dV v1)], [], 32⟩) ?_)
  rintro v1 r0 hb hm
  rw [zq78_L1] at hm
  refine rg G (Ok_seq (cd hm (fun hm => ?_) (fun hm => ?_)))
  ·refine X_skip (thN (Ok_seq (Ok_block (rg G ?_))))
   obtain ⟨e, h, hm⟩ := obind hm
   refine rs G (hD 3 h h0) ?_
   refine cd hm (fun hm => ?_) (fun hm => ?_)
   ·refine rg G ?_
    have hm := eL hm hb hr
    cases hm
    exact rt [] []
   ·exact X_skip (ibN (thN (rh G (wL G hm))))
  ·exact Ok_exit (thE (thE (ibE (wE G hm hb))))
 rintro ⟨⟩ hm s1 hw
 refine thN (Ok_weak hw ?_)
 refine rg G ?_
 cases hm
 exact rt [] []
noncomputable def zq9_M : MS ((List ByteArray)) Bool := ⟨.r, zq9, fun y => dV y, fun _ => [], fun _ _ => []⟩
theorem zq9_c {names y} (hm : zq9 names = some y) : zq9_M.C names y := zq9_M.c names hm
theorem zq9_ok : FnOK Tryz.prog tJ 87 zq9_M.S := by
 refine fm tt zq9_M [fo zq18_ok, fo zq78_ok] Tryz.call87 Tryz.func87 rfl Tryz.results87 Tryz.ntmps87 ?_
 rintro names y cx G hm
 have hm : zq9 names = some y := hm
 unfold zq9 at hm
 refine rg G (Ok_seq (rs G (hN 1 names h0) ?_))
 refine tF hm (fun _ => ⟨[], [], 32⟩) (fun v2 hr hm => ?_) ?_
 ·refine Ok_block (lp G hm (fun v => ⟨[(0, dV names), (5, dV names), (6, dV (names.length : Int)), (7, dV v)], [], 32⟩) ?_)
  rintro v r0 hb hm
  rw [zq9_L1] at hm
  refine rg G (Ok_seq (cd hm (fun hm => ?_) (fun hm => ?_)))
  ·refine X_skip (thN (Ok_seq (Ok_block ?_)))
   obtain ⟨e, h, hm⟩ := obind hm
   refine rs G (hD 1 h h0) ?_
   obtain ⟨r, h1, hm⟩ := obind hm
   refine jn hm (fun v1 => ⟨[(0, dV names), (5, dV names), (6, dV (names.length : Int)), (7, dV v), (21, dV v1)], [], 32⟩) (fun v1 hm => ?_) ?_
   ·rcases bf hm with ⟨hb1, hm⟩ | ⟨hb1, hm⟩
    ·refine re G (hC 1 (zq18_c h1) (hO 3 (.b true) (hP hb1 h0))) ?_
     exact wJ G hm
    ·obtain ⟨r1, h2, hm⟩ := obind hm
     refine re G (hC 1 (zq18_c h1) (hO 3 (.b false) (hP hb1 (hC 6 (zq78_c h2) h0)))) ?_
     exact wJ G hm
   rintro v1 hm
   refine cd hm (fun hm => ?_) (fun hm => ?_)
   ·refine rg G ?_
    have hm := eL hm hb hr
    cases hm
    exact rt [] []
   ·exact X_skip (ibN (thN (rh G (wL G hm))))
  ·exact Ok_exit (thE (thE (ibE (wE G hm hb))))
 rintro ⟨⟩ hm s hw
 refine thN (Ok_weak hw ?_)
 refine rg G ?_
 cases hm
 exact rt [] []
noncomputable def zq21_M : MS Network ((List ByteArray)) := ⟨.r, zq21, fun _ => .own 0, fun y => [arO 9 y], fun _ _ => []⟩
theorem zq21_c {n y} (hm : zq21 n = some y) : zq21_M.C n y := zq21_M.c n hm
theorem zq21_ok : FnOK Tryz.prog tJ 88 zq21_M.S := by
 refine fm tt zq21_M [] Tryz.call88 Tryz.func88 rfl Tryz.results88 Tryz.ntmps88 ?_
 rintro n y cx G hm
 have hm : zq21 n = some y := hm
 unfold zq21 at hm
 refine rg G ?_
 obtain ⟨u, h, hm⟩ := obind hm
 refine rs G (hN 2 n.Lines (hO 3 (.l (List.map Enc.e (List.replicate (n.Lines.length : Int).toNat (ByteArray.empty : ByteArray)))) (hP (mk_p (b := 16) (chk_t h) rfl) (hP (rep_m Enc.e (n.Lines.length : Int).toNat (ByteArray.empty : ByteArray)) h0)))) ?_
 refine Ok_seq (rs G (hN 2 n.Lines h0) ?_)
 refine tl hm (fun i1 => ⟨[(3, .own 16)], [aX 16 9 i1], 48⟩) (fun i1 hm => ?_) ?_
 ·refine Ok_block (lp G hm (fun (v, i) => ⟨[(3, .own 16), (11, dV n.Lines), (12, dV (n.Lines.length : Int)), (13, dV v)], [aX 16 9 i], 48⟩) ?_)
  rintro ⟨v, i⟩ r0 hb hm
  rw [zq21_L1] at hm
  refine rg G (Ok_seq (cd hm (fun hm => ?_) (fun hm => ?_)))
  ·refine X_skip (thN (Ok_seq (Ok_block ?_)))
   obtain ⟨e, h1, hm⟩ := obind hm
   refine rs G (hD 1 h1 h0) ?_
   obtain ⟨e1, h2, hm⟩ := obind hm
   refine re G (hD 4 h2 (hS 5 h2 e.Name h0)) ?_
   exact ibN (thN (rh G (wL G hm)))
  ·exact Ok_exit (thE (thE (ibE (wD G hm hb))))
 rintro i1 hm s hw
 refine thN (Ok_weak hw ?_)
 refine rg G ?_
 cases hm
 exact rt [16] []
noncomputable def zq19_M : MS (Network × Int) Bool := ⟨.x .r .r, fun x => zq19 x.1 x.2, fun y => dV y, fun _ => [], fun _ _ => []⟩
theorem zq19_c {n stop y} (hm : zq19 n stop = some y) : zq19_M.C (n, stop) y := zq19_M.c (n, stop) hm
theorem zq19_ok : FnOK Tryz.prog tJ 97 zq19_M.S := by
 refine fm tt zq19_M [] Tryz.call97 Tryz.func97 rfl Tryz.results97 Tryz.ntmps97 ?_
 rintro ⟨n, stop⟩ y cx G hm
 have hm : zq19 n stop = some y := hm
 unfold zq19 at hm
 refine rg G (jn hm (fun v => ⟨[(4, dV v)], [], 32⟩) (fun v hm => ?_) ?_)
 ·rcases bf hm with ⟨hb, hm⟩ | ⟨hb, hm⟩
  ·refine re G (hO 2 (.b true) (hP hb (hN 6 n.Stops h0))) ?_
   exact wJ G hm
  ·refine re G (hO 2 (.b false) (hP hb h0)) ?_
   exact wJ G hm
 rintro v hm
 cases hm
 exact rt [] []
noncomputable def zq77_M : MS ((List Int) × Int) Int := ⟨.x .r .r, fun x => zq77 x.1 x.2, fun y => dV y, fun _ => [], fun _ _ => []⟩
theorem zq77_c {s v y} (hm : zq77 s v = some y) : zq77_M.C (s, v) y := zq77_M.c (s, v) hm
theorem zq77_ok : FnOK Tryz.prog tJ 107 zq77_M.S := by
 refine fm tt zq77_M [] Tryz.call107 Tryz.func107 rfl Tryz.results107 Tryz.ntmps107 ?_
 rintro ⟨s, v⟩ y cx G hm
 have hm : zq77 s v = some y := hm
 unfold zq77 at hm
 refine rg G (Ok_seq (rs G (hN 1 s h0) ?_))
 refine tF hm (fun _ => ⟨[], [], 32⟩) (fun v2 hr hm => ?_) ?_
 ·refine Ok_block (lp G hm (fun v1 => ⟨[(0, dV s), (1, dV v), (7, dV (s.length : Int)), (8, dV v1)], [], 32⟩) ?_)
  rintro v1 r0 hb hm
  rw [zq77_L1] at hm
  refine rg G (Ok_seq (cd hm (fun hm => ?_) (fun hm => ?_)))
  ·refine X_skip (thN (Ok_seq (Ok_block (rg G ?_))))
   obtain ⟨e, h, hm⟩ := obind hm
   refine rs G (hD 3 h h0) ?_
   refine cd hm (fun hm => ?_) (fun hm => ?_)
   ·refine rg G ?_
    have hm := eL hm hb hr
    cases hm
    exact rt [] []
   ·exact X_skip (ibN (thN (rh G (wL G hm))))
  ·exact Ok_exit (thE (thE (ibE (wE G hm hb))))
 rintro ⟨⟩ hm s1 hw
 refine thN (Ok_weak hw ?_)
 refine rg G ?_
 cases hm
 exact rt [] []
noncomputable def zq20_M : MS (Network × Line) Bool := ⟨.x .r .r, fun x => zq20 x.1 x.2, fun y => dV y, fun _ => [], fun _ _ => []⟩
theorem zq20_c {n l y} (hm : zq20 n l = some y) : zq20_M.C (n, l) y := zq20_M.c (n, l) hm
theorem zq20_ok : FnOK Tryz.prog tJ 89 zq20_M.S := by
 refine fm tt zq20_M [fo zq29_ok, fo zq19_ok, fo zq77_ok] Tryz.call89 Tryz.func89 rfl Tryz.results89 Tryz.ntmps89 ?_
 rintro ⟨n, l⟩ y cx G hm
 have hm : zq20 n l = some y := hm
 unfold zq20 at hm
 refine rg G (Ok_seq ?_)
 obtain ⟨r, h, hm⟩ := obind hm
 refine jn hm (fun v => ⟨[(2, .ref 16 0), (3, .ref 32 0), (23, dV v)], [bX 16 27 [dV n.Stops, dV n.Lines], bX 32 75 [dV l.Name, dV l.Stops, dV l.Runs]], 64⟩) (fun v hm => ?_) ?_
 ·rcases bf hm with ⟨hb, hm⟩ | ⟨hb, hm⟩
  ·refine re G (hN 2 l.Stops (hC 3 (zq29_c h) (hO 5 (.b true) (hP hb h0)))) ?_
   exact wJ G hm
  ·refine re G (hN 2 l.Stops (hC 3 (zq29_c h) (hO 5 (.b false) (hP hb (hN 8 l.Runs (hN 11 l.Stops h0)))))) ?_
   exact wJ G hm
 rintro v hm
 refine cd hm (fun hm => ?_) (fun hm => ?_)
 ·refine rg G ?_
  cases hm
  exact rt [] []
 ·refine X_skip (thN (Ok_seq (rs G (hN 2 l.Stops h0) ?_)))
  refine tF hm (fun _ => ⟨[(3, .ref 16 0)], [bX 16 75 [dV l.Name, dV l.Stops, dV l.Runs]], 48⟩) (fun v5 hr hm => ?_) ?_
  ·refine Ok_block (lp G hm (fun v1 => ⟨[(2, .ref 16 0), (3, .ref 32 0), (25, dV l.Stops), (26, dV (l.Stops.length : Int)), (27, dV v1)], [bX 16 27 [dV n.Stops, dV n.Lines], bX 32 75 [dV l.Name, dV l.Stops, dV l.Runs]], 64⟩) ?_)
   rintro v1 r0 hb1 hm
   rw [zq20_L1] at hm
   refine rg G (Ok_seq (cd hm (fun hm => ?_) (fun hm => ?_)))
   ·refine X_skip (thN (Ok_seq (Ok_block ?_)))
    obtain ⟨e, h1, hm⟩ := obind hm
    refine rs G (hD 1 h1 h0) ?_
    obtain ⟨r1, h2, hm⟩ := obind hm
    refine jn hm (fun v2 => ⟨[(2, .ref 16 0), (3, .ref 32 0), (25, dV l.Stops), (26, dV (l.Stops.length : Int)), (27, dV v1), (43, dV v2)], [bX 16 27 [dV n.Stops, dV n.Lines], bX 32 75 [dV l.Name, dV l.Stops, dV l.Runs]], 64⟩) (fun v2 hm => ?_) ?_
    ·rcases bf hm with ⟨hb2, hm⟩ | ⟨hb2, hm⟩
     ·refine re G (hC 2 (zq19_c h2) (hO 4 (.b true) (hP hb2 h0))) ?_
      exact wJ G hm
     ·obtain ⟨r2, h3, hm⟩ := obind hm
      refine re G (hC 2 (zq19_c h2) (hO 4 (.b false) (hP hb2 (hC 8 (zq77_c h3) h0)))) ?_
      exact wJ G hm
    rintro v2 hm
    refine cd hm (fun hm => ?_) (fun hm => ?_)
    ·refine rg G ?_
     have hm := eL hm hb1 hr
     cases hm
     exact rt [] []
    ·exact X_skip (ibN (thN (rh G (wL G hm))))
   ·exact Ok_exit (thE (thE (ibE (wE G hm hb1))))
  rintro ⟨⟩ hm s hw
  refine thN (Ok_weak hw ?_)
  refine Ok_seq (rs G (hN 2 l.Runs h0) ?_)
  refine tF hm (fun _ => ⟨[], [], 32⟩) (fun v4 hr1 hm => ?_) ?_
  ·refine Ok_block (lp G hm (fun v3 => ⟨[(46, dV l.Runs), (47, dV (l.Runs.length : Int)), (48, dV v3)], [], 32⟩) ?_)
   rintro v3 r0 hb3 hm
   rw [zq20_L2] at hm
   refine rg G (Ok_seq (cd hm (fun hm => ?_) (fun hm => ?_)))
   ·refine X_skip (thN (Ok_seq (Ok_block ?_)))
    obtain ⟨e2, h4, hm⟩ := obind hm
    refine rs G (hD 0 h4 h0) ?_
    obtain ⟨r4, h5, hm⟩ := obind hm
    refine rs G (hC 1 (zq29_c h5) h0) ?_
    refine cd hm (fun hm => ?_) (fun hm => ?_)
    ·refine rg G ?_
     have hm := eL hm hb3 hr1
     cases hm
     exact rt [] []
    ·exact X_skip (ibN (thN (rh G (wL G hm))))
   ·exact Ok_exit (thE (thE (ibE (wE G hm hb3))))
  rintro ⟨⟩ hm s1 hw1
  refine thN (Ok_weak hw1 ?_)
  refine rg G ?_
  cases hm
  exact rt [] []
noncomputable def zq2_M : MS Network Bool := ⟨.r, zq2, fun y => dV y, fun _ => [], fun _ _ => []⟩
theorem zq2_c {n y} (hm : zq2 n = some y) : zq2_M.C n y := zq2_M.c n hm
theorem zq2_ok : FnOK Tryz.prog tJ 39 zq2_M.S := by
 refine fm tt zq2_M [fo zq29_ok, fo zq9_ok, fo zq21_ok, fo zq20_ok] Tryz.call39 Tryz.func39 rfl Tryz.results39 Tryz.ntmps39 ?_
 rintro n y cx G hm
 have hm : zq2 n = some y := hm
 unfold zq2 at hm
 refine rg G (Ok_seq ?_)
 obtain ⟨r, h, hm⟩ := obind hm
 refine jn hm (fun v => ⟨[(1, .ref 16 0), (28, dV v)], [bX 16 27 [dV n.Stops, dV n.Lines]], 48⟩) (fun v hm => ?_) ?_
 ·rcases bf hm with ⟨hb, hm⟩ | ⟨hb, hm⟩
  ·refine re G (hN 2 n.Stops (hC 3 (zq29_c h) (hO 5 (.b true) (hP hb h0)))) ?_
   exact wJ G hm
  ·obtain ⟨r1, h1, hm⟩ := obind hm
   rcases bf hm with ⟨hb1, hm⟩ | ⟨hb1, hm⟩
   ·refine re G (hN 2 n.Stops (hC 3 (zq29_c h) (hO 5 (.b false) (hP hb (hN 8 n.Lines (hC 9 (zq29_c h1) (hO 12 (.b true) (hP hb1 h0)))))))) ?_
    exact wJ G hm
   ·obtain ⟨r2, h2, hm⟩ := obind hm
    rcases bf hm with ⟨hb2, hm⟩ | ⟨hb2, hm⟩
    ·refine re G (hN 2 n.Stops (hC 3 (zq29_c h) (hO 5 (.b false) (hP hb (hN 8 n.Lines (hC 9 (zq29_c h1) (hO 12 (.b false) (hP hb1 (hC 15 (zq9_c h2) (hO 18 (.b true) (hP hb2 h0))))))))))) ?_
     exact wJ G hm
    ·obtain ⟨r3, h3, hm⟩ := obind hm
     obtain ⟨r4, h4, hm⟩ := obind hm
     refine re G (hN 2 n.Stops (hC 3 (zq29_c h) (hO 5 (.b false) (hP hb (hN 8 n.Lines (hC 9 (zq29_c h1) (hO 12 (.b false) (hP hb1 (hC 15 (zq9_c h2) (hO 18 (.b false) (hP hb2 (hC 20 (zq21_c h3) (hC 21 (zq9_c h4) h0))))))))))))) ?_
     exact wJ G hm
 rintro v hm
 refine cd hm (fun hm => ?_) (fun hm => ?_)
 ·refine rg G ?_
  cases hm
  exact rt [] []
 ·refine X_skip (thN (Ok_seq (rs G (hN 2 n.Lines h0) ?_)))
  refine tF hm (fun _ => ⟨[], [], 32⟩) (fun v2 hr hm => ?_) ?_
  ·refine Ok_block (lp G hm (fun v1 => ⟨[(1, .ref 16 0), (30, dV n.Lines), (31, dV (n.Lines.length : Int)), (32, dV v1)], [bX 16 27 [dV n.Stops, dV n.Lines]], 48⟩) ?_)
   rintro v1 r0 hb3 hm
   rw [zq2_L1] at hm
   refine rg G (Ok_seq (cd hm (fun hm => ?_) (fun hm => ?_)))
   ·refine X_skip (thN (Ok_seq (Ok_block ?_)))
    obtain ⟨e, h5, hm⟩ := obind hm
    refine rs G (hD 0 h5 h0) ?_
    obtain ⟨r5, h6, hm⟩ := obind hm
    refine rs G (hC 2 (zq20_c h6) h0) ?_
    refine cd hm (fun hm => ?_) (fun hm => ?_)
    ·refine rg G ?_
     have hm := eL hm hb3 hr
     cases hm
     exact rt [] []
    ·exact X_skip (ibN (thN (rh G (wL G hm))))
   ·exact Ok_exit (thE (thE (ibE (wE G hm hb3))))
  rintro ⟨⟩ hm s hw
  refine thN (Ok_weak hw ?_)
  refine rg G ?_
  cases hm
  exact rt [] []
noncomputable def zq17_M : MS (Network × Int) Bool := ⟨.x .r .r, fun x => zq17 x.1 x.2, fun y => dV y, fun _ => [], fun _ _ => []⟩
theorem zq17_c {n line y} (hm : zq17 n line = some y) : zq17_M.C (n, line) y := zq17_M.c (n, line) hm
theorem zq17_ok : FnOK Tryz.prog tJ 112 zq17_M.S := by
 refine fm tt zq17_M [] Tryz.call112 Tryz.func112 rfl Tryz.results112 Tryz.ntmps112 ?_
 rintro ⟨n, line⟩ y cx G hm
 have hm : zq17 n line = some y := hm
 unfold zq17 at hm
 refine rg G (jn hm (fun v => ⟨[(4, dV v)], [], 32⟩) (fun v hm => ?_) ?_)
 ·rcases bf hm with ⟨hb, hm⟩ | ⟨hb, hm⟩
  ·refine re G (hO 2 (.b true) (hP hb (hN 6 n.Lines h0))) ?_
   exact wJ G hm
  ·refine re G (hO 2 (.b false) (hP hb h0)) ?_
   exact wJ G hm
 rintro v hm
 cases hm
 exact rt [] []
noncomputable def zq3_M : MS Int Bool := ⟨.r, zq3, fun y => dV y, fun _ => [], fun _ _ => []⟩
theorem zq3_c {t y} (hm : zq3 t = some y) : zq3_M.C t y := zq3_M.c t hm
theorem zq3_ok : FnOK Tryz.prog tJ 59 zq3_M.S := by
 refine fm tt zq3_M [fo zq29_ok] Tryz.call59 Tryz.func59 rfl Tryz.results59 Tryz.ntmps59 ?_
 rintro t y cx G hm
 have hm : zq3 t = some y := hm
 unfold zq3 at hm
 refine rg G ?_
 obtain ⟨r, h, hm⟩ := obind hm
 refine rs G (hC 1 (zq29_c h) h0) ?_
 cases hm
 exact rt [] []
noncomputable def zq28_M : MS ((List Int)) Int := ⟨.r, zq28, fun y => dV y, fun _ => [], fun _ _ => []⟩
theorem zq28_c {list y} (hm : zq28 list = some y) : zq28_M.C list y := zq28_M.c list hm
theorem zq28_ok : FnOK Tryz.prog tJ 133 zq28_M.S := by
 refine fm tt zq28_M [] Tryz.call133 Tryz.func133 rfl Tryz.results133 Tryz.ntmps133 ?_
 rintro list y cx G hm
 have hm : zq28 list = some y := hm
 unfold zq28 at hm
 refine rg G (rg G (Ok_seq (rs G (hN 1 list h0) ?_)))
 refine tl hm (fun v2 => ⟨[(3, dV v2)], [], 32⟩) (fun v2 hm => ?_) ?_
 ·refine Ok_block (lp G hm (fun (v, v1) => ⟨[(3, dV v), (6, dV list), (7, dV (list.length : Int)), (8, dV v1)], [], 32⟩) ?_)
  rintro ⟨v, v1⟩ r0 hb hm
  rw [zq28_L1] at hm
  refine rg G (Ok_seq (cd hm (fun hm => ?_) (fun hm => ?_)))
  ·refine X_skip (thN (Ok_seq (Ok_block ?_)))
   obtain ⟨e, h, hm⟩ := obind hm
   refine rs G (hD 0 h h0) ?_
   exact rh G (ibN (thN (rh G (wL G hm))))
  ·exact Ok_exit (thE (thE (ibE (wD G hm hb))))
 rintro v2 hm s hw
 refine thN (Ok_weak hw ?_)
 refine rg G ?_
 cases hm
 exact rt [] []
noncomputable def zq14_M : MS (Timetable × Trip) Int := ⟨.x .r .r, fun x => zq14 x.1 x.2, fun y => dV y, fun _ => [], fun _ _ => []⟩
theorem zq14_c {t x y} (hm : zq14 t x = some y) : zq14_M.C (t, x) y := zq14_M.c (t, x) hm
theorem zq14_ok : FnOK Tryz.prog tJ 113 zq14_M.S := by
 refine fm tt zq14_M [fo zq28_ok] Tryz.call113 Tryz.func113 rfl Tryz.results113 Tryz.ntmps113 ?_
 rintro ⟨t, x⟩ y cx G hm
 have hm : zq14 t x = some y := hm
 unfold zq14 at hm
 refine rg G ?_
 obtain ⟨e1, h2, hm⟩ := obind hm
 obtain ⟨r1, h3, hm⟩ := obind hm
 refine ds G [] (hD 7 h2 (hC 10 (zq28_c h3) h0)) ?_
 cases hm
 exact rt [] []
noncomputable def zq10_M : MS Timetable Bool := ⟨.r, zq10, fun y => dV y, fun _ => [], fun _ _ => []⟩
theorem zq10_c {t y} (hm : zq10 t = some y) : zq10_M.C t y := zq10_M.c t hm
theorem zq10_ok : FnOK Tryz.prog tJ 69 zq10_M.S := by
 refine fm tt zq10_M [fo zq17_ok, fo zq3_ok, fo zq14_ok] Tryz.call69 Tryz.func69 rfl Tryz.results69 Tryz.ntmps69 ?_
 rintro t y cx G hm
 have hm : zq10 t = some y := hm
 unfold zq10 at hm
 refine rg G (Ok_seq (rs G (hN 2 t.Trips h0) ?_))
 refine cd hm (fun hm => ?_) (fun hm => ?_)
 ·refine rg G ?_
  cases hm
  exact rt [] []
 ·refine X_skip (thN (rg G (Ok_seq (rs G (hN 2 t.Trips h0) ?_))))
  refine tF hm (fun _ => ⟨[], [], 32⟩) (fun v3 hr hm => ?_) ?_
  ·refine Ok_block (lp G hm (fun (v, v1) => ⟨[(1, .ref 16 0), (3, dV v), (11, dV t.Trips), (12, dV (t.Trips.length : Int)), (13, dV v1)], [bX 16 30 [dV t.Network.Stops, dV t.Network.Lines, dV t.Trips]], 48⟩) ?_)
   rintro ⟨v, v1⟩ r0 hb hm
   rw [zq10_L1] at hm
   refine rg G (Ok_seq (cd hm (fun hm => ?_) (fun hm => ?_)))
   ·refine X_skip (thN (Ok_seq (Ok_block ?_)))
    obtain ⟨e, h, hm⟩ := obind hm
    refine rs G (hD 0 h h0) ?_
    refine Ok_seq (jn hm (fun v2 => ⟨[(1, .ref 16 0), (5, .ref 32 0), (11, dV t.Trips), (12, dV (t.Trips.length : Int)), (13, dV v1), (46, dV v2)], [bX 16 30 [dV t.Network.Stops, dV t.Network.Lines, dV t.Trips], bX 32 64 [dV e.Id, dV e.Line, dV e.Start]], 64⟩) (fun v2 hm => ?_) ?_)
    ·rcases bf hm with ⟨hb1, hm⟩ | ⟨hb1, hm⟩
     ·refine re G (hO 4 (.b true) (hP hb1 h0)) ?_
      exact wJ G hm
     ·rcases bf hm with ⟨hb2, hm⟩ | ⟨hb2, hm⟩
      ·refine re G (hO 4 (.b false) (hP hb1 (hO 9 (.b true) (hP hb2 h0)))) ?_
       exact wJ G hm
      ·obtain ⟨r, h1, hm⟩ := obind hm
       rcases bf hm with ⟨hb3, hm⟩ | ⟨hb3, hm⟩
       ·refine re G (hO 4 (.b false) (hP hb1 (hO 9 (.b false) (hP hb2 (hC 14 (zq17_c h1) (hO 17 (.b true) (hP hb3 h0))))))) ?_
        exact wJ G hm
       ·obtain ⟨r1, h2, hm⟩ := obind hm
        rcases bf hm with ⟨hb4, hm⟩ | ⟨hb4, hm⟩
        ·refine re G (hO 4 (.b false) (hP hb1 (hO 9 (.b false) (hP hb2 (hC 14 (zq17_c h1) (hO 17 (.b false) (hP hb3 (hC 20 (zq3_c h2) (hO 23 (.b true) (hP hb4 h0)))))))))) ?_
         exact wJ G hm
        ·obtain ⟨r2, h3, hm⟩ := obind hm
         obtain ⟨r3, h4, hm⟩ := obind hm
         refine re G (hO 4 (.b false) (hP hb1 (hO 9 (.b false) (hP hb2 (hC 14 (zq17_c h1) (hO 17 (.b false) (hP hb3 (hC 20 (zq3_c h2) (hO 23 (.b false) (hP hb4 (hC 26 (zq14_c h3) (hC 27 (zq3_c h4) h0)))))))))))) ?_
         exact wJ G hm
    rintro v2 hm
    refine cd hm (fun hm => ?_) (fun hm => ?_)
    ·refine rg G ?_
     have hm := eL hm hb hr
     cases hm
     exact rt [] []
    ·exact X_skip (thN (rh G (ibN (thN (rh G (wL G hm))))))
   ·exact Ok_exit (thE (thE (ibE (wE G hm hb))))
  rintro ⟨⟩ hm s hw
  refine thN (Ok_weak hw ?_)
  refine rg G ?_
  cases hm
  exact rt [] []
noncomputable def zq4_M : MS Timetable Bool := ⟨.r, zq4, fun y => dV y, fun _ => [], fun _ _ => []⟩
theorem zq4_c {t y} (hm : zq4 t = some y) : zq4_M.C t y := zq4_M.c t hm
theorem zq4_ok : FnOK Tryz.prog tJ 30 zq4_M.S := by
 refine fm tt zq4_M [fo zq2_ok, fo zq10_ok] Tryz.call30 Tryz.func30 rfl Tryz.results30 Tryz.ntmps30 ?_
 rintro t y cx G hm
 have hm : zq4 t = some y := hm
 unfold zq4 at hm
 refine rg G ?_
 obtain ⟨r, h, hm⟩ := obind hm
 refine jn hm (fun v => ⟨[(2, dV v)], [], 32⟩) (fun v hm => ?_) ?_
 ·rcases bf hm with ⟨hb, hm⟩ | ⟨hb, hm⟩
  ·obtain ⟨r1, h1, hm⟩ := obind hm
   refine re G (hC 2 (zq2_c h) (hO 3 (.b true) (hP hb (hC 5 (zq10_c h1) h0)))) ?_
   exact wJ G hm
  ·refine re G (hC 2 (zq2_c h) (hO 3 (.b false) (hP hb h0))) ?_
   exact wJ G hm
 rintro v hm
 cases hm
 exact rt [] []
noncomputable def zq82_M : MS ((List UInt8) × ByteArray) (Int × NilErr × (List UInt8)) := writeStringS 98 5
theorem zq82_c {b s y} (hm : zq82 b s = some y) : zq82_M.C (b, s) y := zq82_M.c (b, s) hm
theorem zq82_ok : FnOK Tryz.prog tJ 70 zq82_M.S := writeStringOK Tryz.lays166 Tryz.Builder_Extra_166 Tryz.call70
noncomputable def zq79_M : MS Int ByteArray := ⟨.r, zq79, fun y => dV y, fun _ => [], fun _ _ => []⟩
theorem zq79_c {i y} (hm : zq79 i = some y) : zq79_M.C i y := zq79_M.c i hm
theorem zq79_ok : FnOK Tryz.prog tJ 71 zq79_M.S := itoaOK Tryz.laysM171 Tryz.call71 (g := 0) (by kernel_rfl)
noncomputable def zq81_M : MS ((List UInt8) × UInt8) (NilErr × (List UInt8)) := writeByteS 98 5
theorem zq81_c {b c y} (hm : zq81 b c = some y) : zq81_M.C (b, c) y := zq81_M.c (b, c) hm
theorem zq81_ok : FnOK Tryz.prog tJ 90 zq81_M.S := writeByteOK Tryz.lays167 Tryz.Builder_Extra_167 Tryz.call90
noncomputable def zq80_M : MS ((List UInt8)) ByteArray := bldStringS 98 5
theorem zq80_c {b y} (hm : zq80 b = some y) : zq80_M.C b y := zq80_M.c b hm
theorem zq80_ok : FnOK Tryz.prog tJ 74 zq80_M.S := bldStringOK Tryz.lays169 Tryz.Builder_Extra_169 Tryz.call74
noncomputable def zq15_M : MS Network ByteArray := ⟨.r, zq15, fun y => dV y, fun _ => [], fun _ _ => []⟩
theorem zq15_c {n y} (hm : zq15 n = some y) : zq15_M.C n y := zq15_M.c n hm
theorem zq15_ok : FnOK Tryz.prog tJ 40 zq15_M.S := by
 refine fm tt zq15_M [fo zq82_ok, fo zq79_ok, fo zq81_ok, fo zq80_ok] Tryz.call40 Tryz.func40 rfl Tryz.results40 Tryz.ntmps40 ?_
 rintro n y cx G hm
 have hm : zq15 n = some y := hm
 unfold zq15 at hm
 refine rg G (rg G (Ok_seq (rs G (hN 2 n.Stops h0) ?_)))
 refine tl hm (fun v2 => ⟨[(1, .ref 16 0), (3, .ref 32 0)], [bX 16 27 [dV n.Stops, dV n.Lines], (32, some (.bld 98 5 v2 32))], 64⟩) (fun v2 hm => ?_) ?_
 ·refine Ok_block (lpP hm (fun (v, v1) => ⟨[(1, .ref 16 0), (3, .ref 32 0), (11, dV n.Stops), (12, dV (n.Stops.length : Int)), (13, dV v)], [bX 16 27 [dV n.Stops, dV n.Lines], (32, some (.bld 98 5 v1 32))], 64⟩) (Wk_J G.hL ⟨[(1, []), (3, []), (11, []), (12, []), (13, [])], [(16, 16, []), (32, 48, [.bd 5])], [], 64⟩ (by kernel_rfl)) ?_)
  rintro ⟨v, v1⟩ r0 hb hm
  rw [zq15_L1] at hm
  refine rg G (Ok_seq (cd hm (fun hm => ?_) (fun hm => ?_)))
  ·refine X_skip (thN (Ok_seq (Ok_block ?_)))
   obtain ⟨e, h, hm⟩ := obind hm
   refine rs G (hD 0 h h0) ?_
   obtain ⟨u, h1, hm⟩ := obind hm
   obtain ⟨u1, h2, hm⟩ := obind hm
   obtain ⟨r, h3, hm⟩ := obind hm
   refine re G (hP (cat_p (chk_t h1)) (hP (cat_p (chk_t h2)) (hC 3 (zq82_c h3) h0))) ?_
   exact ibN (thN (rh G (wL G hm)))
  ·exact Ok_exit (thE (thE (ibE (wD G hm hb))))
 rintro v2 hm s hw
 refine thN (Ok_weak hw ?_)
 refine Ok_seq (rs G (hN 2 n.Lines h0) ?_)
 refine tl hm (fun v9 => ⟨[(3, .ref 16 0)], [(16, some (.bld 98 5 v9 16))], 48⟩) (fun v9 hm => ?_) ?_
 ·refine Ok_block (lp G hm (fun (v3, v4) => ⟨[(1, .ref 16 0), (3, .ref 32 0), (23, dV n.Lines), (24, dV (n.Lines.length : Int)), (25, dV v3)], [bX 16 27 [dV n.Stops, dV n.Lines], (32, some (.bld 98 5 v4 32))], 64⟩) ?_)
  rintro ⟨v3, v4⟩ r0 hb1 hm
  rw [zq15_L3] at hm
  refine rg G (Ok_seq (cd hm (fun hm => ?_) (fun hm => ?_)))
  ·refine X_skip (thN (Ok_seq (Ok_block ?_)))
   obtain ⟨e1, h4, hm⟩ := obind hm
   refine rs G (hD 0 h4 h0) ?_
   obtain ⟨u2, h5, hm⟩ := obind hm
   obtain ⟨r1, h6, hm⟩ := obind hm
   refine rs G (hP (cat_p (chk_t h5)) (hC 3 (zq82_c h6) h0)) ?_
   refine Ok_seq (rs G (hN 2 e1.Stops h0) ?_)
   refine tl hm (fun v8 => ⟨[(1, .ref 16 0), (3, .ref 32 0), (23, dV n.Lines), (24, dV (n.Lines.length : Int)), (25, dV v3)], [bX 16 27 [dV n.Stops, dV n.Lines], (32, some (.bld 98 5 v8 32))], 64⟩) (fun v8 hm => ?_) ?_
   ·refine Ok_block (lp G hm (fun (v5, v6) => ⟨[(1, .ref 16 0), (3, .ref 32 0), (7, .ref 48 0), (23, dV n.Lines), (24, dV (n.Lines.length : Int)), (25, dV v3), (34, dV e1.Stops), (35, dV (e1.Stops.length : Int)), (36, dV v5)], [bX 16 27 [dV n.Stops, dV n.Lines], (32, some (.bld 98 5 v6 32)), bX 48 75 [dV e1.Name, dV e1.Stops, dV e1.Runs]], 80⟩) ?_)
    rintro ⟨v5, v6⟩ r0 hb2 hm
    rw [zq15_L2] at hm
    refine rg G (Ok_seq (cd hm (fun hm => ?_) (fun hm => ?_)))
    ·refine X_skip (thN (Ok_seq (Ok_block ?_)))
     obtain ⟨e2, h7, hm⟩ := obind hm
     refine rs G (hD 1 h7 h0) ?_
     refine jn hm (fun v7 => ⟨[(1, .ref 16 0), (3, .ref 32 0), (7, .ref 48 0), (9, dV e2), (23, dV n.Lines), (24, dV (n.Lines.length : Int)), (25, dV v3), (34, dV e1.Stops), (35, dV (e1.Stops.length : Int)), (36, dV v5)], [bX 16 27 [dV n.Stops, dV n.Lines], (32, some (.bld 98 5 v7 32)), bX 48 75 [dV e1.Name, dV e1.Stops, dV e1.Runs]], 80⟩) (fun v7 hm => ?_) ?_
     ·refine rg G (cd hm (fun hm => ?_) (fun hm => ?_))
      ·obtain ⟨e3, h8, hm⟩ := obind hm
       obtain ⟨r2, h9, hm⟩ := obind hm
       obtain ⟨u3, h10, hm⟩ := obind hm
       obtain ⟨r3, h11, hm⟩ := obind hm
       refine re G (hD 4 h8 (hC 6 (zq79_c h9) (hP (cat_p (chk_t h10)) (hC 8 (zq82_c h11) h0)))) ?_
       exact wJ G hm
      ·exact X_skip (wJ G hm)
     rintro v7 hm
     obtain ⟨e4, h12, hm⟩ := obind hm
     obtain ⟨u4, h13, hm⟩ := obind hm
     obtain ⟨r4, h14, hm⟩ := obind hm
     refine re G (hD 3 h12 (hP (cat_p (chk_t h13)) (hC 6 (zq82_c h14) h0))) ?_
     exact ibN (thN (rh G (wL G hm)))
    ·exact Ok_exit (thE (thE (ibE (wD G hm hb2))))
   rintro v8 hm s1 hw1
   refine thN (Ok_weak hw1 ?_)
   obtain ⟨r5, h15, hm⟩ := obind hm
   refine re G (hC 0 (zq81_c h15) h0) ?_
   exact ibN (thN (rh G (wL G hm)))
  ·exact Ok_exit (thE (thE (ibE (wD G hm hb1))))
 rintro v9 hm s2 hw2
 refine thN (Ok_weak hw2 ?_)
 obtain ⟨r6, h16, hm⟩ := obind hm
 refine rs G (hC 0 (zq80_c h16) h0) ?_
 cases hm
 exact rt [] []
noncomputable def zq22_M : MS (Timetable × Trip) Line := ⟨.x .r .r, fun x => zq22 x.1 x.2, fun y => dV y, fun _ => [], fun _ _ => []⟩
theorem zq22_c {t x y} (hm : zq22 t x = some y) : zq22_M.C (t, x) y := zq22_M.c (t, x) hm
theorem zq22_ok : FnOK Tryz.prog tJ 72 zq22_M.S := by
 refine fm tt zq22_M [] Tryz.call72 Tryz.func72 rfl Tryz.results72 Tryz.ntmps72 ?_
 rintro ⟨t, x⟩ y cx G hm
 have hm : zq22 t x = some y := hm
 unfold zq22 at hm
 refine rg G ?_
 obtain ⟨e, h, hm⟩ := obind hm
 refine rs G (hD 5 h h0) ?_
 cases hm
 exact rt [] []
noncomputable def zq13_M : MS Int ByteArray := ⟨.r, zq13, fun y => dV y, fun _ => [], fun _ _ => []⟩
theorem zq13_c {n y} (hm : zq13 n = some y) : zq13_M.C n y := zq13_M.c n hm
theorem zq13_ok : FnOK Tryz.prog tJ 116 zq13_M.S := by
 refine fm tt zq13_M [] Tryz.call116 Tryz.func116 rfl Tryz.results116 Tryz.ntmps116 ?_
 rintro n y cx G hm
 have hm : zq13 n = some y := hm
 unfold zq13 at hm
 refine rg G ?_
 obtain ⟨u, h, hm⟩ := obind hm
 obtain ⟨u1, h1, hm⟩ := obind hm
 refine rs G (hK h (hO 3 (.n ((mkU8 (IntKind.u8.wrap ((w64 (48 + (w64 (n.tdiv 10))))))).toNat : Int)) (hP (u8w_m (w64 (48 + (w64 (n.tdiv 10))))) (hK h1 (hO 7 (.n ((mkU8 (IntKind.u8.wrap ((w64 (48 + (n.tmod 10)))))).toNat : Int)) (hP (u8w_m (w64 (48 + (n.tmod 10)))) (hO 9 (.s (bytS ([(mkU8 (IntKind.u8.wrap ((w64 (48 + (w64 (n.tdiv 10))))))), (mkU8 (IntKind.u8.wrap ((w64 (48 + (n.tmod 10))))))] : List UInt8))) (hP (byt_p ([(mkU8 (IntKind.u8.wrap ((w64 (48 + (w64 (n.tdiv 10))))))), (mkU8 (IntKind.u8.wrap ((w64 (48 + (n.tmod 10))))))] : List UInt8)) (hP (byt_m ([(mkU8 (IntKind.u8.wrap ((w64 (48 + (w64 (n.tdiv 10))))))), (mkU8 (IntKind.u8.wrap ((w64 (48 + (n.tmod 10))))))] : List UInt8)) h0))))))))) ?_
 cases hm
 exact rt [] []
noncomputable def zq12_M : MS Int ByteArray := ⟨.r, zq12, fun y => dV y, fun _ => [], fun _ _ => []⟩
theorem zq12_c {t y} (hm : zq12 t = some y) : zq12_M.C t y := zq12_M.c t hm
theorem zq12_ok : FnOK Tryz.prog tJ 73 zq12_M.S := by
 refine fm tt zq12_M [fo zq13_ok] Tryz.call73 Tryz.func73 rfl Tryz.results73 Tryz.ntmps73 ?_
 rintro t y cx G hm
 have hm : zq12 t = some y := hm
 unfold zq12 at hm
 refine rg G (rg G ?_)
 obtain ⟨u, h, hm⟩ := obind hm
 obtain ⟨r, h1, hm⟩ := obind hm
 obtain ⟨u1, h2, hm⟩ := obind hm
 obtain ⟨u2, h3, hm⟩ := obind hm
 obtain ⟨r1, h4, hm⟩ := obind hm
 obtain ⟨u3, h5, hm⟩ := obind hm
 refine rs G (hK h (hC 3 (zq13_c h1) (hP (cat_p (chk_t h2)) (hK h3 (hC 8 (zq13_c h4) (hP (cat_p (chk_t h5)) h0)))))) ?_
 cases hm
 exact rt [] []
noncomputable def zq16_M : MS Timetable ByteArray := ⟨.r, zq16, fun y => dV y, fun _ => [], fun _ _ => []⟩
theorem zq16_c {t y} (hm : zq16 t = some y) : zq16_M.C t y := zq16_M.c t hm
theorem zq16_ok : FnOK Tryz.prog tJ 31 zq16_M.S := by
 refine fm tt zq16_M [fo zq15_ok, fo zq82_ok, fo zq79_ok, fo zq22_ok, fo zq12_ok, fo zq80_ok] Tryz.call31 Tryz.func31 rfl Tryz.results31 Tryz.ntmps31 ?_
 rintro t y cx G hm
 have hm : zq16 t = some y := hm
 unfold zq16 at hm
 refine rg G (rg G (Ok_weak (Wk_J (x' := (⟨[(1, .ref 16 0), (3, .ref 32 0)], [bX 16 30 [dV t.Network.Stops, dV t.Network.Lines, dV t.Trips], (32, some (.bld 98 5 ([] : List UInt8) 32))], 64⟩ : X)) G.hL ⟨[(1, []), (3, [])], [(16, 16, []), (32, 48, [.bd 5])], [], 64⟩ (by kernel_rfl)) ?_))
 obtain ⟨r, h, hm⟩ := obind hm
 obtain ⟨r1, h1, hm⟩ := obind hm
 refine rs G (hC 2 (zq15_c h) (hC 3 (zq82_c h1) h0)) ?_
 refine Ok_seq (rs G (hN 2 t.Trips h0) ?_)
 refine tl hm (fun v2 => ⟨[(3, .ref 16 0)], [(16, some (.bld 98 5 v2 16))], 48⟩) (fun v2 hm => ?_) ?_
 ·refine Ok_block (lp G hm (fun (v, v1) => ⟨[(1, .ref 16 0), (3, .ref 32 0), (11, dV t.Trips), (12, dV (t.Trips.length : Int)), (13, dV v)], [bX 16 30 [dV t.Network.Stops, dV t.Network.Lines, dV t.Trips], (32, some (.bld 98 5 v1 32))], 64⟩) ?_)
  rintro ⟨v, v1⟩ r0 hb hm
  rw [zq16_L1] at hm
  refine rg G (Ok_seq (cd hm (fun hm => ?_) (fun hm => ?_)))
  ·refine X_skip (thN (Ok_seq (Ok_block ?_)))
   obtain ⟨e, h2, hm⟩ := obind hm
   refine rs G (hD 0 h2 h0) ?_
   obtain ⟨r6, h13, hm⟩ := obind hm
   obtain ⟨u6, h14, hm⟩ := obind hm
   obtain ⟨u7, h15, hm⟩ := obind hm
   obtain ⟨r7, h16, hm⟩ := obind hm
   obtain ⟨u8, h17, hm⟩ := obind hm
   obtain ⟨u9, h18, hm⟩ := obind hm
   obtain ⟨r8, h19, hm⟩ := obind hm
   obtain ⟨u10, h20, hm⟩ := obind hm
   obtain ⟨u11, h21, hm⟩ := obind hm
   obtain ⟨r9, h22, hm⟩ := obind hm
   refine de G [(16, [32])] (hC 2 (zq79_c h13) (hP (cat_p (chk_t h14)) (hP (cat_p (chk_t h15)) (hC 7 (zq22_c h16) (hP (cat_p (chk_t h17)) (hP (cat_p (chk_t h18)) (hC 13 (zq12_c h19) (hP (cat_p (chk_t h20)) (hP (cat_p (chk_t h21)) (hC 16 (zq82_c h22) h0)))))))))) ?_
   exact ibN (thN (rh G (wL G hm)))
  ·exact Ok_exit (thE (thE (ibE (wD G hm hb))))
 rintro v2 hm s hw
 refine thN (Ok_weak hw ?_)
 obtain ⟨r10, h23, hm⟩ := obind hm
 refine rs G (hC 0 (zq80_c h23) h0) ?_
 cases hm
 exact rt [] []
noncomputable def zq1_M : MS Timetable (ByteArray × Bool) := ⟨.r, zq1, fun y => .tup [dV y.1, dV y.2], fun _ => [], fun _ _ => []⟩
theorem zq1_c {t y} (hm : zq1 t = some y) : zq1_M.C t y := zq1_M.c t hm
theorem zq1_ok : FnOK Tryz.prog tJ 7 zq1_M.S := by
 refine fm tt zq1_M [fo zq4_ok, fo zq16_ok] Tryz.call7 Tryz.func7 rfl Tryz.results7 Tryz.ntmps7 ?_
 rintro t y cx G hm
 have hm : zq1 t = some y := hm
 unfold zq1 at hm
 refine rg G (Ok_seq ?_)
 obtain ⟨r, h, hm⟩ := obind hm
 refine rs G (hC 1 (zq4_c h) h0) ?_
 refine cd hm (fun hm => ?_) (fun hm => ?_)
 ·refine rg G ?_
  cases hm
  exact rt [] []
 ·refine X_skip (thN ?_)
  obtain ⟨r1, h1, hm⟩ := obind hm
  refine rs G (hC 1 (zq16_c h1) h0) ?_
  cases hm
  exact rt [] []
noncomputable def zq84_M : MS (ByteArray × ByteArray) (ByteArray × Bool) := ⟨.x .r .r, fun x => zq84 x.1 x.2, fun y => .tup [dV y.1, dV y.2], fun _ => [], fun _ _ => []⟩
theorem zq84_c {s suffix y} (hm : zq84 s suffix = some y) : zq84_M.C (s, suffix) y := zq84_M.c (s, suffix) hm
theorem zq84_ok : FnOK Tryz.prog tJ 117 zq84_M.S := cutSuffixOK Tryz.lays104 Tryz.call117
noncomputable def zq85_M : MS (ByteArray × ByteArray) ((List ByteArray)) := ⟨.x .r .r, fun x => zq85 x.1 x.2, fun _ => .own 0, fun y => [arO 9 y], fun _ _ => []⟩
theorem zq85_c {s sep y} (hm : zq85 s sep = some y) : zq85_M.C (s, sep) y := zq85_M.c (s, sep) hm
theorem zq85_ok : FnOK Tryz.prog tJ 76 zq85_M.S := splitOK Tryz.lays146 (by kernel_rfl) Tryz.call76 (by kernel_rfl)
noncomputable def zq27_M : MS ByteArray ((List ByteArray) × Bool) := ⟨.r, zq27, fun y => .tup [dV y.1, dV y.2], fun _ => [], fun _ _ => []⟩
theorem zq27_c {s y} (hm : zq27 s = some y) : zq27_M.C s y := zq27_M.c s hm
theorem zq27_ok : FnOK Tryz.prog tJ 75 zq27_M.S := by
 refine fm tt zq27_M [fo zq84_ok, fo zq85_ok] Tryz.call75 Tryz.func75 rfl Tryz.results75 Tryz.ntmps75 ?_
 rintro s y cx G hm
 have hm : zq27 s = some y := hm
 unfold zq27 at hm
 refine rg G ?_
 obtain ⟨r, h, hm⟩ := obind hm
 refine rs G (hC 1 (zq84_c h) h0) ?_
 refine Ok_seq (jn hm (fun v => ⟨[(4, dV r.1), (17, dV v)], [], 32⟩) (fun v hm => ?_) ?_)
 ·rcases bf hm with ⟨hb, hm⟩ | ⟨hb, hm⟩
  ·refine re G (hO 2 (.b true) (hP hb h0)) ?_
   exact wJ G hm
  ·refine re G (hO 2 (.b false) (hP hb h0)) ?_
   exact wJ G hm
 rintro v hm
 refine cd hm (fun hm => ?_) (fun hm => ?_)
 ·refine rg G ?_
  cases hm
  exact rt [] [[.z 1]]
 ·refine X_skip (thN ?_)
  obtain ⟨r1, h1, hm⟩ := obind hm
  refine rs G (hC 1 (zq85_c h1) h0) ?_
  cases hm
  exact rt [] []
noncomputable def zq83_M : MS (ByteArray × ByteArray) (ByteArray × Bool) := ⟨.x .r .r, fun x => zq83 x.1 x.2, fun y => .tup [dV y.1, dV y.2], fun _ => [], fun _ _ => []⟩
theorem zq83_c {s prefix_ y} (hm : zq83 s prefix_ = some y) : zq83_M.C (s, prefix_) y := zq83_M.c (s, prefix_) hm
theorem zq83_ok : FnOK Tryz.prog tJ 140 zq83_M.S := cutPrefixOK Tryz.lays103 Tryz.call140
noncomputable def zq23_M : MS ByteArray (Int × ByteArray × Bool) := ⟨.r, zq23, fun y => .tup [dV y.1, dV y.2.1, dV y.2.2], fun _ => [], fun _ _ => []⟩
theorem zq23_c {s y} (hm : zq23 s = some y) : zq23_M.C s y := zq23_M.c s hm
theorem zq23_ok : FnOK Tryz.prog tJ 141 zq23_M.S := by
 refine fm tt zq23_M [] Tryz.call141 Tryz.func141 rfl Tryz.results141 Tryz.ntmps141 ?_
 rintro s y cx G hm
 have hm : zq23 s = some y := hm
 unfold zq23 at hm
 refine rg G (rg G (jF hm (fun (i1, v3) => ⟨[(0, dV s), (5, dV i1), (6, dV v3)], [], 32⟩) (fun v4 hr hm => ?_) ?_))
 ·refine Ok_block (lp G hm (fun (i, v) => ⟨[(0, dV s), (5, dV i), (6, dV v)], [], 32⟩) ?_)
  rintro ⟨i, v⟩ r0 hb hm
  rw [zq23_L1] at hm
  refine Ok_seq (jn hm (fun v1 => ⟨[(0, dV s), (5, dV i), (6, dV v), (22, dV v1)], [], 32⟩) (fun v1 hm => ?_) ?_)
  ·rcases bf hm with ⟨hb1, hm⟩ | ⟨hb1, hm⟩
   ·obtain ⟨u, h, hm⟩ := obind hm
    rcases bf hm with ⟨hb2, hm⟩ | ⟨hb2, hm⟩
    ·obtain ⟨u1, h1, hm⟩ := obind hm
     refine re G (hO 4 (.b true) (hP hb1 (hK h (hO 10 (.b true) (hP hb2 (hK h1 h0)))))) ?_
     exact wJ G hm
    ·refine re G (hO 4 (.b true) (hP hb1 (hK h (hO 10 (.b false) (hP hb2 h0))))) ?_
     exact wJ G hm
   ·refine re G (hO 4 (.b false) (hP hb1 h0)) ?_
    exact wJ G hm
  rintro v1 hm
  refine cd hm (fun hm => ?_) (fun hm => ?_)
  ·refine X_skip (thN (Ok_block (Ok_seq (jn hm (fun v2 => ⟨[(0, dV s), (5, dV i), (6, dV v), (32, dV v2)], [], 32⟩) (fun v2 hm => ?_) ?_))))
   ·rcases bf hm with ⟨hb3, hm⟩ | ⟨hb3, hm⟩
    ·refine re G (hO 2 (.b true) (hP hb3 h0)) ?_
     exact wJ G hm
    ·rcases bf hm with ⟨hb4, hm⟩ | ⟨hb4, hm⟩
     ·refine re G (hO 2 (.b false) (hP hb3 (hO 5 (.b true) (hP hb4 h0)))) ?_
      exact wJ G hm
     ·refine re G (hO 2 (.b false) (hP hb3 (hO 5 (.b false) (hP hb4 h0)))) ?_
      exact wJ G hm
   rintro v2 hm
   refine cd hm (fun hm => ?_) (fun hm => ?_)
   ·refine rg G ?_
    have hm := eL hm hb hr
    cases hm
    exact rt [] []
   ·refine X_skip (thN ?_)
    obtain ⟨u2, h2, hm⟩ := obind hm
    refine rs G (hK h2 h0) ?_
    exact rh G (ibN (wL G hm))
  ·exact Ok_exit (thE (thE (ibE (wE G hm hb))))
 rintro ⟨i1, v3⟩ hm
 obtain ⟨u4, h4, hm⟩ := obind hm
 refine ds G [] (hK h4 h0) ?_
 cases hm
 exact rt [] []
noncomputable def zq5_M : MS ByteArray (Int × Bool) := ⟨.r, zq5, fun y => .tup [dV y.1, dV y.2], fun _ => [], fun _ _ => []⟩
theorem zq5_c {s y} (hm : zq5 s = some y) : zq5_M.C s y := zq5_M.c s hm
theorem zq5_ok : FnOK Tryz.prog tJ 119 zq5_M.S := by
 refine fm tt zq5_M [fo zq83_ok, fo zq23_ok] Tryz.call119 Tryz.func119 rfl Tryz.results119 Tryz.ntmps119 ?_
 rintro s y cx G hm
 have hm : zq5 s = some y := hm
 unfold zq5 at hm
 refine rg G ?_
 obtain ⟨r, h, hm⟩ := obind hm
 refine rs G (hC 1 (zq83_c h) h0) ?_
 obtain ⟨r1, h1, hm⟩ := obind hm
 refine rs G (hC 1 (zq23_c h1) h0) ?_
 refine Ok_seq (jn hm (fun v => ⟨[(5, dV r.2), (6, dV r1.1), (32, dV v)], [], 32⟩) (fun v hm => ?_) ?_)
 ·rcases bf hm with ⟨hb, hm⟩ | ⟨hb, hm⟩
  ·refine re G (hO 2 (.b true) (hP hb h0)) ?_
   exact wJ G hm
  ·rcases bf hm with ⟨hb1, hm⟩ | ⟨hb1, hm⟩
   ·refine re G (hO 2 (.b false) (hP hb (hO 6 (.b true) (hP hb1 h0)))) ?_
    exact wJ G hm
   ·rcases bf hm with ⟨hb2, hm⟩ | ⟨hb2, hm⟩
    ·refine re G (hO 2 (.b false) (hP hb (hO 6 (.b false) (hP hb1 (hO 8 (.b true) (hP hb2 h0)))))) ?_
     exact wJ G hm
    ·refine re G (hO 2 (.b false) (hP hb (hO 6 (.b false) (hP hb1 (hO 8 (.b false) (hP hb2 h0)))))) ?_
     exact wJ G hm
 rintro v hm
 refine cd hm (fun hm => ?_) (fun hm => ?_)
 ·refine rg G ?_
  cases hm
  exact rt [] []
 ·refine X_skip (thN (jn hm (fun rest => ⟨[(6, dV rest)], [], 32⟩) (fun rest hm => ?_) ?_))
  ·refine rg G (cd hm (fun hm => ?_) (fun hm => ?_))
   ·exact rh G (wJ G hm)
   ·exact X_skip (wJ G hm)
  rintro rest hm
  refine rg G ?_
  cases hm
  exact rt [] []
noncomputable def zq24_M : MS (Network × (List ByteArray)) (Line × Bool) := ⟨.x .r .r, fun x => zq24 x.1 x.2, fun y => .tup [.aggv [dV y.1.Name, .own 0, .own 1], dV y.2], fun y => [arO 3 y.1.Stops, arO 3 y.1.Runs], fun _ _ => []⟩
theorem zq24_c {n words y} (hm : zq24 n words = some y) : zq24_M.C (n, words) y := zq24_M.c (n, words) hm
theorem zq24_ok : FnOK Tryz.prog tJ 77 zq24_M.S := by
 refine fm tt zq24_M [fo zq5_ok, fo zq78_ok] Tryz.call77 Tryz.func77 rfl Tryz.results77 Tryz.ntmps77 ?_
 rintro ⟨n, words⟩ y cx G hm
 have hm : zq24 n words = some y := hm
 unfold zq24 at hm
 refine rg G (Ok_seq (jn hm (fun v => ⟨[(1, dV words), (2, .ref 16 0), (4, .ref 32 0), (20, dV v)], [bX 16 27 [dV n.Stops, dV n.Lines], bX 32 75 [dV ByteArray.empty, .dat (.sc (.slice none 0 0)), .dat (.sc (.slice none 0 0))]], 64⟩) (fun v hm => ?_) ?_))
 ·rcases bf hm with ⟨hb, hm⟩ | ⟨hb, hm⟩
  ·refine re G (hN 1 words (hO 3 (.b true) (hP hb h0))) ?_
   exact wJ G hm
  ·obtain ⟨u, h, hm⟩ := obind hm
   refine re G (hN 1 words (hO 3 (.b false) (hP hb (hN 5 words (hK h h0))))) ?_
   exact wJ G hm
 rintro v hm
 refine cd hm (fun hm => ?_) (fun hm => ?_)
 ·refine rg G ?_
  cases hm
  refine wR (x' := ⟨[(4, .ref 16 0), (5, dV false)], [bX 16 75 [dV ByteArray.empty, .own 32, .own 48], aX 32 3 ([] : List Int), aX 48 3 ([] : List Int)], 80⟩) (Wk_J G.hL ⟨[(4, []), (5, [])], [(16, 32, [.k, .o 32, .o 48])], [(32, 3, 1, []), (48, 3, 1, [])], 80⟩ (by kernel_rfl)) ?_
  exact rt [32, 48] []
 ·refine X_skip (thN ?_)
  obtain ⟨e, h1, hm⟩ := obind hm
  refine rs G (hD 1 h1 h0) ?_
  refine Ok_seq ?_
  obtain ⟨u1, h2, hm⟩ := obind hm
  refine rs G (hV 1 h2 (hN 2 (words.drop (2 : Int).toNat) h0)) ?_
  refine tF hm (fun (v7, v8) => ⟨[(4, .ref 16 0), (6, .ref 32 0)], [bX 16 75 [dV ByteArray.empty, .dat (.sc (.slice none 0 0)), .dat (.sc (.slice none 0 0))], bX 32 75 [dV e, .own 48, .own 64], aX 48 3 v7, aX 64 3 v8], 96⟩) (fun v9 hr hm => ?_) ?_
  ·refine Ok_block (lpP hm (fun (v1, v2, v3) => ⟨[(2, .ref 16 0), (4, .ref 32 0), (6, .ref 48 0), (27, dV (words.drop (2 : Int).toNat)), (28, dV ((words.drop (2 : Int).toNat).length : Int)), (29, dV v1)], [bX 16 27 [dV n.Stops, dV n.Lines], bX 32 75 [dV ByteArray.empty, .dat (.sc (.slice none 0 0)), .dat (.sc (.slice none 0 0))], bX 48 75 [dV e, .own 64, .own 80], aX 64 3 v2, aX 80 3 v3], 112⟩) (Wk_J G.hL ⟨[(2, []), (4, []), (6, []), (27, []), (28, []), (29, [])], [(16, 16, []), (32, 32, []), (48, 128, [.k, .o 64, .o 80])], [(64, 3, 1, []), (80, 3, 1, [])], 112⟩ (by kernel_rfl)) ?_)
   rintro ⟨v1, v2, v3⟩ r0 hb1 hm
   rw [zq24_L1] at hm
   refine rg G (Ok_seq (cd hm (fun hm => ?_) (fun hm => ?_)))
   ·refine X_skip (thN (jF hm (fun (v4, v5) => ⟨[(2, .ref 16 0), (4, .ref 32 0), (6, .ref 48 0), (27, dV (words.drop (2 : Int).toNat)), (28, dV ((words.drop (2 : Int).toNat).length : Int)), (29, dV v1)], [bX 16 27 [dV n.Stops, dV n.Lines], bX 32 75 [dV ByteArray.empty, .dat (.sc (.slice none 0 0)), .dat (.sc (.slice none 0 0))], bX 48 75 [dV e, .own 64, .own 80], aX 64 3 v4, aX 80 3 v5], 112⟩) (fun v6 hr1 hm => ?_) ?_))
    ·refine Ok_block ?_
     obtain ⟨e1, h3, hm⟩ := obind hm
     refine rs G (hD 1 h3 h0) ?_
     refine Ok_seq ?_
     obtain ⟨u2, h4, hm⟩ := obind hm
     refine rs G (hK h4 h0) ?_
     refine cd hm (fun hm => ?_) (fun hm => ?_)
     ·obtain ⟨r, h5, hm⟩ := obind hm
      refine rs G (hC 1 (zq5_c h5) h0) ?_
      refine Ok_seq (rg G (cd hm (fun hm => ?_) (fun hm => ?_)))
      ·refine rg G ?_
       have hm := eR hm hr1
       have hm := eL hm hb1 hr
       cases hm
       refine wR (x' := ⟨[(4, .ref 16 0), (5, dV false)], [bX 16 75 [dV ByteArray.empty, .own 32, .own 48], aX 32 3 ([] : List Int), aX 48 3 ([] : List Int)], 80⟩) (Wk_J G.hL ⟨[(4, []), (5, [])], [(16, 32, [.k, .o 32, .o 48])], [(32, 3, 1, []), (48, 3, 1, [])], 80⟩ (by kernel_rfl)) ?_
       exact rt [32, 48] []
      ·refine X_skip (thN ?_)
       obtain ⟨u3, h6, hm⟩ := obind hm
       refine rs G (hA 4 8 h6 h0) ?_
       exact Ok_exit (thE (ibE (wF G hm)))
     ·refine X_skip (thN ?_)
      obtain ⟨r3, h7, hm⟩ := obind hm
      refine rs G (hC 3 (zq78_c h7) h0) ?_
      refine Ok_seq (rg G (cd hm (fun hm => ?_) (fun hm => ?_)))
      ·refine rg G ?_
       have hm := eR hm hr1
       have hm := eL hm hb1 hr
       cases hm
       refine wR (x' := ⟨[(4, .ref 16 0), (5, dV false)], [bX 16 75 [dV ByteArray.empty, .own 32, .own 48], aX 32 3 ([] : List Int), aX 48 3 ([] : List Int)], 80⟩) (Wk_J G.hL ⟨[(4, []), (5, [])], [(16, 32, [.k, .o 32, .o 48])], [(32, 3, 1, []), (48, 3, 1, [])], 80⟩ (by kernel_rfl)) ?_
       exact rt [32, 48] []
      ·refine X_skip (thN ?_)
       obtain ⟨u4, h8, hm⟩ := obind hm
       refine re G (hA 4 8 h8 h0) ?_
       exact ibN (wF G hm)
    rintro ⟨v4, v5⟩ hm
    exact rh G (wL G hm)
   ·exact Ok_exit (thE (thE (ibE (wE G hm hb1))))
  rintro ⟨v7, v8⟩ hm s hw
  refine thN (Ok_weak hw ?_)
  refine rg G ?_
  cases hm
  exact rt [48, 64] []
noncomputable def zq7_M : MS ByteArray (Int × Bool) := ⟨.r, zq7, fun y => .tup [dV y.1, dV y.2], fun _ => [], fun _ _ => []⟩
theorem zq7_c {s y} (hm : zq7 s = some y) : zq7_M.C s y := zq7_M.c s hm
theorem zq7_ok : FnOK Tryz.prog tJ 121 zq7_M.S := by
 refine fm tt zq7_M [fo zq3_ok] Tryz.call121 Tryz.func121 rfl Tryz.results121 Tryz.ntmps121 ?_
 rintro s y cx G hm
 have hm : zq7 s = some y := hm
 unfold zq7 at hm
 refine rg G (Ok_seq (jn hm (fun v => ⟨[(0, dV s), (14, dV v)], [], 32⟩) (fun v hm => ?_) ?_))
 ·rcases bf hm with ⟨hb, hm⟩ | ⟨hb, hm⟩
  ·refine re G (hO 3 (.b true) (hP hb h0)) ?_
   exact wJ G hm
  ·obtain ⟨u, h, hm⟩ := obind hm
   refine re G (hO 3 (.b false) (hP hb (hK h h0))) ?_
   exact wJ G hm
 rintro v hm
 refine cd hm (fun hm => ?_) (fun hm => ?_)
 ·refine rg G ?_
  cases hm
  exact rt [] []
 ·refine X_skip (thN (Ok_seq (rg G (tF hm (fun _ => ⟨[(0, dV s)], [], 32⟩) (fun v4 hr hm => ?_) ?_))))
  ·refine Ok_block (lp G hm (fun v1 => ⟨[(0, dV s), (15, .dat (.agg [.sc (.int .i64 0), .sc (.int .i64 1), .sc (.int .i64 3), .sc (.int .i64 4)])), (16, dV v1)], [], 32⟩) ?_)
   rintro v1 r0 hb1 hm
   rw [zq7_L1] at hm
   refine rg G (Ok_seq (cd hm (fun hm => ?_) (fun hm => ?_)))
   ·refine X_skip (thN (Ok_seq (Ok_block ?_)))
    obtain ⟨u1, h2, hm⟩ := obind hm
    obtain ⟨e, h1, hm⟩ := obind hm
    refine ixS1 (ls := ([0, 1, 3, 4] : List Int)) (t := 157) (el := 3) (kk := .i64) (T := tyE157) (E := tyE3) (len := 4) (e := e) G (chk_t h2) h1 h0 ?_ (fun _ => ⟨rfl, rfl⟩)
    obtain ⟨u2, h3, hm⟩ := obind hm
    refine jn hm (fun v2 => ⟨[(0, dV s), (15, .dat (.agg [.sc (.int .i64 0), .sc (.int .i64 1), .sc (.int .i64 3), .sc (.int .i64 4)])), (16, dV v1), (28, dV v2)], [], 32⟩) (fun v2 hm => ?_) ?_
    ·rcases bf hm with ⟨hb2, hm⟩ | ⟨hb2, hm⟩
     ·refine re G (hK h3 (hO 4 (.b true) (hP hb2 h0))) ?_
      exact wJ G hm
     ·obtain ⟨u3, h4, hm⟩ := obind hm
      refine re G (hK h3 (hO 4 (.b false) (hP hb2 (hK h4 h0)))) ?_
      exact wJ G hm
    rintro v2 hm
    refine cd hm (fun hm => ?_) (fun hm => ?_)
    ·refine rg G ?_
     have hm := eL hm hb1 hr
     cases hm
     exact rt [] []
    ·exact X_skip (ibN (thN (rh G (wL G hm))))
   ·exact Ok_exit (thE (thE (ibE (wE G hm hb1))))
  rintro ⟨⟩ hm s1 hw
  refine thN (Ok_weak hw ?_)
  obtain ⟨u8, h9, hm⟩ := obind hm
  obtain ⟨u9, h10, hm⟩ := obind hm
  obtain ⟨u10, h11, hm⟩ := obind hm
  obtain ⟨u11, h12, hm⟩ := obind hm
  refine ds G [] (hK h9 (hK h10 (hK h11 (hK h12 h0)))) ?_
  refine Ok_seq ?_
  obtain ⟨u12, h13, hm⟩ := obind hm
  refine jn hm (fun v3 => ⟨[(6, dV (w64 ((w64 ((w64 ((w64 ((w64 ((w64 ((IntKind.u8.wrap (((s.data.toList.getD (0 : Int).toNat 0).toNat : Int) - 48)))) * 10)) + (w64 ((IntKind.u8.wrap (((s.data.toList.getD (1 : Int).toNat 0).toNat : Int) - 48)))))) * 60)) + (w64 ((w64 ((IntKind.u8.wrap (((s.data.toList.getD (3 : Int).toNat 0).toNat : Int) - 48)))) * 10)))) + (w64 ((IntKind.u8.wrap (((s.data.toList.getD (4 : Int).toNat 0).toNat : Int) - 48))))))), (59, dV v3)], [], 32⟩) (fun v3 hm => ?_) ?_
  ·rcases bf hm with ⟨hb3, hm⟩ | ⟨hb3, hm⟩
   ·refine re G (hK h13 (hO 3 (.b true) (hP hb3 h0))) ?_
    exact wJ G hm
   ·obtain ⟨r1, h14, hm⟩ := obind hm
    refine re G (hK h13 (hO 3 (.b false) (hP hb3 (hC 5 (zq3_c h14) h0)))) ?_
    exact wJ G hm
  rintro v3 hm
  refine cd hm (fun hm => ?_) (fun hm => ?_)
  ·refine rg G ?_
   cases hm
   exact rt [] []
  ·refine X_skip (thN (rg G ?_))
   cases hm
   exact rt [] []
noncomputable def zq26_M : MS (Network × (List ByteArray)) (Trip × Bool) := ⟨.x .r .r, fun x => zq26 x.1 x.2, fun y => .tup [dV y.1, dV y.2], fun _ => [], fun _ _ => []⟩
theorem zq26_c {n words y} (hm : zq26 n words = some y) : zq26_M.C (n, words) y := zq26_M.c (n, words) hm
theorem zq26_ok : FnOK Tryz.prog tJ 78 zq26_M.S := by
 refine fm tt zq26_M [fo zq5_ok, fo zq21_ok, fo zq78_ok, fo zq7_ok] Tryz.call78 Tryz.func78 rfl Tryz.results78 Tryz.ntmps78 ?_
 rintro ⟨n, words⟩ y cx G hm
 have hm : zq26 n words = some y := hm
 unfold zq26 at hm
 refine rg G (Ok_seq (rs G (hN 1 words h0) ?_))
 refine cd hm (fun hm => ?_) (fun hm => ?_)
 ·refine rg G ?_
  cases hm
  exact rt [] []
 ·refine X_skip (thN ?_)
  obtain ⟨e, h, hm⟩ := obind hm
  obtain ⟨r, h1, hm⟩ := obind hm
  refine rs G (hD 1 h (hC 3 (zq5_c h1) h0)) ?_
  refine Ok_seq (rg G (cd hm (fun hm => ?_) (fun hm => ?_)))
  ·refine rg G ?_
   cases hm
   exact rt [] []
  ·refine X_skip (thN ?_)
   obtain ⟨r3, h5, hm⟩ := obind hm
   obtain ⟨e2, h6, hm⟩ := obind hm
   obtain ⟨r4, h7, hm⟩ := obind hm
   refine ds G [] (hC 1 (zq21_c h5) (hD 3 h6 (hC 5 (zq78_c h7) h0))) ?_
   obtain ⟨e3, h8, hm⟩ := obind hm
   obtain ⟨r5, h9, hm⟩ := obind hm
   refine rs G (hD 1 h8 (hC 3 (zq7_c h9) h0)) ?_
   refine Ok_seq (jn hm (fun v => ⟨[(4, .ref 16 0), (6, dV r.1), (8, dV r4), (9, dV r5.1), (42, dV v)], [bX 16 64 [kV .i64 0, kV .i64 0, kV .i64 0]], 48⟩) (fun v hm => ?_) ?_)
   ·rcases bf hm with ⟨hb, hm⟩ | ⟨hb, hm⟩
    ·refine re G (hO 2 (.b true) (hP hb h0)) ?_
     exact wJ G hm
    ·refine re G (hO 2 (.b false) (hP hb h0)) ?_
     exact wJ G hm
   rintro v hm
   refine cd hm (fun hm => ?_) (fun hm => ?_)
   ·refine rg G ?_
    cases hm
    exact rt [] []
   ·refine X_skip (thN (rg G ?_))
    cases hm
    exact rt [] []
noncomputable def zq11_M : MS Timetable (Timetable × Bool) := ⟨.r, zq11, fun y => .tup [dV y.1, dV y.2], fun _ => [], fun _ _ => []⟩
theorem zq11_c {t y} (hm : zq11 t = some y) : zq11_M.C t y := zq11_M.c t hm
theorem zq11_ok : FnOK Tryz.prog tJ 79 zq11_M.S := by
 refine fm tt zq11_M [fo zq4_ok] Tryz.call79 Tryz.func79 rfl Tryz.results79 Tryz.ntmps79 ?_
 rintro t y cx G hm
 have hm : zq11 t = some y := hm
 unfold zq11 at hm
 refine rg G (Ok_seq ?_)
 obtain ⟨r, h, hm⟩ := obind hm
 refine rs G (hC 1 (zq4_c h) h0) ?_
 refine cd hm (fun hm => ?_) (fun hm => ?_)
 ·refine rg G ?_
  cases hm
  exact rt [] [[.z 1, .z 3, .z 3]]
 ·refine X_skip (thN (rg G ?_))
  cases hm
  exact rt [] []
noncomputable def zq25_M : MS ByteArray (Timetable × Bool) := ⟨.r, zq25, fun y => .tup [dV y.1, dV y.2], fun _ => [], fun _ _ => []⟩
theorem zq25_c {s y} (hm : zq25 s = some y) : zq25_M.C s y := zq25_M.c s hm
theorem zq25_ok : FnOK Tryz.prog tJ 32 zq25_M.S := by
 refine fm tt zq25_M [fo zq27_ok, fo zq85_ok, fo zq24_ok, fo zq26_ok, fo zq11_ok] Tryz.call32 Tryz.func32 rfl Tryz.results32 Tryz.ntmps32 ?_
 rintro s y cx G hm
 have hm : zq25 s = some y := hm
 unfold zq25 at hm
 refine rg G ?_
 obtain ⟨r, h, hm⟩ := obind hm
 refine rs G (hC 1 (zq27_c h) h0) ?_
 refine Ok_seq (rg G (cd hm (fun hm => ?_) (fun hm => ?_)))
 ·refine rg G ?_
  cases hm
  exact rt [] [[.z 1, .z 3, .z 3]]
 ·refine X_skip (thN (rg G (Ok_seq (rs G (hN 1 r.1 h0) ?_))))
  refine tF hm (fun (v7, v8, v9) => ⟨[(2, .ref 16 0), (6, .ref 32 0)], [bX 16 30 [.dat (.sc (.slice none 0 0)), .dat (.sc (.slice none 0 0)), .dat (.sc (.slice none 0 0))], bX 32 30 [.own 48, .own 64, .own 80], aX 48 9 v7, aX 64 75 v8, aX 80 64 v9], 112⟩) (fun v10 hr hm => ?_) ?_
  ·refine Ok_block (lpP hm (fun (v, v1, v2, v3) => ⟨[(2, .ref 16 0), (6, .ref 32 0), (20, dV r.1), (21, dV (r.1.length : Int)), (22, dV v)], [bX 16 30 [.dat (.sc (.slice none 0 0)), .dat (.sc (.slice none 0 0)), .dat (.sc (.slice none 0 0))], bX 32 30 [.own 48, .own 64, .own 80], aX 48 9 v1, aX 64 75 v2, aX 80 64 v3], 112⟩) (Wk_J G.hL ⟨[(2, []), (6, []), (20, []), (21, []), (22, [])], [(16, 16, []), (32, 192, [.o 48, .o 64, .o 80])], [(48, 9, 1, []), (64, 75, 3, []), (80, 64, 3, [])], 112⟩ (by kernel_rfl)) ?_)
   rintro ⟨v, v1, v2, v3⟩ r0 hb hm
   rw [zq25_L1] at hm
   refine rg G (Ok_seq (cd hm (fun hm => ?_) (fun hm => ?_)))
   ·refine X_skip (thN (Ok_seq (Ok_block ?_)))
    obtain ⟨e, h1, hm⟩ := obind hm
    refine rs G (hD 0 h1 h0) ?_
    obtain ⟨r1, h2, hm⟩ := obind hm
    refine rs G (hC 1 (zq85_c h2) h0) ?_
    refine jn hm (fun (t, v4, v5, v6) => ⟨[(2, .ref 16 0), (5, dV t), (6, .ref 32 0), (20, dV r.1), (21, dV (r.1.length : Int)), (22, dV v)], [bX 16 30 [.dat (.sc (.slice none 0 0)), .dat (.sc (.slice none 0 0)), .dat (.sc (.slice none 0 0))], bX 32 30 [.own 48, .own 64, .own 80], aX 48 9 v4, aX 64 75 v5, aX 80 64 v6], 112⟩) (fun vv hm => ?_) ?_
    ·obtain ⟨e1, h3, hm⟩ := obind hm
     refine rs G (hD 1 h3 (hE 2 h3 h0)) ?_
     refine Ok_block (rg G (cd hm (fun hm => ?_) (fun hm => ?_)))
     ·refine jn hm (fun t1 => ⟨[(2, .ref 16 0), (5, dV t1), (6, .ref 32 0), (9, .own 48), (20, dV r.1), (21, dV (r.1.length : Int)), (22, dV v)], [bX 16 30 [.dat (.sc (.slice none 0 0)), .dat (.sc (.slice none 0 0)), .dat (.sc (.slice none 0 0))], bX 32 30 [.own 64, .own 80, .own 96], aX 48 9 r1, aX 64 9 v1, aX 80 75 v2, aX 96 64 v3], 128⟩) (fun t1 hm => ?_) ?_
      ·rcases bf hm with ⟨hb1, hm⟩ | ⟨hb1, hm⟩
       ·rcases bf hm with ⟨hb2, hm⟩ | ⟨hb2, hm⟩
        ·refine re G (hN 1 r1 (hO 3 (.b true) (hP hb1 (hN 7 v2 (hO 10 (.b true) (hP hb2 (hN 13 v3 h0))))))) ?_
         exact wJ G hm
        ·refine re G (hN 1 r1 (hO 3 (.b true) (hP hb1 (hN 7 v2 (hO 10 (.b false) (hP hb2 h0)))))) ?_
         exact wJ G hm
       ·refine re G (hN 1 r1 (hO 3 (.b false) (hP hb1 h0))) ?_
        exact wJ G hm
      rintro t1 hm
      refine rg G (cd hm (fun hm => ?_) (fun hm => ?_))
      ·obtain ⟨e3, h6, hm⟩ := obind hm
       obtain ⟨u1, h7, hm⟩ := obind hm
       refine de G [(7, [64, 240]), (10, [32, 256])] (hD 4 h6 (hE 5 h6 (hA 7 16 h7 h0))) ?_
       exact ibN (wJ G hm)
      ·exact X_skip (ibN (wJ G hm))
     ·refine rg G (cd hm (fun hm => ?_) (fun hm => ?_))
      ·refine rg G ?_
       obtain ⟨r2, h8, hm⟩ := obind hm
       refine rs G (hF 3 (zq24_c h8) ⟨(flat_cons flat_arr (flat_cons flat_arr flat_nil)), flat_nil⟩ h0) ?_
       refine jn hm (fun t2 => ⟨[(2, .ref 16 0), (5, dV t2), (6, .ref 32 0), (10, .ref 48 0), (20, dV r.1), (21, dV (r.1.length : Int)), (22, dV v)], [bX 16 30 [.dat (.sc (.slice none 0 0)), .dat (.sc (.slice none 0 0)), .dat (.sc (.slice none 0 0))], bX 32 30 [.own 64, .own 80, .own 96], bX 48 75 [dV r2.1.Name, .own 112, .own 128], aX 64 9 v1, aX 80 75 v2, aX 96 64 v3, aX 112 3 r2.1.Stops, aX 128 3 r2.1.Runs], 160⟩) (fun t2 hm => ?_) ?_
       ·rcases bf hm with ⟨hb3, hm⟩ | ⟨hb3, hm⟩
        ·refine re G (hO 1 (.b true) (hP hb3 (hN 4 v3 h0))) ?_
         exact wJ G hm
        ·refine re G (hO 1 (.b false) (hP hb3 h0)) ?_
         exact wJ G hm
       rintro t2 hm
       obtain ⟨u2, h9, hm⟩ := obind hm
       refine re G (hO 4 (.fz [112, 128] [] []) (hA 5 64 h9 h0)) ?_
       exact ibN (wJ G hm)
      ·refine rg G (cd hm (fun hm => ?_) (fun hm => ?_))
       ·refine rg G ?_
        obtain ⟨r3, h10, hm⟩ := obind hm
        refine rs G (hC 3 (zq26_c h10) h0) ?_
        obtain ⟨u3, h11, hm⟩ := obind hm
        refine re G (hA 4 24 h11 h0) ?_
        exact ibN (wJ G hm)
       ·exact rh G (ibN (wJ G hm))
    rintro ⟨t, v4, v5, v6⟩ hm
    refine rg G (cd hm (fun hm => ?_) (fun hm => ?_))
    ·refine rg G ?_
     have hm := eL hm hb hr
     cases hm
     exact rt [] [[.z 1, .z 3, .z 3]]
    ·exact X_skip (ibN (thN (rh G (wL G hm))))
   ·exact Ok_exit (thE (thE (ibE (wE G hm hb))))
  rintro ⟨v7, v8, v9⟩ hm s1 hw
  refine thN (Ok_weak hw ?_)
  obtain ⟨r5, h12, hm⟩ := obind hm
  refine rs G (hO 1 (.fz [48, 64, 80] [] []) (hC 1 (zq11_c h12) h0)) ?_
  cases hm
  exact rt [] []
noncomputable def zq8_M : MS ByteArray (Timetable × Bool) := ⟨.r, zq8, fun y => .tup [dV y.1, dV y.2], fun _ => [], fun _ _ => []⟩
theorem zq8_c {s y} (hm : zq8 s = some y) : zq8_M.C s y := zq8_M.c s hm
theorem zq8_ok : FnOK Tryz.prog tJ 8 zq8_M.S := by
 refine fm tt zq8_M [fo zq25_ok] Tryz.call8 Tryz.func8 rfl Tryz.results8 Tryz.ntmps8 ?_
 rintro s y cx G hm
 have hm : zq8 s = some y := hm
 unfold zq8 at hm
 refine rg G ?_
 obtain ⟨r, h, hm⟩ := obind hm
 refine rs G (hC 1 (zq25_c h) h0) ?_
 cases hm
 exact rt [] []
noncomputable def zq52_M : MS (Int × Int × Int) Bool := ⟨.x .r (.x .r .r), fun x => zq52 x.1 x.2.1 x.2.2, fun y => dV y, fun _ => [], fun _ _ => []⟩
theorem zq52_c {x a b y} (hm : zq52 x a b = some y) : zq52_M.C (x, a, b) y := zq52_M.c (x, a, b) hm
theorem zq52_ok : FnOK Tryz.prog tJ 55 zq52_M.S := by
 refine fm tt zq52_M [] Tryz.call55 Tryz.func55 rfl Tryz.results55 Tryz.ntmps55 ?_
 rintro ⟨x, a, b⟩ y cx G hm
 have hm : zq52 x a b = some y := hm
 unfold zq52 at hm
 refine rg G (jn hm (fun v => ⟨[(6, dV v)], [], 32⟩) (fun v hm => ?_) ?_)
 ·rcases bf hm with ⟨hb, hm⟩ | ⟨hb, hm⟩
  ·refine re G (hO 3 (.b true) (hP hb h0)) ?_
   exact wJ G hm
  ·refine re G (hO 3 (.b false) (hP hb h0)) ?_
   exact wJ G hm
 rintro v hm
 cases hm
 exact rt [] []
noncomputable def zq62_M : MS ByteArray Bool := ⟨.r, zq62, fun y => dV y, fun _ => [], fun _ _ => []⟩
theorem zq62_c {s y} (hm : zq62 s = some y) : zq62_M.C s y := zq62_M.c s hm
theorem zq62_ok : FnOK Tryz.prog tJ 67 zq62_M.S := by
 refine fm tt zq62_M [fo zq52_ok] Tryz.call67 Tryz.func67 rfl Tryz.results67 Tryz.ntmps67 ?_
 rintro s y cx G hm
 have hm : zq62 s = some y := hm
 unfold zq62 at hm
 refine rg G (Ok_seq ?_)
 obtain ⟨r, h, hm⟩ := obind hm
 refine jn hm (fun v => ⟨[(0, dV s), (17, dV v)], [], 32⟩) (fun v hm => ?_) ?_
 ·rcases bf hm with ⟨hb, hm⟩ | ⟨hb, hm⟩
  ·refine re G (hC 2 (zq52_c h) (hO 4 (.b true) (hP hb h0))) ?_
   exact wJ G hm
  ·obtain ⟨u, h1, hm⟩ := obind hm
   rcases bf hm with ⟨hb1, hm⟩ | ⟨hb1, hm⟩
   ·refine re G (hC 2 (zq52_c h) (hO 4 (.b false) (hP hb (hK h1 (hO 9 (.b true) (hP hb1 h0)))))) ?_
    exact wJ G hm
   ·obtain ⟨u1, h2, hm⟩ := obind hm
    refine re G (hC 2 (zq52_c h) (hO 4 (.b false) (hP hb (hK h1 (hO 9 (.b false) (hP hb1 (hK h2 h0))))))) ?_
    exact wJ G hm
 rintro v hm
 refine cd hm (fun hm => ?_) (fun hm => ?_)
 ·refine rg G ?_
  cases hm
  exact rt [] []
 ·refine X_skip (thN (Ok_seq (rg G (tF hm (fun _ => ⟨[], [], 32⟩) (fun v3 hr hm => ?_) ?_))))
  ·refine Ok_block (lp G hm (fun v1 => ⟨[(0, dV s), (3, dV v1)], [], 32⟩) ?_)
   rintro v1 r0 hb2 hm
   rw [zq62_L1] at hm
   refine Ok_seq (rg G (cd hm (fun hm => ?_) (fun hm => ?_)))
   ·refine X_skip (thN (Ok_seq (Ok_block ?_)))
    obtain ⟨u2, h3, hm⟩ := obind hm
    refine jn hm (fun v2 => ⟨[(0, dV s), (3, dV v1), (45, dV v2)], [], 32⟩) (fun v2 hm => ?_) ?_
    ·rcases bf hm with ⟨hb3, hm⟩ | ⟨hb3, hm⟩
     ·obtain ⟨u3, h4, hm⟩ := obind hm
      rcases bf hm with ⟨hb4, hm⟩ | ⟨hb4, hm⟩
      ·refine re G (hK h3 (hO 4 (.b true) (hP hb3 (hK h4 (hO 15 (.b true) (hP hb4 h0)))))) ?_
       exact wJ G hm
      ·obtain ⟨u4, h5, hm⟩ := obind hm
       refine re G (hK h3 (hO 4 (.b true) (hP hb3 (hK h4 (hO 15 (.b false) (hP hb4 (hK h5 h0))))))) ?_
       exact wJ G hm
     ·obtain ⟨u5, h6, hm⟩ := obind hm
      rcases bf hm with ⟨hb5, hm⟩ | ⟨hb5, hm⟩
      ·obtain ⟨u6, h7, hm⟩ := obind hm
       rcases bf hm with ⟨hb6, hm⟩ | ⟨hb6, hm⟩
       ·refine re G (hK h3 (hO 4 (.b false) (hP hb3 (hK h6 (hO 10 (.b true) (hP hb5 (hK h7 (hO 15 (.b true) (hP hb6 h0))))))))) ?_
        exact wJ G hm
       ·obtain ⟨u7, h8, hm⟩ := obind hm
        refine re G (hK h3 (hO 4 (.b false) (hP hb3 (hK h6 (hO 10 (.b true) (hP hb5 (hK h7 (hO 15 (.b false) (hP hb6 (hK h8 h0)))))))))) ?_
        exact wJ G hm
      ·refine re G (hK h3 (hO 4 (.b false) (hP hb3 (hK h6 (hO 10 (.b false) (hP hb5 h0)))))) ?_
       exact wJ G hm
    rintro v2 hm
    refine cd hm (fun hm => ?_) (fun hm => ?_)
    ·refine rg G ?_
     have hm := eL hm hb2 hr
     cases hm
     exact rt [] []
    ·exact X_skip (ibN (thN (rh G (wL G hm))))
   ·exact Ok_exit (thE (thE (ibE (wE G hm hb2))))
  rintro ⟨⟩ hm s1 hw
  refine thN (Ok_weak hw ?_)
  refine rg G ?_
  cases hm
  exact rt [] []
noncomputable def zq58_M : MS ((List ByteArray) × ByteArray) Int := ⟨.x .r .r, fun x => zq58 x.1 x.2, fun y => dV y, fun _ => [], fun _ _ => []⟩
theorem zq58_c {list name y} (hm : zq58 list name = some y) : zq58_M.C (list, name) y := zq58_M.c (list, name) hm
theorem zq58_ok : FnOK Tryz.prog tJ 91 zq58_M.S := by
 refine fm tt zq58_M [] Tryz.call91 Tryz.func91 rfl Tryz.results91 Tryz.ntmps91 ?_
 rintro ⟨list, name⟩ y cx G hm
 have hm : zq58 list name = some y := hm
 unfold zq58 at hm
 refine rg G (Ok_seq (rg G (tF hm (fun _ => ⟨[], [], 32⟩) (fun v1 hr hm => ?_) ?_)))
 ·refine Ok_block (lp G hm (fun v => ⟨[(0, dV list), (1, dV name), (5, dV v)], [], 32⟩) ?_)
  rintro v r0 hb hm
  rw [zq58_L1] at hm
  refine Ok_seq (rs G (hN 2 list h0) ?_)
  refine cd hm (fun hm => ?_) (fun hm => ?_)
  ·refine X_skip (thN (Ok_seq (Ok_block ?_)))
   obtain ⟨e, h, hm⟩ := obind hm
   refine rs G (hD 2 h h0) ?_
   refine cd hm (fun hm => ?_) (fun hm => ?_)
   ·refine rg G ?_
    have hm := eL hm hb hr
    cases hm
    exact rt [] []
   ·exact X_skip (ibN (thN (rh G (wL G hm))))
  ·exact Ok_exit (thE (thE (ibE (wE G hm hb))))
 rintro ⟨⟩ hm s hw
 refine thN (Ok_weak hw ?_)
 refine rg G ?_
 cases hm
 exact rt [] []
noncomputable def zq60_M : MS (Line × Int) Bool := ⟨.x .r .r, fun x => zq60 x.1 x.2, fun y => dV y, fun _ => [], fun _ _ => []⟩
theorem zq60_c {x stops y} (hm : zq60 x stops = some y) : zq60_M.C (x, stops) y := zq60_M.c (x, stops) hm
theorem zq60_ok : FnOK Tryz.prog tJ 92 zq60_M.S := by
 refine fm tt zq60_M [fo zq62_ok, fo zq52_ok, fo zq65_ok] Tryz.call92 Tryz.func92 rfl Tryz.results92 Tryz.ntmps92 ?_
 rintro ⟨x, stops⟩ y cx G hm
 have hm : zq60 x stops = some y := hm
 unfold zq60 at hm
 refine rg G (Ok_seq ?_)
 obtain ⟨r, h, hm⟩ := obind hm
 refine jn hm (fun v => ⟨[(1, dV stops), (2, .ref 16 0), (27, dV v)], [bX 16 75 [dV x.Name, dV x.Stops, dV x.Runs]], 48⟩) (fun v hm => ?_) ?_
 ·rcases bf hm with ⟨hb, hm⟩ | ⟨hb, hm⟩
  ·refine re G (hC 2 (zq62_c h) (hO 4 (.b true) (hP hb h0))) ?_
   exact wJ G hm
  ·obtain ⟨r1, h1, hm⟩ := obind hm
   rcases bf hm with ⟨hb1, hm⟩ | ⟨hb1, hm⟩
   ·refine re G (hC 2 (zq62_c h) (hO 4 (.b false) (hP hb (hN 7 x.Stops (hC 8 (zq52_c h1) (hO 11 (.b true) (hP hb1 h0))))))) ?_
    exact wJ G hm
   ·refine re G (hC 2 (zq62_c h) (hO 4 (.b false) (hP hb (hN 7 x.Stops (hC 8 (zq52_c h1) (hO 11 (.b false) (hP hb1 (hN 14 x.Runs (hN 17 x.Stops h0))))))))) ?_
    exact wJ G hm
 rintro v hm
 refine cd hm (fun hm => ?_) (fun hm => ?_)
 ·refine rg G ?_
  cases hm
  exact rt [] []
 ·refine X_skip (thN (Ok_seq (rg G (tF hm (fun _ => ⟨[(2, .ref 16 0)], [bX 16 75 [dV x.Name, dV x.Stops, dV x.Runs]], 48⟩) (fun v5 hr hm => ?_) ?_))))
  ·refine Ok_block (lp G hm (fun v1 => ⟨[(1, dV stops), (2, .ref 16 0), (5, dV v1)], [bX 16 75 [dV x.Name, dV x.Stops, dV x.Runs]], 48⟩) ?_)
   rintro v1 r0 hb2 hm
   rw [zq60_L1] at hm
   refine Ok_seq (rs G (hN 3 x.Stops h0) ?_)
   refine cd hm (fun hm => ?_) (fun hm => ?_)
   ·refine X_skip (thN (Ok_seq (Ok_block ?_)))
    obtain ⟨e2, h6, hm⟩ := obind hm
    obtain ⟨r4, h7, hm⟩ := obind hm
    refine jn hm (fun v2 => ⟨[(1, dV stops), (2, .ref 16 0), (5, dV v1), (54, dV v2)], [bX 16 75 [dV x.Name, dV x.Stops, dV x.Runs]], 48⟩) (fun v2 hm => ?_) ?_
    ·rcases bf hm with ⟨hb3, hm⟩ | ⟨hb3, hm⟩
     ·refine de G [] (hD 3 h6 (hC 7 (zq52_c h7) (hO 9 (.b true) (hP hb3 h0)))) ?_
      exact wJ G hm
     ·obtain ⟨e3, h8, hm⟩ := obind hm
      obtain ⟨r5, h9, hm⟩ := obind hm
      refine de G [] (hD 3 h6 (hC 7 (zq52_c h7) (hO 9 (.b false) (hP hb3 (hD 14 h8 (hC 16 (zq65_c h9) h0)))))) ?_
      exact wJ G hm
    rintro v2 hm
    refine cd hm (fun hm => ?_) (fun hm => ?_)
    ·refine rg G ?_
     have hm := eL hm hb2 hr
     cases hm
     exact rt [] []
    ·exact X_skip (ibN (thN (rh G (wL G hm))))
   ·exact Ok_exit (thE (thE (ibE (wE G hm hb2))))
  rintro ⟨⟩ hm s hw
  refine thN (Ok_weak hw ?_)
  refine Ok_seq (rg G (tF hm (fun _ => ⟨[], [], 32⟩) (fun v4 hr1 hm => ?_) ?_))
  ·refine Ok_block (lp G hm (fun v3 => ⟨[(2, .ref 16 0), (6, dV v3)], [bX 16 75 [dV x.Name, dV x.Stops, dV x.Runs]], 48⟩) ?_)
   rintro v3 r0 hb4 hm
   rw [zq60_L2] at hm
   refine Ok_seq (rs G (hN 3 x.Runs h0) ?_)
   refine cd hm (fun hm => ?_) (fun hm => ?_)
   ·refine X_skip (thN (Ok_seq (Ok_block ?_)))
    obtain ⟨e5, h10, hm⟩ := obind hm
    obtain ⟨r7, h11, hm⟩ := obind hm
    refine rs G (hD 3 h10 (hC 5 (zq52_c h11) h0)) ?_
    refine cd hm (fun hm => ?_) (fun hm => ?_)
    ·refine rg G ?_
     have hm := eL hm hb4 hr1
     cases hm
     exact rt [] []
    ·exact X_skip (ibN (thN (rh G (wL G hm))))
   ·exact Ok_exit (thE (thE (ibE (wE G hm hb4))))
  rintro ⟨⟩ hm s1 hw1
  refine thN (Ok_weak hw1 ?_)
  refine rg G ?_
  cases hm
  exact rt [] []
noncomputable def zq61_M : MS (Network × ByteArray) Int := ⟨.x .r .r, fun x => zq61 x.1 x.2, fun y => dV y, fun _ => [], fun _ _ => []⟩
theorem zq61_c {n name y} (hm : zq61 n name = some y) : zq61_M.C (n, name) y := zq61_M.c (n, name) hm
theorem zq61_ok : FnOK Tryz.prog tJ 93 zq61_M.S := by
 refine fm tt zq61_M [] Tryz.call93 Tryz.func93 rfl Tryz.results93 Tryz.ntmps93 ?_
 rintro ⟨n, name⟩ y cx G hm
 have hm : zq61 n name = some y := hm
 unfold zq61 at hm
 refine rg G (Ok_seq (rg G (tF hm (fun _ => ⟨[], [], 32⟩) (fun v1 hr hm => ?_) ?_)))
 ·refine Ok_block (lp G hm (fun v => ⟨[(1, dV name), (2, .ref 16 0), (5, dV v)], [bX 16 27 [dV n.Stops, dV n.Lines]], 48⟩) ?_)
  rintro v r0 hb hm
  rw [zq61_L1] at hm
  refine Ok_seq (rs G (hN 3 n.Lines h0) ?_)
  refine cd hm (fun hm => ?_) (fun hm => ?_)
  ·refine X_skip (thN (Ok_seq (Ok_block ?_)))
   obtain ⟨e, h, hm⟩ := obind hm
   refine rs G (hD 3 h h0) ?_
   refine cd hm (fun hm => ?_) (fun hm => ?_)
   ·refine rg G ?_
    have hm := eL hm hb hr
    cases hm
    exact rt [] []
   ·exact X_skip (ibN (thN (rh G (wL G hm))))
  ·exact Ok_exit (thE (thE (ibE (wE G hm hb))))
 rintro ⟨⟩ hm s hw
 refine thN (Ok_weak hw ?_)
 refine rg G ?_
 cases hm
 exact rt [] []
noncomputable def zq59_M : MS Network Bool := ⟨.r, zq59, fun y => dV y, fun _ => [], fun _ _ => []⟩
theorem zq59_c {n y} (hm : zq59 n = some y) : zq59_M.C n y := zq59_M.c n hm
theorem zq59_ok : FnOK Tryz.prog tJ 41 zq59_M.S := by
 refine fm tt zq59_M [fo zq52_ok, fo zq62_ok, fo zq58_ok, fo zq60_ok, fo zq61_ok] Tryz.call41 Tryz.func41 rfl Tryz.results41 Tryz.ntmps41 ?_
 rintro n y cx G hm
 have hm : zq59 n = some y := hm
 unfold zq59 at hm
 refine rg G (Ok_seq ?_)
 obtain ⟨r, h, hm⟩ := obind hm
 refine jn hm (fun v => ⟨[(1, .ref 16 0), (16, dV v)], [bX 16 27 [dV n.Stops, dV n.Lines]], 48⟩) (fun v hm => ?_) ?_
 ·rcases bf hm with ⟨hb, hm⟩ | ⟨hb, hm⟩
  ·refine re G (hN 2 n.Stops (hC 3 (zq52_c h) (hO 5 (.b true) (hP hb h0)))) ?_
   exact wJ G hm
  ·obtain ⟨r1, h1, hm⟩ := obind hm
   refine re G (hN 2 n.Stops (hC 3 (zq52_c h) (hO 5 (.b false) (hP hb (hN 8 n.Lines (hC 9 (zq52_c h1) h0)))))) ?_
   exact wJ G hm
 rintro v hm
 refine cd hm (fun hm => ?_) (fun hm => ?_)
 ·refine rg G ?_
  cases hm
  exact rt [] []
 ·refine X_skip (thN (Ok_seq (rg G (tF hm (fun _ => ⟨[(1, .ref 16 0)], [bX 16 27 [dV n.Stops, dV n.Lines]], 48⟩) (fun v5 hr hm => ?_) ?_))))
  ·refine Ok_block (lp G hm (fun i => ⟨[(1, .ref 16 0), (3, dV i)], [bX 16 27 [dV n.Stops, dV n.Lines]], 48⟩) ?_)
   rintro i r0 hb1 hm
   rw [zq59_L1] at hm
   refine Ok_seq (rs G (hN 3 n.Stops h0) ?_)
   refine cd hm (fun hm => ?_) (fun hm => ?_)
   ·refine X_skip (thN (Ok_seq (Ok_block ?_)))
    obtain ⟨e2, h6, hm⟩ := obind hm
    obtain ⟨r4, h7, hm⟩ := obind hm
    refine jn hm (fun v1 => ⟨[(1, .ref 16 0), (3, dV i), (42, dV v1)], [bX 16 27 [dV n.Stops, dV n.Lines]], 48⟩) (fun v1 hm => ?_) ?_
    ·rcases bf hm with ⟨hb2, hm⟩ | ⟨hb2, hm⟩
     ·refine de G [] (hD 3 h6 (hC 5 (zq62_c h7) (hO 7 (.b true) (hP hb2 h0)))) ?_
      exact wJ G hm
     ·obtain ⟨e3, h8, hm⟩ := obind hm
      obtain ⟨r5, h9, hm⟩ := obind hm
      refine de G [] (hD 3 h6 (hC 5 (zq62_c h7) (hO 7 (.b false) (hP hb2 (hD 13 h8 (hC 15 (zq58_c h9) h0)))))) ?_
      exact wJ G hm
    rintro v1 hm
    refine cd hm (fun hm => ?_) (fun hm => ?_)
    ·refine rg G ?_
     have hm := eL hm hb1 hr
     cases hm
     exact rt [] []
    ·exact X_skip (ibN (thN (rh G (wL G hm))))
   ·exact Ok_exit (thE (thE (ibE (wE G hm hb1))))
  rintro ⟨⟩ hm s hw
  refine thN (Ok_weak hw ?_)
  refine Ok_seq (rg G (tF hm (fun _ => ⟨[], [], 32⟩) (fun v4 hr1 hm => ?_) ?_))
  ·refine Ok_block (lp G hm (fun v2 => ⟨[(1, .ref 16 0), (4, dV v2)], [bX 16 27 [dV n.Stops, dV n.Lines]], 48⟩) ?_)
   rintro v2 r0 hb3 hm
   rw [zq59_L2] at hm
   refine Ok_seq (rs G (hN 3 n.Lines h0) ?_)
   refine cd hm (fun hm => ?_) (fun hm => ?_)
   ·refine X_skip (thN (Ok_seq (Ok_block ?_)))
    obtain ⟨e7, h14, hm⟩ := obind hm
    obtain ⟨r9, h15, hm⟩ := obind hm
    refine jn hm (fun v3 => ⟨[(1, .ref 16 0), (4, dV v2), (71, dV v3)], [bX 16 27 [dV n.Stops, dV n.Lines]], 48⟩) (fun v3 hm => ?_) ?_
    ·rcases bf hm with ⟨hb4, hm⟩ | ⟨hb4, hm⟩
     ·refine de G [] (hD 3 h14 (hN 7 n.Stops (hC 8 (zq60_c h15) (hO 10 (.b true) (hP hb4 h0))))) ?_
      exact wJ G hm
     ·obtain ⟨e8, h16, hm⟩ := obind hm
      obtain ⟨r10, h17, hm⟩ := obind hm
      refine de G [] (hD 3 h14 (hN 7 n.Stops (hC 8 (zq60_c h15) (hO 10 (.b false) (hP hb4 (hD 15 h16 (hC 18 (zq61_c h17) h0))))))) ?_
      exact wJ G hm
    rintro v3 hm
    refine cd hm (fun hm => ?_) (fun hm => ?_)
    ·refine rg G ?_
     have hm := eL hm hb3 hr1
     cases hm
     exact rt [] []
    ·exact X_skip (ibN (thN (rh G (wL G hm))))
   ·exact Ok_exit (thE (thE (ibE (wE G hm hb3))))
  rintro ⟨⟩ hm s1 hw1
  refine thN (Ok_weak hw1 ?_)
  refine rg G ?_
  cases hm
  exact rt [] []
noncomputable def zq68_M : MS Int Bool := ⟨.r, zq68, fun y => dV y, fun _ => [], fun _ _ => []⟩
theorem zq68_c {t y} (hm : zq68 t = some y) : zq68_M.C t y := zq68_M.c t hm
theorem zq68_ok : FnOK Tryz.prog tJ 54 zq68_M.S := by
 refine fm tt zq68_M [fo zq52_ok] Tryz.call54 Tryz.func54 rfl Tryz.results54 Tryz.ntmps54 ?_
 rintro t y cx G hm
 have hm : zq68 t = some y := hm
 unfold zq68 at hm
 refine rg G ?_
 obtain ⟨r, h, hm⟩ := obind hm
 refine rs G (hC 1 (zq52_c h) h0) ?_
 cases hm
 exact rt [] []
noncomputable def zq73_M : MS (Timetable × Int) Line := ⟨.x .r .r, fun x => zq73 x.1 x.2, fun y => dV y, fun _ => [], fun _ _ => []⟩
theorem zq73_c {t i y} (hm : zq73 t i = some y) : zq73_M.C (t, i) y := zq73_M.c (t, i) hm
theorem zq73_ok : FnOK Tryz.prog tJ 83 zq73_M.S := by
 refine fm tt zq73_M [] Tryz.call83 Tryz.func83 rfl Tryz.results83 Tryz.ntmps83 ?_
 rintro ⟨t, i⟩ y cx G hm
 have hm : zq73 t i = some y := hm
 unfold zq73 at hm
 refine rg G ?_
 obtain ⟨e2, h2, hm⟩ := obind hm
 obtain ⟨e3, h3, hm⟩ := obind hm
 refine ds G [(11, [32])] (hD 6 h2 (hD 9 h3 h0)) ?_
 cases hm
 exact rt [] []
noncomputable def zq74_M : MS (Timetable × Int) ((List Int)) := ⟨.x .r .r, fun x => zq74 x.1 x.2, fun y => dV y, fun _ => [], fun _ _ => []⟩
theorem zq74_c {t i y} (hm : zq74 t i = some y) : zq74_M.C (t, i) y := zq74_M.c (t, i) hm
theorem zq74_ok : FnOK Tryz.prog tJ 94 zq74_M.S := by
 refine fm tt zq74_M [fo zq73_ok] Tryz.call94 Tryz.func94 rfl Tryz.results94 Tryz.ntmps94 ?_
 rintro ⟨t, i⟩ y cx G hm
 have hm : zq74 t i = some y := hm
 unfold zq74 at hm
 refine rg G ?_
 obtain ⟨r, h, hm⟩ := obind hm
 refine rs G (hC 2 (zq73_c h) h0) ?_
 cases hm
 exact rt [] []
noncomputable def zq66_M : MS (Line × Int × Int) Int := ⟨.x .r (.x .r .r), fun x => zq66 x.1 x.2.1 x.2.2, fun y => dV y, fun _ => [], fun _ _ => []⟩
theorem zq66_c {x from_ to_ y} (hm : zq66 x from_ to_ = some y) : zq66_M.C (x, from_, to_) y := zq66_M.c (x, from_, to_) hm
theorem zq66_ok : FnOK Tryz.prog tJ 132 zq66_M.S := by
 refine fm tt zq66_M [] Tryz.call132 Tryz.func132 rfl Tryz.results132 Tryz.ntmps132 ?_
 rintro ⟨x, from_, to_⟩ y cx G hm
 have hm : zq66 x from_ to_ = some y := hm
 unfold zq66 at hm
 refine rg G (rg G (Ok_seq (rg G (tl hm (fun v2 => ⟨[(7, dV v2)], [], 32⟩) (fun v2 hm => ?_) ?_))))
 ·refine Ok_block (lp G hm (fun (v, v1) => ⟨[(2, dV to_), (3, .ref 16 0), (7, dV v), (8, dV v1)], [bX 16 75 [dV x.Name, dV x.Stops, dV x.Runs]], 48⟩) ?_)
  rintro ⟨v, v1⟩ r0 hb hm
  rw [zq66_L1] at hm
  refine Ok_seq (rg G (cd hm (fun hm => ?_) (fun hm => ?_)))
  ·refine X_skip (thN (Ok_seq (Ok_block ?_)))
   obtain ⟨e, h, hm⟩ := obind hm
   refine re G (hD 4 h h0) ?_
   exact ibN (thN (rh G (wL G hm)))
  ·exact Ok_exit (thE (thE (ibE (wD G hm hb))))
 rintro v2 hm s hw
 refine thN (Ok_weak hw ?_)
 refine rg G ?_
 cases hm
 exact rt [] []
noncomputable def zq70_M : MS (Timetable × Int × Int) Int := ⟨.x .r (.x .r .r), fun x => zq70 x.1 x.2.1 x.2.2, fun y => dV y, fun _ => [], fun _ _ => []⟩
theorem zq70_c {t i k y} (hm : zq70 t i k = some y) : zq70_M.C (t, i, k) y := zq70_M.c (t, i, k) hm
theorem zq70_ok : FnOK Tryz.prog tJ 110 zq70_M.S := by
 refine fm tt zq70_M [fo zq73_ok, fo zq66_ok] Tryz.call110 Tryz.func110 rfl Tryz.results110 Tryz.ntmps110 ?_
 rintro ⟨t, i, k⟩ y cx G hm
 have hm : zq70 t i k = some y := hm
 unfold zq70 at hm
 refine rg G ?_
 obtain ⟨e1, h3, hm⟩ := obind hm
 obtain ⟨r2, h4, hm⟩ := obind hm
 obtain ⟨r3, h5, hm⟩ := obind hm
 refine ds G [] (hD 3 h3 (hC 8 (zq73_c h4) (hC 10 (zq66_c h5) h0))) ?_
 cases hm
 exact rt [] []
noncomputable def zq71_M : MS (Timetable × Int) Int := ⟨.x .r .r, fun x => zq71 x.1 x.2, fun y => dV y, fun _ => [], fun _ _ => []⟩
theorem zq71_c {t i y} (hm : zq71 t i = some y) : zq71_M.C (t, i) y := zq71_M.c (t, i) hm
theorem zq71_ok : FnOK Tryz.prog tJ 80 zq71_M.S := by
 refine fm tt zq71_M [fo zq74_ok, fo zq70_ok] Tryz.call80 Tryz.func80 rfl Tryz.results80 Tryz.ntmps80 ?_
 rintro ⟨t, i⟩ y cx G hm
 have hm : zq71 t i = some y := hm
 unfold zq71 at hm
 refine rg G ?_
 obtain ⟨r2, h2, hm⟩ := obind hm
 obtain ⟨r3, h3, hm⟩ := obind hm
 refine ds G [] (hC 4 (zq74_c h2) (hN 5 r2 (hC 7 (zq70_c h3) h0))) ?_
 cases hm
 exact rt [] []
noncomputable def zq72_M : MS Timetable Bool := ⟨.r, zq72, fun y => dV y, fun _ => [], fun _ _ => []⟩
theorem zq72_c {t y} (hm : zq72 t = some y) : zq72_M.C t y := zq72_M.c t hm
theorem zq72_ok : FnOK Tryz.prog tJ 33 zq72_M.S := by
 refine fm tt zq72_M [fo zq59_ok, fo zq52_ok, fo zq68_ok, fo zq71_ok] Tryz.call33 Tryz.func33 rfl Tryz.results33 Tryz.ntmps33 ?_
 rintro t y cx G hm
 have hm : zq72 t = some y := hm
 unfold zq72 at hm
 refine rg G (Ok_seq ?_)
 obtain ⟨r, h, hm⟩ := obind hm
 refine jn hm (fun v => ⟨[(1, .ref 16 0), (14, dV v)], [bX 16 30 [dV t.Network.Stops, dV t.Network.Lines, dV t.Trips]], 48⟩) (fun v hm => ?_) ?_
 ·rcases bf hm with ⟨hb, hm⟩ | ⟨hb, hm⟩
  ·refine re G (hC 2 (zq59_c h) (hO 4 (.b true) (hP hb h0))) ?_
   exact wJ G hm
  ·refine re G (hC 2 (zq59_c h) (hO 4 (.b false) (hP hb (hN 7 t.Trips h0)))) ?_
   exact wJ G hm
 rintro v hm
 refine cd hm (fun hm => ?_) (fun hm => ?_)
 ·refine rg G ?_
  cases hm
  exact rt [] []
 ·refine X_skip (thN (Ok_seq (rg G (tF hm (fun _ => ⟨[], [], 32⟩) (fun v2 hr hm => ?_) ?_))))
  ·refine Ok_block (lp G hm (fun x => ⟨[(1, .ref 16 0), (3, dV x)], [bX 16 30 [dV t.Network.Stops, dV t.Network.Lines, dV t.Trips]], 48⟩) ?_)
   rintro x r0 hb1 hm
   rw [zq72_L1] at hm
   refine Ok_seq (rs G (hN 3 t.Trips h0) ?_)
   refine cd hm (fun hm => ?_) (fun hm => ?_)
   ·refine X_skip (thN (Ok_seq (Ok_block ?_)))
    obtain ⟨e, h1, hm⟩ := obind hm
    refine rs G (hD 3 h1 h0) ?_
    obtain ⟨r6, h8, hm⟩ := obind hm
    refine jn hm (fun v1 => ⟨[(1, .ref 16 0), (3, dV x), (70, dV v1)], [bX 16 30 [dV t.Network.Stops, dV t.Network.Lines, dV t.Trips]], 48⟩) (fun v1 hm => ?_) ?_
    ·rcases bf hm with ⟨hb2, hm⟩ | ⟨hb2, hm⟩
     ·refine de G [] (hC 2 (zq52_c h8) (hO 4 (.b true) (hP hb2 h0))) ?_
      exact wJ G hm
     ·obtain ⟨r7, h9, hm⟩ := obind hm
      rcases bf hm with ⟨hb3, hm⟩ | ⟨hb3, hm⟩
      ·refine de G [] (hC 2 (zq52_c h8) (hO 4 (.b false) (hP hb2 (hN 10 t.Network.Lines (hC 12 (zq52_c h9) (hO 15 (.b true) (hP hb3 h0))))))) ?_
       exact wJ G hm
      ·obtain ⟨r8, h10, hm⟩ := obind hm
       rcases bf hm with ⟨hb4, hm⟩ | ⟨hb4, hm⟩
       ·refine de G [] (hC 2 (zq52_c h8) (hO 4 (.b false) (hP hb2 (hN 10 t.Network.Lines (hC 12 (zq52_c h9) (hO 15 (.b false) (hP hb3 (hC 18 (zq68_c h10) (hO 21 (.b true) (hP hb4 h0)))))))))) ?_
        exact wJ G hm
       ·obtain ⟨r9, h11, hm⟩ := obind hm
        obtain ⟨r10, h12, hm⟩ := obind hm
        rcases bf hm with ⟨hb5, hm⟩ | ⟨hb5, hm⟩
        ·refine de G [] (hC 2 (zq52_c h8) (hO 4 (.b false) (hP hb2 (hN 10 t.Network.Lines (hC 12 (zq52_c h9) (hO 15 (.b false) (hP hb3 (hC 18 (zq68_c h10) (hO 21 (.b false) (hP hb4 (hC 24 (zq71_c h11) (hC 25 (zq68_c h12) (hO 28 (.b true) (hP hb5 h0)))))))))))))) ?_
         exact wJ G hm
        ·rcases bf hm with ⟨hb6, hm⟩ | ⟨hb6, hm⟩
         ·obtain ⟨e2, h13, hm⟩ := obind hm
          refine de G [] (hC 2 (zq52_c h8) (hO 4 (.b false) (hP hb2 (hN 10 t.Network.Lines (hC 12 (zq52_c h9) (hO 15 (.b false) (hP hb3 (hC 18 (zq68_c h10) (hO 21 (.b false) (hP hb4 (hC 24 (zq71_c h11) (hC 25 (zq68_c h12) (hO 28 (.b false) (hP hb5 (hO 31 (.b true) (hP hb6 (hD 36 h13 h0))))))))))))))))) ?_
          exact wJ G hm
         ·refine de G [] (hC 2 (zq52_c h8) (hO 4 (.b false) (hP hb2 (hN 10 t.Network.Lines (hC 12 (zq52_c h9) (hO 15 (.b false) (hP hb3 (hC 18 (zq68_c h10) (hO 21 (.b false) (hP hb4 (hC 24 (zq71_c h11) (hC 25 (zq68_c h12) (hO 28 (.b false) (hP hb5 (hO 31 (.b false) (hP hb6 h0)))))))))))))))) ?_
          exact wJ G hm
    rintro v1 hm
    refine cd hm (fun hm => ?_) (fun hm => ?_)
    ·refine rg G ?_
     have hm := eL hm hb1 hr
     cases hm
     exact rt [] []
    ·exact X_skip (ibN (thN (rh G (wL G hm))))
   ·exact Ok_exit (thE (thE (ibE (wE G hm hb1))))
  rintro ⟨⟩ hm s hw
  refine thN (Ok_weak hw ?_)
  refine rg G ?_
  cases hm
  exact rt [] []
noncomputable def zq36_M : MS Timetable Bool := ⟨.r, zq36, fun y => dV y, fun _ => [], fun _ _ => []⟩
theorem zq36_c {t y} (hm : zq36 t = some y) : zq36_M.C t y := zq36_M.c t hm
theorem zq36_ok : FnOK Tryz.prog tJ 9 zq36_M.S := by
 refine fm tt zq36_M [fo zq72_ok] Tryz.call9 Tryz.func9 rfl Tryz.results9 Tryz.ntmps9 ?_
 rintro t y cx G hm
 have hm : zq36 t = some y := hm
 unfold zq36 at hm
 refine rg G ?_
 obtain ⟨r, h, hm⟩ := obind hm
 refine rs G (hC 1 (zq72_c h) h0) ?_
 cases hm
 exact rt [] []
noncomputable def zq89_M : MS ((List ByteArray) × (List ByteArray)) Bool := ⟨.x .r .r, fun x => zq89 x.1 x.2, fun y => dV y, fun _ => [], fun _ _ => []⟩
theorem zq89_c {a b y} (hm : zq89 a b = some y) : zq89_M.C (a, b) y := zq89_M.c (a, b) hm
theorem zq89_ok : FnOK Tryz.prog tJ 42 zq89_M.S := by
 refine fm tt zq89_M [] Tryz.call42 Tryz.func42 rfl Tryz.results42 Tryz.ntmps42 ?_
 rintro ⟨a, b⟩ y cx G hm
 have hm : zq89 a b = some y := hm
 unfold zq89 at hm
 refine rg G (Ok_seq (rs G (hN 1 a (hN 3 b h0)) ?_))
 refine cd hm (fun hm => ?_) (fun hm => ?_)
 ·refine rg G ?_
  cases hm
  exact rt [] []
 ·refine X_skip (thN (Ok_seq (rg G (tF hm (fun _ => ⟨[], [], 32⟩) (fun v1 hr hm => ?_) ?_))))
  ·refine Ok_block (lp G hm (fun v => ⟨[(0, dV a), (1, dV b), (5, dV v)], [], 32⟩) ?_)
   rintro v r0 hb hm
   rw [zq89_L1] at hm
   refine Ok_seq (rs G (hN 2 a h0) ?_)
   refine cd hm (fun hm => ?_) (fun hm => ?_)
   ·refine X_skip (thN (Ok_seq (Ok_block ?_)))
    obtain ⟨e2, h2, hm⟩ := obind hm
    obtain ⟨e3, h3, hm⟩ := obind hm
    refine ds G [] (hD 2 h2 (hD 6 h3 h0)) ?_
    refine cd hm (fun hm => ?_) (fun hm => ?_)
    ·refine rg G ?_
     have hm := eL hm hb hr
     cases hm
     exact rt [] []
    ·exact X_skip (ibN (thN (rh G (wL G hm))))
   ·exact Ok_exit (thE (thE (ibE (wE G hm hb))))
  rintro ⟨⟩ hm s hw
  refine thN (Ok_weak hw ?_)
  refine rg G ?_
  cases hm
  exact rt [] []
noncomputable def zq87_M : MS ((List Int) × (List Int)) Bool := ⟨.x .r .r, fun x => zq87 x.1 x.2, fun y => dV y, fun _ => [], fun _ _ => []⟩
theorem zq87_c {a b y} (hm : zq87 a b = some y) : zq87_M.C (a, b) y := zq87_M.c (a, b) hm
theorem zq87_ok : FnOK Tryz.prog tJ 43 zq87_M.S := by
 refine fm tt zq87_M [] Tryz.call43 Tryz.func43 rfl Tryz.results43 Tryz.ntmps43 ?_
 rintro ⟨a, b⟩ y cx G hm
 have hm : zq87 a b = some y := hm
 unfold zq87 at hm
 refine rg G (Ok_seq (rs G (hN 1 a (hN 3 b h0)) ?_))
 refine cd hm (fun hm => ?_) (fun hm => ?_)
 ·refine rg G ?_
  cases hm
  exact rt [] []
 ·refine X_skip (thN (Ok_seq (rg G (tF hm (fun _ => ⟨[], [], 32⟩) (fun v1 hr hm => ?_) ?_))))
  ·refine Ok_block (lp G hm (fun v => ⟨[(0, dV a), (1, dV b), (5, dV v)], [], 32⟩) ?_)
   rintro v r0 hb hm
   rw [zq87_L1] at hm
   refine Ok_seq (rs G (hN 2 a h0) ?_)
   refine cd hm (fun hm => ?_) (fun hm => ?_)
   ·refine X_skip (thN (Ok_seq (Ok_block ?_)))
    obtain ⟨e2, h2, hm⟩ := obind hm
    obtain ⟨e3, h3, hm⟩ := obind hm
    refine ds G [] (hD 2 h2 (hD 6 h3 h0)) ?_
    refine cd hm (fun hm => ?_) (fun hm => ?_)
    ·refine rg G ?_
     have hm := eL hm hb hr
     cases hm
     exact rt [] []
    ·exact X_skip (ibN (thN (rh G (wL G hm))))
   ·exact Ok_exit (thE (thE (ibE (wE G hm hb))))
  rintro ⟨⟩ hm s hw
  refine thN (Ok_weak hw ?_)
  refine rg G ?_
  cases hm
  exact rt [] []
noncomputable def zq88_M : MS (Network × Network) Bool := ⟨.x .r .r, fun x => zq88 x.1 x.2, fun y => dV y, fun _ => [], fun _ _ => []⟩
theorem zq88_c {a b y} (hm : zq88 a b = some y) : zq88_M.C (a, b) y := zq88_M.c (a, b) hm
theorem zq88_ok : FnOK Tryz.prog tJ 16 zq88_M.S := by
 refine fm tt zq88_M [fo zq89_ok, fo zq87_ok] Tryz.call16 Tryz.func16 rfl Tryz.results16 Tryz.ntmps16 ?_
 rintro ⟨a, b⟩ y cx G hm
 have hm : zq88 a b = some y := hm
 unfold zq88 at hm
 refine rg G (Ok_seq ?_)
 obtain ⟨r, h, hm⟩ := obind hm
 refine jn hm (fun v => ⟨[(2, .ref 16 0), (3, .ref 32 0), (20, dV v)], [bX 16 27 [dV a.Stops, dV a.Lines], bX 32 27 [dV b.Stops, dV b.Lines]], 64⟩) (fun v hm => ?_) ?_
 ·rcases bf hm with ⟨hb, hm⟩ | ⟨hb, hm⟩
  ·refine re G (hC 4 (zq89_c h) (hO 6 (.b true) (hP hb h0))) ?_
   exact wJ G hm
  ·refine re G (hC 4 (zq89_c h) (hO 6 (.b false) (hP hb (hN 9 a.Lines (hN 12 b.Lines h0))))) ?_
   exact wJ G hm
 rintro v hm
 refine cd hm (fun hm => ?_) (fun hm => ?_)
 ·refine rg G ?_
  cases hm
  exact rt [] []
 ·refine X_skip (thN (Ok_seq (rg G (tF hm (fun _ => ⟨[], [], 32⟩) (fun v3 hr hm => ?_) ?_))))
  ·refine Ok_block (lp G hm (fun v1 => ⟨[(2, .ref 16 0), (3, .ref 32 0), (5, dV v1)], [bX 16 27 [dV a.Stops, dV a.Lines], bX 32 27 [dV b.Stops, dV b.Lines]], 64⟩) ?_)
   rintro v1 r0 hb1 hm
   rw [zq88_L1] at hm
   refine Ok_seq (rs G (hN 3 a.Lines h0) ?_)
   refine cd hm (fun hm => ?_) (fun hm => ?_)
   ·refine X_skip (thN (Ok_seq (Ok_block ?_)))
    obtain ⟨e6, h9, hm⟩ := obind hm
    obtain ⟨e7, h10, hm⟩ := obind hm
    refine jn hm (fun v2 => ⟨[(2, .ref 16 0), (3, .ref 32 0), (5, dV v1), (72, dV v2)], [bX 16 27 [dV a.Stops, dV a.Lines], bX 32 27 [dV b.Stops, dV b.Lines]], 64⟩) (fun v2 hm => ?_) ?_
    ·rcases bf hm with ⟨hb2, hm⟩ | ⟨hb2, hm⟩
     ·refine de G [] (hD 3 h9 (hD 9 h10 (hO 13 (.b true) (hP hb2 h0)))) ?_
      exact wJ G hm
     ·obtain ⟨e8, h11, hm⟩ := obind hm
      obtain ⟨e9, h12, hm⟩ := obind hm
      obtain ⟨r3, h13, hm⟩ := obind hm
      rcases bf hm with ⟨hb3, hm⟩ | ⟨hb3, hm⟩
      ·refine de G [] (hD 3 h9 (hD 9 h10 (hO 13 (.b false) (hP hb2 (hD 17 h11 (hD 23 h12 (hC 26 (zq87_c h13) (hO 29 (.b true) (hP hb3 h0))))))))) ?_
       exact wJ G hm
      ·obtain ⟨e10, h14, hm⟩ := obind hm
       obtain ⟨e11, h15, hm⟩ := obind hm
       obtain ⟨r4, h16, hm⟩ := obind hm
       refine de G [] (hD 3 h9 (hD 9 h10 (hO 13 (.b false) (hP hb2 (hD 17 h11 (hD 23 h12 (hC 26 (zq87_c h13) (hO 29 (.b false) (hP hb3 (hD 33 h14 (hD 39 h15 (hC 42 (zq87_c h16) h0)))))))))))) ?_
       exact wJ G hm
    rintro v2 hm
    refine cd hm (fun hm => ?_) (fun hm => ?_)
    ·refine rg G ?_
     have hm := eL hm hb1 hr
     cases hm
     exact rt [] []
    ·exact X_skip (ibN (thN (rh G (wL G hm))))
   ·exact Ok_exit (thE (thE (ibE (wE G hm hb1))))
  rintro ⟨⟩ hm s hw
  refine thN (Ok_weak hw ?_)
  refine rg G ?_
  cases hm
  exact rt [] []
noncomputable def zq90_M : MS (Timetable × Timetable) Bool := ⟨.x .r .r, fun x => zq90 x.1 x.2, fun y => dV y, fun _ => [], fun _ _ => []⟩
theorem zq90_c {a b y} (hm : zq90 a b = some y) : zq90_M.C (a, b) y := zq90_M.c (a, b) hm
theorem zq90_ok : FnOK Tryz.prog tJ 10 zq90_M.S := by
 refine fm tt zq90_M [fo zq88_ok] Tryz.call10 Tryz.func10 rfl Tryz.results10 Tryz.ntmps10 ?_
 rintro ⟨a, b⟩ y cx G hm
 have hm : zq90 a b = some y := hm
 unfold zq90 at hm
 refine rg G (Ok_seq ?_)
 obtain ⟨r, h, hm⟩ := obind hm
 refine jn hm (fun v => ⟨[(2, .ref 16 0), (3, .ref 32 0), (20, dV v)], [bX 16 30 [dV a.Network.Stops, dV a.Network.Lines, dV a.Trips], bX 32 30 [dV b.Network.Stops, dV b.Network.Lines, dV b.Trips]], 64⟩) (fun v hm => ?_) ?_
 ·rcases bf hm with ⟨hb, hm⟩ | ⟨hb, hm⟩
  ·refine re G (hC 4 (zq88_c h) (hO 6 (.b true) (hP hb h0))) ?_
   exact wJ G hm
  ·refine re G (hC 4 (zq88_c h) (hO 6 (.b false) (hP hb (hN 9 a.Trips (hN 12 b.Trips h0))))) ?_
   exact wJ G hm
 rintro v hm
 refine cd hm (fun hm => ?_) (fun hm => ?_)
 ·refine rg G ?_
  cases hm
  exact rt [] []
 ·refine X_skip (thN (Ok_seq (rg G (tF hm (fun _ => ⟨[], [], 32⟩) (fun v2 hr hm => ?_) ?_))))
  ·refine Ok_block (lp G hm (fun v1 => ⟨[(2, .ref 16 0), (3, .ref 32 0), (5, dV v1)], [bX 16 30 [dV a.Network.Stops, dV a.Network.Lines, dV a.Trips], bX 32 30 [dV b.Network.Stops, dV b.Network.Lines, dV b.Trips]], 64⟩) ?_)
   rintro v1 r0 hb1 hm
   rw [zq90_L1] at hm
   refine Ok_seq (rs G (hN 3 a.Trips h0) ?_)
   refine cd hm (fun hm => ?_) (fun hm => ?_)
   ·refine X_skip (thN (Ok_seq (Ok_block ?_)))
    obtain ⟨e2, h3, hm⟩ := obind hm
    obtain ⟨e3, h4, hm⟩ := obind hm
    refine ds G [] (hD 3 h3 (hD 8 h4 h0)) ?_
    refine cd hm (fun hm => ?_) (fun hm => ?_)
    ·refine rg G ?_
     have hm := eL hm hb1 hr
     cases hm
     exact rt [] []
    ·exact X_skip (ibN (thN (rh G (wL G hm))))
   ·exact Ok_exit (thE (thE (ibE (wE G hm hb1))))
  rintro ⟨⟩ hm s hw
  refine thN (Ok_weak hw ?_)
  refine rg G ?_
  cases hm
  exact rt [] []
noncomputable def zq75_M : MS Network ByteArray := ⟨.r, zq75, fun y => dV y, fun _ => [], fun _ _ => []⟩
theorem zq75_c {n y} (hm : zq75 n = some y) : zq75_M.C n y := zq75_M.c n hm
theorem zq75_ok : FnOK Tryz.prog tJ 81 zq75_M.S := by
 refine fm tt zq75_M [fo zq53_ok] Tryz.call81 Tryz.func81 rfl Tryz.results81 Tryz.ntmps81 ?_
 rintro n y cx G hm
 have hm : zq75 n = some y := hm
 unfold zq75 at hm
 refine rg G (rg G (Ok_seq (rg G (tl hm (fun i2 => ⟨[(1, .ref 16 0), (3, dV i2)], [bX 16 27 [dV n.Stops, dV n.Lines]], 48⟩) (fun i2 hm => ?_) ?_))))
 ·refine Ok_block (lp G hm (fun (i, i1) => ⟨[(1, .ref 16 0), (3, dV i), (4, dV i1)], [bX 16 27 [dV n.Stops, dV n.Lines]], 48⟩) ?_)
  rintro ⟨i, i1⟩ r0 hb hm
  rw [zq75_L1] at hm
  refine Ok_seq (rs G (hN 3 n.Stops h0) ?_)
  refine cd hm (fun hm => ?_) (fun hm => ?_)
  ·refine X_skip (thN (Ok_seq (Ok_block ?_)))
   obtain ⟨u, h, hm⟩ := obind hm
   obtain ⟨e, h1, hm⟩ := obind hm
   obtain ⟨u1, h2, hm⟩ := obind hm
   obtain ⟨u2, h3, hm⟩ := obind hm
   refine re G (hP (cat_p (chk_t h)) (hD 5 h1 (hP (cat_p (chk_t h2)) (hP (cat_p (chk_t h3)) h0)))) ?_
   exact ibN (thN (rh G (wL G hm)))
  ·exact Ok_exit (thE (thE (ibE (wD G hm hb))))
 rintro i2 hm s hw
 refine thN (Ok_weak hw ?_)
 refine Ok_seq (rg G (tl hm (fun i7 => ⟨[(3, dV i7)], [], 32⟩) (fun i7 hm => ?_) ?_))
 ·refine Ok_block (lp G hm (fun (i3, x) => ⟨[(1, .ref 16 0), (3, dV i3), (5, dV x)], [bX 16 27 [dV n.Stops, dV n.Lines]], 48⟩) ?_)
  rintro ⟨i3, x⟩ r0 hb1 hm
  rw [zq75_L3] at hm
  refine Ok_seq (rs G (hN 3 n.Lines h0) ?_)
  refine cd hm (fun hm => ?_) (fun hm => ?_)
  ·refine X_skip (thN (Ok_seq (Ok_block ?_)))
   obtain ⟨e1, h4, hm⟩ := obind hm
   refine rs G (hD 3 h4 h0) ?_
   obtain ⟨u3, h5, hm⟩ := obind hm
   obtain ⟨u4, h6, hm⟩ := obind hm
   refine rs G (hP (cat_p (chk_t h5)) (hP (cat_p (chk_t h6)) h0)) ?_
   refine Ok_seq (rg G (tl hm (fun i6 => ⟨[(1, .ref 16 0), (3, dV i6), (5, dV x)], [bX 16 27 [dV n.Stops, dV n.Lines]], 48⟩) (fun i6 hm => ?_) ?_))
   ·refine Ok_block (lp G hm (fun (i4, v) => ⟨[(1, .ref 16 0), (3, dV i4), (5, dV x), (6, .ref 32 0), (7, dV v)], [bX 16 27 [dV n.Stops, dV n.Lines], bX 32 75 [dV e1.Name, dV e1.Stops, dV e1.Runs]], 64⟩) ?_)
    rintro ⟨i4, v⟩ r0 hb2 hm
    rw [zq75_L2] at hm
    refine Ok_seq (rs G (hN 3 e1.Stops h0) ?_)
    refine cd hm (fun hm => ?_) (fun hm => ?_)
    ·refine X_skip (thN (jn hm (fun i5 => ⟨[(1, .ref 16 0), (3, dV i5), (5, dV x), (6, .ref 32 0), (7, dV v)], [bX 16 27 [dV n.Stops, dV n.Lines], bX 32 75 [dV e1.Name, dV e1.Stops, dV e1.Runs]], 64⟩) (fun i5 hm => ?_) ?_))
     ·refine Ok_block ?_
      obtain ⟨u7, h11, hm⟩ := obind hm
      obtain ⟨e4, h12, hm⟩ := obind hm
      obtain ⟨e5, h13, hm⟩ := obind hm
      obtain ⟨u8, h14, hm⟩ := obind hm
      refine ds G [] (hP (cat_p (chk_t h11)) (hD 7 h12 (hD 9 h13 (hP (cat_p (chk_t h14)) h0)))) ?_
      refine rs G (hN 3 e1.Runs h0) ?_
      refine cd hm (fun hm => ?_) (fun hm => ?_)
      ·obtain ⟨u9, h15, hm⟩ := obind hm
       obtain ⟨e6, h16, hm⟩ := obind hm
       obtain ⟨r, h17, hm⟩ := obind hm
       obtain ⟨u10, h18, hm⟩ := obind hm
       refine re G (hP (cat_p (chk_t h15)) (hD 5 h16 (hC 7 (zq53_c h17) (hP (cat_p (chk_t h18)) h0)))) ?_
       exact ibN (wJ G hm)
      ·exact X_skip (ibN (wJ G hm))
     rintro i5 hm
     exact rh G (wL G hm)
    ·exact Ok_exit (thE (thE (ibE (wD G hm hb2))))
   rintro i6 hm s1 hw1
   refine thN (Ok_weak hw1 ?_)
   obtain ⟨u11, h19, hm⟩ := obind hm
   refine re G (hP (cat_p (chk_t h19)) h0) ?_
   exact ibN (thN (rh G (wL G hm)))
  ·exact Ok_exit (thE (thE (ibE (wD G hm hb1))))
 rintro i7 hm s2 hw2
 refine thN (Ok_weak hw2 ?_)
 refine rg G ?_
 cases hm
 exact rt [] []
noncomputable def zq69_M : MS Int ByteArray := ⟨.r, zq69, fun y => dV y, fun _ => [], fun _ _ => []⟩
theorem zq69_c {n y} (hm : zq69 n = some y) : zq69_M.C n y := zq69_M.c n hm
theorem zq69_ok : FnOK Tryz.prog tJ 122 zq69_M.S := by
 refine fm tt zq69_M [] Tryz.call122 Tryz.func122 rfl Tryz.results122 Tryz.ntmps122 ?_
 rintro n y cx G hm
 have hm : zq69 n = some y := hm
 unfold zq69 at hm
 refine rg G ?_
 obtain ⟨u7, h7, hm⟩ := obind hm
 obtain ⟨u8, h8, hm⟩ := obind hm
 obtain ⟨u9, h9, hm⟩ := obind hm
 obtain ⟨u10, h10, hm⟩ := obind hm
 obtain ⟨u11, h11, hm⟩ := obind hm
 obtain ⟨u12, h12, hm⟩ := obind hm
 obtain ⟨u13, h13, hm⟩ := obind hm
 refine ds G [] (hK h7 (hK h8 (hK h9 (hK h10 (hK h11 (hK h12 (hP (cat_p (chk_t h13)) h0))))))) ?_
 cases hm
 exact rt [] []
noncomputable def zq67_M : MS Int ByteArray := ⟨.r, zq67, fun y => dV y, fun _ => [], fun _ _ => []⟩
theorem zq67_c {t y} (hm : zq67 t = some y) : zq67_M.C t y := zq67_M.c t hm
theorem zq67_ok : FnOK Tryz.prog tJ 84 zq67_M.S := by
 refine fm tt zq67_M [fo zq69_ok] Tryz.call84 Tryz.func84 rfl Tryz.results84 Tryz.ntmps84 ?_
 rintro t y cx G hm
 have hm : zq67 t = some y := hm
 unfold zq67 at hm
 refine rg G ?_
 obtain ⟨u, h, hm⟩ := obind hm
 obtain ⟨r, h1, hm⟩ := obind hm
 obtain ⟨u1, h2, hm⟩ := obind hm
 obtain ⟨u2, h3, hm⟩ := obind hm
 obtain ⟨r1, h4, hm⟩ := obind hm
 obtain ⟨u3, h5, hm⟩ := obind hm
 refine rs G (hK h (hC 2 (zq69_c h1) (hP (cat_p (chk_t h2)) (hK h3 (hC 6 (zq69_c h4) (hP (cat_p (chk_t h5)) h0)))))) ?_
 cases hm
 exact rt [] []
noncomputable def zq76_M : MS Timetable ByteArray := ⟨.r, zq76, fun y => dV y, fun _ => [], fun _ _ => []⟩
theorem zq76_c {t y} (hm : zq76 t = some y) : zq76_M.C t y := zq76_M.c t hm
theorem zq76_ok : FnOK Tryz.prog tJ 34 zq76_M.S := by
 refine fm tt zq76_M [fo zq75_ok, fo zq53_ok, fo zq73_ok, fo zq67_ok] Tryz.call34 Tryz.func34 rfl Tryz.results34 Tryz.ntmps34 ?_
 rintro t y cx G hm
 have hm : zq76 t = some y := hm
 unfold zq76 at hm
 refine rg G ?_
 obtain ⟨r, h, hm⟩ := obind hm
 refine rs G (hC 2 (zq75_c h) h0) ?_
 refine Ok_seq (rg G (tl hm (fun i1 => ⟨[(3, dV i1)], [], 32⟩) (fun i1 hm => ?_) ?_))
 ·refine Ok_block (lp G hm (fun (i, v) => ⟨[(1, .ref 16 0), (3, dV i), (4, dV v)], [bX 16 30 [dV t.Network.Stops, dV t.Network.Lines, dV t.Trips]], 48⟩) ?_)
  rintro ⟨i, v⟩ r0 hb hm
  rw [zq76_L1] at hm
  refine Ok_seq (rs G (hN 3 t.Trips h0) ?_)
  refine cd hm (fun hm => ?_) (fun hm => ?_)
  ·refine X_skip (thN (Ok_seq (Ok_block ?_)))
   obtain ⟨u7, h13, hm⟩ := obind hm
   obtain ⟨e2, h14, hm⟩ := obind hm
   obtain ⟨r4, h15, hm⟩ := obind hm
   obtain ⟨u8, h16, hm⟩ := obind hm
   obtain ⟨u9, h17, hm⟩ := obind hm
   obtain ⟨r5, h18, hm⟩ := obind hm
   obtain ⟨u10, h19, hm⟩ := obind hm
   obtain ⟨u11, h20, hm⟩ := obind hm
   obtain ⟨e3, h21, hm⟩ := obind hm
   obtain ⟨r6, h22, hm⟩ := obind hm
   obtain ⟨u12, h23, hm⟩ := obind hm
   obtain ⟨u13, h24, hm⟩ := obind hm
   refine de G [] (hP (cat_p (chk_t h13)) (hD 5 h14 (hC 8 (zq53_c h15) (hP (cat_p (chk_t h16)) (hP (cat_p (chk_t h17)) (hC 13 (zq73_c h18) (hP (cat_p (chk_t h19)) (hP (cat_p (chk_t h20)) (hD 20 h21 (hC 23 (zq67_c h22) (hP (cat_p (chk_t h23)) (hP (cat_p (chk_t h24)) h0)))))))))))) ?_
   exact ibN (thN (rh G (wL G hm)))
  ·exact Ok_exit (thE (thE (ibE (wD G hm hb))))
 rintro i1 hm s hw
 refine thN (Ok_weak hw ?_)
 refine rg G ?_
 cases hm
 exact rt [] []
noncomputable def zq50_M : MS (l1Cur × ByteArray × ByteArray) (ByteArray × l1Cur) := ⟨.x (.b 68) (.x .r .r), fun x => zq50 x.1 x.2.1 x.2.2, fun y => dV y.1, fun _ => [], fun _ y => [bxO 68 y.2]⟩
theorem zq50_c {c t with_ y} (hm : zq50 c t with_ = some y) : zq50_M.C (c, t, with_) y := zq50_M.c (c, t, with_) hm
theorem zq50_ok : FnOK Tryz.prog tJ 37 zq50_M.S := by
 refine fm tt zq50_M [fo zq49_ok] Tryz.call37 Tryz.func37 rfl Tryz.results37 Tryz.ntmps37 ?_
 rintro ⟨c, t, with_⟩ y cx G hm
 have hm : zq50 c t with_ = some y := hm
 unfold zq50 at hm
 refine rg G (Ok_seq (rg G (cd hm (fun hm => ?_) (fun hm => ?_))))
 ·obtain ⟨u, h, hm⟩ := obind hm
  refine rs G (hK h h0) ?_
  cases hm
  exact rt [] []
 ·refine X_skip (thN ?_)
  obtain ⟨r, h1, hm⟩ := obind hm
  refine rs G (hC 3 (zq49_c h1) h0) ?_
  obtain ⟨r1, h2, hm⟩ := obind hm
  obtain ⟨u1, h3, hm⟩ := obind hm
  obtain ⟨u2, h4, hm⟩ := obind hm
  refine rs G (hC 4 (zq49_c h2) (hK h3 (hK h4 h0))) ?_
  refine Ok_seq ?_
  obtain ⟨r2, h5, hm⟩ := obind hm
  refine rs G (hC 1 (zq49_c h5) h0) ?_
  refine Ok_block (rg G (cd hm (fun hm => ?_) (fun hm => ?_)))
  ·obtain ⟨u7, h10, hm⟩ := obind hm
   obtain ⟨u8, h11, hm⟩ := obind hm
   obtain ⟨u9, h12, hm⟩ := obind hm
   obtain ⟨u10, h13, hm⟩ := obind hm
   refine ds G [] (hK h10 (hP (cat_p (chk_t h11)) (hK h12 (hP (cat_p (chk_t h13)) h0)))) ?_
   cases hm
   exact rt [] []
  ·refine rg G (cd hm (fun hm => ?_) (fun hm => ?_))
   ·obtain ⟨u15, h18, hm⟩ := obind hm
    obtain ⟨u16, h19, hm⟩ := obind hm
    obtain ⟨u17, h20, hm⟩ := obind hm
    obtain ⟨u18, h21, hm⟩ := obind hm
    refine ds G [] (hK h18 (hP (cat_p (chk_t h19)) (hK h20 (hP (cat_p (chk_t h21)) h0)))) ?_
    cases hm
    exact rt [] []
   ·refine X_skip (ibN (thN ?_))
    obtain ⟨u22, h25, hm⟩ := obind hm
    obtain ⟨u23, h26, hm⟩ := obind hm
    obtain ⟨u24, h27, hm⟩ := obind hm
    refine ds G [] (hK h25 (hK h26 (hP (cat_p (chk_t h27)) h0))) ?_
    cases hm
    exact rt [] []
noncomputable def zq34_M : MS ((List UInt8)) ByteArray := ⟨.r, zq34, fun y => dV y, fun _ => [], fun _ _ => []⟩
theorem zq34_c {code y} (hm : zq34 code = some y) : zq34_M.C code y := zq34_M.c code hm
theorem zq34_ok : FnOK Tryz.prog tJ 11 zq34_M.S := by
 refine fm tt zq34_M [fo zq51_ok, fo zq76_ok, fo zq48_ok, fo zq50_ok] Tryz.call11 Tryz.func11 rfl Tryz.results11 Tryz.ntmps11 ?_
 rintro code y cx G hm
 have hm : zq34 code = some y := hm
 unfold zq34 at hm
 refine rg G (rg G ?_)
 obtain ⟨r, h, hm⟩ := obind hm
 obtain ⟨r1, h1, hm⟩ := obind hm
 refine rs G (hC 1 (zq51_c h) (hC 2 (zq76_c h1) h0)) ?_
 refine jn hm (fun v => ⟨[(4, dV v)], [], 32⟩) (fun v hm => ?_) ?_
 ·obtain ⟨r2, h2, hm⟩ := obind hm
  refine rs G (hC 1 (zq48_c h2) h0) ?_
  refine cd hm (fun hm => ?_) (fun hm => ?_)
  ·obtain ⟨r3, h3, hm⟩ := obind hm
   refine re G (hC 2 (zq50_c h3) h0) ?_
   exact wJ G hm
  ·exact X_skip (wJ G hm)
 rintro v hm
 refine rg G ?_
 cases hm
 exact rt [] []
noncomputable def zq32_M : MS ((List UInt8)) Network := ⟨.r, zq32, fun y => .aggv [.own 0, dV y.Lines], fun y => [arO 9 y.Stops], fun _ _ => []⟩
theorem zq32_c {code y} (hm : zq32 code = some y) : zq32_M.C code y := zq32_M.c code hm
theorem zq32_ok : FnOK Tryz.prog tJ 38 zq32_M.S := by
 refine fm tt zq32_M [fo zq39_ok] Tryz.call38 Tryz.func38 rfl Tryz.results38 Tryz.ntmps38 ?_
 rintro code y cx G hm
 have hm : zq32 code = some y := hm
 unfold zq32 at hm
 refine rg G (rg G ?_)
 obtain ⟨r, h, hm⟩ := obind hm
 refine rs G (hC 1 (zq39_c h) h0) ?_
 cases hm
 exact rt [112] []
noncomputable def zq30_M : MS ((List UInt8)) Network := ⟨.r, zq30, fun y => .aggv [.own 0, dV y.Lines], fun y => [arO 9 y.Stops], fun _ _ => []⟩
theorem zq30_c {code y} (hm : zq30 code = some y) : zq30_M.C code y := zq30_M.c code hm
theorem zq30_ok : FnOK Tryz.prog tJ 12 zq30_M.S := by
 refine fm tt zq30_M [fo zq32_ok] Tryz.call12 Tryz.func12 rfl Tryz.results12 Tryz.ntmps12 ?_
 rintro code y cx G hm
 have hm : zq30 code = some y := hm
 unfold zq30 at hm
 refine rg G ?_
 obtain ⟨r, h, hm⟩ := obind hm
 refine rs G (hC 1 (zq32_c h) h0) ?_
 cases hm
 exact rt [48] []
noncomputable def zq0_M : MS Network (ByteArray × Bool) := ⟨.r, zq0, fun y => .tup [dV y.1, dV y.2], fun _ => [], fun _ _ => []⟩
theorem zq0_c {n y} (hm : zq0 n = some y) : zq0_M.C n y := zq0_M.c n hm
theorem zq0_ok : FnOK Tryz.prog tJ 13 zq0_M.S := by
 refine fm tt zq0_M [fo zq2_ok, fo zq15_ok] Tryz.call13 Tryz.func13 rfl Tryz.results13 Tryz.ntmps13 ?_
 rintro n y cx G hm
 have hm : zq0 n = some y := hm
 unfold zq0 at hm
 refine rg G (Ok_seq ?_)
 obtain ⟨r, h, hm⟩ := obind hm
 refine rs G (hC 1 (zq2_c h) h0) ?_
 refine cd hm (fun hm => ?_) (fun hm => ?_)
 ·refine rg G ?_
  cases hm
  exact rt [] []
 ·refine X_skip (thN ?_)
  obtain ⟨r1, h1, hm⟩ := obind hm
  refine rs G (hC 1 (zq15_c h1) h0) ?_
  cases hm
  exact rt [] []
noncomputable def zq6_M : MS ByteArray (Network × Bool) := ⟨.r, zq6, fun y => .tup [dV y.1, dV y.2], fun _ => [], fun _ _ => []⟩
theorem zq6_c {s y} (hm : zq6 s = some y) : zq6_M.C s y := zq6_M.c s hm
theorem zq6_ok : FnOK Tryz.prog tJ 14 zq6_M.S := by
 refine fm tt zq6_M [fo zq25_ok] Tryz.call14 Tryz.func14 rfl Tryz.results14 Tryz.ntmps14 ?_
 rintro s y cx G hm
 have hm : zq6 s = some y := hm
 unfold zq6 at hm
 refine rg G ?_
 obtain ⟨r, h, hm⟩ := obind hm
 refine rs G (hC 1 (zq25_c h) h0) ?_
 refine Ok_seq (jn hm (fun v => ⟨[(2, .ref 16 0), (4, .ref 32 0), (18, dV v)], [bX 16 27 [.dat (.sc (.slice none 0 0)), .dat (.sc (.slice none 0 0))], bX 32 30 [dV r.1.Network.Stops, dV r.1.Network.Lines, dV r.1.Trips]], 64⟩) (fun v hm => ?_) ?_)
 ·rcases bf hm with ⟨hb, hm⟩ | ⟨hb, hm⟩
  ·refine re G (hO 2 (.b true) (hP hb h0)) ?_
   exact wJ G hm
  ·refine re G (hO 2 (.b false) (hP hb (hN 5 r.1.Trips h0))) ?_
   exact wJ G hm
 rintro v hm
 refine cd hm (fun hm => ?_) (fun hm => ?_)
 ·refine rg G ?_
  cases hm
  exact rt [] [[.z 1, .z 3]]
 ·refine X_skip (thN (rg G ?_))
  cases hm
  exact rt [] []
noncomputable def zq35_M : MS Network Bool := ⟨.r, zq35, fun y => dV y, fun _ => [], fun _ _ => []⟩
theorem zq35_c {n y} (hm : zq35 n = some y) : zq35_M.C n y := zq35_M.c n hm
theorem zq35_ok : FnOK Tryz.prog tJ 15 zq35_M.S := by
 refine fm tt zq35_M [fo zq59_ok] Tryz.call15 Tryz.func15 rfl Tryz.results15 Tryz.ntmps15 ?_
 rintro n y cx G hm
 have hm : zq35 n = some y := hm
 unfold zq35 at hm
 refine rg G ?_
 obtain ⟨r, h, hm⟩ := obind hm
 refine rs G (hC 1 (zq59_c h) h0) ?_
 cases hm
 exact rt [] []
noncomputable def v_FnTimetableText_M : MS ((List UInt8)) Bool := ⟨.r, v_FnTimetableText, fun y => dV y, fun _ => [], fun _ _ => []⟩
theorem v_FnTimetableText_ok : FnOK Tryz.prog tJ 3 v_FnTimetableText_M.S := by
 refine fm tt v_FnTimetableText_M [fo zq86_ok, fo zq31_ok, fo zq1_ok, fo zq8_ok, fo zq36_ok, fo zq90_ok, fo zq34_ok, fo zq30_ok, fo zq0_ok, fo zq6_ok, fo zq35_ok, fo zq88_ok] Tryz.call3 Tryz.func3 rfl Tryz.results3 Tryz.ntmps3 ?_
 rintro code y cx G hm
 have hm : v_FnTimetableText code = some y := hm
 unfold v_FnTimetableText at hm
 refine rg G (Ok_seq ?_)
 obtain ⟨r, h, hm⟩ := obind hm
 refine rs G (hC 1 (zq86_c h) h0) ?_
 refine cd hm (fun hm => ?_) (fun hm => ?_)
 ·refine rg G ?_
  cases hm
  exact rt [] []
 ·refine X_skip (thN ?_)
  obtain ⟨r1, h1, hm⟩ := obind hm
  refine rs G (hC 1 (zq31_c h1) h0) ?_
  obtain ⟨r2, h2, hm⟩ := obind hm
  refine rs G (hC 1 (zq1_c h2) h0) ?_
  obtain ⟨r3, h3, hm⟩ := obind hm
  refine rs G (hC 1 (zq8_c h3) h0) ?_
  refine Ok_seq ?_
  obtain ⟨r4, h4, hm⟩ := obind hm
  refine jn hm (fun v => ⟨[(0, dV code), (48, dV v)], [], 32⟩) (fun v hm => ?_) ?_
  ·rcases bf hm with ⟨hb, hm⟩ | ⟨hb, hm⟩
   ·refine re G (hC 2 (zq36_c h4) (hO 4 (.b true) (hP hb h0))) ?_
    exact wJ G hm
   ·rcases bf hm with ⟨hb1, hm⟩ | ⟨hb1, hm⟩
    ·rcases bf hm with ⟨hb2, hm⟩ | ⟨hb2, hm⟩
     ·refine re G (hC 2 (zq36_c h4) (hO 4 (.b false) (hP hb (hO 6 (.b true) (hP hb1 (hO 9 (.b true) (hP hb2 h0))))))) ?_
      exact wJ G hm
     ·obtain ⟨r5, h5, hm⟩ := obind hm
      refine re G (hC 2 (zq36_c h4) (hO 4 (.b false) (hP hb (hO 6 (.b true) (hP hb1 (hO 9 (.b false) (hP hb2 (hC 12 (zq90_c h5) h0)))))))) ?_
      exact wJ G hm
    ·refine re G (hC 2 (zq36_c h4) (hO 4 (.b false) (hP hb (hO 6 (.b false) (hP hb1 h0))))) ?_
     exact wJ G hm
  rintro v hm
  refine cd hm (fun hm => ?_) (fun hm => ?_)
  ·refine rg G ?_
   cases hm
   exact rt [] []
  ·refine X_skip (thN ?_)
   obtain ⟨r6, h6, hm⟩ := obind hm
   refine rs G (hC 1 (zq34_c h6) h0) ?_
   obtain ⟨r7, h7, hm⟩ := obind hm
   refine rs G (hC 1 (zq8_c h7) h0) ?_
   obtain ⟨r8, h8, hm⟩ := obind hm
   refine rs G (hC 1 (zq1_c h8) h0) ?_
   refine Ok_seq (jn hm (fun v1 => ⟨[(0, dV code), (70, dV v1)], [], 32⟩) (fun v1 hm => ?_) ?_)
   ·rcases bf hm with ⟨hb3, hm⟩ | ⟨hb3, hm⟩
    ·rcases bf hm with ⟨hb4, hm⟩ | ⟨hb4, hm⟩
     ·refine re G (hO 1 (.b true) (hP hb3 (hO 4 (.b true) (hP hb4 h0)))) ?_
      exact wJ G hm
     ·refine re G (hO 1 (.b true) (hP hb3 (hO 4 (.b false) (hP hb4 h0)))) ?_
      exact wJ G hm
    ·refine re G (hO 1 (.b false) (hP hb3 h0)) ?_
     exact wJ G hm
   rintro v1 hm
   refine cd hm (fun hm => ?_) (fun hm => ?_)
   ·refine rg G ?_
    cases hm
    exact rt [] []
   ·refine X_skip (thN ?_)
    obtain ⟨r9, h9, hm⟩ := obind hm
    refine rs G (hC 1 (zq30_c h9) h0) ?_
    obtain ⟨r10, h10, hm⟩ := obind hm
    refine rs G (hC 1 (zq0_c h10) h0) ?_
    obtain ⟨r11, h11, hm⟩ := obind hm
    refine rs G (hC 1 (zq6_c h11) h0) ?_
    obtain ⟨r12, h12, hm⟩ := obind hm
    refine jn hm (fun t => ⟨[(2, dV t)], [], 32⟩) (fun t hm => ?_) ?_
    ·rcases bf hm with ⟨hb5, hm⟩ | ⟨hb5, hm⟩
     ·rcases bf hm with ⟨hb6, hm⟩ | ⟨hb6, hm⟩
      ·refine re G (hC 2 (zq35_c h12) (hO 4 (.b true) (hP hb5 (hO 7 (.b true) (hP hb6 h0))))) ?_
       exact wJ G hm
      ·rcases bf hm with ⟨hb7, hm⟩ | ⟨hb7, hm⟩
       ·obtain ⟨r13, h13, hm⟩ := obind hm
        refine re G (hC 2 (zq35_c h12) (hO 4 (.b true) (hP hb5 (hO 7 (.b false) (hP hb6 (hO 9 (.b true) (hP hb7 (hC 12 (zq88_c h13) h0)))))))) ?_
        exact wJ G hm
       ·refine re G (hC 2 (zq35_c h12) (hO 4 (.b true) (hP hb5 (hO 7 (.b false) (hP hb6 (hO 9 (.b false) (hP hb7 h0))))))) ?_
        exact wJ G hm
     ·refine re G (hC 2 (zq35_c h12) (hO 4 (.b false) (hP hb5 h0))) ?_
      exact wJ G hm
    rintro t hm
    cases hm
    exact rt [] []
end Go.Proofs.YtimaoofeephgjaaGreatDoor
