/- Each function computes what its model says. Made by program (dec.py). -/
import Derived.Test.YtimaoofeephgjaaGreatDoorTy
import Derived.Test.YtimaoofeephgjaaGreatDoorAbC
import Derived.Test.YtimaoofeephgjaaGreatDoorBoM
import Derived.Test.YtimaoofeephgjaaGreatDoorSh
namespace Go.Proofs.YtimaoofeephgjaaGreatDoor
open Go Go.Ab
set_option maxRecDepth 100000
set_option maxHeartbeats 4000000
set_option linter.unusedVariables false
set_option linter.unusedSimpArgs false
theorem tt : TT Tryz.prog ty := ⟨by kernel_rfl, ty_ok⟩
abbrev tJ : Inv := strJ Tryz.prog (some Lib.pow10Tab)
noncomputable def zq109_M : MS ((List UInt8)) Bool := ⟨.r, zq109, fun y => dV y, fun _ => [], fun _ _ => []⟩
theorem zq109_c {code y} (hm : zq109 code = some y) : zq109_M.C code y := zq109_M.c code hm
theorem zq109_ok : FnOK Tryz.prog tJ 17 zq109_M.S := by
 refine fm tt zq109_M [] Tryz.call17 Tryz.func17 rfl Tryz.results17 Tryz.ntmps17 ?_
 rintro code y cx G hm
 have hm : zq109 code = some y := hm
 unfold zq109 at hm
 refine rg G (rs G (hN 1 code h0) ?_)
 cases hm
 exact rt [] []
noncomputable def zq51_M : MS l1Cur (Int × l1Cur) := ⟨.b 68, zq51, fun y => dV y.1, fun _ => [], fun _ y => [bxO 68 y.2]⟩
theorem zq51_c {c y} (hm : zq51 c = some y) : zq51_M.C c y := zq51_M.c c hm
theorem zq51_ok : FnOK Tryz.prog tJ 96 zq51_M.S := by
 refine fm tt zq51_M [] Tryz.call96 Tryz.func96 rfl Tryz.results96 Tryz.ntmps96 ?_
 rintro c y cx G hm
 have hm : zq51 c = some y := hm
 unfold zq51 at hm
 refine rg G (rg G (jn hm (fun v => ⟨[(0, .ref 0 0), (3, dV v)], [bX 0 68 [dV c.code_, dV c.at_, kV .u64 c.seed_.v]], 48⟩) (fun v hm => ?_) ?_))
 ·refine ds G [] (hN 8 c.code_ h0) ?_
  refine cd hm (fun hm => ?_) (fun hm => ?_)
  ·obtain ⟨e1, h1, hm⟩ := obind hm
   refine de G [] (hD 8 h1 h0) ?_
   exact wJ G hm
  ·exact X_skip (wJ G hm)
 rintro v hm
 refine rg G (rg G (Ok_seq (ds G [] (hN 8 c.code_ h0) ?_)))
 refine cd hm (fun hm => ?_) (fun hm => ?_)
 ·refine rg G ?_
  cases hm
  exact rt [] []
 ·refine X_skip (thN ?_)
  obtain ⟨u, h2, hm⟩ := obind hm
  refine rs G (hK h2 h0) ?_
  cases hm
  exact rt [] []
noncomputable def zq56_M : MS (l1Cur × Int) (Int × l1Cur) := ⟨.x (.b 68) .r, fun x => zq56 x.1 x.2, fun y => dV y.1, fun _ => [], fun _ y => [bxO 68 y.2]⟩
theorem zq56_c {c n y} (hm : zq56 c n = some y) : zq56_M.C (c, n) y := zq56_M.c (c, n) hm
theorem zq56_ok : FnOK Tryz.prog tJ 49 zq56_M.S := by
 refine fm tt zq56_M [fo zq51_ok] Tryz.call49 Tryz.func49 rfl Tryz.results49 Tryz.ntmps49 ?_
 rintro ⟨c, n⟩ y cx G hm
 have hm : zq56 c n = some y := hm
 unfold zq56 at hm
 refine rg G (Ok_seq (rg G (cd hm (fun hm => ?_) (fun hm => ?_))))
 ·refine rg G ?_
  cases hm
  exact rt [] []
 ·refine X_skip (thN ?_)
  obtain ⟨r, h, hm⟩ := obind hm
  refine rs G (hC 1 (zq51_c h) h0) ?_
  refine jn hm (fun (v, v1, v2, v3) => ⟨[(0, .ref 0 0), (1, dV n), (5, dV v)], [bX 0 68 [dV v1, dV v2, kV .u64 v3]], 48⟩) (fun vv hm => ?_) ?_
  ·refine rg G (cd hm (fun hm => ?_) (fun hm => ?_))
   ·obtain ⟨r1, h1, hm⟩ := obind hm
    refine re G (hC 3 (zq51_c h1) h0) ?_
    exact wJ G hm
   ·exact X_skip (wJ G hm)
  rintro ⟨v, v1, v2, v3⟩ hm
  obtain ⟨u, h2, hm⟩ := obind hm
  refine rs G (hK h2 h0) ?_
  cases hm
  exact rt [] []
noncomputable def zq62_MR (rec_ : Int → Option (ByteArray)) : MS Int ByteArray := ⟨.r, rec_, fun y => dV y, fun _ => [], fun _ _ => []⟩
noncomputable def zq62_M : MS Int ByteArray := zq62_MR zq62
theorem zq62_c {n y} (hm : zq62 n = some y) : zq62_M.C n y := zq62_M.c n hm
theorem zq62_cR {rec_ : Int → Option (ByteArray)} {n y} (hm : rec_ n = some y) : (zq62_MR rec_).C n y := (zq62_MR rec_).c n hm
theorem zq62_okF {rec_ : Int → Option (ByteArray)} (hrec : FnOK Tryz.prog tJ 82 (zq62_MR rec_).S) : FnOK Tryz.prog tJ 82 (zq62_MR (zq62_F rec_)).S := by
 refine fm tt (zq62_MR (zq62_F rec_)) [fo hrec] Tryz.call82 Tryz.func82 rfl Tryz.results82 Tryz.ntmps82 ?_
 rintro n y cx G hm
 have hm : zq62_F rec_ n = some y := hm
 unfold zq62_F at hm
 refine rg G (Ok_seq (rg G (cd hm (fun hm => ?_) (fun hm => ?_))))
 ·obtain ⟨r, h, hm⟩ := obind hm
  obtain ⟨u, h1, hm⟩ := obind hm
  refine rs G (hC 2 (zq62_cR h) (hP (cat_p (chk_t h1)) h0)) ?_
  cases hm
  exact rt [] []
 ·refine X_skip (thN (Ok_seq (rg G (cd hm (fun hm => ?_) (fun hm => ?_)))))
  ·obtain ⟨u1, h2, hm⟩ := obind hm
   refine rs G (hK h2 h0) ?_
   cases hm
   exact rt [] []
  ·refine X_skip (thN ?_)
   obtain ⟨u7, h9, hm⟩ := obind hm
   obtain ⟨r2, h10, hm⟩ := obind hm
   obtain ⟨u8, h11, hm⟩ := obind hm
   obtain ⟨u9, h12, hm⟩ := obind hm
   obtain ⟨u10, h13, hm⟩ := obind hm
   obtain ⟨u11, h14, hm⟩ := obind hm
   refine ds G [] (hK h9 (hC 2 (zq62_cR h10) (hK h11 (hK h12 (hK h13 (hP (cat_p (chk_t h14)) h0)))))) ?_
   cases hm
   exact rt [] []
theorem zq62_okn : ∀ k, FnOK Tryz.prog tJ 82 (zq62_MR (zq62_k k)).S
 | 0 => ⟨fun args w => Tryz.call82 args w, fun vs w F ds obs κ hp => by obtain ⟨x, y, _, _, h⟩ := hp; cases h⟩
 | k + 1 => zq62_okF (zq62_okn k)
theorem zq62_ok : FnOK Tryz.prog tJ 82 zq62_M.S := zq62_okn 4294967296
noncomputable def zq81_M : MS (Line × Int) Int := ⟨.x .r .r, fun x => zq81 x.1 x.2, fun y => dV y, fun _ => [], fun _ _ => []⟩
theorem zq81_c {x stop y} (hm : zq81 x stop = some y) : zq81_M.C (x, stop) y := zq81_M.c (x, stop) hm
theorem zq81_ok : FnOK Tryz.prog tJ 109 zq81_M.S := by
 refine fm tt zq81_M [] Tryz.call109 Tryz.func109 rfl Tryz.results109 Tryz.ntmps109 ?_
 rintro ⟨x, stop⟩ y cx G hm
 have hm : zq81 x stop = some y := hm
 unfold zq81 at hm
 refine rg G (Ok_seq (rg G (tF hm (fun _ => ⟨[], [], 32⟩) (fun v1 hr hm => ?_) ?_)))
 ·refine Ok_block (lp G hm (fun v => ⟨[(1, dV stop), (2, .ref 16 0), (5, dV v)], [bX 16 75 [dV x.Name, dV x.Stops, dV x.Runs]], 48⟩) ?_)
  rintro v r0 hb hm
  rw [zq81_L1] at hm
  refine Ok_seq (rs G (hN 3 x.Stops h0) ?_)
  refine cd hm (fun hm => ?_) (fun hm => ?_)
  ·refine X_skip (thN (Ok_seq (Ok_block ?_)))
   obtain ⟨e, h, hm⟩ := obind hm
   refine rs G (hD 3 h h0) ?_
   refine cd hm (fun hm => ?_) (fun hm => ?_)
   ·refine rg G ?_
    have hm := eL hm hb hr
    cases hm
    exact rt [] []
   ·exact X_skip (ibN (thN (rh G (wL G hm))))
  ·exact Ok_exit (thE (thE (ibE (wE G hm hb))))
 rintro ⟨⟩ hm s hw
 refine thN (Ok_weak hw ?_)
 refine rg G ?_
 cases hm
 exact rt [] []
noncomputable def zq47_M : MS (l1Cur × ByteArray × Int) (Line × l1Cur) := ⟨.x (.b 68) (.x .r .r), fun x => zq47 x.1 x.2.1 x.2.2, fun y => .aggv [dV y.1.Name, .own 0, .own 1], fun y => [arO 3 y.1.Stops, arO 3 y.1.Runs], fun _ y => [bxO 68 y.2]⟩
theorem zq47_c {c name stops y} (hm : zq47 c name stops = some y) : zq47_M.C (c, name, stops) y := zq47_M.c (c, name, stops) hm
theorem zq47_ok : FnOK Tryz.prog tJ 123 zq47_M.S := by
 refine fm tt zq47_M [fo zq56_ok, fo zq81_ok] Tryz.call123 Tryz.func123 rfl Tryz.results123 Tryz.ntmps123 ?_
 rintro ⟨c, name, stops⟩ y cx G hm
 have hm : zq47 c name stops = some y := hm
 unfold zq47 at hm
 refine rg G (rg G ?_)
 obtain ⟨r, h, hm⟩ := obind hm
 refine rs G (hC 2 (zq56_c h) h0) ?_
 refine Ok_seq ?_
 obtain ⟨r1, h1, hm⟩ := obind hm
 refine rs G (hC 1 (zq56_c h1) h0) ?_
 refine tl hm (fun (v7, v8, v9, v10) => ⟨[(0, .ref 0 0), (2, dV stops), (6, .ref 32 0), (7, .ref 48 0)], [bX 0 68 [dV v7, dV v8, kV .u64 v9], bX 32 75 [dV ByteArray.empty, .dat (.sc (.slice none 0 0)), .dat (.sc (.slice none 0 0))], bX 48 75 [dV name, .own 64, .dat (.sc (.slice none 0 0))], aX 64 3 v10], 96⟩) (fun vv1 hm => ?_) ?_
 ·refine Ok_block (lpP hm (fun (v, v1, v2, v3, v4, v5) => ⟨[(0, .ref 0 0), (2, dV stops), (6, .ref 32 0), (7, .ref 48 0), (8, dV v), (9, dV v1)], [bX 0 68 [dV v2, dV v3, kV .u64 v4], bX 32 75 [dV ByteArray.empty, .dat (.sc (.slice none 0 0)), .dat (.sc (.slice none 0 0))], bX 48 75 [dV name, .own 64, .dat (.sc (.slice none 0 0))], aX 64 3 v5], 96⟩) (Wk_J G.hL ⟨[(0, []), (2, []), (6, []), (7, []), (8, []), (9, [])], [(0, 0, []), (32, 16, []), (48, 64, [.k, .o 64])], [(64, 3, 1, [])], 96⟩ (by kernel_rfl)) ?_)
  rintro ⟨v, v1, v2, v3, v4, v5⟩ r0 hb hm
  rw [zq47_L1] at hm
  refine Ok_seq (rg G (cd hm (fun hm => ?_) (fun hm => ?_)))
  ·refine X_skip (thN (Ok_seq (Ok_block (jn hm (fun v6 => ⟨[(0, .ref 0 0), (2, dV stops), (6, .ref 32 0), (7, .ref 48 0), (8, dV v), (9, dV v1)], [bX 0 68 [dV v2, dV v3, kV .u64 v4], bX 32 75 [dV ByteArray.empty, .dat (.sc (.slice none 0 0)), .dat (.sc (.slice none 0 0))], bX 48 75 [dV name, .own 64, .dat (.sc (.slice none 0 0))], aX 64 3 v6], 96⟩) (fun v6 hm => ?_) ?_))))
   ·obtain ⟨r2, h2, hm⟩ := obind hm
    refine rs G (hC 2 (zq81_c h2) h0) ?_
    refine cd hm (fun hm => ?_) (fun hm => ?_)
    ·obtain ⟨u, h3, hm⟩ := obind hm
     refine re G (hA 4 8 h3 h0) ?_
     exact wJ G hm
    ·exact X_skip (wJ G hm)
   rintro v6 hm
   obtain ⟨r3, h4, hm⟩ := obind hm
   obtain ⟨u1, h5, hm⟩ := obind hm
   refine re G (hC 3 (zq56_c h4) (hK h5 h0)) ?_
   exact ibN (thN (rh G (wL G hm)))
  ·exact Ok_exit (thE (thE (ibE (wD G hm hb))))
 rintro ⟨v7, v8, v9, v10⟩ hm s hw
 refine thN (Ok_weak hw ?_)
 refine jn hm (fun v11 => ⟨[(0, .ref 0 0), (6, .ref 32 0), (7, .ref 48 0)], [bX 0 68 [dV v7, dV v8, kV .u64 v9], bX 32 75 [dV ByteArray.empty, .dat (.sc (.slice none 0 0)), .dat (.sc (.slice none 0 0))], bX 48 75 [dV name, .own 64, .dat (.sc (.slice none 0 0))], aX 64 3 v11], 96⟩) (fun v11 hm => ?_) ?_
 ·refine rs G (hN 2 v10 h0) ?_
  refine cd hm (fun hm => ?_) (fun hm => ?_)
  ·obtain ⟨e1, h9, hm⟩ := obind hm
   obtain ⟨u4, h10, hm⟩ := obind hm
   obtain ⟨u5, h11, hm⟩ := obind hm
   refine de G [(10, [64, 304]), (12, [48, 320])] (hD 4 h9 (hE 5 h9 (hK h10 (hA 10 8 h11 h0)))) ?_
   exact wJ G hm
  ·exact X_skip (wJ G hm)
 rintro v11 hm
 refine Ok_seq (rg G (tl hm (fun (v17, v18, v19, v20) => ⟨[(0, .ref 0 0), (6, .ref 32 0), (7, .ref 48 0)], [bX 0 68 [dV v17, dV v18, kV .u64 v19], bX 32 75 [dV ByteArray.empty, .dat (.sc (.slice none 0 0)), .dat (.sc (.slice none 0 0))], bX 48 75 [dV name, .own 64, .own 80], aX 64 3 v11, aX 80 3 v20], 112⟩) (fun vv hm => ?_) ?_))
 ·refine Ok_block (lpP hm (fun (v12, v13, v14, v15, v16) => ⟨[(0, .ref 0 0), (6, .ref 32 0), (7, .ref 48 0), (10, dV v12)], [bX 0 68 [dV v13, dV v14, kV .u64 v15], bX 32 75 [dV ByteArray.empty, .dat (.sc (.slice none 0 0)), .dat (.sc (.slice none 0 0))], bX 48 75 [dV name, .own 64, .own 80], aX 64 3 v11, aX 80 3 v16], 112⟩) (Wk_J G.hL ⟨[(0, []), (6, []), (7, []), (10, [])], [(0, 0, []), (32, 32, []), (48, 48, [.k, .k, .o 80]), (64, 64, [])], [(80, 3, 1, [])], 112⟩ (by kernel_rfl)) ?_)
  rintro ⟨v12, v13, v14, v15, v16⟩ r0 hb1 hm
  rw [zq47_L2] at hm
  refine Ok_seq (rs G (hN 3 v11 h0) ?_)
  refine cd hm (fun hm => ?_) (fun hm => ?_)
  ·refine X_skip (thN (Ok_seq (Ok_block ?_)))
   obtain ⟨r5, h14, hm⟩ := obind hm
   obtain ⟨u7, h15, hm⟩ := obind hm
   refine de G [(3, [0]), (6, [80, 272]), (8, [48, 288])] (hC 3 (zq56_c h14) (hA 6 8 h15 h0)) ?_
   exact ibN (thN (rh G (wL G hm)))
  ·exact Ok_exit (thE (thE (ibE (wD G hm hb1))))
 rintro ⟨v17, v18, v19, v20⟩ hm s1 hw1
 refine thN (Ok_weak hw1 ?_)
 refine rg G ?_
 cases hm
 exact rt [64, 80] []
noncomputable def zq48_M : MS (l1Cur × ByteArray × Int) (Line × l1Cur) := ⟨.x (.b 68) (.x .r .r), fun x => zq48 x.1 x.2.1 x.2.2, fun y => dV y.1, fun _ => [], fun _ y => [bxO 68 y.2]⟩
theorem zq48_c {c name stops y} (hm : zq48 c name stops = some y) : zq48_M.C (c, name, stops) y := zq48_M.c (c, name, stops) hm
theorem zq48_ok : FnOK Tryz.prog tJ 123 zq48_M.S := by
 refine fm tt zq48_M [fo zq56_ok, fo zq81_ok] Tryz.call123 Tryz.func123 rfl Tryz.results123 Tryz.ntmps123 ?_
 rintro ⟨c, name, stops⟩ y cx G hm
 have hm : zq48 c name stops = some y := hm
 unfold zq48 at hm
 refine rg G (rg G ?_)
 obtain ⟨r, h, hm⟩ := obind hm
 refine rs G (hC 2 (zq56_c h) h0) ?_
 refine Ok_seq ?_
 obtain ⟨r1, h1, hm⟩ := obind hm
 refine rs G (hC 1 (zq56_c h1) h0) ?_
 refine tl hm (fun (v7, v8, v9, v10) => ⟨[(0, .ref 0 0), (2, dV stops), (6, .ref 32 0), (7, .ref 48 0)], [bX 0 68 [dV v7, dV v8, kV .u64 v9], bX 32 75 [dV ByteArray.empty, .dat (.sc (.slice none 0 0)), .dat (.sc (.slice none 0 0))], bX 48 75 [dV name, .own 64, .dat (.sc (.slice none 0 0))], aX 64 3 v10], 96⟩) (fun vv1 hm => ?_) ?_
 ·refine Ok_block (lpP hm (fun (v, v1, v2, v3, v4, v5) => ⟨[(0, .ref 0 0), (2, dV stops), (6, .ref 32 0), (7, .ref 48 0), (8, dV v), (9, dV v1)], [bX 0 68 [dV v2, dV v3, kV .u64 v4], bX 32 75 [dV ByteArray.empty, .dat (.sc (.slice none 0 0)), .dat (.sc (.slice none 0 0))], bX 48 75 [dV name, .own 64, .dat (.sc (.slice none 0 0))], aX 64 3 v5], 96⟩) (Wk_J G.hL ⟨[(0, []), (2, []), (6, []), (7, []), (8, []), (9, [])], [(0, 0, []), (32, 16, []), (48, 64, [.k, .o 64])], [(64, 3, 1, [])], 96⟩ (by kernel_rfl)) ?_)
  rintro ⟨v, v1, v2, v3, v4, v5⟩ r0 hb hm
  rw [zq48_L1] at hm
  refine Ok_seq (rg G (cd hm (fun hm => ?_) (fun hm => ?_)))
  ·refine X_skip (thN (Ok_seq (Ok_block (jn hm (fun v6 => ⟨[(0, .ref 0 0), (2, dV stops), (6, .ref 32 0), (7, .ref 48 0), (8, dV v), (9, dV v1)], [bX 0 68 [dV v2, dV v3, kV .u64 v4], bX 32 75 [dV ByteArray.empty, .dat (.sc (.slice none 0 0)), .dat (.sc (.slice none 0 0))], bX 48 75 [dV name, .own 64, .dat (.sc (.slice none 0 0))], aX 64 3 v6], 96⟩) (fun v6 hm => ?_) ?_))))
   ·obtain ⟨r2, h2, hm⟩ := obind hm
    refine rs G (hC 2 (zq81_c h2) h0) ?_
    refine cd hm (fun hm => ?_) (fun hm => ?_)
    ·obtain ⟨u, h3, hm⟩ := obind hm
     refine re G (hA 4 8 h3 h0) ?_
     exact wJ G hm
    ·exact X_skip (wJ G hm)
   rintro v6 hm
   obtain ⟨r3, h4, hm⟩ := obind hm
   obtain ⟨u1, h5, hm⟩ := obind hm
   refine re G (hC 3 (zq56_c h4) (hK h5 h0)) ?_
   exact ibN (thN (rh G (wL G hm)))
  ·exact Ok_exit (thE (thE (ibE (wD G hm hb))))
 rintro ⟨v7, v8, v9, v10⟩ hm s hw
 refine thN (Ok_weak hw ?_)
 refine jn hm (fun v11 => ⟨[(0, .ref 0 0), (6, .ref 32 0), (7, .ref 48 0)], [bX 0 68 [dV v7, dV v8, kV .u64 v9], bX 32 75 [dV ByteArray.empty, .dat (.sc (.slice none 0 0)), .dat (.sc (.slice none 0 0))], bX 48 75 [dV name, .own 64, .dat (.sc (.slice none 0 0))], aX 64 3 v11], 96⟩) (fun v11 hm => ?_) ?_
 ·refine rs G (hN 2 v10 h0) ?_
  refine cd hm (fun hm => ?_) (fun hm => ?_)
  ·obtain ⟨e1, h9, hm⟩ := obind hm
   obtain ⟨u4, h10, hm⟩ := obind hm
   obtain ⟨u5, h11, hm⟩ := obind hm
   refine de G [(10, [64, 304]), (12, [48, 320])] (hD 4 h9 (hE 5 h9 (hK h10 (hA 10 8 h11 h0)))) ?_
   exact wJ G hm
  ·exact X_skip (wJ G hm)
 rintro v11 hm
 refine Ok_seq (rg G (tl hm (fun (v17, v18, v19, v20) => ⟨[(0, .ref 0 0), (6, .ref 32 0), (7, .ref 48 0)], [bX 0 68 [dV v17, dV v18, kV .u64 v19], bX 32 75 [dV ByteArray.empty, .dat (.sc (.slice none 0 0)), .dat (.sc (.slice none 0 0))], bX 48 75 [dV name, .own 64, .own 80], aX 64 3 v11, aX 80 3 v20], 112⟩) (fun vv hm => ?_) ?_))
 ·refine Ok_block (lpP hm (fun (v12, v13, v14, v15, v16) => ⟨[(0, .ref 0 0), (6, .ref 32 0), (7, .ref 48 0), (10, dV v12)], [bX 0 68 [dV v13, dV v14, kV .u64 v15], bX 32 75 [dV ByteArray.empty, .dat (.sc (.slice none 0 0)), .dat (.sc (.slice none 0 0))], bX 48 75 [dV name, .own 64, .own 80], aX 64 3 v11, aX 80 3 v16], 112⟩) (Wk_J G.hL ⟨[(0, []), (6, []), (7, []), (10, [])], [(0, 0, []), (32, 32, []), (48, 48, [.k, .k, .o 80]), (64, 64, [])], [(80, 3, 1, [])], 112⟩ (by kernel_rfl)) ?_)
  rintro ⟨v12, v13, v14, v15, v16⟩ r0 hb1 hm
  rw [zq48_L2] at hm
  refine Ok_seq (rs G (hN 3 v11 h0) ?_)
  refine cd hm (fun hm => ?_) (fun hm => ?_)
  ·refine X_skip (thN (Ok_seq (Ok_block ?_)))
   obtain ⟨r5, h14, hm⟩ := obind hm
   obtain ⟨u7, h15, hm⟩ := obind hm
   refine de G [(3, [0]), (6, [80, 272]), (8, [48, 288])] (hC 3 (zq56_c h14) (hA 6 8 h15 h0)) ?_
   exact ibN (thN (rh G (wL G hm)))
  ·exact Ok_exit (thE (thE (ibE (wD G hm hb1))))
 rintro ⟨v17, v18, v19, v20⟩ hm s1 hw1
 refine thN (Ok_weak hw1 ?_)
 refine rg G ?_
 cases hm
 exact rt [] []
noncomputable def zq55_M : MS (l1Cur × Int) (Bool × l1Cur) := ⟨.x (.b 68) .r, fun x => zq55 x.1 x.2, fun y => dV y.1, fun _ => [], fun _ y => [bxO 68 y.2]⟩
theorem zq55_c {c n y} (hm : zq55 c n = some y) : zq55_M.C (c, n) y := zq55_M.c (c, n) hm
theorem zq55_ok : FnOK Tryz.prog tJ 36 zq55_M.S := by
 refine fm tt zq55_M [fo zq56_ok] Tryz.call36 Tryz.func36 rfl Tryz.results36 Tryz.ntmps36 ?_
 rintro ⟨c, n⟩ y cx G hm
 have hm : zq55 c n = some y := hm
 unfold zq55 at hm
 refine rg G ?_
 obtain ⟨r, h, hm⟩ := obind hm
 refine rs G (hC 2 (zq56_c h) h0) ?_
 cases hm
 exact rt [] []
noncomputable def zq73_M : MS ((List Int)) ((List Int)) := ⟨.r, zq73, fun y => dV y, fun _ => [], fun _ _ => []⟩
theorem zq73_c {list y} (hm : zq73 list = some y) : zq73_M.C list y := zq73_M.c list hm
theorem zq73_ok : FnOK Tryz.prog tJ 124 zq73_M.S := by
 refine fm tt zq73_M [] Tryz.call124 Tryz.func124 rfl Tryz.results124 Tryz.ntmps124 ?_
 rintro list y cx G hm
 have hm : zq73 list = some y := hm
 unfold zq73 at hm
 refine rg G (rg G (Ok_seq (rs G (hN 1 list h0) ?_)))
 refine tl hm (fun i1 => ⟨[(3, .own 16)], [aX 16 3 i1], 48⟩) (fun i1 hm => ?_) ?_
 ·refine Ok_block (lp G hm (fun (v, i) => ⟨[(0, dV list), (3, .own 16), (4, dV v)], [aX 16 3 i], 48⟩) ?_)
  rintro ⟨v, i⟩ r0 hb hm
  rw [zq73_L1] at hm
  refine Ok_seq (rg G (cd hm (fun hm => ?_) (fun hm => ?_)))
  ·refine X_skip (thN (Ok_seq (Ok_block ?_)))
   obtain ⟨e, h, hm⟩ := obind hm
   obtain ⟨u, h1, hm⟩ := obind hm
   refine re G (hD 3 h (hA 6 8 h1 h0)) ?_
   exact ibN (thN (rh G (wL G hm)))
  ·exact Ok_exit (thE (thE (ibE (wD G hm hb))))
 rintro i1 hm s hw
 refine thN (Ok_weak hw ?_)
 refine rg G ?_
 cases hm
 exact rt [] []
noncomputable def zq63_M : MS ((List Int)) ((List Int)) := ⟨.r, zq63, fun _ => .own 0, fun y => [arO 3 y], fun _ _ => []⟩
theorem zq63_c {l y} (hm : zq63 l = some y) : zq63_M.C l y := zq63_M.c l hm
theorem zq63_ok : FnOK Tryz.prog tJ 142 zq63_M.S := by
 refine fm tt zq63_M [] Tryz.call142 Tryz.func142 rfl Tryz.results142 Tryz.ntmps142 ?_
 rintro l y cx G hm
 have hm : zq63 l = some y := hm
 unfold zq63 at hm
 refine rg G ?_
 obtain ⟨u, h, hm⟩ := obind hm
 refine rs G (hA 2 8 h h0) ?_
 cases hm
 exact rt [64] []
noncomputable def zq64_M : MS ((List Int)) ((List Int)) := ⟨.r, zq64, fun y => dV y, fun _ => [], fun _ _ => []⟩
theorem zq64_c {l y} (hm : zq64 l = some y) : zq64_M.C l y := zq64_M.c l hm
theorem zq64_ok : FnOK Tryz.prog tJ 142 zq64_M.S := by
 refine fm tt zq64_M [] Tryz.call142 Tryz.func142 rfl Tryz.results142 Tryz.ntmps142 ?_
 rintro l y cx G hm
 have hm : zq64 l = some y := hm
 unfold zq64 at hm
 refine rg G ?_
 obtain ⟨u, h, hm⟩ := obind hm
 refine rs G (hA 2 8 h h0) ?_
 cases hm
 exact rt [] []
noncomputable def zq79_M : MS Network Network := ⟨.r, zq79, fun _ => .aggv [.own 0, .own 1], fun y => [arO 9 y.Stops, arO 75 y.Lines], fun _ _ => []⟩
theorem zq79_c {n y} (hm : zq79 n = some y) : zq79_M.C n y := zq79_M.c n hm
theorem zq79_ok : FnOK Tryz.prog tJ 125 zq79_M.S := by
 refine fm tt zq79_M [fo zq64_ok] Tryz.call125 Tryz.func125 rfl Tryz.results125 Tryz.ntmps125 ?_
 rintro n y cx G hm
 have hm : zq79 n = some y := hm
 unfold zq79 at hm
 refine rg G ?_
 obtain ⟨u, h, hm⟩ := obind hm
 refine rs G (hA 3 16 h h0) ?_
 refine Ok_seq (rg G (tl hm (fun v2 => ⟨[(2, .ref 16 0), (3, .ref 32 0)], [bX 16 27 [.dat (.sc (.slice none 0 0)), .dat (.sc (.slice none 0 0))], bX 32 27 [.own 48, .own 64], aX 48 9 (([] : List ByteArray) ++ n.Stops), aX 64 75 v2], 96⟩) (fun v2 hm => ?_) ?_))
 ·refine Ok_block (lpP hm (fun (v, v1) => ⟨[(1, .ref 16 0), (2, .ref 32 0), (3, .ref 48 0), (4, dV v)], [bX 16 27 [dV n.Stops, dV n.Lines], bX 32 27 [.dat (.sc (.slice none 0 0)), .dat (.sc (.slice none 0 0))], bX 48 27 [.own 64, .own 80], aX 64 9 (([] : List ByteArray) ++ n.Stops), aX 80 75 v1], 112⟩) (Wk_J G.hL ⟨[(1, []), (2, []), (3, []), (4, [])], [(16, 16, []), (32, 32, []), (48, 128, [.k, .o 80]), (64, 96, [])], [(80, 75, 3, [])], 112⟩ (by kernel_rfl)) ?_)
  rintro ⟨v, v1⟩ r0 hb hm
  rw [zq79_L1] at hm
  refine Ok_seq (rs G (hN 3 n.Lines h0) ?_)
  refine cd hm (fun hm => ?_) (fun hm => ?_)
  ·refine X_skip (thN (Ok_seq (Ok_block ?_)))
   obtain ⟨e3, h7, hm⟩ := obind hm
   obtain ⟨e4, h8, hm⟩ := obind hm
   obtain ⟨r2, h9, hm⟩ := obind hm
   obtain ⟨e5, h10, hm⟩ := obind hm
   obtain ⟨r3, h11, hm⟩ := obind hm
   obtain ⟨u2, h12, hm⟩ := obind hm
   refine de G [(23, []), (24, [80, 560]), (26, [48, 576])] (hD 5 h7 (hD 11 h8 (hC 14 (zq64_c h9) (hD 18 h10 (hC 21 (zq64_c h11) (hA 24 64 h12 h0)))))) ?_
   exact ibN (thN (rh G (wL G hm)))
  ·exact Ok_exit (thE (thE (ibE (wD G hm hb))))
 rintro v2 hm s hw
 refine thN (Ok_weak hw ?_)
 refine rg G ?_
 cases hm
 exact rt [48, 64] []
noncomputable def zq49_M : MS l1Cur (Network × l1Cur) := ⟨.b 68, zq49, fun _ => .aggv [.own 0, .own 1], fun y => [arO 9 y.1.Stops, arO 75 y.1.Lines], fun _ y => [bxO 68 y.2]⟩
theorem zq49_c {c y} (hm : zq49 c = some y) : zq49_M.C c y := zq49_M.c c hm
theorem zq49_ok : FnOK Tryz.prog tJ 85 zq49_M.S := by
 refine fm tt zq49_M [fo zq56_ok, fo zq62_ok, fo zq48_ok, fo zq55_ok, fo zq73_ok, fo zq79_ok] Tryz.call85 Tryz.func85 rfl Tryz.results85 Tryz.ntmps85 ?_
 rintro c y cx G hm
 have hm : zq49 c = some y := hm
 unfold zq49 at hm
 refine rg G ?_
 obtain ⟨r, h, hm⟩ := obind hm
 refine rs G (hC 1 (zq56_c h) h0) ?_
 obtain ⟨u, h1, hm⟩ := obind hm
 refine rs G (hO 2 (.fz [96] [] []) (hU 2 h1 h0)) ?_
 refine Ok_seq ?_
 obtain ⟨r1, h2, hm⟩ := obind hm
 refine rs G (hC 1 (zq56_c h2) h0) ?_
 refine tl hm (fun (v4, v5, v6, v7) => ⟨[(0, .ref 0 0), (2, .ref 32 0), (4, .ref 48 0)], [bX 0 68 [dV v4, dV v5, kV .u64 v6], bX 32 27 [.dat (.sc (.slice none 0 0)), .dat (.sc (.slice none 0 0))], bX 48 27 [dV ((([(str [112, 111, 114, 116]), (str [109, 105, 108, 108]), (str [112, 97, 114, 107]), (str [104, 97, 108, 108]), (str [100, 111, 99, 107]), (str [102, 97, 105, 114])] : List ByteArray).take (w64 (2 + r.1)).toNat).drop (0 : Int).toNat), .own 64], aX 64 75 v7], 96⟩) (fun vv1 hm => ?_) ?_
 ·refine Ok_block (lpP hm (fun (x, v, v1, v2, v3) => ⟨[(0, .ref 0 0), (2, .ref 32 0), (3, dV (w64 (2 + r.1))), (4, .ref 48 0), (5, dV x)], [bX 0 68 [dV v, dV v1, kV .u64 v2], bX 32 27 [.dat (.sc (.slice none 0 0)), .dat (.sc (.slice none 0 0))], bX 48 27 [dV ((([(str [112, 111, 114, 116]), (str [109, 105, 108, 108]), (str [112, 97, 114, 107]), (str [104, 97, 108, 108]), (str [100, 111, 99, 107]), (str [102, 97, 105, 114])] : List ByteArray).take (w64 (2 + r.1)).toNat).drop (0 : Int).toNat), .own 64], aX 64 75 v3], 96⟩) (Wk_J G.hL ⟨[(0, []), (2, []), (3, []), (4, []), (5, [])], [(0, 0, []), (32, 16, []), (48, 160, [.k, .o 64])], [(64, 75, 3, [])], 96⟩ (by kernel_rfl)) ?_)
  rintro ⟨x, v, v1, v2, v3⟩ r0 hb hm
  rw [zq49_L1] at hm
  refine Ok_seq (rg G (cd hm (fun hm => ?_) (fun hm => ?_)))
  ·refine X_skip (thN (Ok_seq (Ok_block ?_)))
   obtain ⟨r4, h7, hm⟩ := obind hm
   obtain ⟨u3, h8, hm⟩ := obind hm
   obtain ⟨r5, h9, hm⟩ := obind hm
   obtain ⟨u4, h10, hm⟩ := obind hm
   refine de G [(7, [0]), (8, []), (9, [64, 256]), (11, [48, 272])] (hC 4 (zq62_c h7) (hP (cat_p (chk_t h8)) (hC 7 (zq48_c h9) (hA 9 64 h10 h0)))) ?_
   exact ibN (thN (rh G (wL G hm)))
  ·exact Ok_exit (thE (thE (ibE (wD G hm hb))))
 rintro ⟨v4, v5, v6, v7⟩ hm s hw
 refine thN (Ok_weak hw ?_)
 refine jn hm (fun (v8, v9, v10, v11) => ⟨[(0, .ref 0 0), (2, .ref 32 0), (4, .ref 48 0)], [bX 0 68 [dV v8, dV v9, kV .u64 v10], bX 32 27 [.dat (.sc (.slice none 0 0)), .dat (.sc (.slice none 0 0))], bX 48 27 [dV ((([(str [112, 111, 114, 116]), (str [109, 105, 108, 108]), (str [112, 97, 114, 107]), (str [104, 97, 108, 108]), (str [100, 111, 99, 107]), (str [102, 97, 105, 114])] : List ByteArray).take (w64 (2 + r.1)).toNat).drop (0 : Int).toNat), .own 64], aX 64 75 v11], 96⟩) (fun vv hm => ?_) ?_
 ·obtain ⟨r6, h11, hm⟩ := obind hm
  refine rs G (hC 1 (zq55_c h11) h0) ?_
  refine cd hm (fun hm => ?_) (fun hm => ?_)
  ·obtain ⟨e, h12, hm⟩ := obind hm
   refine rs G (hD 2 h12 (hE 3 h12 h0)) ?_
   obtain ⟨r9, h16, hm⟩ := obind hm
   obtain ⟨r10, h17, hm⟩ := obind hm
   obtain ⟨u6, h18, hm⟩ := obind hm
   refine de G [(9, []), (10, [64, 368]), (12, [48, 384])] (hC 4 (zq73_c h16) (hC 7 (zq73_c h17) (hA 10 64 h18 h0))) ?_
   exact wJ G hm
  ·exact X_skip (wJ G hm)
 rintro ⟨v8, v9, v10, v11⟩ hm
 obtain ⟨r11, h19, hm⟩ := obind hm
 refine rs G (hO 1 (.fz [64] [] []) (hC 1 (zq79_c h19) h0)) ?_
 cases hm
 exact rt [112, 113] []
noncomputable def zq59_M : MS l1Cur (Timetable × l1Cur) := ⟨.b 68, zq59, fun _ => .aggv [.own 0, .own 1, .own 2], fun y => [arO 9 y.1.Network.Stops, arO 75 y.1.Network.Lines, arO 64 y.1.Trips], fun _ y => [bxO 68 y.2]⟩
theorem zq59_c {c y} (hm : zq59 c = some y) : zq59_M.C c y := zq59_M.c c hm
theorem zq59_ok : FnOK Tryz.prog tJ 35 zq59_M.S := by
 refine fm tt zq59_M [fo zq49_ok, fo zq56_ok] Tryz.call35 Tryz.func35 rfl Tryz.results35 Tryz.ntmps35 ?_
 rintro c y cx G hm
 have hm : zq59 c = some y := hm
 unfold zq59 at hm
 refine rg G ?_
 obtain ⟨r, h, hm⟩ := obind hm
 refine rs G (hC 1 (zq49_c h) h0) ?_
 refine rg G (Ok_seq ?_)
 obtain ⟨r1, h1, hm⟩ := obind hm
 refine rs G (hC 1 (zq56_c h1) h0) ?_
 refine tl hm (fun (v5, v6, v7, v8) => ⟨[(0, .ref 0 0), (2, .ref 32 0), (3, .ref 48 0)], [bX 0 68 [dV v5, dV v6, kV .u64 v7], bX 32 30 [.dat (.sc (.slice none 0 0)), .dat (.sc (.slice none 0 0)), .dat (.sc (.slice none 0 0))], bX 48 30 [.own 64, .own 80, .own 96], aX 64 9 r.1.Stops, aX 80 75 r.1.Lines, aX 96 64 v8], 128⟩) (fun vv hm => ?_) ?_
 ·refine Ok_block (lpP hm (fun (n, v, v1, v2, v3, v4) => ⟨[(0, .ref 0 0), (2, .ref 32 0), (3, .ref 48 0), (4, dV n), (5, dV v)], [bX 0 68 [dV v1, dV v2, kV .u64 v3], bX 32 30 [.dat (.sc (.slice none 0 0)), .dat (.sc (.slice none 0 0)), .dat (.sc (.slice none 0 0))], bX 48 30 [.own 64, .own 80, .own 96], aX 64 9 r.1.Stops, aX 80 75 r.1.Lines, aX 96 64 v4], 128⟩) (Wk_J G.hL ⟨[(0, []), (2, []), (3, []), (4, []), (5, [])], [(0, 0, []), (32, 16, []), (48, 80, [.k, .k, .o 96]), (64, 48, []), (80, 49, [])], [(96, 64, 3, [])], 128⟩ (by kernel_rfl)) ?_)
  rintro ⟨n, v, v1, v2, v3, v4⟩ r0 hb hm
  rw [zq59_L1] at hm
  refine Ok_seq (rg G (cd hm (fun hm => ?_) (fun hm => ?_)))
  ·refine X_skip (thN (Ok_seq (Ok_block ?_)))
   obtain ⟨r2, h2, hm⟩ := obind hm
   refine rs G (hC 3 (zq56_c h2) h0) ?_
   obtain ⟨r5, h6, hm⟩ := obind hm
   obtain ⟨r6, h7, hm⟩ := obind hm
   obtain ⟨u1, h8, hm⟩ := obind hm
   refine de G [(8, [0]), (10, [0]), (15, [96, 480]), (17, [48, 496])] (hN 7 r.1.Lines (hC 8 (zq56_c h6) (hC 10 (zq56_c h7) (hA 15 24 h8 h0)))) ?_
   exact ibN (thN (rh G (wL G hm)))
  ·exact Ok_exit (thE (thE (ibE (wD G hm hb))))
 rintro ⟨v5, v6, v7, v8⟩ hm s hw
 refine thN (Ok_weak hw ?_)
 refine rg G ?_
 cases hm
 exact rt [64, 80, 96] []
noncomputable def zq42_M : MS (l1Cur × (List Int)) (Int × l1Cur) := ⟨.x (.b 68) .r, fun x => zq42 x.1 x.2, fun y => dV y.1, fun _ => [], fun _ y => [bxO 68 y.2]⟩
theorem zq42_c {c list y} (hm : zq42 c list = some y) : zq42_M.C (c, list) y := zq42_M.c (c, list) hm
theorem zq42_ok : FnOK Tryz.prog tJ 48 zq42_M.S := by
 refine fm tt zq42_M [fo zq56_ok] Tryz.call48 Tryz.func48 rfl Tryz.results48 Tryz.ntmps48 ?_
 rintro ⟨c, list⟩ y cx G hm
 have hm : zq42 c list = some y := hm
 unfold zq42 at hm
 refine rg G ?_
 obtain ⟨r, h, hm⟩ := obind hm
 obtain ⟨e, h1, hm⟩ := obind hm
 refine rs G (hN 3 list (hC 4 (zq56_c h) (hD 5 h1 h0))) ?_
 cases hm
 exact rt [] []
noncomputable def zq53_M : MS (l1Cur × (List ByteArray)) (ByteArray × l1Cur) := ⟨.x (.b 68) .r, fun x => zq53 x.1 x.2, fun y => dV y.1, fun _ => [], fun _ y => [bxO 68 y.2]⟩
theorem zq53_c {c list y} (hm : zq53 c list = some y) : zq53_M.C (c, list) y := zq53_M.c (c, list) hm
theorem zq53_ok : FnOK Tryz.prog tJ 66 zq53_M.S := by
 refine fm tt zq53_M [fo zq56_ok] Tryz.call66 Tryz.func66 rfl Tryz.results66 Tryz.ntmps66 ?_
 rintro ⟨c, list⟩ y cx G hm
 have hm : zq53 c list = some y := hm
 unfold zq53 at hm
 refine rg G ?_
 obtain ⟨r, h, hm⟩ := obind hm
 obtain ⟨e, h1, hm⟩ := obind hm
 refine rs G (hN 3 list (hC 4 (zq56_c h) (hD 5 h1 h0))) ?_
 cases hm
 exact rt [] []
noncomputable def zq54_M : MS (l1Cur × (List ByteArray)) (ByteArray × l1Cur) := ⟨.x (.b 68) (.s 9), fun x => zq54 x.1 x.2, fun y => dV y.1, fun _ => [], fun x y => [bxO 68 y.2, arO 9 x.2]⟩
theorem zq54_c {c list y} (hm : zq54 c list = some y) : zq54_M.C (c, list) y := zq54_M.c (c, list) hm
theorem zq54_ok : FnOK Tryz.prog tJ 66 zq54_M.S := by
 refine fm tt zq54_M [fo zq56_ok] Tryz.call66 Tryz.func66 rfl Tryz.results66 Tryz.ntmps66 ?_
 rintro ⟨c, list⟩ y cx G hm
 have hm : zq54 c list = some y := hm
 unfold zq54 at hm
 refine rg G ?_
 obtain ⟨r, h, hm⟩ := obind hm
 obtain ⟨e, h1, hm⟩ := obind hm
 refine rs G (hN 3 list (hC 4 (zq56_c h) (hD 5 h1 (hE 6 h1 h0)))) ?_
 cases hm
 exact rt [] []
noncomputable def zq80_M : MS Network Network := ⟨.r, zq80, fun _ => .aggv [.own 0, .own 1], fun y => [arO 9 y.Stops, taO 75 [none, some 3, some 3] y.Lines], fun _ _ => []⟩
theorem zq80_c {n y} (hm : zq80 n = some y) : zq80_M.C n y := zq80_M.c n hm
theorem zq80_ok : FnOK Tryz.prog tJ 125 zq80_M.S := by
 refine fm tt zq80_M [fo zq63_ok] Tryz.call125 Tryz.func125 rfl Tryz.results125 Tryz.ntmps125 ?_
 rintro n y cx G hm
 have hm : zq80 n = some y := hm
 unfold zq80 at hm
 refine rg G ?_
 obtain ⟨u, h, hm⟩ := obind hm
 refine rs G (hA 3 16 h h0) ?_
 refine Ok_seq (rg G (tl hm (fun v2 => ⟨[(2, .ref 16 0), (3, .ref 32 0)], [bX 16 27 [.dat (.sc (.slice none 0 0)), .dat (.sc (.slice none 0 0))], bX 32 27 [.own 48, .own 64], aX 48 9 (([] : List ByteArray) ++ n.Stops), tX 64 75 [none, some 3, some 3] v2 64 none], 96⟩) (fun v2 hm => ?_) ?_))
 ·refine Ok_block (lpP hm (fun (v, v1) => ⟨[(1, .ref 16 0), (2, .ref 32 0), (3, .ref 48 0), (4, dV v)], [bX 16 27 [dV n.Stops, dV n.Lines], bX 32 27 [.dat (.sc (.slice none 0 0)), .dat (.sc (.slice none 0 0))], bX 48 27 [.own 64, .own 80], aX 64 9 (([] : List ByteArray) ++ n.Stops), tX 80 75 [none, some 3, some 3] v1 80 none], 112⟩) (Wk_J G.hL ⟨[(1, []), (2, []), (3, []), (4, [])], [(16, 16, []), (32, 32, []), (48, 128, [.k, .o 80]), (64, 96, [])], [(80, 75, 3, [none, some 3, some 3])], 112⟩ (by kernel_rfl)) ?_)
  rintro ⟨v, v1⟩ r0 hb hm
  rw [zq80_L1] at hm
  refine Ok_seq (rs G (hN 3 n.Lines h0) ?_)
  refine cd hm (fun hm => ?_) (fun hm => ?_)
  ·refine X_skip (thN (Ok_seq (Ok_block ?_)))
   obtain ⟨e3, h7, hm⟩ := obind hm
   obtain ⟨e4, h8, hm⟩ := obind hm
   obtain ⟨r2, h9, hm⟩ := obind hm
   obtain ⟨e5, h10, hm⟩ := obind hm
   obtain ⟨r3, h11, hm⟩ := obind hm
   obtain ⟨u2, h12, hm⟩ := obind hm
   refine de G [(23, [416, 528]), (24, [80, 560]), (26, [48, 576])] (hD 5 h7 (hD 11 h8 (hC 14 (zq63_c h9) (hD 18 h10 (hC 21 (zq63_c h11) (hP (nodupB_ok (l := [416, 528]) rfl) (hA 24 64 h12 h0))))))) ?_
   exact ibN (thN (rh G (wL G hm)))
  ·exact Ok_exit (thE (thE (ibE (wD G hm hb))))
 rintro v2 hm s hw
 refine thN (Ok_weak hw ?_)
 refine rg G ?_
 cases hm
 exact rt [48, 64] []
noncomputable def zq50_M : MS l1Cur (Network × l1Cur) := ⟨.b 68, zq50, fun _ => .aggv [.own 0, .own 1], fun y => [arO 9 y.1.Stops, taO 75 [none, some 3, some 3] y.1.Lines], fun _ y => [bxO 68 y.2]⟩
theorem zq50_c {c y} (hm : zq50 c = some y) : zq50_M.C c y := zq50_M.c c hm
theorem zq50_ok : FnOK Tryz.prog tJ 85 zq50_M.S := by
 refine fm tt zq50_M [fo zq56_ok, fo zq62_ok, fo zq48_ok, fo zq55_ok, fo zq73_ok, fo zq80_ok] Tryz.call85 Tryz.func85 rfl Tryz.results85 Tryz.ntmps85 ?_
 rintro c y cx G hm
 have hm : zq50 c = some y := hm
 unfold zq50 at hm
 refine rg G ?_
 obtain ⟨r, h, hm⟩ := obind hm
 refine rs G (hC 1 (zq56_c h) h0) ?_
 obtain ⟨u, h1, hm⟩ := obind hm
 refine rs G (hO 2 (.fz [96] [] []) (hU 2 h1 h0)) ?_
 refine Ok_seq ?_
 obtain ⟨r1, h2, hm⟩ := obind hm
 refine rs G (hC 1 (zq56_c h2) h0) ?_
 refine tl hm (fun (v4, v5, v6, v7) => ⟨[(0, .ref 0 0), (2, .ref 32 0), (4, .ref 48 0)], [bX 0 68 [dV v4, dV v5, kV .u64 v6], bX 32 27 [.dat (.sc (.slice none 0 0)), .dat (.sc (.slice none 0 0))], bX 48 27 [dV ((([(str [112, 111, 114, 116]), (str [109, 105, 108, 108]), (str [112, 97, 114, 107]), (str [104, 97, 108, 108]), (str [100, 111, 99, 107]), (str [102, 97, 105, 114])] : List ByteArray).take (w64 (2 + r.1)).toNat).drop (0 : Int).toNat), .own 64], aX 64 75 v7], 96⟩) (fun vv1 hm => ?_) ?_
 ·refine Ok_block (lpP hm (fun (x, v, v1, v2, v3) => ⟨[(0, .ref 0 0), (2, .ref 32 0), (3, dV (w64 (2 + r.1))), (4, .ref 48 0), (5, dV x)], [bX 0 68 [dV v, dV v1, kV .u64 v2], bX 32 27 [.dat (.sc (.slice none 0 0)), .dat (.sc (.slice none 0 0))], bX 48 27 [dV ((([(str [112, 111, 114, 116]), (str [109, 105, 108, 108]), (str [112, 97, 114, 107]), (str [104, 97, 108, 108]), (str [100, 111, 99, 107]), (str [102, 97, 105, 114])] : List ByteArray).take (w64 (2 + r.1)).toNat).drop (0 : Int).toNat), .own 64], aX 64 75 v3], 96⟩) (Wk_J G.hL ⟨[(0, []), (2, []), (3, []), (4, []), (5, [])], [(0, 0, []), (32, 16, []), (48, 160, [.k, .o 64])], [(64, 75, 3, [])], 96⟩ (by kernel_rfl)) ?_)
  rintro ⟨x, v, v1, v2, v3⟩ r0 hb hm
  rw [zq50_L1] at hm
  refine Ok_seq (rg G (cd hm (fun hm => ?_) (fun hm => ?_)))
  ·refine X_skip (thN (Ok_seq (Ok_block ?_)))
   obtain ⟨r4, h7, hm⟩ := obind hm
   obtain ⟨u3, h8, hm⟩ := obind hm
   obtain ⟨r5, h9, hm⟩ := obind hm
   obtain ⟨u4, h10, hm⟩ := obind hm
   refine de G [(7, [0]), (8, []), (9, [64, 256]), (11, [48, 272])] (hC 4 (zq62_c h7) (hP (cat_p (chk_t h8)) (hC 7 (zq48_c h9) (hA 9 64 h10 h0)))) ?_
   exact ibN (thN (rh G (wL G hm)))
  ·exact Ok_exit (thE (thE (ibE (wD G hm hb))))
 rintro ⟨v4, v5, v6, v7⟩ hm s hw
 refine thN (Ok_weak hw ?_)
 refine jn hm (fun (v8, v9, v10, v11) => ⟨[(0, .ref 0 0), (2, .ref 32 0), (4, .ref 48 0)], [bX 0 68 [dV v8, dV v9, kV .u64 v10], bX 32 27 [.dat (.sc (.slice none 0 0)), .dat (.sc (.slice none 0 0))], bX 48 27 [dV ((([(str [112, 111, 114, 116]), (str [109, 105, 108, 108]), (str [112, 97, 114, 107]), (str [104, 97, 108, 108]), (str [100, 111, 99, 107]), (str [102, 97, 105, 114])] : List ByteArray).take (w64 (2 + r.1)).toNat).drop (0 : Int).toNat), .own 64], aX 64 75 v11], 96⟩) (fun vv hm => ?_) ?_
 ·obtain ⟨r6, h11, hm⟩ := obind hm
  refine rs G (hC 1 (zq55_c h11) h0) ?_
  refine cd hm (fun hm => ?_) (fun hm => ?_)
  ·obtain ⟨e, h12, hm⟩ := obind hm
   refine rs G (hD 2 h12 (hE 3 h12 h0)) ?_
   obtain ⟨r9, h16, hm⟩ := obind hm
   obtain ⟨r10, h17, hm⟩ := obind hm
   obtain ⟨u6, h18, hm⟩ := obind hm
   refine de G [(9, []), (10, [64, 368]), (12, [48, 384])] (hC 4 (zq73_c h16) (hC 7 (zq73_c h17) (hA 10 64 h18 h0))) ?_
   exact wJ G hm
  ·exact X_skip (wJ G hm)
 rintro ⟨v8, v9, v10, v11⟩ hm
 obtain ⟨r11, h19, hm⟩ := obind hm
 refine rs G (hO 1 (.fz [64] [] []) (hC 1 (zq80_c h19) h0)) ?_
 cases hm
 exact rt [112, 113] []
noncomputable def zq43_M : MS (l1Cur × (List Int)) (Int × l1Cur) := ⟨.x (.b 68) (.s 3), fun x => zq43 x.1 x.2, fun y => dV y.1, fun _ => [], fun x y => [bxO 68 y.2, arO 3 x.2]⟩
theorem zq43_c {c list y} (hm : zq43 c list = some y) : zq43_M.C (c, list) y := zq43_M.c (c, list) hm
theorem zq43_ok : FnOK Tryz.prog tJ 48 zq43_M.S := by
 refine fm tt zq43_M [fo zq56_ok] Tryz.call48 Tryz.func48 rfl Tryz.results48 Tryz.ntmps48 ?_
 rintro ⟨c, list⟩ y cx G hm
 have hm : zq43 c list = some y := hm
 unfold zq43 at hm
 refine rg G ?_
 obtain ⟨r, h, hm⟩ := obind hm
 obtain ⟨e, h1, hm⟩ := obind hm
 refine rs G (hN 3 list (hC 4 (zq56_c h) (hD 5 h1 (hE 6 h1 h0)))) ?_
 cases hm
 exact rt [] []
noncomputable def zq44_M : MS l1Cur (Network × l1Cur) := ⟨.b 68, zq44, fun y => .aggv [.own 0, dV y.1.Lines], fun y => [arO 9 y.1.Stops], fun _ y => [bxO 68 y.2]⟩
theorem zq44_c {c y} (hm : zq44 c = some y) : zq44_M.C c y := zq44_M.c c hm
theorem zq44_ok : FnOK Tryz.prog tJ 86 zq44_M.S := by
 refine fm tt zq44_M [fo zq50_ok, fo zq56_ok, fo zq54_ok, fo zq43_ok, fo zq62_ok, fo zq47_ok] Tryz.call86 Tryz.func86 rfl Tryz.results86 Tryz.ntmps86 ?_
 rintro c y cx G hm
 have hm : zq44 c = some y := hm
 unfold zq44 at hm
 refine rg G ?_
 obtain ⟨r, h, hm⟩ := obind hm
 refine rs G (hC 1 (zq50_c h) h0) ?_
 obtain ⟨r1, h1, hm⟩ := obind hm
 refine rs G (hN 3 r.1.Lines (hC 4 (zq56_c h1) h0)) ?_
 obtain ⟨e, h2, hm⟩ := obind hm
 refine rs G (hD 3 h2 (hE 4 h2 h0)) ?_
 refine jF hm (fun (v, v1, v2, v3, v4, v5, v6) => ⟨[(0, .ref 0 0), (2, .ref 32 0), (3, .ref 48 0), (4, dV r1.1), (5, .ref 64 0)], [bX 0 68 [dV v, dV v1, kV .u64 v2], bX 32 27 [.dat (.sc (.slice none 0 0)), .dat (.sc (.slice none 0 0))], bX 48 27 [.own 80, .own 96], bX 64 75 [dV v3, .row 96 96 r1.1.toNat 1, .own 112], aX 80 9 v4, tX 96 75 [none, some 3, some 3] v5 96 (some (r1.1.toNat, 2)), aX 112 3 v6], 144⟩) (fun v17 hr hm => ?_) ?_
 ·obtain ⟨r2, h3, hm⟩ := obind hm
  refine rs G (hC 1 (zq56_c h3) h0) ?_
  refine Ok_block (rg G (cd hm (fun hm => ?_) (fun hm => ?_)))
  ·obtain ⟨r4, h6, hm⟩ := obind hm
   obtain ⟨e2, h7, hm⟩ := obind hm
   refine de G [(4, [0, 416]), (6, [48])] (hC 4 (zq54_c h6) (hD 5 h7 (hS 6 h7 r4.1 h0))) ?_
   exact ibN (wFp hm (Wk.trans (Wk_S (.c 272 2) (Enc.e e) (.cons (idx_m2 (f := Enc.e) (l := r.1.Lines) (i := r1.1) h2) .nil) (by kernel_rfl)) (Wk_J G.hL ⟨[(0, []), (2, []), (3, []), (4, []), (5, [])], [(0, 0, []), (32, 16, []), (48, 64, []), (64, 272, []), (80, 48, []), (96, 49, []), (112, 480, [])], [], 144⟩ (by kernel_rfl))))
  ·refine rg G (cd hm (fun hm => ?_) (fun hm => ?_))
   ·obtain ⟨r5, h8, hm⟩ := obind hm
    refine re G (hC 2 (zq54_c h8) h0) ?_
    exact ibN (wFp hm (Wk.trans (Wk_S (.c 272 2) (Enc.e e) (.cons (idx_m2 (f := Enc.e) (l := r.1.Lines) (i := r1.1) h2) .nil) (by kernel_rfl)) (Wk_J G.hL ⟨[(0, []), (2, []), (3, []), (4, []), (5, [])], [(0, 0, []), (32, 16, []), (48, 64, []), (64, 272, []), (80, 48, []), (96, 49, []), (112, 480, [])], [], 144⟩ (by kernel_rfl))))
   ·refine rg G (cd hm (fun hm => ?_) (fun hm => ?_))
    ·obtain ⟨r8, h12, hm⟩ := obind hm
     obtain ⟨r9, h13, hm⟩ := obind hm
     obtain ⟨e4, h14, hm⟩ := obind hm
     refine de G [(6, [0]), (8, [0]), (11, [49])] (hO 5 (.dn (Enc.e e) (e.Stops.length : Int)) (hP (idx_m2 (f := Enc.e) h2) (hP (len_m Enc.e e.Stops) (hC 6 (zq56_c h12) (hC 8 (zq56_c h13) (hE 10 h2 (hP (idx_b (f := Enc.e) h14) (hO 11 (.sd2 (Enc.e e) (Enc.e e4) (List.map Enc.e (e.Stops.set r8.1.toNat (w64 (r9.1 - 1)))) (List.map Enc.e (r.1.Lines.set r1.1.toNat (⟨e.Name, (e.Stops.set r8.1.toNat (w64 (r9.1 - 1))), e.Runs⟩ : Line)))) (hP (idx_m2 (f := Enc.e) h2) (hP (idx_m2 (f := Enc.e) h14) (hP (set_m Enc.e e.Stops r8.1.toNat (w64 (r9.1 - 1))) (hP (set_m Enc.e r.1.Lines r1.1.toNat (⟨e.Name, (e.Stops.set r8.1.toNat (w64 (r9.1 - 1))), e.Runs⟩ : Line)) h0)))))))))))) ?_
     exact ibN (wFp hm (Wk.trans (Wk_S (.c 272 2) (Enc.e (⟨e.Name, (e.Stops.set r8.1.toNat (w64 (r9.1 - 1))), e.Runs⟩ : Line)) (.cons (idx_m2 (f := Enc.e) (l := (r.1.Lines.set r1.1.toNat (⟨e.Name, (e.Stops.set r8.1.toNat (w64 (r9.1 - 1))), e.Runs⟩ : Line))) (i := r1.1) (idx_set (y := (⟨e.Name, (e.Stops.set r8.1.toNat (w64 (r9.1 - 1))), e.Runs⟩ : Line)) h2)) .nil) (by kernel_rfl)) (Wk_J G.hL ⟨[(0, []), (2, []), (3, []), (4, []), (5, [])], [(0, 0, []), (32, 16, []), (48, 64, []), (64, 272, []), (80, 48, []), (96, 49, []), (112, 624, [])], [], 144⟩ (by kernel_rfl))))
    ·refine rg G (cd hm (fun hm => ?_) (fun hm => ?_))
     ·obtain ⟨r12, h18, hm⟩ := obind hm
      obtain ⟨r13, h19, hm⟩ := obind hm
      obtain ⟨e6, h20, hm⟩ := obind hm
      refine de G [(6, [0]), (9, [0, 592]), (11, [49])] (hO 5 (.dn (Enc.e e) (e.Runs.length : Int)) (hP (idx_m2 (f := Enc.e) h2) (hP (len_m Enc.e e.Runs) (hC 6 (zq56_c h18) (hC 9 (zq43_c h19) (hE 10 h2 (hP (idx_b (f := Enc.e) h20) (hO 11 (.sd2 (Enc.e e) (Enc.e e6) (List.map Enc.e (e.Runs.set r12.1.toNat r13.1)) (List.map Enc.e (r.1.Lines.set r1.1.toNat (⟨e.Name, e.Stops, (e.Runs.set r12.1.toNat r13.1)⟩ : Line)))) (hP (idx_m2 (f := Enc.e) h2) (hP (idx_m2 (f := Enc.e) h20) (hP (set_m Enc.e e.Runs r12.1.toNat r13.1) (hP (set_m Enc.e r.1.Lines r1.1.toNat (⟨e.Name, e.Stops, (e.Runs.set r12.1.toNat r13.1)⟩ : Line)) h0)))))))))))) ?_
      exact ibN (wFp hm (Wk.trans (Wk_S (.c 272 2) (Enc.e (⟨e.Name, e.Stops, (e.Runs.set r12.1.toNat r13.1)⟩ : Line)) (.cons (idx_m2 (f := Enc.e) (l := (r.1.Lines.set r1.1.toNat (⟨e.Name, e.Stops, (e.Runs.set r12.1.toNat r13.1)⟩ : Line))) (i := r1.1) (idx_set (y := (⟨e.Name, e.Stops, (e.Runs.set r12.1.toNat r13.1)⟩ : Line)) h2)) .nil) (by kernel_rfl)) (Wk_J G.hL ⟨[(0, []), (2, []), (3, []), (4, []), (5, [])], [(0, 0, []), (32, 16, []), (48, 64, []), (64, 272, []), (80, 48, []), (96, 49, []), (112, 656, [])], [], 144⟩ (by kernel_rfl))))
     ·refine rg G (cd hm (fun hm => ?_) (fun hm => ?_))
      ·obtain ⟨u, h21, hm⟩ := obind hm
       refine re G (hO 3 (.sd (Enc.e e) (List.map Enc.e (e.Runs ++ ([3] : List Int)))) (hP (idx_m2 (f := Enc.e) h2) (hP (app_p (f := Enc.e) (g := Enc.e) (l := e.Runs) (r := ([3] : List Int)) (b := 8) (chk_t h21) rfl) (hP (app_m Enc.e e.Runs ([3] : List Int)) h0)))) ?_
       exact ibN (wF G hm)
      ·refine rg G (cd hm (fun hm => ?_) (fun hm => ?_))
       ·refine rg G (rg G ?_)
        have hm := eR hm hr
        cases hm
        exact rt [48] []
       ·refine rg G (cd hm (fun hm => ?_) (fun hm => ?_))
        ·refine Ok_seq (rg G (tl hm (fun (v13, v14, v15, v16) => ⟨[(0, .ref 0 0), (2, .ref 32 0), (3, .ref 48 0)], [bX 0 68 [dV v13, dV v14, kV .u64 v15], bX 32 27 [.dat (.sc (.slice none 0 0)), .dat (.sc (.slice none 0 0))], bX 48 27 [.own 64, .own 80], aX 64 9 r.1.Stops, tX 80 75 [none, some 3, some 3] v16 80 none], 112⟩) (fun vv hm => ?_) ?_))
         ·refine Ok_block (lp G hm (fun (v7, v8, v9, v10, v11) => ⟨[(0, .ref 0 0), (2, .ref 32 0), (3, .ref 48 0), (6, dV v7)], [bX 0 68 [dV v8, dV v9, kV .u64 v10], bX 32 27 [.dat (.sc (.slice none 0 0)), .dat (.sc (.slice none 0 0))], bX 48 27 [.own 64, .own 80], aX 64 9 r.1.Stops, tX 80 75 [none, some 3, some 3] v11 80 none], 112⟩) ?_)
          rintro ⟨v7, v8, v9, v10, v11⟩ r0 hb hm
          rw [zq44_L1] at hm
          refine Ok_seq ?_
          obtain ⟨r16, h23, hm⟩ := obind hm
          refine jn hm (fun v12 => ⟨[(0, .ref 0 0), (2, .ref 32 0), (3, .ref 48 0), (6, dV v7), (85, dV v12)], [bX 0 68 [dV r16.2.code_, dV r16.2.at_, kV .u64 r16.2.seed_.v], bX 32 27 [.dat (.sc (.slice none 0 0)), .dat (.sc (.slice none 0 0))], bX 48 27 [.own 64, .own 80], aX 64 9 r.1.Stops, tX 80 75 [none, some 3, some 3] v11 80 none], 112⟩) (fun v12 hm => ?_) ?_
          ·rcases bf hm with ⟨hb1, hm⟩ | ⟨hb1, hm⟩
           ·refine de G [(4, [0])] (hN 2 v11 (hC 4 (zq56_c h23) (hO 7 (.b true) (hP hb1 h0)))) ?_
            exact wJ G hm
           ·refine de G [(4, [0])] (hN 2 v11 (hC 4 (zq56_c h23) (hO 7 (.b false) (hP hb1 h0)))) ?_
            exact wJ G hm
          rintro v12 hm
          refine cd hm (fun hm => ?_) (fun hm => ?_)
          ·refine X_skip (thN (Ok_seq (Ok_block ?_)))
           obtain ⟨r19, h28, hm⟩ := obind hm
           obtain ⟨u3, h29, hm⟩ := obind hm
           obtain ⟨r20, h30, hm⟩ := obind hm
           obtain ⟨u4, h31, hm⟩ := obind hm
           refine de G [(9, [0]), (10, [256, 257]), (11, [80, 272]), (13, [48, 288])] (hC 4 (zq62_c h28) (hP (cat_p (chk_t h29)) (hN 8 r.1.Stops (hC 9 (zq47_c h30) (hP (nodupB_ok (l := [256, 257]) rfl) (hA 11 64 h31 h0)))))) ?_
           exact ibN (thN (rh G (wL G hm)))
          ·exact Ok_exit (thE (thE (ibE (wD G hm hb))))
         rintro ⟨v13, v14, v15, v16⟩ hm s hw
         refine thN (Ok_weak hw ?_)
         refine rg G ?_
         have hm := eR hm hr
         cases hm
         exact rt [64] []
        ·exact X_skip (ibN (wFp hm (Wk.trans (Wk_S (.c 272 2) (Enc.e e) (.cons (idx_m2 (f := Enc.e) (l := r.1.Lines) (i := r1.1) h2) .nil) (by kernel_rfl)) (Wk_J G.hL ⟨[(0, []), (2, []), (3, []), (4, []), (5, [])], [(0, 0, []), (32, 16, []), (48, 64, []), (64, 272, []), (80, 48, []), (96, 49, []), (112, 560, [])], [], 144⟩ (by kernel_rfl)))))
 rintro ⟨v, v1, v2, v3, v4, v5, v6⟩ hm
 obtain ⟨e9, h32, hm⟩ := obind hm
 refine rs G (hD 4 h32 (hS 5 h32 (⟨v3, e9.Stops, v6⟩ : Line) (hP (Eq.refl r1.1.toNat) (hP (Eq.refl r1.1.toNat) h0)))) ?_
 refine rg G ?_
 cases hm
 exact rt [80] []
noncomputable def zq45_M : MS l1Cur (Timetable × l1Cur) := ⟨.b 68, zq45, fun y => .aggv [.own 0, dV y.1.Network.Lines, .own 1], fun y => [arO 9 y.1.Network.Stops, arO 64 y.1.Trips], fun _ y => [bxO 68 y.2]⟩
theorem zq45_c {c y} (hm : zq45 c = some y) : zq45_M.C c y := zq45_M.c c hm
theorem zq45_ok : FnOK Tryz.prog tJ 44 zq45_M.S := by
 refine fm tt zq45_M [fo zq59_ok, fo zq56_ok, fo zq42_ok, fo zq44_ok] Tryz.call44 Tryz.func44 rfl Tryz.results44 Tryz.ntmps44 ?_
 rintro c y cx G hm
 have hm : zq45 c = some y := hm
 unfold zq45 at hm
 refine rg G ?_
 obtain ⟨r, h, hm⟩ := obind hm
 refine rs G (hC 1 (zq59_c h) h0) ?_
 refine Ok_seq (rs G (hN 2 r.1.Trips h0) ?_)
 refine cd hm (fun hm => ?_) (fun hm => ?_)
 ·refine rg G ?_
  cases hm
  exact rt [48, 50] []
 ·refine X_skip (thN ?_)
  obtain ⟨r1, h1, hm⟩ := obind hm
  refine rs G (hN 3 r.1.Trips (hC 4 (zq56_c h1) h0)) ?_
  obtain ⟨e, h2, hm⟩ := obind hm
  refine rs G (hD 3 h2 (hE 4 h2 h0)) ?_
  refine jF hm (fun (v, v1, v2, v3, v4, v5, v6, v7) => ⟨[(0, .ref 0 0), (2, .ref 32 0), (3, .ref 48 0), (4, dV r1.1), (5, .ref 64 0)], [bX 0 68 [dV v, dV v1, kV .u64 v2], bX 32 30 [.dat (.sc (.slice none 0 0)), .dat (.sc (.slice none 0 0)), .dat (.sc (.slice none 0 0))], bX 48 30 [.own 80, dV v3, .own 96], bX 64 64 [dV v4, dV v5, dV v6], aX 80 9 v7, aX 96 64 r.1.Trips], 128⟩) (fun v18 hr hm => ?_) ?_
  ·obtain ⟨r2, h3, hm⟩ := obind hm
   refine rs G (hC 1 (zq56_c h3) h0) ?_
   refine Ok_block (rg G (cd hm (fun hm => ?_) (fun hm => ?_)))
   ·obtain ⟨r3, h4, hm⟩ := obind hm
    refine re G (hO 2 (.fz [448] [] []) (hC 2 (zq42_c h4) h0)) ?_
    exact ibN (wF G hm)
   ·refine rg G (cd hm (fun hm => ?_) (fun hm => ?_))
    ·obtain ⟨r4, h5, hm⟩ := obind hm
     refine re G (hC 1 (zq56_c h5) h0) ?_
     exact ibN (wF G hm)
    ·refine rg G (cd hm (fun hm => ?_) (fun hm => ?_))
     ·obtain ⟨r5, h6, hm⟩ := obind hm
      refine re G (hO 2 (.fz [512] [] []) (hC 2 (zq42_c h6) h0)) ?_
      exact ibN (wF G hm)
     ·refine rg G (cd hm (fun hm => ?_) (fun hm => ?_))
      ·obtain ⟨r6, h7, hm⟩ := obind hm
       refine re G (hC 1 (zq44_c h7) h0) ?_
       exact ibN (wF G hm)
      ·refine rg G (cd hm (fun hm => ?_) (fun hm => ?_))
       ·refine Ok_seq (rg G (tl hm (fun (v14, v15, v16, v17) => ⟨[(0, .ref 0 0), (2, .ref 32 0), (3, .ref 48 0)], [bX 0 68 [dV v14, dV v15, kV .u64 v16], bX 32 30 [.dat (.sc (.slice none 0 0)), .dat (.sc (.slice none 0 0)), .dat (.sc (.slice none 0 0))], bX 48 30 [.own 64, .own 80, .own 96], aX 64 9 r.1.Network.Stops, aX 80 75 r.1.Network.Lines, aX 96 64 v17], 128⟩) (fun vv hm => ?_) ?_))
        ·refine Ok_block (lp G hm (fun (v8, v9, v10, v11, v12) => ⟨[(0, .ref 0 0), (2, .ref 32 0), (3, .ref 48 0), (6, dV v8)], [bX 0 68 [dV v9, dV v10, kV .u64 v11], bX 32 30 [.dat (.sc (.slice none 0 0)), .dat (.sc (.slice none 0 0)), .dat (.sc (.slice none 0 0))], bX 48 30 [.own 64, .own 80, .own 96], aX 64 9 r.1.Network.Stops, aX 80 75 r.1.Network.Lines, aX 96 64 v12], 128⟩) ?_)
         rintro ⟨v8, v9, v10, v11, v12⟩ r0 hb hm
         rw [zq45_L1] at hm
         refine Ok_seq ?_
         obtain ⟨r8, h9, hm⟩ := obind hm
         refine jn hm (fun v13 => ⟨[(0, .ref 0 0), (2, .ref 32 0), (3, .ref 48 0), (6, dV v8), (61, dV v13)], [bX 0 68 [dV r8.2.code_, dV r8.2.at_, kV .u64 r8.2.seed_.v], bX 32 30 [.dat (.sc (.slice none 0 0)), .dat (.sc (.slice none 0 0)), .dat (.sc (.slice none 0 0))], bX 48 30 [.own 64, .own 80, .own 96], aX 64 9 r.1.Network.Stops, aX 80 75 r.1.Network.Lines, aX 96 64 v12], 128⟩) (fun v13 hm => ?_) ?_
         ·rcases bf hm with ⟨hb1, hm⟩ | ⟨hb1, hm⟩
          ·refine de G [(4, [0])] (hN 2 v12 (hC 4 (zq56_c h9) (hO 7 (.b true) (hP hb1 h0)))) ?_
           exact wJ G hm
          ·refine de G [(4, [0])] (hN 2 v12 (hC 4 (zq56_c h9) (hO 7 (.b false) (hP hb1 h0)))) ?_
           exact wJ G hm
         rintro v13 hm
         refine cd hm (fun hm => ?_) (fun hm => ?_)
         ·refine X_skip (thN (Ok_seq (Ok_block ?_)))
          obtain ⟨u, h10, hm⟩ := obind hm
          refine re G (hA 8 24 h10 h0) ?_
          exact ibN (thN (rh G (wL G hm)))
         ·exact Ok_exit (thE (thE (ibE (wD G hm hb))))
        rintro ⟨v14, v15, v16, v17⟩ hm s hw
        refine thN (Ok_weak hw ?_)
        refine rg G ?_
        have hm := eR hm hr
        cases hm
        exact rt [64, 96] []
       ·exact X_skip (ibN (wF G hm))
  rintro ⟨v, v1, v2, v3, v4, v5, v6, v7⟩ hm
  obtain ⟨e2, h11, hm⟩ := obind hm
  refine rs G (hD 4 h11 (hS 5 h11 (⟨v4, v5, v6⟩ : Trip) h0)) ?_
  refine rg G ?_
  cases hm
  exact rt [80, 96] []
noncomputable def zq46_M : MS (l1Cur × Timetable) ((List TripDelay) × l1Cur) := ⟨.x (.b 68) .r, fun x => zq46 x.1 x.2, fun _ => .own 0, fun y => [arO 125 y.1], fun _ y => [bxO 68 y.2]⟩
theorem zq46_c {c t y} (hm : zq46 c t = some y) : zq46_M.C (c, t) y := zq46_M.c (c, t) hm
theorem zq46_ok : FnOK Tryz.prog tJ 45 zq46_M.S := by
 refine fm tt zq46_M [fo zq55_ok, fo zq43_ok, fo zq56_ok] Tryz.call45 Tryz.func45 rfl Tryz.results45 Tryz.ntmps45 ?_
 rintro ⟨c, t⟩ y cx G hm
 have hm : zq46 c t = some y := hm
 unfold zq46 at hm
 refine rg G (rg G (Ok_seq (rg G (tl hm (fun (v9, v10, v11, v12) => ⟨[(0, .ref 0 0), (5, .own 32)], [bX 0 68 [dV v9, dV v10, kV .u64 v11], aX 32 125 v12], 64⟩) (fun vv2 hm => ?_) ?_))))
 ·refine Ok_block (lp G hm (fun (v, v1, v2, v3, v4) => ⟨[(0, .ref 0 0), (3, .ref 32 0), (5, .own 48), (6, dV v)], [bX 0 68 [dV v1, dV v2, kV .u64 v3], bX 32 30 [dV t.Network.Stops, dV t.Network.Lines, dV t.Trips], aX 48 125 v4], 80⟩) ?_)
  rintro ⟨v, v1, v2, v3, v4⟩ r0 hb hm
  rw [zq46_L1] at hm
  refine Ok_seq (rs G (hN 3 t.Trips h0) ?_)
  refine cd hm (fun hm => ?_) (fun hm => ?_)
  ·refine X_skip (thN (jn hm (fun (v5, v6, v7, v8) => ⟨[(0, .ref 0 0), (3, .ref 32 0), (5, .own 48), (6, dV v)], [bX 0 68 [dV v5, dV v6, kV .u64 v7], bX 32 30 [dV t.Network.Stops, dV t.Network.Lines, dV t.Trips], aX 48 125 v8], 80⟩) (fun vv hm => ?_) ?_))
   ·refine Ok_block ?_
    obtain ⟨r, h, hm⟩ := obind hm
    refine rs G (hC 1 (zq55_c h) h0) ?_
    refine cd hm (fun hm => ?_) (fun hm => ?_)
    ·obtain ⟨e1, h4, hm⟩ := obind hm
     obtain ⟨r2, h5, hm⟩ := obind hm
     obtain ⟨u1, h6, hm⟩ := obind hm
     refine de G [(9, [0, 320]), (12, [48, 368])] (hD 4 h4 (hC 9 (zq43_c h5) (hA 12 16 h6 h0))) ?_
     exact ibN (wJ G hm)
    ·exact X_skip (ibN (wJ G hm))
   rintro ⟨v5, v6, v7, v8⟩ hm
   exact rh G (wL G hm)
  ·exact Ok_exit (thE (thE (ibE (wD G hm hb))))
 rintro ⟨v9, v10, v11, v12⟩ hm s hw
 refine thN (Ok_weak hw ?_)
 refine jn hm (fun (v13, v14, v15, v16) => ⟨[(0, .ref 0 0), (5, .own 32)], [bX 0 68 [dV v13, dV v14, kV .u64 v15], aX 32 125 v16], 64⟩) (fun vv1 hm => ?_) ?_
 ·obtain ⟨r3, h7, hm⟩ := obind hm
  refine rs G (hC 1 (zq56_c h7) h0) ?_
  refine Ok_block (rg G (cd hm (fun hm => ?_) (fun hm => ?_)))
  ·obtain ⟨r4, h8, hm⟩ := obind hm
   obtain ⟨u2, h9, hm⟩ := obind hm
   refine re G (hC 3 (zq43_c h8) (hA 6 16 h9 h0)) ?_
   exact ibN (wJ G hm)
  ·refine rg G (cd hm (fun hm => ?_) (fun hm => ?_))
   ·refine rs G (hN 1 v12 h0) ?_
    refine cd hm (fun hm => ?_) (fun hm => ?_)
    ·obtain ⟨e4, h13, hm⟩ := obind hm
     obtain ⟨r6, h14, hm⟩ := obind hm
     obtain ⟨e5, h15, hm⟩ := obind hm
     refine de G [(13, [0, 400]), (16, [32])] (hN 2 v12 (hN 6 v12 (hD 8 h13 (hE 10 h13 (hC 13 (zq43_c h14) (hD 15 h15 (hS 16 h15 (⟨e4.Id, r6.1⟩ : TripDelay) h0))))))) ?_
     exact ibN (wJ G hm)
    ·exact X_skip (ibN (wJ G hm))
   ·exact X_skip (ibN (wJ G hm))
 rintro ⟨v13, v14, v15, v16⟩ hm
 refine rg G ?_
 cases hm
 exact rt [32] []
noncomputable def zq60_M : MS (Int × Int × Int) Bool := ⟨.x .r (.x .r .r), fun x => zq60 x.1 x.2.1 x.2.2, fun y => dV y, fun _ => [], fun _ _ => []⟩
theorem zq60_c {x a b y} (hm : zq60 x a b = some y) : zq60_M.C (x, a, b) y := zq60_M.c (x, a, b) hm
theorem zq60_ok : FnOK Tryz.prog tJ 55 zq60_M.S := by
 refine fm tt zq60_M [] Tryz.call55 Tryz.func55 rfl Tryz.results55 Tryz.ntmps55 ?_
 rintro ⟨x, a, b⟩ y cx G hm
 have hm : zq60 x a b = some y := hm
 unfold zq60 at hm
 refine rg G (jn hm (fun v => ⟨[(6, dV v)], [], 32⟩) (fun v hm => ?_) ?_)
 ·rcases bf hm with ⟨hb, hm⟩ | ⟨hb, hm⟩
  ·refine re G (hO 3 (.b true) (hP hb h0)) ?_
   exact wJ G hm
  ·refine re G (hO 3 (.b false) (hP hb h0)) ?_
   exact wJ G hm
 rintro v hm
 cases hm
 exact rt [] []
noncomputable def zq78_M : MS ByteArray Bool := ⟨.r, zq78, fun y => dV y, fun _ => [], fun _ _ => []⟩
theorem zq78_c {s y} (hm : zq78 s = some y) : zq78_M.C s y := zq78_M.c s hm
theorem zq78_ok : FnOK Tryz.prog tJ 67 zq78_M.S := by
 refine fm tt zq78_M [fo zq60_ok] Tryz.call67 Tryz.func67 rfl Tryz.results67 Tryz.ntmps67 ?_
 rintro s y cx G hm
 have hm : zq78 s = some y := hm
 unfold zq78 at hm
 refine rg G (Ok_seq ?_)
 obtain ⟨r, h, hm⟩ := obind hm
 refine jn hm (fun v => ⟨[(0, dV s), (17, dV v)], [], 32⟩) (fun v hm => ?_) ?_
 ·rcases bf hm with ⟨hb, hm⟩ | ⟨hb, hm⟩
  ·refine re G (hC 2 (zq60_c h) (hO 4 (.b true) (hP hb h0))) ?_
   exact wJ G hm
  ·obtain ⟨u, h1, hm⟩ := obind hm
   rcases bf hm with ⟨hb1, hm⟩ | ⟨hb1, hm⟩
   ·refine re G (hC 2 (zq60_c h) (hO 4 (.b false) (hP hb (hK h1 (hO 9 (.b true) (hP hb1 h0)))))) ?_
    exact wJ G hm
   ·obtain ⟨u1, h2, hm⟩ := obind hm
    refine re G (hC 2 (zq60_c h) (hO 4 (.b false) (hP hb (hK h1 (hO 9 (.b false) (hP hb1 (hK h2 h0))))))) ?_
    exact wJ G hm
 rintro v hm
 refine cd hm (fun hm => ?_) (fun hm => ?_)
 ·refine rg G ?_
  cases hm
  exact rt [] []
 ·refine X_skip (thN (Ok_seq (rg G (tF hm (fun _ => ⟨[], [], 32⟩) (fun v3 hr hm => ?_) ?_))))
  ·refine Ok_block (lp G hm (fun v1 => ⟨[(0, dV s), (3, dV v1)], [], 32⟩) ?_)
   rintro v1 r0 hb2 hm
   rw [zq78_L1] at hm
   refine Ok_seq (rg G (cd hm (fun hm => ?_) (fun hm => ?_)))
   ·refine X_skip (thN (Ok_seq (Ok_block ?_)))
    obtain ⟨u2, h3, hm⟩ := obind hm
    refine jn hm (fun v2 => ⟨[(0, dV s), (3, dV v1), (45, dV v2)], [], 32⟩) (fun v2 hm => ?_) ?_
    ·rcases bf hm with ⟨hb3, hm⟩ | ⟨hb3, hm⟩
     ·obtain ⟨u3, h4, hm⟩ := obind hm
      rcases bf hm with ⟨hb4, hm⟩ | ⟨hb4, hm⟩
      ·refine re G (hK h3 (hO 4 (.b true) (hP hb3 (hK h4 (hO 15 (.b true) (hP hb4 h0)))))) ?_
       exact wJ G hm
      ·obtain ⟨u4, h5, hm⟩ := obind hm
       refine re G (hK h3 (hO 4 (.b true) (hP hb3 (hK h4 (hO 15 (.b false) (hP hb4 (hK h5 h0))))))) ?_
       exact wJ G hm
     ·obtain ⟨u5, h6, hm⟩ := obind hm
      rcases bf hm with ⟨hb5, hm⟩ | ⟨hb5, hm⟩
      ·obtain ⟨u6, h7, hm⟩ := obind hm
       rcases bf hm with ⟨hb6, hm⟩ | ⟨hb6, hm⟩
       ·refine re G (hK h3 (hO 4 (.b false) (hP hb3 (hK h6 (hO 10 (.b true) (hP hb5 (hK h7 (hO 15 (.b true) (hP hb6 h0))))))))) ?_
        exact wJ G hm
       ·obtain ⟨u7, h8, hm⟩ := obind hm
        refine re G (hK h3 (hO 4 (.b false) (hP hb3 (hK h6 (hO 10 (.b true) (hP hb5 (hK h7 (hO 15 (.b false) (hP hb6 (hK h8 h0)))))))))) ?_
        exact wJ G hm
      ·refine re G (hK h3 (hO 4 (.b false) (hP hb3 (hK h6 (hO 10 (.b false) (hP hb5 h0)))))) ?_
       exact wJ G hm
    rintro v2 hm
    refine cd hm (fun hm => ?_) (fun hm => ?_)
    ·refine rg G ?_
     have hm := eL hm hb2 hr
     cases hm
     exact rt [] []
    ·exact X_skip (ibN (thN (rh G (wL G hm))))
   ·exact Ok_exit (thE (thE (ibE (wE G hm hb2))))
  rintro ⟨⟩ hm s1 hw
  refine thN (Ok_weak hw ?_)
  refine rg G ?_
  cases hm
  exact rt [] []
noncomputable def zq74_M : MS ((List ByteArray) × ByteArray) Int := ⟨.x .r .r, fun x => zq74 x.1 x.2, fun y => dV y, fun _ => [], fun _ _ => []⟩
theorem zq74_c {list name y} (hm : zq74 list name = some y) : zq74_M.C (list, name) y := zq74_M.c (list, name) hm
theorem zq74_ok : FnOK Tryz.prog tJ 91 zq74_M.S := by
 refine fm tt zq74_M [] Tryz.call91 Tryz.func91 rfl Tryz.results91 Tryz.ntmps91 ?_
 rintro ⟨list, name⟩ y cx G hm
 have hm : zq74 list name = some y := hm
 unfold zq74 at hm
 refine rg G (Ok_seq (rg G (tF hm (fun _ => ⟨[], [], 32⟩) (fun v1 hr hm => ?_) ?_)))
 ·refine Ok_block (lp G hm (fun v => ⟨[(0, dV list), (1, dV name), (5, dV v)], [], 32⟩) ?_)
  rintro v r0 hb hm
  rw [zq74_L1] at hm
  refine Ok_seq (rs G (hN 2 list h0) ?_)
  refine cd hm (fun hm => ?_) (fun hm => ?_)
  ·refine X_skip (thN (Ok_seq (Ok_block ?_)))
   obtain ⟨e, h, hm⟩ := obind hm
   refine rs G (hD 2 h h0) ?_
   refine cd hm (fun hm => ?_) (fun hm => ?_)
   ·refine rg G ?_
    have hm := eL hm hb hr
    cases hm
    exact rt [] []
   ·exact X_skip (ibN (thN (rh G (wL G hm))))
  ·exact Ok_exit (thE (thE (ibE (wE G hm hb))))
 rintro ⟨⟩ hm s hw
 refine thN (Ok_weak hw ?_)
 refine rg G ?_
 cases hm
 exact rt [] []
noncomputable def zq76_M : MS (Line × Int) Bool := ⟨.x .r .r, fun x => zq76 x.1 x.2, fun y => dV y, fun _ => [], fun _ _ => []⟩
theorem zq76_c {x stops y} (hm : zq76 x stops = some y) : zq76_M.C (x, stops) y := zq76_M.c (x, stops) hm
theorem zq76_ok : FnOK Tryz.prog tJ 92 zq76_M.S := by
 refine fm tt zq76_M [fo zq78_ok, fo zq60_ok, fo zq81_ok] Tryz.call92 Tryz.func92 rfl Tryz.results92 Tryz.ntmps92 ?_
 rintro ⟨x, stops⟩ y cx G hm
 have hm : zq76 x stops = some y := hm
 unfold zq76 at hm
 refine rg G (Ok_seq ?_)
 obtain ⟨r, h, hm⟩ := obind hm
 refine jn hm (fun v => ⟨[(1, dV stops), (2, .ref 16 0), (27, dV v)], [bX 16 75 [dV x.Name, dV x.Stops, dV x.Runs]], 48⟩) (fun v hm => ?_) ?_
 ·rcases bf hm with ⟨hb, hm⟩ | ⟨hb, hm⟩
  ·refine re G (hC 2 (zq78_c h) (hO 4 (.b true) (hP hb h0))) ?_
   exact wJ G hm
  ·obtain ⟨r1, h1, hm⟩ := obind hm
   rcases bf hm with ⟨hb1, hm⟩ | ⟨hb1, hm⟩
   ·refine re G (hC 2 (zq78_c h) (hO 4 (.b false) (hP hb (hN 7 x.Stops (hC 8 (zq60_c h1) (hO 11 (.b true) (hP hb1 h0))))))) ?_
    exact wJ G hm
   ·refine re G (hC 2 (zq78_c h) (hO 4 (.b false) (hP hb (hN 7 x.Stops (hC 8 (zq60_c h1) (hO 11 (.b false) (hP hb1 (hN 14 x.Runs (hN 17 x.Stops h0))))))))) ?_
    exact wJ G hm
 rintro v hm
 refine cd hm (fun hm => ?_) (fun hm => ?_)
 ·refine rg G ?_
  cases hm
  exact rt [] []
 ·refine X_skip (thN (Ok_seq (rg G (tF hm (fun _ => ⟨[(2, .ref 16 0)], [bX 16 75 [dV x.Name, dV x.Stops, dV x.Runs]], 48⟩) (fun v5 hr hm => ?_) ?_))))
  ·refine Ok_block (lp G hm (fun v1 => ⟨[(1, dV stops), (2, .ref 16 0), (5, dV v1)], [bX 16 75 [dV x.Name, dV x.Stops, dV x.Runs]], 48⟩) ?_)
   rintro v1 r0 hb2 hm
   rw [zq76_L1] at hm
   refine Ok_seq (rs G (hN 3 x.Stops h0) ?_)
   refine cd hm (fun hm => ?_) (fun hm => ?_)
   ·refine X_skip (thN (Ok_seq (Ok_block ?_)))
    obtain ⟨e2, h6, hm⟩ := obind hm
    obtain ⟨r4, h7, hm⟩ := obind hm
    refine jn hm (fun v2 => ⟨[(1, dV stops), (2, .ref 16 0), (5, dV v1), (54, dV v2)], [bX 16 75 [dV x.Name, dV x.Stops, dV x.Runs]], 48⟩) (fun v2 hm => ?_) ?_
    ·rcases bf hm with ⟨hb3, hm⟩ | ⟨hb3, hm⟩
     ·refine de G [] (hD 3 h6 (hC 7 (zq60_c h7) (hO 9 (.b true) (hP hb3 h0)))) ?_
      exact wJ G hm
     ·obtain ⟨e3, h8, hm⟩ := obind hm
      obtain ⟨r5, h9, hm⟩ := obind hm
      refine de G [] (hD 3 h6 (hC 7 (zq60_c h7) (hO 9 (.b false) (hP hb3 (hD 14 h8 (hC 16 (zq81_c h9) h0)))))) ?_
      exact wJ G hm
    rintro v2 hm
    refine cd hm (fun hm => ?_) (fun hm => ?_)
    ·refine rg G ?_
     have hm := eL hm hb2 hr
     cases hm
     exact rt [] []
    ·exact X_skip (ibN (thN (rh G (wL G hm))))
   ·exact Ok_exit (thE (thE (ibE (wE G hm hb2))))
  rintro ⟨⟩ hm s hw
  refine thN (Ok_weak hw ?_)
  refine Ok_seq (rg G (tF hm (fun _ => ⟨[], [], 32⟩) (fun v4 hr1 hm => ?_) ?_))
  ·refine Ok_block (lp G hm (fun v3 => ⟨[(2, .ref 16 0), (6, dV v3)], [bX 16 75 [dV x.Name, dV x.Stops, dV x.Runs]], 48⟩) ?_)
   rintro v3 r0 hb4 hm
   rw [zq76_L2] at hm
   refine Ok_seq (rs G (hN 3 x.Runs h0) ?_)
   refine cd hm (fun hm => ?_) (fun hm => ?_)
   ·refine X_skip (thN (Ok_seq (Ok_block ?_)))
    obtain ⟨e5, h10, hm⟩ := obind hm
    obtain ⟨r7, h11, hm⟩ := obind hm
    refine rs G (hD 3 h10 (hC 5 (zq60_c h11) h0)) ?_
    refine cd hm (fun hm => ?_) (fun hm => ?_)
    ·refine rg G ?_
     have hm := eL hm hb4 hr1
     cases hm
     exact rt [] []
    ·exact X_skip (ibN (thN (rh G (wL G hm))))
   ·exact Ok_exit (thE (thE (ibE (wE G hm hb4))))
  rintro ⟨⟩ hm s1 hw1
  refine thN (Ok_weak hw1 ?_)
  refine rg G ?_
  cases hm
  exact rt [] []
noncomputable def zq77_M : MS (Network × ByteArray) Int := ⟨.x .r .r, fun x => zq77 x.1 x.2, fun y => dV y, fun _ => [], fun _ _ => []⟩
theorem zq77_c {n name y} (hm : zq77 n name = some y) : zq77_M.C (n, name) y := zq77_M.c (n, name) hm
theorem zq77_ok : FnOK Tryz.prog tJ 93 zq77_M.S := by
 refine fm tt zq77_M [] Tryz.call93 Tryz.func93 rfl Tryz.results93 Tryz.ntmps93 ?_
 rintro ⟨n, name⟩ y cx G hm
 have hm : zq77 n name = some y := hm
 unfold zq77 at hm
 refine rg G (Ok_seq (rg G (tF hm (fun _ => ⟨[], [], 32⟩) (fun v1 hr hm => ?_) ?_)))
 ·refine Ok_block (lp G hm (fun v => ⟨[(1, dV name), (2, .ref 16 0), (5, dV v)], [bX 16 27 [dV n.Stops, dV n.Lines]], 48⟩) ?_)
  rintro v r0 hb hm
  rw [zq77_L1] at hm
  refine Ok_seq (rs G (hN 3 n.Lines h0) ?_)
  refine cd hm (fun hm => ?_) (fun hm => ?_)
  ·refine X_skip (thN (Ok_seq (Ok_block ?_)))
   obtain ⟨e, h, hm⟩ := obind hm
   refine rs G (hD 3 h h0) ?_
   refine cd hm (fun hm => ?_) (fun hm => ?_)
   ·refine rg G ?_
    have hm := eL hm hb hr
    cases hm
    exact rt [] []
   ·exact X_skip (ibN (thN (rh G (wL G hm))))
  ·exact Ok_exit (thE (thE (ibE (wE G hm hb))))
 rintro ⟨⟩ hm s hw
 refine thN (Ok_weak hw ?_)
 refine rg G ?_
 cases hm
 exact rt [] []
noncomputable def zq75_M : MS Network Bool := ⟨.r, zq75, fun y => dV y, fun _ => [], fun _ _ => []⟩
theorem zq75_c {n y} (hm : zq75 n = some y) : zq75_M.C n y := zq75_M.c n hm
theorem zq75_ok : FnOK Tryz.prog tJ 41 zq75_M.S := by
 refine fm tt zq75_M [fo zq60_ok, fo zq78_ok, fo zq74_ok, fo zq76_ok, fo zq77_ok] Tryz.call41 Tryz.func41 rfl Tryz.results41 Tryz.ntmps41 ?_
 rintro n y cx G hm
 have hm : zq75 n = some y := hm
 unfold zq75 at hm
 refine rg G (Ok_seq ?_)
 obtain ⟨r, h, hm⟩ := obind hm
 refine jn hm (fun v => ⟨[(1, .ref 16 0), (16, dV v)], [bX 16 27 [dV n.Stops, dV n.Lines]], 48⟩) (fun v hm => ?_) ?_
 ·rcases bf hm with ⟨hb, hm⟩ | ⟨hb, hm⟩
  ·refine re G (hN 2 n.Stops (hC 3 (zq60_c h) (hO 5 (.b true) (hP hb h0)))) ?_
   exact wJ G hm
  ·obtain ⟨r1, h1, hm⟩ := obind hm
   refine re G (hN 2 n.Stops (hC 3 (zq60_c h) (hO 5 (.b false) (hP hb (hN 8 n.Lines (hC 9 (zq60_c h1) h0)))))) ?_
   exact wJ G hm
 rintro v hm
 refine cd hm (fun hm => ?_) (fun hm => ?_)
 ·refine rg G ?_
  cases hm
  exact rt [] []
 ·refine X_skip (thN (Ok_seq (rg G (tF hm (fun _ => ⟨[(1, .ref 16 0)], [bX 16 27 [dV n.Stops, dV n.Lines]], 48⟩) (fun v5 hr hm => ?_) ?_))))
  ·refine Ok_block (lp G hm (fun i => ⟨[(1, .ref 16 0), (3, dV i)], [bX 16 27 [dV n.Stops, dV n.Lines]], 48⟩) ?_)
   rintro i r0 hb1 hm
   rw [zq75_L1] at hm
   refine Ok_seq (rs G (hN 3 n.Stops h0) ?_)
   refine cd hm (fun hm => ?_) (fun hm => ?_)
   ·refine X_skip (thN (Ok_seq (Ok_block ?_)))
    obtain ⟨e2, h6, hm⟩ := obind hm
    obtain ⟨r4, h7, hm⟩ := obind hm
    refine jn hm (fun v1 => ⟨[(1, .ref 16 0), (3, dV i), (42, dV v1)], [bX 16 27 [dV n.Stops, dV n.Lines]], 48⟩) (fun v1 hm => ?_) ?_
    ·rcases bf hm with ⟨hb2, hm⟩ | ⟨hb2, hm⟩
     ·refine de G [] (hD 3 h6 (hC 5 (zq78_c h7) (hO 7 (.b true) (hP hb2 h0)))) ?_
      exact wJ G hm
     ·obtain ⟨e3, h8, hm⟩ := obind hm
      obtain ⟨r5, h9, hm⟩ := obind hm
      refine de G [] (hD 3 h6 (hC 5 (zq78_c h7) (hO 7 (.b false) (hP hb2 (hD 13 h8 (hC 15 (zq74_c h9) h0)))))) ?_
      exact wJ G hm
    rintro v1 hm
    refine cd hm (fun hm => ?_) (fun hm => ?_)
    ·refine rg G ?_
     have hm := eL hm hb1 hr
     cases hm
     exact rt [] []
    ·exact X_skip (ibN (thN (rh G (wL G hm))))
   ·exact Ok_exit (thE (thE (ibE (wE G hm hb1))))
  rintro ⟨⟩ hm s hw
  refine thN (Ok_weak hw ?_)
  refine Ok_seq (rg G (tF hm (fun _ => ⟨[], [], 32⟩) (fun v4 hr1 hm => ?_) ?_))
  ·refine Ok_block (lp G hm (fun v2 => ⟨[(1, .ref 16 0), (4, dV v2)], [bX 16 27 [dV n.Stops, dV n.Lines]], 48⟩) ?_)
   rintro v2 r0 hb3 hm
   rw [zq75_L2] at hm
   refine Ok_seq (rs G (hN 3 n.Lines h0) ?_)
   refine cd hm (fun hm => ?_) (fun hm => ?_)
   ·refine X_skip (thN (Ok_seq (Ok_block ?_)))
    obtain ⟨e7, h14, hm⟩ := obind hm
    obtain ⟨r9, h15, hm⟩ := obind hm
    refine jn hm (fun v3 => ⟨[(1, .ref 16 0), (4, dV v2), (71, dV v3)], [bX 16 27 [dV n.Stops, dV n.Lines]], 48⟩) (fun v3 hm => ?_) ?_
    ·rcases bf hm with ⟨hb4, hm⟩ | ⟨hb4, hm⟩
     ·refine de G [] (hD 3 h14 (hN 7 n.Stops (hC 8 (zq76_c h15) (hO 10 (.b true) (hP hb4 h0))))) ?_
      exact wJ G hm
     ·obtain ⟨e8, h16, hm⟩ := obind hm
      obtain ⟨r10, h17, hm⟩ := obind hm
      refine de G [] (hD 3 h14 (hN 7 n.Stops (hC 8 (zq76_c h15) (hO 10 (.b false) (hP hb4 (hD 15 h16 (hC 18 (zq77_c h17) h0))))))) ?_
      exact wJ G hm
    rintro v3 hm
    refine cd hm (fun hm => ?_) (fun hm => ?_)
    ·refine rg G ?_
     have hm := eL hm hb3 hr1
     cases hm
     exact rt [] []
    ·exact X_skip (ibN (thN (rh G (wL G hm))))
   ·exact Ok_exit (thE (thE (ibE (wE G hm hb3))))
  rintro ⟨⟩ hm s1 hw1
  refine thN (Ok_weak hw1 ?_)
  refine rg G ?_
  cases hm
  exact rt [] []
noncomputable def zq84_M : MS Int Bool := ⟨.r, zq84, fun y => dV y, fun _ => [], fun _ _ => []⟩
theorem zq84_c {t y} (hm : zq84 t = some y) : zq84_M.C t y := zq84_M.c t hm
theorem zq84_ok : FnOK Tryz.prog tJ 54 zq84_M.S := by
 refine fm tt zq84_M [fo zq60_ok] Tryz.call54 Tryz.func54 rfl Tryz.results54 Tryz.ntmps54 ?_
 rintro t y cx G hm
 have hm : zq84 t = some y := hm
 unfold zq84 at hm
 refine rg G ?_
 obtain ⟨r, h, hm⟩ := obind hm
 refine rs G (hC 1 (zq60_c h) h0) ?_
 cases hm
 exact rt [] []
noncomputable def zq90_M : MS (Timetable × Int) Line := ⟨.x .r .r, fun x => zq90 x.1 x.2, fun y => dV y, fun _ => [], fun _ _ => []⟩
theorem zq90_c {t i y} (hm : zq90 t i = some y) : zq90_M.C (t, i) y := zq90_M.c (t, i) hm
theorem zq90_ok : FnOK Tryz.prog tJ 83 zq90_M.S := by
 refine fm tt zq90_M [] Tryz.call83 Tryz.func83 rfl Tryz.results83 Tryz.ntmps83 ?_
 rintro ⟨t, i⟩ y cx G hm
 have hm : zq90 t i = some y := hm
 unfold zq90 at hm
 refine rg G ?_
 obtain ⟨e2, h2, hm⟩ := obind hm
 obtain ⟨e3, h3, hm⟩ := obind hm
 refine ds G [(11, [32])] (hD 6 h2 (hD 9 h3 h0)) ?_
 cases hm
 exact rt [] []
noncomputable def zq91_M : MS (Timetable × Int) ((List Int)) := ⟨.x .r .r, fun x => zq91 x.1 x.2, fun y => dV y, fun _ => [], fun _ _ => []⟩
theorem zq91_c {t i y} (hm : zq91 t i = some y) : zq91_M.C (t, i) y := zq91_M.c (t, i) hm
theorem zq91_ok : FnOK Tryz.prog tJ 94 zq91_M.S := by
 refine fm tt zq91_M [fo zq90_ok] Tryz.call94 Tryz.func94 rfl Tryz.results94 Tryz.ntmps94 ?_
 rintro ⟨t, i⟩ y cx G hm
 have hm : zq91 t i = some y := hm
 unfold zq91 at hm
 refine rg G ?_
 obtain ⟨r, h, hm⟩ := obind hm
 refine rs G (hC 2 (zq90_c h) h0) ?_
 cases hm
 exact rt [] []
noncomputable def zq82_M : MS (Line × Int × Int) Int := ⟨.x .r (.x .r .r), fun x => zq82 x.1 x.2.1 x.2.2, fun y => dV y, fun _ => [], fun _ _ => []⟩
theorem zq82_c {x from_ to_ y} (hm : zq82 x from_ to_ = some y) : zq82_M.C (x, from_, to_) y := zq82_M.c (x, from_, to_) hm
theorem zq82_ok : FnOK Tryz.prog tJ 132 zq82_M.S := by
 refine fm tt zq82_M [] Tryz.call132 Tryz.func132 rfl Tryz.results132 Tryz.ntmps132 ?_
 rintro ⟨x, from_, to_⟩ y cx G hm
 have hm : zq82 x from_ to_ = some y := hm
 unfold zq82 at hm
 refine rg G (rg G (Ok_seq (rg G (tl hm (fun v2 => ⟨[(7, dV v2)], [], 32⟩) (fun v2 hm => ?_) ?_))))
 ·refine Ok_block (lp G hm (fun (v, v1) => ⟨[(2, dV to_), (3, .ref 16 0), (7, dV v), (8, dV v1)], [bX 16 75 [dV x.Name, dV x.Stops, dV x.Runs]], 48⟩) ?_)
  rintro ⟨v, v1⟩ r0 hb hm
  rw [zq82_L1] at hm
  refine Ok_seq (rg G (cd hm (fun hm => ?_) (fun hm => ?_)))
  ·refine X_skip (thN (Ok_seq (Ok_block ?_)))
   obtain ⟨e, h, hm⟩ := obind hm
   refine re G (hD 4 h h0) ?_
   exact ibN (thN (rh G (wL G hm)))
  ·exact Ok_exit (thE (thE (ibE (wD G hm hb))))
 rintro v2 hm s hw
 refine thN (Ok_weak hw ?_)
 refine rg G ?_
 cases hm
 exact rt [] []
noncomputable def zq86_M : MS (Timetable × Int × Int) Int := ⟨.x .r (.x .r .r), fun x => zq86 x.1 x.2.1 x.2.2, fun y => dV y, fun _ => [], fun _ _ => []⟩
theorem zq86_c {t i k y} (hm : zq86 t i k = some y) : zq86_M.C (t, i, k) y := zq86_M.c (t, i, k) hm
theorem zq86_ok : FnOK Tryz.prog tJ 110 zq86_M.S := by
 refine fm tt zq86_M [fo zq90_ok, fo zq82_ok] Tryz.call110 Tryz.func110 rfl Tryz.results110 Tryz.ntmps110 ?_
 rintro ⟨t, i, k⟩ y cx G hm
 have hm : zq86 t i k = some y := hm
 unfold zq86 at hm
 refine rg G ?_
 obtain ⟨e1, h3, hm⟩ := obind hm
 obtain ⟨r2, h4, hm⟩ := obind hm
 obtain ⟨r3, h5, hm⟩ := obind hm
 refine ds G [] (hD 3 h3 (hC 8 (zq90_c h4) (hC 10 (zq82_c h5) h0))) ?_
 cases hm
 exact rt [] []
noncomputable def zq87_M : MS (Timetable × Int) Int := ⟨.x .r .r, fun x => zq87 x.1 x.2, fun y => dV y, fun _ => [], fun _ _ => []⟩
theorem zq87_c {t i y} (hm : zq87 t i = some y) : zq87_M.C (t, i) y := zq87_M.c (t, i) hm
theorem zq87_ok : FnOK Tryz.prog tJ 80 zq87_M.S := by
 refine fm tt zq87_M [fo zq91_ok, fo zq86_ok] Tryz.call80 Tryz.func80 rfl Tryz.results80 Tryz.ntmps80 ?_
 rintro ⟨t, i⟩ y cx G hm
 have hm : zq87 t i = some y := hm
 unfold zq87 at hm
 refine rg G ?_
 obtain ⟨r2, h2, hm⟩ := obind hm
 obtain ⟨r3, h3, hm⟩ := obind hm
 refine ds G [] (hC 4 (zq91_c h2) (hN 5 r2 (hC 7 (zq86_c h3) h0))) ?_
 cases hm
 exact rt [] []
noncomputable def zq89_M : MS Timetable Bool := ⟨.r, zq89, fun y => dV y, fun _ => [], fun _ _ => []⟩
theorem zq89_c {t y} (hm : zq89 t = some y) : zq89_M.C t y := zq89_M.c t hm
theorem zq89_ok : FnOK Tryz.prog tJ 33 zq89_M.S := by
 refine fm tt zq89_M [fo zq75_ok, fo zq60_ok, fo zq84_ok, fo zq87_ok] Tryz.call33 Tryz.func33 rfl Tryz.results33 Tryz.ntmps33 ?_
 rintro t y cx G hm
 have hm : zq89 t = some y := hm
 unfold zq89 at hm
 refine rg G (Ok_seq ?_)
 obtain ⟨r, h, hm⟩ := obind hm
 refine jn hm (fun v => ⟨[(1, .ref 16 0), (14, dV v)], [bX 16 30 [dV t.Network.Stops, dV t.Network.Lines, dV t.Trips]], 48⟩) (fun v hm => ?_) ?_
 ·rcases bf hm with ⟨hb, hm⟩ | ⟨hb, hm⟩
  ·refine re G (hC 2 (zq75_c h) (hO 4 (.b true) (hP hb h0))) ?_
   exact wJ G hm
  ·refine re G (hC 2 (zq75_c h) (hO 4 (.b false) (hP hb (hN 7 t.Trips h0)))) ?_
   exact wJ G hm
 rintro v hm
 refine cd hm (fun hm => ?_) (fun hm => ?_)
 ·refine rg G ?_
  cases hm
  exact rt [] []
 ·refine X_skip (thN (Ok_seq (rg G (tF hm (fun _ => ⟨[], [], 32⟩) (fun v2 hr hm => ?_) ?_))))
  ·refine Ok_block (lp G hm (fun x => ⟨[(1, .ref 16 0), (3, dV x)], [bX 16 30 [dV t.Network.Stops, dV t.Network.Lines, dV t.Trips]], 48⟩) ?_)
   rintro x r0 hb1 hm
   rw [zq89_L1] at hm
   refine Ok_seq (rs G (hN 3 t.Trips h0) ?_)
   refine cd hm (fun hm => ?_) (fun hm => ?_)
   ·refine X_skip (thN (Ok_seq (Ok_block ?_)))
    obtain ⟨e, h1, hm⟩ := obind hm
    refine rs G (hD 3 h1 h0) ?_
    obtain ⟨r6, h8, hm⟩ := obind hm
    refine jn hm (fun v1 => ⟨[(1, .ref 16 0), (3, dV x), (70, dV v1)], [bX 16 30 [dV t.Network.Stops, dV t.Network.Lines, dV t.Trips]], 48⟩) (fun v1 hm => ?_) ?_
    ·rcases bf hm with ⟨hb2, hm⟩ | ⟨hb2, hm⟩
     ·refine de G [] (hC 2 (zq60_c h8) (hO 4 (.b true) (hP hb2 h0))) ?_
      exact wJ G hm
     ·obtain ⟨r7, h9, hm⟩ := obind hm
      rcases bf hm with ⟨hb3, hm⟩ | ⟨hb3, hm⟩
      ·refine de G [] (hC 2 (zq60_c h8) (hO 4 (.b false) (hP hb2 (hN 10 t.Network.Lines (hC 12 (zq60_c h9) (hO 15 (.b true) (hP hb3 h0))))))) ?_
       exact wJ G hm
      ·obtain ⟨r8, h10, hm⟩ := obind hm
       rcases bf hm with ⟨hb4, hm⟩ | ⟨hb4, hm⟩
       ·refine de G [] (hC 2 (zq60_c h8) (hO 4 (.b false) (hP hb2 (hN 10 t.Network.Lines (hC 12 (zq60_c h9) (hO 15 (.b false) (hP hb3 (hC 18 (zq84_c h10) (hO 21 (.b true) (hP hb4 h0)))))))))) ?_
        exact wJ G hm
       ·obtain ⟨r9, h11, hm⟩ := obind hm
        obtain ⟨r10, h12, hm⟩ := obind hm
        rcases bf hm with ⟨hb5, hm⟩ | ⟨hb5, hm⟩
        ·refine de G [] (hC 2 (zq60_c h8) (hO 4 (.b false) (hP hb2 (hN 10 t.Network.Lines (hC 12 (zq60_c h9) (hO 15 (.b false) (hP hb3 (hC 18 (zq84_c h10) (hO 21 (.b false) (hP hb4 (hC 24 (zq87_c h11) (hC 25 (zq84_c h12) (hO 28 (.b true) (hP hb5 h0)))))))))))))) ?_
         exact wJ G hm
        ·rcases bf hm with ⟨hb6, hm⟩ | ⟨hb6, hm⟩
         ·obtain ⟨e2, h13, hm⟩ := obind hm
          refine de G [] (hC 2 (zq60_c h8) (hO 4 (.b false) (hP hb2 (hN 10 t.Network.Lines (hC 12 (zq60_c h9) (hO 15 (.b false) (hP hb3 (hC 18 (zq84_c h10) (hO 21 (.b false) (hP hb4 (hC 24 (zq87_c h11) (hC 25 (zq84_c h12) (hO 28 (.b false) (hP hb5 (hO 31 (.b true) (hP hb6 (hD 36 h13 h0))))))))))))))))) ?_
          exact wJ G hm
         ·refine de G [] (hC 2 (zq60_c h8) (hO 4 (.b false) (hP hb2 (hN 10 t.Network.Lines (hC 12 (zq60_c h9) (hO 15 (.b false) (hP hb3 (hC 18 (zq84_c h10) (hO 21 (.b false) (hP hb4 (hC 24 (zq87_c h11) (hC 25 (zq84_c h12) (hO 28 (.b false) (hP hb5 (hO 31 (.b false) (hP hb6 h0)))))))))))))))) ?_
          exact wJ G hm
    rintro v1 hm
    refine cd hm (fun hm => ?_) (fun hm => ?_)
    ·refine rg G ?_
     have hm := eL hm hb1 hr
     cases hm
     exact rt [] []
    ·exact X_skip (ibN (thN (rh G (wL G hm))))
   ·exact Ok_exit (thE (thE (ibE (wE G hm hb1))))
  rintro ⟨⟩ hm s hw
  refine thN (Ok_weak hw ?_)
  refine rg G ?_
  cases hm
  exact rt [] []
noncomputable def zq57_M : MS (l1Cur × Timetable) (Int × l1Cur) := ⟨.x (.b 68) .r, fun x => zq57 x.1 x.2, fun y => dV y.1, fun _ => [], fun _ y => [bxO 68 y.2]⟩
theorem zq57_c {c t y} (hm : zq57 c t = some y) : zq57_M.C (c, t) y := zq57_M.c (c, t) hm
theorem zq57_ok : FnOK Tryz.prog tJ 46 zq57_M.S := by
 refine fm tt zq57_M [fo zq89_ok, fo zq55_ok, fo zq56_ok, fo zq91_ok] Tryz.call46 Tryz.func46 rfl Tryz.results46 Tryz.ntmps46 ?_
 rintro ⟨c, t⟩ y cx G hm
 have hm : zq57 c t = some y := hm
 unfold zq57 at hm
 refine rg G (Ok_seq (jn hm (fun (v, v1, v2, v3) => ⟨[(0, .ref 0 0), (3, .ref 32 0), (18, dV v)], [bX 0 68 [dV v1, dV v2, kV .u64 v3], bX 32 30 [dV t.Network.Stops, dV t.Network.Lines, dV t.Trips]], 64⟩) (fun vv hm => ?_) ?_))
 ·rcases bf hm with ⟨hb, hm⟩ | ⟨hb, hm⟩
  ·obtain ⟨r, h, hm⟩ := obind hm
   rcases bf hm with ⟨hb1, hm⟩ | ⟨hb1, hm⟩
   ·obtain ⟨r1, h1, hm⟩ := obind hm
    refine re G (hN 2 t.Trips (hO 4 (.b true) (hP hb (hC 6 (zq89_c h) (hO 8 (.b true) (hP hb1 (hC 10 (zq55_c h1) h0))))))) ?_
    exact wJ G hm
   ·refine re G (hN 2 t.Trips (hO 4 (.b true) (hP hb (hC 6 (zq89_c h) (hO 8 (.b false) (hP hb1 h0)))))) ?_
    exact wJ G hm
  ·refine re G (hN 2 t.Trips (hO 4 (.b false) (hP hb h0))) ?_
   exact wJ G hm
 rintro ⟨v, v1, v2, v3⟩ hm
 refine cd hm (fun hm => ?_) (fun hm => ?_)
 ·obtain ⟨r4, h4, hm⟩ := obind hm
  obtain ⟨r5, h5, hm⟩ := obind hm
  refine ds G [(5, [0])] (hN 4 t.Trips (hC 5 (zq56_c h4) (hC 6 (zq91_c h5) h0))) ?_
  obtain ⟨r6, h6, hm⟩ := obind hm
  obtain ⟨e, h7, hm⟩ := obind hm
  refine rs G (hN 3 r5 (hC 4 (zq56_c h6) (hD 5 h7 h0))) ?_
  cases hm
  exact rt [] []
 ·refine X_skip (thN ?_)
  obtain ⟨r7, h8, hm⟩ := obind hm
  obtain ⟨r8, h9, hm⟩ := obind hm
  obtain ⟨u, h10, hm⟩ := obind hm
  refine rs G (hN 4 t.Network.Stops (hC 6 (zq56_c h8) (hC 8 (zq56_c h9) (hK h10 h0)))) ?_
  cases hm
  exact rt [] []
noncomputable def zq58_M : MS l1Cur (Int × l1Cur) := ⟨.b 68, zq58, fun y => dV y.1, fun _ => [], fun _ y => [bxO 68 y.2]⟩
theorem zq58_c {c y} (hm : zq58 c = some y) : zq58_M.C c y := zq58_M.c c hm
theorem zq58_ok : FnOK Tryz.prog tJ 95 zq58_M.S := by
 refine fm tt zq58_M [fo zq55_ok, fo zq42_ok, fo zq56_ok] Tryz.call95 Tryz.func95 rfl Tryz.results95 Tryz.ntmps95 ?_
 rintro c y cx G hm
 have hm : zq58 c = some y := hm
 unfold zq58 at hm
 refine rg G (Ok_seq ?_)
 obtain ⟨r, h, hm⟩ := obind hm
 refine rs G (hC 1 (zq55_c h) h0) ?_
 refine cd hm (fun hm => ?_) (fun hm => ?_)
 ·obtain ⟨r1, h1, hm⟩ := obind hm
  refine rs G (hO 2 (.fz [80] [] []) (hC 2 (zq42_c h1) h0)) ?_
  cases hm
  exact rt [] []
 ·refine X_skip (thN ?_)
  obtain ⟨r2, h2, hm⟩ := obind hm
  refine rs G (hC 1 (zq56_c h2) h0) ?_
  cases hm
  exact rt [] []
noncomputable def zq52_M : MS (l1Cur × Timetable) (Int × l1Cur) := ⟨.x (.b 68) .r, fun x => zq52 x.1 x.2, fun y => dV y.1, fun _ => [], fun _ y => [bxO 68 y.2]⟩
theorem zq52_c {c t y} (hm : zq52 c t = some y) : zq52_M.C (c, t) y := zq52_M.c (c, t) hm
theorem zq52_ok : FnOK Tryz.prog tJ 47 zq52_M.S := by
 refine fm tt zq52_M [fo zq55_ok, fo zq56_ok, fo zq58_ok] Tryz.call47 Tryz.func47 rfl Tryz.results47 Tryz.ntmps47 ?_
 rintro ⟨c, t⟩ y cx G hm
 have hm : zq52 c t = some y := hm
 unfold zq52 at hm
 refine rg G (Ok_seq (jn hm (fun (v, v1, v2, v3) => ⟨[(0, .ref 0 0), (3, .ref 32 0), (13, dV v)], [bX 0 68 [dV v1, dV v2, kV .u64 v3], bX 32 30 [dV t.Network.Stops, dV t.Network.Lines, dV t.Trips]], 64⟩) (fun vv hm => ?_) ?_))
 ·rcases bf hm with ⟨hb, hm⟩ | ⟨hb, hm⟩
  ·obtain ⟨r, h, hm⟩ := obind hm
   refine re G (hN 2 t.Trips (hO 4 (.b true) (hP hb (hC 6 (zq55_c h) h0)))) ?_
   exact wJ G hm
  ·refine re G (hN 2 t.Trips (hO 4 (.b false) (hP hb h0))) ?_
   exact wJ G hm
 rintro ⟨v, v1, v2, v3⟩ hm
 refine cd hm (fun hm => ?_) (fun hm => ?_)
 ·obtain ⟨r3, h4, hm⟩ := obind hm
  obtain ⟨e1, h5, hm⟩ := obind hm
  obtain ⟨r4, h6, hm⟩ := obind hm
  refine ds G [(6, [0]), (11, [0])] (hN 5 t.Trips (hC 6 (zq56_c h4) (hD 7 h5 (hC 11 (zq56_c h6) h0)))) ?_
  cases hm
  exact rt [] []
 ·refine X_skip (thN ?_)
  obtain ⟨r5, h7, hm⟩ := obind hm
  refine rs G (hC 1 (zq58_c h7) h0) ?_
  cases hm
  exact rt [] []
noncomputable def zq38_M : MS ((List UInt8)) (Timetable × (List TripDelay) × Int × Int × Int) := ⟨.r, zq38, fun y => .tup [dV y.1, .own 0, dV y.2.2.1, dV y.2.2.2.1, dV y.2.2.2.2], fun y => [arO 125 y.2.1], fun _ _ => []⟩
theorem zq38_c {code y} (hm : zq38 code = some y) : zq38_M.C code y := zq38_M.c code hm
theorem zq38_ok : FnOK Tryz.prog tJ 18 zq38_M.S := by
 refine fm tt zq38_M [fo zq45_ok, fo zq46_ok, fo zq57_ok, fo zq52_ok, fo zq56_ok, fo zq43_ok] Tryz.call18 Tryz.func18 rfl Tryz.results18 Tryz.ntmps18 ?_
 rintro code y cx G hm
 have hm : zq38 code = some y := hm
 unfold zq38 at hm
 refine rg G (rg G ?_)
 obtain ⟨r, h, hm⟩ := obind hm
 refine rs G (hC 1 (zq45_c h) h0) ?_
 obtain ⟨r1, h1, hm⟩ := obind hm
 refine rs G (hO 2 (.fz [176, 177] [] []) (hC 2 (zq46_c h1) h0)) ?_
 obtain ⟨r2, h2, hm⟩ := obind hm
 refine rs G (hC 2 (zq57_c h2) h0) ?_
 obtain ⟨r3, h3, hm⟩ := obind hm
 refine rs G (hC 2 (zq52_c h3) h0) ?_
 obtain ⟨r6, h8, hm⟩ := obind hm
 obtain ⟨u2, h9, hm⟩ := obind hm
 obtain ⟨u3, h10, hm⟩ := obind hm
 obtain ⟨r7, h11, hm⟩ := obind hm
 refine ds G [(7, [128]), (10, [496]), (11, [128, 576]), (12, [16])] (hC 7 (zq56_c h8) (hK h9 (hU 10 h10 (hC 11 (zq43_c h11) h0)))) ?_
 cases hm
 exact rt [256] []
noncomputable def zq36_M : MS (Int × Int × Int) Bool := ⟨.x .r (.x .r .r), fun x => zq36 x.1 x.2.1 x.2.2, fun y => dV y, fun _ => [], fun _ _ => []⟩
theorem zq36_c {n lo hi y} (hm : zq36 n lo hi = some y) : zq36_M.C (n, lo, hi) y := zq36_M.c (n, lo, hi) hm
theorem zq36_ok : FnOK Tryz.prog tJ 51 zq36_M.S := by
 refine fm tt zq36_M [] Tryz.call51 Tryz.func51 rfl Tryz.results51 Tryz.ntmps51 ?_
 rintro ⟨n, lo, hi⟩ y cx G hm
 have hm : zq36 n lo hi = some y := hm
 unfold zq36 at hm
 refine rg G (jn hm (fun v => ⟨[(6, dV v)], [], 32⟩) (fun v hm => ?_) ?_)
 ·rcases bf hm with ⟨hb, hm⟩ | ⟨hb, hm⟩
  ·refine re G (hO 3 (.b true) (hP hb h0)) ?_
   exact wJ G hm
  ·refine re G (hO 3 (.b false) (hP hb h0)) ?_
   exact wJ G hm
 rintro v hm
 cases hm
 exact rt [] []
noncomputable def zq24_M : MS ByteArray Bool := ⟨.r, zq24, fun y => dV y, fun _ => [], fun _ _ => []⟩
theorem zq24_c {s y} (hm : zq24 s = some y) : zq24_M.C s y := zq24_M.c s hm
theorem zq24_ok : FnOK Tryz.prog tJ 60 zq24_M.S := by
 refine fm tt zq24_M [] Tryz.call60 Tryz.func60 rfl Tryz.results60 Tryz.ntmps60 ?_
 rintro s y cx G hm
 have hm : zq24 s = some y := hm
 unfold zq24 at hm
 refine rg G (Ok_seq (jn hm (fun v => ⟨[(0, dV s), (12, dV v)], [], 32⟩) (fun v hm => ?_) ?_))
 ·rcases bf hm with ⟨hb, hm⟩ | ⟨hb, hm⟩
  ·refine re G (hO 3 (.b true) (hP hb h0)) ?_
   exact wJ G hm
  ·refine re G (hO 3 (.b false) (hP hb h0)) ?_
   exact wJ G hm
 rintro v hm
 refine cd hm (fun hm => ?_) (fun hm => ?_)
 ·refine rg G ?_
  cases hm
  exact rt [] []
 ·refine X_skip (thN (Ok_seq (rg G (tF hm (fun _ => ⟨[], [], 32⟩) (fun v4 hr hm => ?_) ?_))))
  ·refine Ok_block (lp G hm (fun v1 => ⟨[(0, dV s), (14, dV (s.size : Int)), (15, dV v1)], [], 32⟩) ?_)
   rintro v1 r0 hb1 hm
   rw [zq24_L1] at hm
   refine rg G (Ok_seq (cd hm (fun hm => ?_) (fun hm => ?_)))
   ·refine X_skip (thN (Ok_seq (Ok_block (rg G ?_))))
    obtain ⟨u, h, hm⟩ := obind hm
    refine jn hm (fun v2 => ⟨[(0, dV s), (3, dV v1), (4, dV v2), (14, dV (s.size : Int)), (15, dV v1)], [], 32⟩) (fun v2 hm => ?_) ?_
    ·rcases bf hm with ⟨hb2, hm⟩ | ⟨hb2, hm⟩
     ·obtain ⟨u1, h1, hm⟩ := obind hm
      refine re G (hK h (hO 4 (.b true) (hP hb2 (hK h1 h0)))) ?_
      exact wJ G hm
     ·refine re G (hK h (hO 4 (.b false) (hP hb2 h0))) ?_
      exact wJ G hm
    rintro v2 hm
    refine jn hm (fun v3 => ⟨[(0, dV s), (14, dV (s.size : Int)), (15, dV v1), (45, dV v3)], [], 32⟩) (fun v3 hm => ?_) ?_
    ·rcases bf hm with ⟨hb3, hm⟩ | ⟨hb3, hm⟩
     ·rcases bf hm with ⟨hb4, hm⟩ | ⟨hb4, hm⟩
      ·refine re G (hO 2 (.b true) (hP hb3 (hO 5 (.b true) (hP hb4 h0)))) ?_
       exact wJ G hm
      ·obtain ⟨u2, h2, hm⟩ := obind hm
       rcases bf hm with ⟨hb5, hm⟩ | ⟨hb5, hm⟩
       ·refine re G (hO 2 (.b true) (hP hb3 (hO 5 (.b false) (hP hb4 (hK h2 (hO 11 (.b true) (hP hb5 h0))))))) ?_
        exact wJ G hm
       ·obtain ⟨u3, h3, hm⟩ := obind hm
        refine re G (hO 2 (.b true) (hP hb3 (hO 5 (.b false) (hP hb4 (hK h2 (hO 11 (.b false) (hP hb5 (hK h3 h0)))))))) ?_
        exact wJ G hm
     ·refine re G (hO 2 (.b false) (hP hb3 h0)) ?_
      exact wJ G hm
    rintro v3 hm
    refine cd hm (fun hm => ?_) (fun hm => ?_)
    ·refine rg G ?_
     have hm := eL hm hb1 hr
     cases hm
     exact rt [] []
    ·exact X_skip (ibN (thN (rh G (wL G hm))))
   ·exact Ok_exit (thE (thE (ibE (wE G hm hb1))))
  rintro ⟨⟩ hm s1 hw
  refine thN (Ok_weak hw ?_)
  refine rg G ?_
  cases hm
  exact rt [] []
noncomputable def zq95_M : MS ((List ByteArray) × ByteArray) Int := ⟨.x .r .r, fun x => zq95 x.1 x.2, fun y => dV y, fun _ => [], fun _ _ => []⟩
theorem zq95_c {s v y} (hm : zq95 s v = some y) : zq95_M.C (s, v) y := zq95_M.c (s, v) hm
theorem zq95_ok : FnOK Tryz.prog tJ 120 zq95_M.S := by
 refine fm tt zq95_M [] Tryz.call120 Tryz.func120 rfl Tryz.results120 Tryz.ntmps120 ?_
 rintro ⟨s, v⟩ y cx G hm
 have hm : zq95 s v = some y := hm
 unfold zq95 at hm
 refine rg G (Ok_seq (rs G (hN 1 s h0) ?_))
 refine tF hm (fun _ => ⟨[], [], 32⟩) (fun v2 hr hm => ?_) ?_
 ·refine Ok_block (lp G hm (fun v1 => ⟨[(0, dV s), (1, dV v), (7, dV (s.length : Int)), (8, dV v1)], [], 32⟩) ?_)
  rintro v1 r0 hb hm
  rw [zq95_L1] at hm
  refine rg G (Ok_seq (cd hm (fun hm => ?_) (fun hm => ?_)))
  ·refine X_skip (thN (Ok_seq (Ok_block (rg G ?_))))
   obtain ⟨e, h, hm⟩ := obind hm
   refine rs G (hD 3 h h0) ?_
   refine cd hm (fun hm => ?_) (fun hm => ?_)
   ·refine rg G ?_
    have hm := eL hm hb hr
    cases hm
    exact rt [] []
   ·exact X_skip (ibN (thN (rh G (wL G hm))))
  ·exact Ok_exit (thE (thE (ibE (wE G hm hb))))
 rintro ⟨⟩ hm s1 hw
 refine thN (Ok_weak hw ?_)
 refine rg G ?_
 cases hm
 exact rt [] []
noncomputable def zq11_M : MS ((List ByteArray)) Bool := ⟨.r, zq11, fun y => dV y, fun _ => [], fun _ _ => []⟩
theorem zq11_c {names y} (hm : zq11 names = some y) : zq11_M.C names y := zq11_M.c names hm
theorem zq11_ok : FnOK Tryz.prog tJ 87 zq11_M.S := by
 refine fm tt zq11_M [fo zq24_ok, fo zq95_ok] Tryz.call87 Tryz.func87 rfl Tryz.results87 Tryz.ntmps87 ?_
 rintro names y cx G hm
 have hm : zq11 names = some y := hm
 unfold zq11 at hm
 refine rg G (Ok_seq (rs G (hN 1 names h0) ?_))
 refine tF hm (fun _ => ⟨[], [], 32⟩) (fun v2 hr hm => ?_) ?_
 ·refine Ok_block (lp G hm (fun v => ⟨[(0, dV names), (5, dV names), (6, dV (names.length : Int)), (7, dV v)], [], 32⟩) ?_)
  rintro v r0 hb hm
  rw [zq11_L1] at hm
  refine rg G (Ok_seq (cd hm (fun hm => ?_) (fun hm => ?_)))
  ·refine X_skip (thN (Ok_seq (Ok_block ?_)))
   obtain ⟨e, h, hm⟩ := obind hm
   refine rs G (hD 1 h h0) ?_
   obtain ⟨r, h1, hm⟩ := obind hm
   refine jn hm (fun v1 => ⟨[(0, dV names), (5, dV names), (6, dV (names.length : Int)), (7, dV v), (21, dV v1)], [], 32⟩) (fun v1 hm => ?_) ?_
   ·rcases bf hm with ⟨hb1, hm⟩ | ⟨hb1, hm⟩
    ·refine re G (hC 1 (zq24_c h1) (hO 3 (.b true) (hP hb1 h0))) ?_
     exact wJ G hm
    ·obtain ⟨r1, h2, hm⟩ := obind hm
     refine re G (hC 1 (zq24_c h1) (hO 3 (.b false) (hP hb1 (hC 6 (zq95_c h2) h0)))) ?_
     exact wJ G hm
   rintro v1 hm
   refine cd hm (fun hm => ?_) (fun hm => ?_)
   ·refine rg G ?_
    have hm := eL hm hb hr
    cases hm
    exact rt [] []
   ·exact X_skip (ibN (thN (rh G (wL G hm))))
  ·exact Ok_exit (thE (thE (ibE (wE G hm hb))))
 rintro ⟨⟩ hm s hw
 refine thN (Ok_weak hw ?_)
 refine rg G ?_
 cases hm
 exact rt [] []
noncomputable def zq28_M : MS Network ((List ByteArray)) := ⟨.r, zq28, fun _ => .own 0, fun y => [arO 9 y], fun _ _ => []⟩
theorem zq28_c {n y} (hm : zq28 n = some y) : zq28_M.C n y := zq28_M.c n hm
theorem zq28_ok : FnOK Tryz.prog tJ 88 zq28_M.S := by
 refine fm tt zq28_M [] Tryz.call88 Tryz.func88 rfl Tryz.results88 Tryz.ntmps88 ?_
 rintro n y cx G hm
 have hm : zq28 n = some y := hm
 unfold zq28 at hm
 refine rg G ?_
 obtain ⟨u, h, hm⟩ := obind hm
 refine rs G (hN 2 n.Lines (hO 3 (.l (List.map Enc.e (List.replicate (n.Lines.length : Int).toNat (ByteArray.empty : ByteArray)))) (hP (mk_p (b := 16) (chk_t h) rfl) (hP (rep_m Enc.e (n.Lines.length : Int).toNat (ByteArray.empty : ByteArray)) h0)))) ?_
 refine Ok_seq (rs G (hN 2 n.Lines h0) ?_)
 refine tl hm (fun i1 => ⟨[(3, .own 16)], [aX 16 9 i1], 48⟩) (fun i1 hm => ?_) ?_
 ·refine Ok_block (lp G hm (fun (v, i) => ⟨[(3, .own 16), (11, dV n.Lines), (12, dV (n.Lines.length : Int)), (13, dV v)], [aX 16 9 i], 48⟩) ?_)
  rintro ⟨v, i⟩ r0 hb hm
  rw [zq28_L1] at hm
  refine rg G (Ok_seq (cd hm (fun hm => ?_) (fun hm => ?_)))
  ·refine X_skip (thN (Ok_seq (Ok_block ?_)))
   obtain ⟨e, h1, hm⟩ := obind hm
   refine rs G (hD 1 h1 h0) ?_
   obtain ⟨e1, h2, hm⟩ := obind hm
   refine re G (hD 4 h2 (hS 5 h2 e.Name h0)) ?_
   exact ibN (thN (rh G (wL G hm)))
  ·exact Ok_exit (thE (thE (ibE (wD G hm hb))))
 rintro i1 hm s hw
 refine thN (Ok_weak hw ?_)
 refine rg G ?_
 cases hm
 exact rt [16] []
noncomputable def zq25_M : MS (Network × Int) Bool := ⟨.x .r .r, fun x => zq25 x.1 x.2, fun y => dV y, fun _ => [], fun _ _ => []⟩
theorem zq25_c {n stop y} (hm : zq25 n stop = some y) : zq25_M.C (n, stop) y := zq25_M.c (n, stop) hm
theorem zq25_ok : FnOK Tryz.prog tJ 97 zq25_M.S := by
 refine fm tt zq25_M [] Tryz.call97 Tryz.func97 rfl Tryz.results97 Tryz.ntmps97 ?_
 rintro ⟨n, stop⟩ y cx G hm
 have hm : zq25 n stop = some y := hm
 unfold zq25 at hm
 refine rg G (jn hm (fun v => ⟨[(4, dV v)], [], 32⟩) (fun v hm => ?_) ?_)
 ·rcases bf hm with ⟨hb, hm⟩ | ⟨hb, hm⟩
  ·refine re G (hO 2 (.b true) (hP hb (hN 6 n.Stops h0))) ?_
   exact wJ G hm
  ·refine re G (hO 2 (.b false) (hP hb h0)) ?_
   exact wJ G hm
 rintro v hm
 cases hm
 exact rt [] []
noncomputable def zq94_M : MS ((List Int) × Int) Int := ⟨.x .r .r, fun x => zq94 x.1 x.2, fun y => dV y, fun _ => [], fun _ _ => []⟩
theorem zq94_c {s v y} (hm : zq94 s v = some y) : zq94_M.C (s, v) y := zq94_M.c (s, v) hm
theorem zq94_ok : FnOK Tryz.prog tJ 107 zq94_M.S := by
 refine fm tt zq94_M [] Tryz.call107 Tryz.func107 rfl Tryz.results107 Tryz.ntmps107 ?_
 rintro ⟨s, v⟩ y cx G hm
 have hm : zq94 s v = some y := hm
 unfold zq94 at hm
 refine rg G (Ok_seq (rs G (hN 1 s h0) ?_))
 refine tF hm (fun _ => ⟨[], [], 32⟩) (fun v2 hr hm => ?_) ?_
 ·refine Ok_block (lp G hm (fun v1 => ⟨[(0, dV s), (1, dV v), (7, dV (s.length : Int)), (8, dV v1)], [], 32⟩) ?_)
  rintro v1 r0 hb hm
  rw [zq94_L1] at hm
  refine rg G (Ok_seq (cd hm (fun hm => ?_) (fun hm => ?_)))
  ·refine X_skip (thN (Ok_seq (Ok_block (rg G ?_))))
   obtain ⟨e, h, hm⟩ := obind hm
   refine rs G (hD 3 h h0) ?_
   refine cd hm (fun hm => ?_) (fun hm => ?_)
   ·refine rg G ?_
    have hm := eL hm hb hr
    cases hm
    exact rt [] []
   ·exact X_skip (ibN (thN (rh G (wL G hm))))
  ·exact Ok_exit (thE (thE (ibE (wE G hm hb))))
 rintro ⟨⟩ hm s1 hw
 refine thN (Ok_weak hw ?_)
 refine rg G ?_
 cases hm
 exact rt [] []
noncomputable def zq26_M : MS (Network × Line) Bool := ⟨.x .r .r, fun x => zq26 x.1 x.2, fun y => dV y, fun _ => [], fun _ _ => []⟩
theorem zq26_c {n l y} (hm : zq26 n l = some y) : zq26_M.C (n, l) y := zq26_M.c (n, l) hm
theorem zq26_ok : FnOK Tryz.prog tJ 89 zq26_M.S := by
 refine fm tt zq26_M [fo zq36_ok, fo zq25_ok, fo zq94_ok] Tryz.call89 Tryz.func89 rfl Tryz.results89 Tryz.ntmps89 ?_
 rintro ⟨n, l⟩ y cx G hm
 have hm : zq26 n l = some y := hm
 unfold zq26 at hm
 refine rg G (Ok_seq ?_)
 obtain ⟨r, h, hm⟩ := obind hm
 refine jn hm (fun v => ⟨[(2, .ref 16 0), (3, .ref 32 0), (23, dV v)], [bX 16 27 [dV n.Stops, dV n.Lines], bX 32 75 [dV l.Name, dV l.Stops, dV l.Runs]], 64⟩) (fun v hm => ?_) ?_
 ·rcases bf hm with ⟨hb, hm⟩ | ⟨hb, hm⟩
  ·refine re G (hN 2 l.Stops (hC 3 (zq36_c h) (hO 5 (.b true) (hP hb h0)))) ?_
   exact wJ G hm
  ·refine re G (hN 2 l.Stops (hC 3 (zq36_c h) (hO 5 (.b false) (hP hb (hN 8 l.Runs (hN 11 l.Stops h0)))))) ?_
   exact wJ G hm
 rintro v hm
 refine cd hm (fun hm => ?_) (fun hm => ?_)
 ·refine rg G ?_
  cases hm
  exact rt [] []
 ·refine X_skip (thN (Ok_seq (rs G (hN 2 l.Stops h0) ?_)))
  refine tF hm (fun _ => ⟨[(3, .ref 16 0)], [bX 16 75 [dV l.Name, dV l.Stops, dV l.Runs]], 48⟩) (fun v5 hr hm => ?_) ?_
  ·refine Ok_block (lp G hm (fun v1 => ⟨[(2, .ref 16 0), (3, .ref 32 0), (25, dV l.Stops), (26, dV (l.Stops.length : Int)), (27, dV v1)], [bX 16 27 [dV n.Stops, dV n.Lines], bX 32 75 [dV l.Name, dV l.Stops, dV l.Runs]], 64⟩) ?_)
   rintro v1 r0 hb1 hm
   rw [zq26_L1] at hm
   refine rg G (Ok_seq (cd hm (fun hm => ?_) (fun hm => ?_)))
   ·refine X_skip (thN (Ok_seq (Ok_block ?_)))
    obtain ⟨e, h1, hm⟩ := obind hm
    refine rs G (hD 1 h1 h0) ?_
    obtain ⟨r1, h2, hm⟩ := obind hm
    refine jn hm (fun v2 => ⟨[(2, .ref 16 0), (3, .ref 32 0), (25, dV l.Stops), (26, dV (l.Stops.length : Int)), (27, dV v1), (43, dV v2)], [bX 16 27 [dV n.Stops, dV n.Lines], bX 32 75 [dV l.Name, dV l.Stops, dV l.Runs]], 64⟩) (fun v2 hm => ?_) ?_
    ·rcases bf hm with ⟨hb2, hm⟩ | ⟨hb2, hm⟩
     ·refine re G (hC 2 (zq25_c h2) (hO 4 (.b true) (hP hb2 h0))) ?_
      exact wJ G hm
     ·obtain ⟨r2, h3, hm⟩ := obind hm
      refine re G (hC 2 (zq25_c h2) (hO 4 (.b false) (hP hb2 (hC 8 (zq94_c h3) h0)))) ?_
      exact wJ G hm
    rintro v2 hm
    refine cd hm (fun hm => ?_) (fun hm => ?_)
    ·refine rg G ?_
     have hm := eL hm hb1 hr
     cases hm
     exact rt [] []
    ·exact X_skip (ibN (thN (rh G (wL G hm))))
   ·exact Ok_exit (thE (thE (ibE (wE G hm hb1))))
  rintro ⟨⟩ hm s hw
  refine thN (Ok_weak hw ?_)
  refine Ok_seq (rs G (hN 2 l.Runs h0) ?_)
  refine tF hm (fun _ => ⟨[], [], 32⟩) (fun v4 hr1 hm => ?_) ?_
  ·refine Ok_block (lp G hm (fun v3 => ⟨[(46, dV l.Runs), (47, dV (l.Runs.length : Int)), (48, dV v3)], [], 32⟩) ?_)
   rintro v3 r0 hb3 hm
   rw [zq26_L2] at hm
   refine rg G (Ok_seq (cd hm (fun hm => ?_) (fun hm => ?_)))
   ·refine X_skip (thN (Ok_seq (Ok_block ?_)))
    obtain ⟨e2, h4, hm⟩ := obind hm
    refine rs G (hD 0 h4 h0) ?_
    obtain ⟨r4, h5, hm⟩ := obind hm
    refine rs G (hC 1 (zq36_c h5) h0) ?_
    refine cd hm (fun hm => ?_) (fun hm => ?_)
    ·refine rg G ?_
     have hm := eL hm hb3 hr1
     cases hm
     exact rt [] []
    ·exact X_skip (ibN (thN (rh G (wL G hm))))
   ·exact Ok_exit (thE (thE (ibE (wE G hm hb3))))
  rintro ⟨⟩ hm s1 hw1
  refine thN (Ok_weak hw1 ?_)
  refine rg G ?_
  cases hm
  exact rt [] []
noncomputable def zq5_M : MS Network Bool := ⟨.r, zq5, fun y => dV y, fun _ => [], fun _ _ => []⟩
theorem zq5_c {n y} (hm : zq5 n = some y) : zq5_M.C n y := zq5_M.c n hm
theorem zq5_ok : FnOK Tryz.prog tJ 39 zq5_M.S := by
 refine fm tt zq5_M [fo zq36_ok, fo zq11_ok, fo zq28_ok, fo zq26_ok] Tryz.call39 Tryz.func39 rfl Tryz.results39 Tryz.ntmps39 ?_
 rintro n y cx G hm
 have hm : zq5 n = some y := hm
 unfold zq5 at hm
 refine rg G (Ok_seq ?_)
 obtain ⟨r, h, hm⟩ := obind hm
 refine jn hm (fun v => ⟨[(1, .ref 16 0), (28, dV v)], [bX 16 27 [dV n.Stops, dV n.Lines]], 48⟩) (fun v hm => ?_) ?_
 ·rcases bf hm with ⟨hb, hm⟩ | ⟨hb, hm⟩
  ·refine re G (hN 2 n.Stops (hC 3 (zq36_c h) (hO 5 (.b true) (hP hb h0)))) ?_
   exact wJ G hm
  ·obtain ⟨r1, h1, hm⟩ := obind hm
   rcases bf hm with ⟨hb1, hm⟩ | ⟨hb1, hm⟩
   ·refine re G (hN 2 n.Stops (hC 3 (zq36_c h) (hO 5 (.b false) (hP hb (hN 8 n.Lines (hC 9 (zq36_c h1) (hO 12 (.b true) (hP hb1 h0)))))))) ?_
    exact wJ G hm
   ·obtain ⟨r2, h2, hm⟩ := obind hm
    rcases bf hm with ⟨hb2, hm⟩ | ⟨hb2, hm⟩
    ·refine re G (hN 2 n.Stops (hC 3 (zq36_c h) (hO 5 (.b false) (hP hb (hN 8 n.Lines (hC 9 (zq36_c h1) (hO 12 (.b false) (hP hb1 (hC 15 (zq11_c h2) (hO 18 (.b true) (hP hb2 h0))))))))))) ?_
     exact wJ G hm
    ·obtain ⟨r3, h3, hm⟩ := obind hm
     obtain ⟨r4, h4, hm⟩ := obind hm
     refine re G (hN 2 n.Stops (hC 3 (zq36_c h) (hO 5 (.b false) (hP hb (hN 8 n.Lines (hC 9 (zq36_c h1) (hO 12 (.b false) (hP hb1 (hC 15 (zq11_c h2) (hO 18 (.b false) (hP hb2 (hC 20 (zq28_c h3) (hC 21 (zq11_c h4) h0))))))))))))) ?_
     exact wJ G hm
 rintro v hm
 refine cd hm (fun hm => ?_) (fun hm => ?_)
 ·refine rg G ?_
  cases hm
  exact rt [] []
 ·refine X_skip (thN (Ok_seq (rs G (hN 2 n.Lines h0) ?_)))
  refine tF hm (fun _ => ⟨[], [], 32⟩) (fun v2 hr hm => ?_) ?_
  ·refine Ok_block (lp G hm (fun v1 => ⟨[(1, .ref 16 0), (30, dV n.Lines), (31, dV (n.Lines.length : Int)), (32, dV v1)], [bX 16 27 [dV n.Stops, dV n.Lines]], 48⟩) ?_)
   rintro v1 r0 hb3 hm
   rw [zq5_L1] at hm
   refine rg G (Ok_seq (cd hm (fun hm => ?_) (fun hm => ?_)))
   ·refine X_skip (thN (Ok_seq (Ok_block ?_)))
    obtain ⟨e, h5, hm⟩ := obind hm
    refine rs G (hD 0 h5 h0) ?_
    obtain ⟨r5, h6, hm⟩ := obind hm
    refine rs G (hC 2 (zq26_c h6) h0) ?_
    refine cd hm (fun hm => ?_) (fun hm => ?_)
    ·refine rg G ?_
     have hm := eL hm hb3 hr
     cases hm
     exact rt [] []
    ·exact X_skip (ibN (thN (rh G (wL G hm))))
   ·exact Ok_exit (thE (thE (ibE (wE G hm hb3))))
  rintro ⟨⟩ hm s hw
  refine thN (Ok_weak hw ?_)
  refine rg G ?_
  cases hm
  exact rt [] []
noncomputable def zq23_M : MS (Network × Int) Bool := ⟨.x .r .r, fun x => zq23 x.1 x.2, fun y => dV y, fun _ => [], fun _ _ => []⟩
theorem zq23_c {n line y} (hm : zq23 n line = some y) : zq23_M.C (n, line) y := zq23_M.c (n, line) hm
theorem zq23_ok : FnOK Tryz.prog tJ 112 zq23_M.S := by
 refine fm tt zq23_M [] Tryz.call112 Tryz.func112 rfl Tryz.results112 Tryz.ntmps112 ?_
 rintro ⟨n, line⟩ y cx G hm
 have hm : zq23 n line = some y := hm
 unfold zq23 at hm
 refine rg G (jn hm (fun v => ⟨[(4, dV v)], [], 32⟩) (fun v hm => ?_) ?_)
 ·rcases bf hm with ⟨hb, hm⟩ | ⟨hb, hm⟩
  ·refine re G (hO 2 (.b true) (hP hb (hN 6 n.Lines h0))) ?_
   exact wJ G hm
  ·refine re G (hO 2 (.b false) (hP hb h0)) ?_
   exact wJ G hm
 rintro v hm
 cases hm
 exact rt [] []
noncomputable def zq6_M : MS Int Bool := ⟨.r, zq6, fun y => dV y, fun _ => [], fun _ _ => []⟩
theorem zq6_c {t y} (hm : zq6 t = some y) : zq6_M.C t y := zq6_M.c t hm
theorem zq6_ok : FnOK Tryz.prog tJ 59 zq6_M.S := by
 refine fm tt zq6_M [fo zq36_ok] Tryz.call59 Tryz.func59 rfl Tryz.results59 Tryz.ntmps59 ?_
 rintro t y cx G hm
 have hm : zq6 t = some y := hm
 unfold zq6 at hm
 refine rg G ?_
 obtain ⟨r, h, hm⟩ := obind hm
 refine rs G (hC 1 (zq36_c h) h0) ?_
 cases hm
 exact rt [] []
noncomputable def zq33_M : MS ((List Int)) Int := ⟨.r, zq33, fun y => dV y, fun _ => [], fun _ _ => []⟩
theorem zq33_c {list y} (hm : zq33 list = some y) : zq33_M.C list y := zq33_M.c list hm
theorem zq33_ok : FnOK Tryz.prog tJ 133 zq33_M.S := by
 refine fm tt zq33_M [] Tryz.call133 Tryz.func133 rfl Tryz.results133 Tryz.ntmps133 ?_
 rintro list y cx G hm
 have hm : zq33 list = some y := hm
 unfold zq33 at hm
 refine rg G (rg G (Ok_seq (rs G (hN 1 list h0) ?_)))
 refine tl hm (fun v2 => ⟨[(3, dV v2)], [], 32⟩) (fun v2 hm => ?_) ?_
 ·refine Ok_block (lp G hm (fun (v, v1) => ⟨[(3, dV v), (6, dV list), (7, dV (list.length : Int)), (8, dV v1)], [], 32⟩) ?_)
  rintro ⟨v, v1⟩ r0 hb hm
  rw [zq33_L1] at hm
  refine rg G (Ok_seq (cd hm (fun hm => ?_) (fun hm => ?_)))
  ·refine X_skip (thN (Ok_seq (Ok_block ?_)))
   obtain ⟨e, h, hm⟩ := obind hm
   refine rs G (hD 0 h h0) ?_
   exact rh G (ibN (thN (rh G (wL G hm))))
  ·exact Ok_exit (thE (thE (ibE (wD G hm hb))))
 rintro v2 hm s hw
 refine thN (Ok_weak hw ?_)
 refine rg G ?_
 cases hm
 exact rt [] []
noncomputable def zq21_M : MS (Timetable × Trip) Int := ⟨.x .r .r, fun x => zq21 x.1 x.2, fun y => dV y, fun _ => [], fun _ _ => []⟩
theorem zq21_c {t x y} (hm : zq21 t x = some y) : zq21_M.C (t, x) y := zq21_M.c (t, x) hm
theorem zq21_ok : FnOK Tryz.prog tJ 113 zq21_M.S := by
 refine fm tt zq21_M [fo zq33_ok] Tryz.call113 Tryz.func113 rfl Tryz.results113 Tryz.ntmps113 ?_
 rintro ⟨t, x⟩ y cx G hm
 have hm : zq21 t x = some y := hm
 unfold zq21 at hm
 refine rg G ?_
 obtain ⟨e1, h2, hm⟩ := obind hm
 obtain ⟨r1, h3, hm⟩ := obind hm
 refine ds G [] (hD 7 h2 (hC 10 (zq33_c h3) h0)) ?_
 cases hm
 exact rt [] []
noncomputable def zq13_M : MS Timetable Bool := ⟨.r, zq13, fun y => dV y, fun _ => [], fun _ _ => []⟩
theorem zq13_c {t y} (hm : zq13 t = some y) : zq13_M.C t y := zq13_M.c t hm
theorem zq13_ok : FnOK Tryz.prog tJ 69 zq13_M.S := by
 refine fm tt zq13_M [fo zq23_ok, fo zq6_ok, fo zq21_ok] Tryz.call69 Tryz.func69 rfl Tryz.results69 Tryz.ntmps69 ?_
 rintro t y cx G hm
 have hm : zq13 t = some y := hm
 unfold zq13 at hm
 refine rg G (Ok_seq (rs G (hN 2 t.Trips h0) ?_))
 refine cd hm (fun hm => ?_) (fun hm => ?_)
 ·refine rg G ?_
  cases hm
  exact rt [] []
 ·refine X_skip (thN (rg G (Ok_seq (rs G (hN 2 t.Trips h0) ?_))))
  refine tF hm (fun _ => ⟨[], [], 32⟩) (fun v3 hr hm => ?_) ?_
  ·refine Ok_block (lp G hm (fun (v, v1) => ⟨[(1, .ref 16 0), (3, dV v), (11, dV t.Trips), (12, dV (t.Trips.length : Int)), (13, dV v1)], [bX 16 30 [dV t.Network.Stops, dV t.Network.Lines, dV t.Trips]], 48⟩) ?_)
   rintro ⟨v, v1⟩ r0 hb hm
   rw [zq13_L1] at hm
   refine rg G (Ok_seq (cd hm (fun hm => ?_) (fun hm => ?_)))
   ·refine X_skip (thN (Ok_seq (Ok_block ?_)))
    obtain ⟨e, h, hm⟩ := obind hm
    refine rs G (hD 0 h h0) ?_
    refine Ok_seq (jn hm (fun v2 => ⟨[(1, .ref 16 0), (5, .ref 32 0), (11, dV t.Trips), (12, dV (t.Trips.length : Int)), (13, dV v1), (46, dV v2)], [bX 16 30 [dV t.Network.Stops, dV t.Network.Lines, dV t.Trips], bX 32 64 [dV e.Id, dV e.Line, dV e.Start]], 64⟩) (fun v2 hm => ?_) ?_)
    ·rcases bf hm with ⟨hb1, hm⟩ | ⟨hb1, hm⟩
     ·refine re G (hO 4 (.b true) (hP hb1 h0)) ?_
      exact wJ G hm
     ·rcases bf hm with ⟨hb2, hm⟩ | ⟨hb2, hm⟩
      ·refine re G (hO 4 (.b false) (hP hb1 (hO 9 (.b true) (hP hb2 h0)))) ?_
       exact wJ G hm
      ·obtain ⟨r, h1, hm⟩ := obind hm
       rcases bf hm with ⟨hb3, hm⟩ | ⟨hb3, hm⟩
       ·refine re G (hO 4 (.b false) (hP hb1 (hO 9 (.b false) (hP hb2 (hC 14 (zq23_c h1) (hO 17 (.b true) (hP hb3 h0))))))) ?_
        exact wJ G hm
       ·obtain ⟨r1, h2, hm⟩ := obind hm
        rcases bf hm with ⟨hb4, hm⟩ | ⟨hb4, hm⟩
        ·refine re G (hO 4 (.b false) (hP hb1 (hO 9 (.b false) (hP hb2 (hC 14 (zq23_c h1) (hO 17 (.b false) (hP hb3 (hC 20 (zq6_c h2) (hO 23 (.b true) (hP hb4 h0)))))))))) ?_
         exact wJ G hm
        ·obtain ⟨r2, h3, hm⟩ := obind hm
         obtain ⟨r3, h4, hm⟩ := obind hm
         refine re G (hO 4 (.b false) (hP hb1 (hO 9 (.b false) (hP hb2 (hC 14 (zq23_c h1) (hO 17 (.b false) (hP hb3 (hC 20 (zq6_c h2) (hO 23 (.b false) (hP hb4 (hC 26 (zq21_c h3) (hC 27 (zq6_c h4) h0)))))))))))) ?_
         exact wJ G hm
    rintro v2 hm
    refine cd hm (fun hm => ?_) (fun hm => ?_)
    ·refine rg G ?_
     have hm := eL hm hb hr
     cases hm
     exact rt [] []
    ·exact X_skip (thN (rh G (ibN (thN (rh G (wL G hm))))))
   ·exact Ok_exit (thE (thE (ibE (wE G hm hb))))
  rintro ⟨⟩ hm s hw
  refine thN (Ok_weak hw ?_)
  refine rg G ?_
  cases hm
  exact rt [] []
noncomputable def zq7_M : MS Timetable Bool := ⟨.r, zq7, fun y => dV y, fun _ => [], fun _ _ => []⟩
theorem zq7_c {t y} (hm : zq7 t = some y) : zq7_M.C t y := zq7_M.c t hm
theorem zq7_ok : FnOK Tryz.prog tJ 30 zq7_M.S := by
 refine fm tt zq7_M [fo zq5_ok, fo zq13_ok] Tryz.call30 Tryz.func30 rfl Tryz.results30 Tryz.ntmps30 ?_
 rintro t y cx G hm
 have hm : zq7 t = some y := hm
 unfold zq7 at hm
 refine rg G ?_
 obtain ⟨r, h, hm⟩ := obind hm
 refine jn hm (fun v => ⟨[(2, dV v)], [], 32⟩) (fun v hm => ?_) ?_
 ·rcases bf hm with ⟨hb, hm⟩ | ⟨hb, hm⟩
  ·obtain ⟨r1, h1, hm⟩ := obind hm
   refine re G (hC 2 (zq5_c h) (hO 3 (.b true) (hP hb (hC 5 (zq13_c h1) h0)))) ?_
   exact wJ G hm
  ·refine re G (hC 2 (zq5_c h) (hO 3 (.b false) (hP hb h0))) ?_
   exact wJ G hm
 rintro v hm
 cases hm
 exact rt [] []
noncomputable def zq35_M : MS (Trip × Int) Bool := ⟨.x .r (.b 3), fun x => zq35 x.1 x.2, fun y => dV y, fun _ => [], fun x _ => [bxO 3 x.2]⟩
theorem zq35_c {x c1 y} (hm : zq35 x c1 = some y) : zq35_M.C (x, c1) y := zq35_M.c (x, c1) hm
theorem zq35_ok : FnOK Tryz.prog tJ 130 zq35_M.S := by
 refine fm tt zq35_M [] Tryz.call130 Tryz.func130 rfl Tryz.results130 Tryz.ntmps130 ?_
 rintro ⟨x, c1⟩ y cx G hm
 have hm : zq35 x c1 = some y := hm
 unfold zq35 at hm
 refine rg G (rg G ?_)
 cases hm
 exact rt [] []
noncomputable def zq93_M : MS ((List Trip) × Int) Int := ⟨⟨[.rd, .fn 130 [.bx]], fun x => [Enc.e x.1, .agg [.sc undef]], fun x => [bxO 3 x.2], 1, 1, fun _ => rfl, fun _ => rfl, rfl, (by
  rintro ⟨a0, a1⟩ ⟨b0, b1⟩ h hO
  have q0 : a0 = b0 := qI 0 h
  have q1 : a1 = b1 := Enc.inj _ _ (congrArg (fun l => (obD l 0).getD 0 (.sc undef)) hO)
  subst q0; subst q1; rfl)⟩, fun x => zq93 x.1 x.2, fun y => dV y, fun _ => [], fun x _ => [bxO 3 x.2]⟩
theorem zq93_c {s c1 y} (hm : zq93 s c1 = some y) : zq93_M.C (s, c1) y := zq93_M.c (s, c1) hm
theorem zq93_ok : FnOK Tryz.prog tJ 129 zq93_M.S := by
 refine fm tt zq93_M [fo zq35_ok] Tryz.call129 Tryz.func129 rfl Tryz.results129 Tryz.ntmps129 ?_
 rintro ⟨s, c1⟩ y cx G hm
 have hm : zq93 s c1 = some y := hm
 obtain ⟨f, hf_f⟩ : ∃ q, (fun (z0 : Trip) => zq35 z0 c1) = q := ⟨_, rfl⟩
 have hm : zq92 s f = some y := by rw [← hf_f]; exact hm
 unfold zq92 at hm
 refine rg G (Ok_seq (rs G (hN 1 s h0) ?_))
 refine tF hm (fun _ => ⟨[(1, .fn 130 [.ref 0 0])], [bX 0 3 [dV c1]], 48⟩) (fun v1 hr hm => ?_) ?_
 ·refine Ok_block (lp G hm (fun v => ⟨[(0, dV s), (1, .fn 130 [.ref 0 0]), (7, dV (s.length : Int)), (8, dV v)], [bX 0 3 [dV c1]], 48⟩) ?_)
  rintro v r0 hb hm
  rw [zq92_L1] at hm
  refine rg G (Ok_seq (cd hm (fun hm => ?_) (fun hm => ?_)))
  ·refine X_skip (thN (Ok_seq (Ok_block (rg G ?_))))
   obtain ⟨e, h, hm⟩ := obind hm
   obtain ⟨r, h1, hm⟩ := obind hm
   have h1 : zq35 e c1 = some r := by rw [← hf_f] at h1; exact h1
   refine rs G (hD 3 h (hC 5 (zq35_c h1) h0)) ?_
   refine cd hm (fun hm => ?_) (fun hm => ?_)
   ·refine rg G ?_
    have hm := eL hm hb hr
    cases hm
    exact rt [] []
   ·exact X_skip (ibN (thN (rh G (wL G hm))))
  ·exact Ok_exit (thE (thE (ibE (wE G hm hb))))
 rintro ⟨⟩ hm s1 hw
 refine thN (Ok_weak hw ?_)
 refine rg G ?_
 cases hm
 exact rt [] []
noncomputable def zq34_M : MS (Timetable × Int) Int := ⟨.x .r .r, fun x => zq34 x.1 x.2, fun y => dV y, fun _ => [], fun _ _ => []⟩
theorem zq34_c {t id y} (hm : zq34 t id = some y) : zq34_M.C (t, id) y := zq34_M.c (t, id) hm
theorem zq34_ok : FnOK Tryz.prog tJ 104 zq34_M.S := by
 refine fm tt zq34_M [fo zq93_ok] Tryz.call104 Tryz.func104 rfl Tryz.results104 Tryz.ntmps104 ?_
 rintro ⟨t, id⟩ y cx G hm
 have hm : zq34 t id = some y := hm
 unfold zq34 at hm
 refine rg G ?_
 obtain ⟨r, h, hm⟩ := obind hm
 refine rs G (hC 3 (zq93_c h) h0) ?_
 cases hm
 exact rt [] []
noncomputable def zq12_M : MS (Timetable × (List TripDelay)) Bool := ⟨.x .r .r, fun x => zq12 x.1 x.2, fun y => dV y, fun _ => [], fun _ _ => []⟩
theorem zq12_c {t delays y} (hm : zq12 t delays = some y) : zq12_M.C (t, delays) y := zq12_M.c (t, delays) hm
theorem zq12_ok : FnOK Tryz.prog tJ 58 zq12_M.S := by
 refine fm tt zq12_M [fo zq34_ok, fo zq36_ok] Tryz.call58 Tryz.func58 rfl Tryz.results58 Tryz.ntmps58 ?_
 rintro ⟨t, delays⟩ y cx G hm
 have hm : zq12 t delays = some y := hm
 unfold zq12 at hm
 refine rg G (rg G (Ok_seq (rs G (hN 1 delays h0) ?_)))
 refine tF hm (fun _ => ⟨[], [], 32⟩) (fun v2 hr hm => ?_) ?_
 ·refine Ok_block (lp G hm (fun (d, v) => ⟨[(2, .ref 16 0), (5, dV d), (8, dV delays), (9, dV (delays.length : Int)), (10, dV v)], [bX 16 30 [dV t.Network.Stops, dV t.Network.Lines, dV t.Trips]], 48⟩) ?_)
  rintro ⟨d, v⟩ r0 hb hm
  rw [zq12_L1] at hm
  refine rg G (Ok_seq (cd hm (fun hm => ?_) (fun hm => ?_)))
  ·refine X_skip (thN (Ok_seq (Ok_block ?_)))
   obtain ⟨e, h, hm⟩ := obind hm
   refine rs G (hD 0 h h0) ?_
   refine Ok_seq (jn hm (fun v1 => ⟨[(2, .ref 16 0), (7, .ref 32 0), (8, dV delays), (9, dV (delays.length : Int)), (10, dV v), (30, dV v1)], [bX 16 30 [dV t.Network.Stops, dV t.Network.Lines, dV t.Trips], bX 32 125 [dV e.Id, dV e.Minutes]], 64⟩) (fun v1 hm => ?_) ?_)
   ·rcases bf hm with ⟨hb1, hm⟩ | ⟨hb1, hm⟩
    ·refine re G (hO 4 (.b true) (hP hb1 h0)) ?_
     exact wJ G hm
    ·obtain ⟨r, h1, hm⟩ := obind hm
     rcases bf hm with ⟨hb2, hm⟩ | ⟨hb2, hm⟩
     ·refine re G (hO 4 (.b false) (hP hb1 (hC 8 (zq34_c h1) (hO 11 (.b true) (hP hb2 h0))))) ?_
      exact wJ G hm
     ·obtain ⟨r1, h2, hm⟩ := obind hm
      refine re G (hO 4 (.b false) (hP hb1 (hC 8 (zq34_c h1) (hO 11 (.b false) (hP hb2 (hC 14 (zq36_c h2) h0)))))) ?_
      exact wJ G hm
   rintro v1 hm
   refine cd hm (fun hm => ?_) (fun hm => ?_)
   ·refine rg G ?_
    have hm := eL hm hb hr
    cases hm
    exact rt [] []
   ·exact X_skip (thN (rh G (ibN (thN (rh G (wL G hm))))))
  ·exact Ok_exit (thE (thE (ibE (wE G hm hb))))
 rintro ⟨⟩ hm s hw
 refine thN (Ok_weak hw ?_)
 refine rg G ?_
 cases hm
 exact rt [] []
noncomputable def zq8_M : MS (Timetable × (List TripDelay)) Bool := ⟨.x .r .r, fun x => zq8 x.1 x.2, fun y => dV y, fun _ => [], fun _ _ => []⟩
theorem zq8_c {t delays y} (hm : zq8 t delays = some y) : zq8_M.C (t, delays) y := zq8_M.c (t, delays) hm
theorem zq8_ok : FnOK Tryz.prog tJ 21 zq8_M.S := by
 refine fm tt zq8_M [fo zq7_ok, fo zq12_ok] Tryz.call21 Tryz.func21 rfl Tryz.results21 Tryz.ntmps21 ?_
 rintro ⟨t, delays⟩ y cx G hm
 have hm : zq8 t delays = some y := hm
 unfold zq8 at hm
 refine rg G ?_
 obtain ⟨r, h, hm⟩ := obind hm
 refine jn hm (fun v => ⟨[(4, dV v)], [], 32⟩) (fun v hm => ?_) ?_
 ·rcases bf hm with ⟨hb, hm⟩ | ⟨hb, hm⟩
  ·obtain ⟨r1, h1, hm⟩ := obind hm
   refine re G (hC 1 (zq7_c h) (hO 2 (.b true) (hP hb (hC 5 (zq12_c h1) h0)))) ?_
   exact wJ G hm
  ·refine re G (hC 1 (zq7_c h) (hO 2 (.b false) (hP hb h0))) ?_
   exact wJ G hm
 rintro v hm
 cases hm
 exact rt [] []
noncomputable def zq22_M : MS (Timetable × (List TripDelay) × Int × Int) Bool := ⟨.x .r (.x .r (.x .r .r)), fun x => zq22 x.1 x.2.1 x.2.2.1 x.2.2.2, fun y => dV y, fun _ => [], fun _ _ => []⟩
theorem zq22_c {t delays stop now y} (hm : zq22 t delays stop now = some y) : zq22_M.C (t, delays, stop, now) y := zq22_M.c (t, delays, stop, now) hm
theorem zq22_ok : FnOK Tryz.prog tJ 50 zq22_M.S := by
 refine fm tt zq22_M [fo zq8_ok, fo zq25_ok, fo zq6_ok] Tryz.call50 Tryz.func50 rfl Tryz.results50 Tryz.ntmps50 ?_
 rintro ⟨t, delays, stop, now⟩ y cx G hm
 have hm : zq22 t delays stop now = some y := hm
 unfold zq22 at hm
 refine rg G ?_
 obtain ⟨r, h, hm⟩ := obind hm
 refine jn hm (fun v => ⟨[(8, dV v)], [], 32⟩) (fun v hm => ?_) ?_
 ·rcases bf hm with ⟨hb, hm⟩ | ⟨hb, hm⟩
  ·obtain ⟨r1, h1, hm⟩ := obind hm
   rcases bf hm with ⟨hb1, hm⟩ | ⟨hb1, hm⟩
   ·obtain ⟨r2, h2, hm⟩ := obind hm
    refine re G (hC 2 (zq8_c h) (hO 3 (.b true) (hP hb (hC 7 (zq25_c h1) (hO 9 (.b true) (hP hb1 (hC 11 (zq6_c h2) h0))))))) ?_
    exact wJ G hm
   ·refine re G (hC 2 (zq8_c h) (hO 3 (.b true) (hP hb (hC 7 (zq25_c h1) (hO 9 (.b false) (hP hb1 h0)))))) ?_
    exact wJ G hm
  ·refine re G (hC 2 (zq8_c h) (hO 3 (.b false) (hP hb h0))) ?_
   exact wJ G hm
 rintro v hm
 cases hm
 exact rt [] []
noncomputable def zq29_M : MS (Timetable × Trip) Line := ⟨.x .r .r, fun x => zq29 x.1 x.2, fun y => dV y, fun _ => [], fun _ _ => []⟩
theorem zq29_c {t x y} (hm : zq29 t x = some y) : zq29_M.C (t, x) y := zq29_M.c (t, x) hm
theorem zq29_ok : FnOK Tryz.prog tJ 72 zq29_M.S := by
 refine fm tt zq29_M [] Tryz.call72 Tryz.func72 rfl Tryz.results72 Tryz.ntmps72 ?_
 rintro ⟨t, x⟩ y cx G hm
 have hm : zq29 t x = some y := hm
 unfold zq29 at hm
 refine rg G ?_
 obtain ⟨e, h, hm⟩ := obind hm
 refine rs G (hD 5 h h0) ?_
 cases hm
 exact rt [] []
noncomputable def zq32_M : MS (Timetable × Trip) ((List Int)) := ⟨.x .r .r, fun x => zq32 x.1 x.2, fun _ => .own 0, fun y => [arO 3 y], fun _ _ => []⟩
theorem zq32_c {t x y} (hm : zq32 t x = some y) : zq32_M.C (t, x) y := zq32_M.c (t, x) hm
theorem zq32_ok : FnOK Tryz.prog tJ 106 zq32_M.S := by
 refine fm tt zq32_M [fo zq29_ok] Tryz.call106 Tryz.func106 rfl Tryz.results106 Tryz.ntmps106 ?_
 rintro ⟨t, x⟩ y cx G hm
 have hm : zq32 t x = some y := hm
 unfold zq32 at hm
 refine rg G (rg G (Ok_seq ?_))
 obtain ⟨r, h, hm⟩ := obind hm
 refine rs G (hC 2 (zq29_c h) (hN 4 r.Runs h0)) ?_
 refine tl hm (fun r2 => ⟨[(5, .own 16)], [aX 16 3 r2], 48⟩) (fun r2 hm => ?_) ?_
 ·refine Ok_block (lp G hm (fun (v, r1) => ⟨[(5, .own 16), (14, dV r.Runs), (15, dV (r.Runs.length : Int)), (16, dV v)], [aX 16 3 r1], 48⟩) ?_)
  rintro ⟨v, r1⟩ r0 hb hm
  rw [zq32_L1] at hm
  refine rg G (Ok_seq (cd hm (fun hm => ?_) (fun hm => ?_)))
  ·refine X_skip (thN (Ok_seq (Ok_block ?_)))
   obtain ⟨e, h1, hm⟩ := obind hm
   refine rs G (hD 1 h1 h0) ?_
   obtain ⟨e1, h2, hm⟩ := obind hm
   obtain ⟨u, h3, hm⟩ := obind hm
   refine re G (hD 3 h2 (hE 4 h2 (hA 8 8 h3 h0))) ?_
   exact ibN (thN (rh G (wL G hm)))
  ·exact Ok_exit (thE (thE (ibE (wD G hm hb))))
 rintro r2 hm s hw
 refine thN (Ok_weak hw ?_)
 refine rg G ?_
 cases hm
 exact rt [16] []
noncomputable def zq19_M : MS ((List TripDelay) × Int) Int := ⟨.x .r .r, fun x => zq19 x.1 x.2, fun y => dV y, fun _ => [], fun _ _ => []⟩
theorem zq19_c {delays id y} (hm : zq19 delays id = some y) : zq19_M.C (delays, id) y := zq19_M.c (delays, id) hm
theorem zq19_ok : FnOK Tryz.prog tJ 108 zq19_M.S := by
 refine fm tt zq19_M [] Tryz.call108 Tryz.func108 rfl Tryz.results108 Tryz.ntmps108 ?_
 rintro ⟨delays, id⟩ y cx G hm
 have hm : zq19 delays id = some y := hm
 unfold zq19 at hm
 refine rg G (Ok_seq (rs G (hN 1 delays h0) ?_))
 refine tF hm (fun _ => ⟨[], [], 32⟩) (fun v1 hr hm => ?_) ?_
 ·refine Ok_block (lp G hm (fun v => ⟨[(1, dV id), (7, dV delays), (8, dV (delays.length : Int)), (9, dV v)], [], 32⟩) ?_)
  rintro v r0 hb hm
  rw [zq19_L1] at hm
  refine rg G (Ok_seq (cd hm (fun hm => ?_) (fun hm => ?_)))
  ·refine X_skip (thN (Ok_seq (Ok_block ?_)))
   obtain ⟨e, h, hm⟩ := obind hm
   refine rs G (hD 0 h h0) ?_
   refine rg G (cd hm (fun hm => ?_) (fun hm => ?_))
   ·refine rg G ?_
    have hm := eL hm hb hr
    cases hm
    exact rt [] []
   ·exact X_skip (ibN (thN (rh G (wL G hm))))
  ·exact Ok_exit (thE (thE (ibE (wE G hm hb))))
 rintro ⟨⟩ hm s hw
 refine thN (Ok_weak hw ?_)
 refine rg G ?_
 cases hm
 exact rt [] []
noncomputable def zq20_M : MS (Timetable × (List TripDelay) × Int) ((List departure)) := ⟨.x .r (.x .r .r), fun x => zq20 x.1 x.2.1 x.2.2, fun _ => .own 0, fun y => [arO 92 y], fun _ _ => []⟩
theorem zq20_c {t delays stop y} (hm : zq20 t delays stop = some y) : zq20_M.C (t, delays, stop) y := zq20_M.c (t, delays, stop) hm
theorem zq20_ok : FnOK Tryz.prog tJ 63 zq20_M.S := by
 refine fm tt zq20_M [fo zq29_ok, fo zq32_ok, fo zq94_ok, fo zq19_ok] Tryz.call63 Tryz.func63 rfl Tryz.results63 Tryz.ntmps63 ?_
 rintro ⟨t, delays, stop⟩ y cx G hm
 have hm : zq20 t delays stop = some y := hm
 unfold zq20 at hm
 refine rg G (rg G (Ok_seq (rs G (hN 2 t.Trips h0) ?_)))
 refine tl hm (fun stops2 => ⟨[(7, .own 16)], [aX 16 92 stops2], 48⟩) (fun stops2 hm => ?_) ?_
 ·refine Ok_block (lpP hm (fun (v, stops) => ⟨[(1, dV delays), (2, dV stop), (3, .ref 16 0), (7, .own 32), (14, dV t.Trips), (15, dV (t.Trips.length : Int)), (16, dV v)], [bX 16 30 [dV t.Network.Stops, dV t.Network.Lines, dV t.Trips], aX 32 92 stops], 64⟩) (Wk_J G.hL ⟨[(1, []), (2, []), (3, []), (7, [.o 32]), (14, []), (15, []), (16, [])], [(16, 16, [])], [(32, 92, 5, [])], 64⟩ (by kernel_rfl)) ?_)
  rintro ⟨v, stops⟩ r0 hb hm
  rw [zq20_L1] at hm
  refine rg G (Ok_seq (cd hm (fun hm => ?_) (fun hm => ?_)))
  ·refine X_skip (thN (jn hm (fun stops1 => ⟨[(1, dV delays), (2, dV stop), (3, .ref 16 0), (7, .own 32), (14, dV t.Trips), (15, dV (t.Trips.length : Int)), (16, dV v)], [bX 16 30 [dV t.Network.Stops, dV t.Network.Lines, dV t.Trips], aX 32 92 stops1], 64⟩) (fun stops1 hm => ?_) ?_))
   ·refine Ok_block ?_
    obtain ⟨e, h, hm⟩ := obind hm
    refine rs G (hD 0 h h0) ?_
    obtain ⟨r2, h3, hm⟩ := obind hm
    obtain ⟨r3, h4, hm⟩ := obind hm
    refine ds G [] (hC 2 (zq29_c h3) (hC 6 (zq32_c h4) h0)) ?_
    obtain ⟨r4, h5, hm⟩ := obind hm
    refine rs G (hC 2 (zq94_c h5) h0) ?_
    refine jn hm (fun v1 => ⟨[(1, dV delays), (2, dV stop), (3, .ref 16 0), (7, .own 32), (9, .ref 48 0), (11, .own 64), (12, dV r4), (14, dV t.Trips), (15, dV (t.Trips.length : Int)), (16, dV v), (38, dV v1)], [bX 16 30 [dV t.Network.Stops, dV t.Network.Lines, dV t.Trips], aX 32 92 stops, bX 48 64 [dV e.Id, dV e.Line, dV e.Start], aX 64 3 r3], 96⟩) (fun v1 hm => ?_) ?_
    ·rcases bf hm with ⟨hb1, hm⟩ | ⟨hb1, hm⟩
     ·refine re G (hO 2 (.b true) (hP hb1 (hN 5 r2.Stops h0))) ?_
      exact wJ G hm
     ·refine re G (hO 2 (.b false) (hP hb1 h0)) ?_
      exact wJ G hm
    rintro v1 hm
    refine cd hm (fun hm => ?_) (fun hm => ?_)
    ·obtain ⟨e2, h9, hm⟩ := obind hm
     obtain ⟨r6, h10, hm⟩ := obind hm
     obtain ⟨u1, h11, hm⟩ := obind hm
     refine de G [(12, [32, 272])] (hD 4 h9 (hE 5 h9 (hC 9 (zq19_c h10) (hA 12 40 h11 h0)))) ?_
     exact ibN (wJ G hm)
    ·exact X_skip (ibN (wJ G hm))
   rintro stops1 hm
   exact rh G (wL G hm)
  ·exact Ok_exit (thE (thE (ibE (wD G hm hb))))
 rintro stops2 hm s hw
 refine thN (Ok_weak hw ?_)
 refine rg G ?_
 cases hm
 exact rt [16] []
noncomputable def zq2_M : MS Int Bool := ⟨.r, zq2, fun y => dV y, fun _ => [], fun _ _ => []⟩
theorem zq2_c {x y} (hm : zq2 x = some y) : zq2_M.C x y := zq2_M.c x hm
theorem zq2_ok : FnOK Tryz.prog tJ 127 zq2_M.S := by
 refine fm tt zq2_M [] Tryz.call127 Tryz.func127 rfl Tryz.results127 Tryz.ntmps127 ?_
 rintro x y cx G hm
 have hm : zq2 x = some y := hm
 unfold zq2 at hm
 refine rg G (rg G ?_)
 cases hm
 exact rt [] []
noncomputable def zq0_M : MS (Int × Int) Int := ⟨.x .r .r, fun x => zq0 x.1 x.2, fun y => dV y, fun _ => [], fun _ _ => []⟩
theorem zq0_c {x y_ y} (hm : zq0 x y_ = some y) : zq0_M.C (x, y_) y := zq0_M.c (x, y_) hm
theorem zq0_ok : FnOK Tryz.prog tJ 101 zq0_M.S := by
 refine fm tt zq0_M [fo zq2_ok] Tryz.call101 Tryz.func101 rfl Tryz.results101 Tryz.ntmps101 ?_
 rintro ⟨x, y_⟩ y cx G hm
 have hm : zq0 x y_ = some y := hm
 unfold zq0 at hm
 refine rg G ?_
 obtain ⟨r, h, hm⟩ := obind hm
 refine rs G (hC 1 (zq2_c h) h0) ?_
 obtain ⟨r1, h1, hm⟩ := obind hm
 refine rs G (hC 1 (zq2_c h1) h0) ?_
 refine Ok_seq (rg G (cd hm (fun hm => ?_) (fun hm => ?_)))
 ·refine Ok_seq (rg G (cd hm (fun hm => ?_) (fun hm => ?_)))
  ·refine rg G ?_
   cases hm
   exact rt [] []
  ·refine X_skip (thN (rg G ?_))
   cases hm
   exact rt [] []
 ·refine X_skip (thN (Ok_seq (rg G (cd hm (fun hm => ?_) (fun hm => ?_)))))
  ·refine rg G ?_
   cases hm
   exact rt [] []
  ·refine X_skip (thN (Ok_seq (rg G (cd hm (fun hm => ?_) (fun hm => ?_)))))
   ·refine rg G ?_
    cases hm
    exact rt [] []
   ·refine X_skip (thN (Ok_seq (rg G (cd hm (fun hm => ?_) (fun hm => ?_)))))
    ·refine rg G ?_
     cases hm
     exact rt [] []
    ·refine X_skip (thN (rg G ?_))
     cases hm
     exact rt [] []
noncomputable def zq1_M : MS ((List Int)) Int := ⟨.r, zq1, fun y => dV y, fun _ => [], fun _ _ => []⟩
theorem zq1_c {vals y} (hm : zq1 vals = some y) : zq1_M.C vals y := zq1_M.c vals hm
theorem zq1_ok : FnOK Tryz.prog tJ 100 zq1_M.S := by
 refine fm tt zq1_M [] Tryz.call100 Tryz.func100 rfl Tryz.results100 Tryz.ntmps100 ?_
 rintro vals y cx G hm
 have hm : zq1 vals = some y := hm
 unfold zq1 at hm
 refine rg G (rg G (Ok_seq (rs G (hN 1 vals h0) ?_)))
 refine tF hm (fun _ => ⟨[(3, kV .i64 0)], [], 32⟩) (fun v1 hr hm => ?_) ?_
 ·refine Ok_block (lp G hm (fun v => ⟨[(3, kV .i64 0), (6, dV vals), (7, dV (vals.length : Int)), (8, dV v)], [], 32⟩) ?_)
  rintro v r0 hb hm
  rw [zq1_L1] at hm
  refine rg G (Ok_seq (cd hm (fun hm => ?_) (fun hm => ?_)))
  ·refine X_skip (thN (Ok_seq (Ok_block ?_)))
   obtain ⟨e, h, hm⟩ := obind hm
   refine rs G (hD 0 h h0) ?_
   refine rg G (cd hm (fun hm => ?_) (fun hm => ?_))
   ·refine rg G ?_
    have hm := eL hm hb hr
    cases hm
    exact rt [] []
   ·exact X_skip (ibN (thN (rh G (wL G hm))))
  ·exact Ok_exit (thE (thE (ibE (wE G hm hb))))
 rintro ⟨⟩ hm s hw
 refine thN (Ok_weak hw ?_)
 refine rg G ?_
 cases hm
 exact rt [] []
noncomputable def zq15_M : MS (departure × departure) Int := ⟨.x .r .r, fun x => zq15 x.1 x.2, fun y => dV y, fun _ => [], fun _ _ => []⟩
theorem zq15_c {a b y} (hm : zq15 a b = some y) : zq15_M.C (a, b) y := zq15_M.c (a, b) hm
theorem zq15_ok : FnOK Tryz.prog tJ 99 zq15_M.S := by
 refine fm tt zq15_M [fo zq0_ok, fo zq1_ok] Tryz.call99 Tryz.func99 rfl Tryz.results99 Tryz.ntmps99 ?_
 rintro ⟨a, b⟩ y cx G hm
 have hm : zq15 a b = some y := hm
 unfold zq15 at hm
 refine rg G ?_
 obtain ⟨r3, h3, hm⟩ := obind hm
 obtain ⟨r4, h4, hm⟩ := obind hm
 obtain ⟨r5, h5, hm⟩ := obind hm
 refine ds G [] (hC 10 (zq0_c h3) (hC 15 (zq0_c h4) (hC 17 (zq1_c h5) h0))) ?_
 cases hm
 exact rt [] []
noncomputable def zq98_M : MS ((List departure) × Int × Int) ((List departure)) := ⟨⟨[.sl, .rd, .rd, .fn 99 []], fun x => [.sc undef, Enc.e x.2.1, Enc.e x.2.2, .agg []], fun x => [arO 92 x.1], 1, 1, fun _ => rfl, fun _ => rfl, rfl, (by
  rintro ⟨a0, a1, a2⟩ ⟨b0, b1, b2⟩ h hO
  have q0 : a0 = b0 := Enc.inj _ _ (congrArg (fun l => D.sl 5 (obL l 0)) hO)
  have q1 : a1 = b1 := qI 1 h
  have q2 : a2 = b2 := qI 2 h
  subst q0; subst q1; subst q2; rfl)⟩, fun x => zq98 x.1 x.2.1 x.2.2, fun _ => .tup [], fun _ => [], fun _ y => [arO 92 y]⟩
theorem zq98_c {data a b y} (hm : zq98 data a b = some y) : zq98_M.C (data, a, b) y := zq98_M.c (data, a, b) hm
theorem zq98_ok : FnOK Tryz.prog tJ 143 zq98_M.S := by
 refine fm tt zq98_M [fo zq15_ok] Tryz.call143 Tryz.func143 rfl Tryz.results143 Tryz.ntmps143 ?_
 rintro ⟨data, a, b⟩ y cx G hm
 have hm : zq98 data a b = some y := hm
 obtain ⟨cmp, hf_cmp⟩ : ∃ q, (fun (z0 : departure) (z1 : departure) => zq15 z0 z1) = q := ⟨_, rfl⟩
 have hm : zq97 data a b cmp = some y := by rw [← hf_cmp]; exact hm
 unfold zq97 at hm
 refine rg G (Ok_block (lp G hm (fun (v, data1) => ⟨[(0, .own 0), (1, dV a), (2, dV b), (3, .fn 99 []), (8, dV v)], [aX 0 92 data1], 48⟩) ?_))
 rintro ⟨v, data1⟩ r0 hb hm
 rw [zq97_L2] at hm
 refine Ok_seq (rg G (cd hm (fun hm => ?_) (fun hm => ?_)))
 ·refine X_skip (thN (Ok_seq (Ok_block (rg G (tl hm (fun data3 => ⟨[(0, .own 0), (1, dV a), (2, dV b), (3, .fn 99 []), (8, dV v)], [aX 0 92 data3], 48⟩) (fun data3 hm => ?_) ?_)))))
  ·refine Ok_block (lp G hm (fun (v1, data2) => ⟨[(0, .own 0), (1, dV a), (2, dV b), (3, .fn 99 []), (8, dV v), (9, dV v1)], [aX 0 92 data2], 48⟩) ?_)
   rintro ⟨v1, data2⟩ r0 hb1 hm
   rw [zq97_L1] at hm
   refine Ok_seq (jn hm (fun v2 => ⟨[(0, .own 0), (1, dV a), (2, dV b), (3, .fn 99 []), (8, dV v), (9, dV v1), (34, dV v2)], [aX 0 92 data2], 48⟩) (fun v2 hm => ?_) ?_)
   ·rcases bf hm with ⟨hb2, hm⟩ | ⟨hb2, hm⟩
    ·obtain ⟨e2, h3, hm⟩ := obind hm
     obtain ⟨e3, h4, hm⟩ := obind hm
     obtain ⟨r1, h5, hm⟩ := obind hm
     have h5 : zq15 e2 e3 = some r1 := by rw [← hf_cmp] at h5; exact h5
     refine de G [(14, [])] (hO 3 (.b true) (hP hb2 (hD 7 h3 (hE 8 h3 (hD 12 h4 (hE 13 h4 (hC 14 (zq15_c h5) h0))))))) ?_
     exact wJ G hm
    ·refine de G [(14, [])] (hO 3 (.b false) (hP hb2 h0)) ?_
     exact wJ G hm
   rintro v2 hm
   refine cd hm (fun hm => ?_) (fun hm => ?_)
   ·refine X_skip (thN (Ok_seq (Ok_block ?_)))
    obtain ⟨e8, h10, hm⟩ := obind hm
    obtain ⟨e9, h11, hm⟩ := obind hm
    obtain ⟨e10, h12, hm⟩ := obind hm
    obtain ⟨e11, h13, hm⟩ := obind hm
    refine de G [(15, [0]), (17, [0])] (hD 8 h10 (hE 9 h10 (hD 12 h11 (hE 13 h11 (hD 14 h12 (hS 15 h12 e8 (hD 16 h13 (hS 17 h13 e9 h0)))))))) ?_
    exact ibN (thN (rh G (wL G hm)))
   ·exact Ok_exit (thE (thE (ibE (wD G hm hb1))))
  rintro data3 hm s hw
  refine ibN (thN (Ok_weak hw ?_))
  exact rh G (wL G hm)
 ·have hm := eD hm hb
  refine Ok_exit (thE (thE (ibE ?_)))
  cases hm
  exact fN [] []
noncomputable def zq103_M : MS ((List departure) × Int × Int × Int) ((List departure)) := ⟨⟨[.sl, .rd, .rd, .rd, .fn 99 []], fun x => [.sc undef, Enc.e x.2.1, Enc.e x.2.2.1, Enc.e x.2.2.2, .agg []], fun x => [arO 92 x.1], 1, 1, fun _ => rfl, fun _ => rfl, rfl, (by
  rintro ⟨a0, a1, a2, a3⟩ ⟨b0, b1, b2, b3⟩ h hO
  have q0 : a0 = b0 := Enc.inj _ _ (congrArg (fun l => D.sl 5 (obL l 0)) hO)
  have q1 : a1 = b1 := qI 1 h
  have q2 : a2 = b2 := qI 2 h
  have q3 : a3 = b3 := qI 3 h
  subst q0; subst q1; subst q2; subst q3; rfl)⟩, fun x => zq103 x.1 x.2.1 x.2.2.1 x.2.2.2, fun _ => .tup [], fun _ => [], fun _ y => [arO 92 y]⟩
theorem zq103_c {data a b n y} (hm : zq103 data a b n = some y) : zq103_M.C (data, a, b, n) y := zq103_M.c (data, a, b, n) hm
theorem zq103_ok : FnOK Tryz.prog tJ 174 zq103_M.S := by
 refine fm tt zq103_M [] Tryz.call174 Tryz.func174 rfl Tryz.results174 Tryz.ntmps174 ?_
 rintro ⟨data, a, b, n⟩ y cx G hm
 have hm : zq103 data a b n = some y := hm
 obtain ⟨cmp, hf_cmp⟩ : ∃ q, (fun (z0 : departure) (z1 : departure) => zq15 z0 z1) = q := ⟨_, rfl⟩
 have hm : zq102 data a b n cmp = some y := by rw [← hf_cmp]; exact hm
 unfold zq102 at hm
 refine rg G (Ok_block (lp G hm (fun (v, data1) => ⟨[(0, .own 0), (1, dV a), (2, dV b), (3, dV n), (4, .fn 99 []), (10, dV v)], [aX 0 92 data1], 48⟩) ?_))
 rintro ⟨v, data1⟩ r0 hb hm
 rw [zq102_L1] at hm
 refine Ok_seq (rg G (cd hm (fun hm => ?_) (fun hm => ?_)))
 ·refine X_skip (thN (Ok_seq (Ok_block ?_)))
  obtain ⟨e4, h4, hm⟩ := obind hm
  obtain ⟨e5, h5, hm⟩ := obind hm
  obtain ⟨e6, h6, hm⟩ := obind hm
  obtain ⟨e7, h7, hm⟩ := obind hm
  refine de G [(21, [0]), (23, [0])] (hD 12 h4 (hE 13 h4 (hD 18 h5 (hE 19 h5 (hD 20 h6 (hS 21 h6 e4 (hD 22 h7 (hS 23 h7 e5 h0)))))))) ?_
  exact ibN (thN (rh G (wL G hm)))
 ·have hm := eD hm hb
  refine Ok_exit (thE (thE (ibE ?_)))
  cases hm
  exact fN [] []
noncomputable def zq100_M : MS ((List departure) × Int × Int × Int) ((List departure)) := ⟨⟨[.sl, .rd, .rd, .rd, .fn 99 []], fun x => [.sc undef, Enc.e x.2.1, Enc.e x.2.2.1, Enc.e x.2.2.2, .agg []], fun x => [arO 92 x.1], 1, 1, fun _ => rfl, fun _ => rfl, rfl, (by
  rintro ⟨a0, a1, a2, a3⟩ ⟨b0, b1, b2, b3⟩ h hO
  have q0 : a0 = b0 := Enc.inj _ _ (congrArg (fun l => D.sl 5 (obL l 0)) hO)
  have q1 : a1 = b1 := qI 1 h
  have q2 : a2 = b2 := qI 2 h
  have q3 : a3 = b3 := qI 3 h
  subst q0; subst q1; subst q2; subst q3; rfl)⟩, fun x => zq100 x.1 x.2.1 x.2.2.1 x.2.2.2, fun _ => .tup [], fun _ => [], fun _ y => [arO 92 y]⟩
theorem zq100_c {data a m b y} (hm : zq100 data a m b = some y) : zq100_M.C (data, a, m, b) y := zq100_M.c (data, a, m, b) hm
theorem zq100_ok : FnOK Tryz.prog tJ 159 zq100_M.S := by
 refine fm tt zq100_M [fo zq103_ok] Tryz.call159 Tryz.func159 rfl Tryz.results159 Tryz.ntmps159 ?_
 rintro ⟨data, a, m, b⟩ y cx G hm
 have hm : zq100 data a m b = some y := hm
 obtain ⟨cmp, hf_cmp⟩ : ∃ q, (fun (z0 : departure) (z1 : departure) => zq15 z0 z1) = q := ⟨_, rfl⟩
 have hm : zq99 data a m b cmp = some y := by rw [← hf_cmp]; exact hm
 unfold zq99 at hm
 refine rg G (rg G (jn hm (fun (v2, data2) => ⟨[(0, .own 0), (2, dV m), (4, .fn 99 []), (10, dV v2)], [aX 0 92 data2], 48⟩) (fun vv hm => ?_) ?_))
 ·refine Ok_block (lp G hm (fun (v, v1, data1) => ⟨[(0, .own 0), (2, dV m), (4, .fn 99 []), (10, dV v), (11, dV v1)], [aX 0 92 data1], 48⟩) ?_)
  rintro ⟨v, v1, data1⟩ r0 hb hm
  rw [zq99_L1] at hm
  refine Ok_seq (rg G (cd hm (fun hm => ?_) (fun hm => ?_)))
  ·refine X_skip (thN (Ok_block (rg G (cd hm (fun hm => ?_) (fun hm => ?_)))))
   ·obtain ⟨r, h, hm⟩ := obind hm
    have h : zq103 data1 (w64 (m - v)) m v1 = some r := by rw [← hf_cmp] at h; exact h
    refine rs G (hC 7 (zq103_c h) h0) ?_
    exact rh G (ibN (wL G hm))
   ·obtain ⟨r1, h1, hm⟩ := obind hm
    have h1 : zq103 data1 (w64 (m - v)) (w64 ((w64 (m + v1)) - v)) v = some r1 := by rw [← hf_cmp] at h1; exact h1
    refine rs G (hC 11 (zq103_c h1) h0) ?_
    exact rh G (ibN (wL G hm))
  ·exact Ok_exit (thE (thE (ibE (wD G hm hb))))
 rintro ⟨v2, data2⟩ hm
 obtain ⟨r2, h2, hm⟩ := obind hm
 have h2 : zq103 data2 (w64 (m - v2)) m v2 = some r2 := by rw [← hf_cmp] at h2; exact h2
 refine re G (hC 7 (zq103_c h2) h0) ?_
 cases hm
 exact fN [] []
noncomputable def zq104_MR (rec_ : (List departure) → Int → Int → Int → Option ((List departure))) : MS ((List departure) × Int × Int × Int) ((List departure)) := ⟨⟨[.sl, .rd, .rd, .rd, .fn 99 []], fun x => [.sc undef, Enc.e x.2.1, Enc.e x.2.2.1, Enc.e x.2.2.2, .agg []], fun x => [arO 92 x.1], 1, 1, fun _ => rfl, fun _ => rfl, rfl, (by
  rintro ⟨a0, a1, a2, a3⟩ ⟨b0, b1, b2, b3⟩ h hO
  have q0 : a0 = b0 := Enc.inj _ _ (congrArg (fun l => D.sl 5 (obL l 0)) hO)
  have q1 : a1 = b1 := qI 1 h
  have q2 : a2 = b2 := qI 2 h
  have q3 : a3 = b3 := qI 3 h
  subst q0; subst q1; subst q2; subst q3; rfl)⟩, fun x => rec_ x.1 x.2.1 x.2.2.1 x.2.2.2, fun _ => .tup [], fun _ => [], fun _ y => [arO 92 y]⟩
noncomputable def zq104_M : MS ((List departure) × Int × Int × Int) ((List departure)) := zq104_MR zq104
theorem zq104_c {data a m b y} (hm : zq104 data a m b = some y) : zq104_M.C (data, a, m, b) y := zq104_M.c (data, a, m, b) hm
theorem zq104_cR {rec_ : (List departure) → Int → Int → Int → Option ((List departure))} {data a m b y} (hm : rec_ data a m b = some y) : (zq104_MR rec_).C (data, a, m, b) y := (zq104_MR rec_).c (data, a, m, b) hm
theorem zq104_okF {rec_ : (List departure) → Int → Int → Int → Option ((List departure))} (hrec : FnOK Tryz.prog tJ 144 (zq104_MR rec_).S) : FnOK Tryz.prog tJ 144 (zq104_MR (zq104_F rec_)).S := by
 refine fm tt (zq104_MR (zq104_F rec_)) [fo hrec, fo zq15_ok, fo zq100_ok] Tryz.call144 Tryz.func144 rfl Tryz.results144 Tryz.ntmps144 ?_
 rintro ⟨data, a, m, b⟩ y cx G hm
 have hm : zq104_F rec_ data a m b = some y := hm
 unfold zq104_F at hm
 refine Ok_seq (rg G (cd hm (fun hm => ?_) (fun hm => ?_)))
 ·refine rg G (rg G (jn hm (fun j1 => ⟨[(0, .own 0), (1, dV a), (4, .fn 99 []), (10, dV j1)], [aX 0 92 data], 48⟩) (fun j1 hm => ?_) ?_))
  ·refine Ok_block (lp G hm (fun (j, h) => ⟨[(0, .own 0), (1, dV a), (4, .fn 99 []), (10, dV j), (11, dV h)], [aX 0 92 data], 48⟩) ?_)
   rintro ⟨j, h⟩ r0 hb hm
   rw [zq104_L1] at hm
   refine Ok_seq (rg G (cd hm (fun hm => ?_) (fun hm => ?_)))
   ·refine X_skip (thN (Ok_block ?_))
    obtain ⟨u, h1, hm⟩ := obind hm
    refine rs G (hK h1 h0) ?_
    obtain ⟨e2, h5, hm⟩ := obind hm
    obtain ⟨e3, h6, hm⟩ := obind hm
    obtain ⟨r1, h7, hm⟩ := obind hm
    refine ds G [(9, [])] (hD 3 h5 (hE 4 h5 (hD 7 h6 (hE 8 h6 (hC 9 (zq15_c h7) h0))))) ?_
    refine cd hm (fun hm => ?_) (fun hm => ?_)
    ·exact rh G (ibN (wL G hm))
    ·exact rh G (ibN (wL G hm))
   ·exact Ok_exit (thE (thE (ibE (wD G hm hb))))
  rintro j1 hm
  refine Ok_seq (rg G (tl hm (fun data2 => ⟨[(0, .own 0), (4, .fn 99 [])], [aX 0 92 data2], 48⟩) (fun data2 hm => ?_) ?_))
  ·refine Ok_block (lp G hm (fun (mid, data1) => ⟨[(0, .own 0), (4, .fn 99 []), (10, dV j1), (13, dV mid)], [aX 0 92 data1], 48⟩) ?_)
   rintro ⟨mid, data1⟩ r0 hb1 hm
   rw [zq104_L2] at hm
   refine Ok_seq (rg G (cd hm (fun hm => ?_) (fun hm => ?_)))
   ·refine X_skip (thN (Ok_seq (Ok_block ?_)))
    obtain ⟨e8, h12, hm⟩ := obind hm
    obtain ⟨e9, h13, hm⟩ := obind hm
    obtain ⟨e10, h14, hm⟩ := obind hm
    obtain ⟨e11, h15, hm⟩ := obind hm
    refine de G [(15, [0]), (17, [0])] (hD 8 h12 (hE 9 h12 (hD 12 h13 (hE 13 h13 (hD 14 h14 (hS 15 h14 e8 (hD 16 h15 (hS 17 h15 e9 h0)))))))) ?_
    exact ibN (thN (rh G (wL G hm)))
   ·exact Ok_exit (thE (thE (ibE (wD G hm hb1))))
  rintro data2 hm s hw
  refine thN (Ok_weak hw ?_)
  cases hm
  exact rt [] []
 ·refine X_skip (thN (Ok_seq (rg G (cd hm (fun hm => ?_) (fun hm => ?_)))))
  ·refine rg G (rg G (jn hm (fun n1 => ⟨[(0, .own 0), (2, dV m), (4, .fn 99 []), (14, dV n1)], [aX 0 92 data], 48⟩) (fun n1 hm => ?_) ?_))
   ·refine Ok_block (lp G hm (fun (n, start) => ⟨[(0, .own 0), (2, dV m), (4, .fn 99 []), (14, dV n), (15, dV start)], [aX 0 92 data], 48⟩) ?_)
    rintro ⟨n, start⟩ r0 hb2 hm
    rw [zq104_L3] at hm
    refine Ok_seq (rg G (cd hm (fun hm => ?_) (fun hm => ?_)))
    ·refine X_skip (thN (Ok_block ?_))
     obtain ⟨u1, h16, hm⟩ := obind hm
     refine rs G (hK h16 h0) ?_
     obtain ⟨e14, h20, hm⟩ := obind hm
     obtain ⟨e15, h21, hm⟩ := obind hm
     obtain ⟨r3, h22, hm⟩ := obind hm
     refine ds G [(9, [])] (hD 3 h20 (hE 4 h20 (hD 7 h21 (hE 8 h21 (hC 9 (zq15_c h22) h0))))) ?_
     refine cd hm (fun hm => ?_) (fun hm => ?_)
     ·exact rh G (ibN (wL G hm))
     ·exact rh G (ibN (wL G hm))
    ·exact Ok_exit (thE (thE (ibE (wD G hm hb2))))
   rintro n1 hm
   refine Ok_seq (rg G (tl hm (fun data4 => ⟨[(0, .own 0), (4, .fn 99 [])], [aX 0 92 data4], 48⟩) (fun data4 hm => ?_) ?_))
   ·refine Ok_block (lp G hm (fun (p, data3) => ⟨[(0, .own 0), (4, .fn 99 []), (14, dV n1), (17, dV p)], [aX 0 92 data3], 48⟩) ?_)
    rintro ⟨p, data3⟩ r0 hb3 hm
    rw [zq104_L4] at hm
    refine Ok_seq (rg G (cd hm (fun hm => ?_) (fun hm => ?_)))
    ·refine X_skip (thN (Ok_seq (Ok_block ?_)))
     obtain ⟨e20, h27, hm⟩ := obind hm
     obtain ⟨e21, h28, hm⟩ := obind hm
     obtain ⟨e22, h29, hm⟩ := obind hm
     obtain ⟨e23, h30, hm⟩ := obind hm
     refine de G [(15, [0]), (17, [0])] (hD 8 h27 (hE 9 h27 (hD 12 h28 (hE 13 h28 (hD 14 h29 (hS 15 h29 e20 (hD 16 h30 (hS 17 h30 e21 h0)))))))) ?_
     exact ibN (thN (rh G (wL G hm)))
    ·exact Ok_exit (thE (thE (ibE (wD G hm hb3))))
   rintro data4 hm s1 hw1
   refine thN (Ok_weak hw1 ?_)
   cases hm
   exact rt [] []
  ·refine X_skip (thN ?_)
   obtain ⟨u2, h31, hm⟩ := obind hm
   refine rs G (hK h31 h0) ?_
   refine rg G (rg G (jn hm (fun (v, v1) => ⟨[(0, .own 0), (1, dV a), (2, dV m), (3, dV b), (4, .fn 99 []), (18, dV (w64 (((IntKind.u64.wrap ((w64 (a + b)))).fdiv (2 ^ (min (1 : Int).toNat (IntKind.u64).bits)))))), (19, dV (w64 ((w64 (((IntKind.u64.wrap ((w64 (a + b)))).fdiv (2 ^ (min (1 : Int).toNat (IntKind.u64).bits))))) + m))), (20, dV v), (21, dV v1)], [aX 0 92 data], 48⟩) (fun vv hm => ?_) ?_))
   ·refine rg G (cd hm (fun hm => ?_) (fun hm => ?_))
    ·exact rg G (rh G (wJ G hm))
    ·exact rg G (rh G (wJ G hm))
   rintro ⟨v, v1⟩ hm
   refine rg G (jn hm (fun v4 => ⟨[(0, .own 0), (1, dV a), (2, dV m), (3, dV b), (4, .fn 99 []), (18, dV (w64 (((IntKind.u64.wrap ((w64 (a + b)))).fdiv (2 ^ (min (1 : Int).toNat (IntKind.u64).bits)))))), (19, dV (w64 ((w64 (((IntKind.u64.wrap ((w64 (a + b)))).fdiv (2 ^ (min (1 : Int).toNat (IntKind.u64).bits))))) + m))), (20, dV v4)], [aX 0 92 data], 48⟩) (fun v4 hm => ?_) ?_)
   ·refine Ok_block (lp G hm (fun (v2, v3) => ⟨[(0, .own 0), (1, dV a), (2, dV m), (3, dV b), (4, .fn 99 []), (18, dV (w64 (((IntKind.u64.wrap ((w64 (a + b)))).fdiv (2 ^ (min (1 : Int).toNat (IntKind.u64).bits)))))), (19, dV (w64 ((w64 (((IntKind.u64.wrap ((w64 (a + b)))).fdiv (2 ^ (min (1 : Int).toNat (IntKind.u64).bits))))) + m))), (20, dV v2), (21, dV v3), (22, dV (w64 ((w64 ((w64 (((IntKind.u64.wrap ((w64 (a + b)))).fdiv (2 ^ (min (1 : Int).toNat (IntKind.u64).bits))))) + m)) - 1)))], [aX 0 92 data], 48⟩) ?_)
    rintro ⟨v2, v3⟩ r0 hb4 hm
    rw [zq104_L5] at hm
    refine Ok_seq (rg G (cd hm (fun hm => ?_) (fun hm => ?_)))
    ·refine X_skip (thN (Ok_block ?_))
     obtain ⟨u3, h32, hm⟩ := obind hm
     refine rs G (hK h32 h0) ?_
     obtain ⟨e26, h36, hm⟩ := obind hm
     obtain ⟨e27, h37, hm⟩ := obind hm
     obtain ⟨r5, h38, hm⟩ := obind hm
     refine ds G [(11, [])] (hD 5 h36 (hE 6 h36 (hD 9 h37 (hE 10 h37 (hC 11 (zq15_c h38) h0))))) ?_
     refine cd hm (fun hm => ?_) (fun hm => ?_)
     ·exact rh G (ibN (wL G hm))
     ·exact rh G (ibN (wL G hm))
    ·exact Ok_exit (thE (thE (ibE (wD G hm hb4))))
   rintro v4 hm
   refine rg G (jn hm (fun data5 => ⟨[(0, .own 0), (1, dV a), (3, dV b), (4, .fn 99 []), (18, dV (w64 (((IntKind.u64.wrap ((w64 (a + b)))).fdiv (2 ^ (min (1 : Int).toNat (IntKind.u64).bits)))))), (20, dV v4), (24, dV (w64 ((w64 ((w64 (((IntKind.u64.wrap ((w64 (a + b)))).fdiv (2 ^ (min (1 : Int).toNat (IntKind.u64).bits))))) + m)) - v4)))], [aX 0 92 data5], 48⟩) (fun data5 hm => ?_) ?_)
   ·refine jn hm (fun v5 => ⟨[(0, .own 0), (1, dV a), (2, dV m), (3, dV b), (4, .fn 99 []), (18, dV (w64 (((IntKind.u64.wrap ((w64 (a + b)))).fdiv (2 ^ (min (1 : Int).toNat (IntKind.u64).bits)))))), (20, dV v4), (24, dV (w64 ((w64 ((w64 (((IntKind.u64.wrap ((w64 (a + b)))).fdiv (2 ^ (min (1 : Int).toNat (IntKind.u64).bits))))) + m)) - v4))), (185, dV v5)], [aX 0 92 data], 48⟩) (fun v5 hm => ?_) ?_
    ·rcases bf hm with ⟨hb5, hm⟩ | ⟨hb5, hm⟩
     ·refine re G (hO 3 (.b true) (hP hb5 h0)) ?_
      exact wJ G hm
     ·refine re G (hO 3 (.b false) (hP hb5 h0)) ?_
      exact wJ G hm
    rintro v5 hm
    refine cd hm (fun hm => ?_) (fun hm => ?_)
    ·obtain ⟨r6, h39, hm⟩ := obind hm
     refine re G (hC 5 (zq100_c h39) h0) ?_
     exact wJ G hm
    ·exact X_skip (wJ G hm)
   rintro data5 hm
   refine jn hm (fun data6 => ⟨[(0, .own 0), (3, dV b), (4, .fn 99 []), (18, dV (w64 (((IntKind.u64.wrap ((w64 (a + b)))).fdiv (2 ^ (min (1 : Int).toNat (IntKind.u64).bits)))))), (24, dV (w64 ((w64 ((w64 (((IntKind.u64.wrap ((w64 (a + b)))).fdiv (2 ^ (min (1 : Int).toNat (IntKind.u64).bits))))) + m)) - v4)))], [aX 0 92 data6], 48⟩) (fun data6 hm => ?_) ?_
   ·refine jn hm (fun v6 => ⟨[(0, .own 0), (1, dV a), (3, dV b), (4, .fn 99 []), (18, dV (w64 (((IntKind.u64.wrap ((w64 (a + b)))).fdiv (2 ^ (min (1 : Int).toNat (IntKind.u64).bits)))))), (20, dV v4), (24, dV (w64 ((w64 ((w64 (((IntKind.u64.wrap ((w64 (a + b)))).fdiv (2 ^ (min (1 : Int).toNat (IntKind.u64).bits))))) + m)) - v4))), (199, dV v6)], [aX 0 92 data5], 48⟩) (fun v6 hm => ?_) ?_
    ·rcases bf hm with ⟨hb6, hm⟩ | ⟨hb6, hm⟩
     ·refine re G (hO 3 (.b true) (hP hb6 h0)) ?_
      exact wJ G hm
     ·refine re G (hO 3 (.b false) (hP hb6 h0)) ?_
      exact wJ G hm
    rintro v6 hm
    refine cd hm (fun hm => ?_) (fun hm => ?_)
    ·obtain ⟨r7, h40, hm⟩ := obind hm
     refine re G (hC 5 (zq104_cR h40) h0) ?_
     exact wJ G hm
    ·exact X_skip (wJ G hm)
   rintro data6 hm
   refine jn hm (fun v7 => ⟨[(0, .own 0), (3, dV b), (4, .fn 99 []), (18, dV (w64 (((IntKind.u64.wrap ((w64 (a + b)))).fdiv (2 ^ (min (1 : Int).toNat (IntKind.u64).bits)))))), (24, dV (w64 ((w64 ((w64 (((IntKind.u64.wrap ((w64 (a + b)))).fdiv (2 ^ (min (1 : Int).toNat (IntKind.u64).bits))))) + m)) - v4))), (213, dV v7)], [aX 0 92 data6], 48⟩) (fun v7 hm => ?_) ?_
   ·rcases bf hm with ⟨hb7, hm⟩ | ⟨hb7, hm⟩
    ·refine re G (hO 3 (.b true) (hP hb7 h0)) ?_
     exact wJ G hm
    ·refine re G (hO 3 (.b false) (hP hb7 h0)) ?_
     exact wJ G hm
   rintro v7 hm
   refine cd hm (fun hm => ?_) (fun hm => ?_)
   ·obtain ⟨r8, h41, hm⟩ := obind hm
    refine re G (hC 5 (zq104_cR h41) h0) ?_
    cases hm
    exact fN [] []
   ·refine X_skip ?_
    cases hm
    exact fN [] []
theorem zq104_okn : ∀ k, FnOK Tryz.prog tJ 144 (zq104_MR (zq104_k k)).S
 | 0 => ⟨fun args w => Tryz.call144 args w, fun vs w F ds obs κ hp => by obtain ⟨x, y, _, _, h⟩ := hp; cases h⟩
 | k + 1 => zq104_okF (zq104_okn k)
theorem zq104_ok : FnOK Tryz.prog tJ 144 zq104_M.S := zq104_okn 4294967296
noncomputable def zq101_M : MS ((List departure) × Int) ((List departure)) := ⟨⟨[.sl, .rd, .fn 99 []], fun x => [.sc undef, Enc.e x.2, .agg []], fun x => [arO 92 x.1], 1, 1, fun _ => rfl, fun _ => rfl, rfl, (by
  rintro ⟨a0, a1⟩ ⟨b0, b1⟩ h hO
  have q0 : a0 = b0 := Enc.inj _ _ (congrArg (fun l => D.sl 5 (obL l 0)) hO)
  have q1 : a1 = b1 := qI 1 h
  subst q0; subst q1; rfl)⟩, fun x => zq101 x.1 x.2, fun _ => .tup [], fun _ => [], fun _ y => [arO 92 y]⟩
theorem zq101_c {data n y} (hm : zq101 data n = some y) : zq101_M.C (data, n) y := zq101_M.c (data, n) hm
theorem zq101_ok : FnOK Tryz.prog tJ 126 zq101_M.S := by
 refine fm tt zq101_M [fo zq98_ok, fo zq104_ok] Tryz.call126 Tryz.func126 rfl Tryz.results126 Tryz.ntmps126 ?_
 rintro ⟨data, n⟩ y cx G hm
 have hm : zq101 data n = some y := hm
 unfold zq101 at hm
 refine rg G (rg G (jn hm (fun (v2, data2) => ⟨[(0, .own 0), (1, dV n), (2, .fn 99 []), (6, kV .i64 20), (7, dV v2)], [aX 0 92 data2], 48⟩) (fun vv1 hm => ?_) ?_))
 ·refine Ok_block (lp G hm (fun (v, v1, data1) => ⟨[(0, .own 0), (1, dV n), (2, .fn 99 []), (6, kV .i64 20), (7, dV v), (8, dV v1)], [aX 0 92 data1], 48⟩) ?_)
  rintro ⟨v, v1, data1⟩ r0 hb hm
  rw [zq101_L1] at hm
  refine Ok_seq (rg G (cd hm (fun hm => ?_) (fun hm => ?_)))
  ·refine X_skip (thN (Ok_block ?_))
   obtain ⟨r, h, hm⟩ := obind hm
   refine rs G (hC 4 (zq98_c h) h0) ?_
   exact rg G (rh G (ibN (wL G hm)))
  ·exact Ok_exit (thE (thE (ibE (wD G hm hb))))
 rintro ⟨v2, data2⟩ hm
 obtain ⟨r1, h1, hm⟩ := obind hm
 refine rs G (hC 4 (zq98_c h1) h0) ?_
 refine Ok_block (lp G hm (fun (m, data3) => ⟨[(0, .own 0), (1, dV n), (2, .fn 99 []), (6, dV m)], [aX 0 92 data3], 48⟩) ?_)
 rintro ⟨m, data3⟩ r0 hb1 hm
 rw [zq101_L3] at hm
 refine Ok_seq (rg G (cd hm (fun hm => ?_) (fun hm => ?_)))
 ·refine X_skip (thN (Ok_block (rg G (jn hm (fun (v5, data5) => ⟨[(0, .own 0), (1, dV n), (2, .fn 99 []), (6, dV m), (7, dV v5)], [aX 0 92 data5], 48⟩) (fun vv hm => ?_) ?_))))
  ·refine Ok_block (lp G hm (fun (v3, v4, data4) => ⟨[(0, .own 0), (1, dV n), (2, .fn 99 []), (6, dV m), (7, dV v3), (8, dV v4)], [aX 0 92 data4], 48⟩) ?_)
   rintro ⟨v3, v4, data4⟩ r0 hb2 hm
   rw [zq101_L2] at hm
   refine Ok_seq (rg G (cd hm (fun hm => ?_) (fun hm => ?_)))
   ·refine X_skip (thN (Ok_block ?_))
    obtain ⟨r2, h2, hm⟩ := obind hm
    refine rs G (hC 7 (zq104_c h2) h0) ?_
    exact rg G (rh G (ibN (wL G hm)))
   ·exact Ok_exit (thE (thE (ibE (wD G hm hb2))))
  rintro ⟨v5, data5⟩ hm
  refine jn hm (fun data6 => ⟨[(0, .own 0), (1, dV n), (2, .fn 99 []), (6, dV m)], [aX 0 92 data6], 48⟩) (fun data6 hm => ?_) ?_
  ·refine rg G (rg G (cd hm (fun hm => ?_) (fun hm => ?_)))
   ·obtain ⟨r3, h3, hm⟩ := obind hm
    refine re G (hC 5 (zq104_c h3) h0) ?_
    exact wJ G hm
   ·exact X_skip (wJ G hm)
  rintro data6 hm
  exact rh G (ibN (wL G hm))
 ·have hm := eD hm hb1
  refine Ok_exit (thE (thE (ibE ?_)))
  cases hm
  exact fN [] []
noncomputable def zq96_M : MS ((List departure)) ((List departure)) := ⟨⟨[.sl, .fn 99 []], fun x => [.sc undef, .agg []], fun x => [arO 92 x], 1, 1, fun _ => rfl, fun _ => rfl, rfl, (by
  rintro a0 b0 h hO
  have q0 : a0 = b0 := Enc.inj _ _ (congrArg (fun l => D.sl 5 (obL l 0)) hO)
  subst q0; rfl)⟩, zq96, fun _ => .tup [], fun _ => [], fun _ y => [arO 92 y]⟩
theorem zq96_c {x y} (hm : zq96 x = some y) : zq96_M.C x y := zq96_M.c x hm
theorem zq96_ok : FnOK Tryz.prog tJ 98 zq96_M.S := by
 refine fm tt zq96_M [fo zq101_ok] Tryz.call98 Tryz.func98 rfl Tryz.results98 Tryz.ntmps98 ?_
 rintro x y cx G hm
 have hm : zq96 x = some y := hm
 unfold zq96 at hm
 obtain ⟨r, h, hm⟩ := obind hm
 refine re G (hN 2 x (hC 4 (zq101_c h) h0)) ?_
 cases hm
 exact fN [] []
noncomputable def zq27_M : MS (Timetable × Trip) Int := ⟨.x .r .r, fun x => zq27 x.1 x.2, fun y => dV y, fun _ => [], fun _ _ => []⟩
theorem zq27_c {t x y} (hm : zq27 t x = some y) : zq27_M.C (t, x) y := zq27_M.c (t, x) hm
theorem zq27_ok : FnOK Tryz.prog tJ 102 zq27_M.S := by
 refine fm tt zq27_M [fo zq29_ok] Tryz.call102 Tryz.func102 rfl Tryz.results102 Tryz.ntmps102 ?_
 rintro ⟨t, x⟩ y cx G hm
 have hm : zq27 t x = some y := hm
 unfold zq27 at hm
 refine rg G ?_
 obtain ⟨r, h, hm⟩ := obind hm
 refine rs G (hC 2 (zq29_c h) h0) ?_
 obtain ⟨e, h1, hm⟩ := obind hm
 refine rs G (hN 2 r.Stops (hD 4 h1 h0)) ?_
 cases hm
 exact rt [] []
noncomputable def zq14_M : MS (Timetable × (List TripDelay) × Int × Int × Int) ((List BoardRow)) := ⟨.x .r (.x .r (.x .r (.x .r .r))), fun x => zq14 x.1 x.2.1 x.2.2.1 x.2.2.2.1 x.2.2.2.2, fun _ => .own 0, fun y => [arO 53 y], fun _ _ => []⟩
theorem zq14_c {t delays stop now count y} (hm : zq14 t delays stop now count = some y) : zq14_M.C (t, delays, stop, now, count) y := zq14_M.c (t, delays, stop, now, count) hm
theorem zq14_ok : FnOK Tryz.prog tJ 52 zq14_M.S := by
 refine fm tt zq14_M [fo zq20_ok, fo zq96_ok, fo zq29_ok, fo zq27_ok] Tryz.call52 Tryz.func52 rfl Tryz.results52 Tryz.ntmps52 ?_
 rintro ⟨t, delays, stop, now, count⟩ y cx G hm
 have hm : zq14 t delays stop now count = some y := hm
 unfold zq14 at hm
 refine rg G ?_
 obtain ⟨r, h, hm⟩ := obind hm
 refine rs G (hC 3 (zq20_c h) h0) ?_
 obtain ⟨r1, h1, hm⟩ := obind hm
 refine rs G (hC 1 (zq96_c h1) h0) ?_
 refine rg G (Ok_seq (rs G (hN 1 r1 h0) ?_))
 refine tl hm (fun v4 => ⟨[(12, .own 16)], [aX 16 53 v4], 48⟩) (fun v4 hm => ?_) ?_
 ·refine Ok_block (lpP hm (fun (v, v1) => ⟨[(3, dV now), (4, dV count), (5, .ref 16 0), (12, .own 32), (21, .own 48), (22, dV (r1.length : Int)), (23, dV v)], [bX 16 30 [dV t.Network.Stops, dV t.Network.Lines, dV t.Trips], aX 32 53 v1, aX 48 92 r1], 80⟩) (Wk_J G.hL ⟨[(3, []), (4, []), (5, []), (12, [.o 32]), (21, []), (22, []), (23, [])], [(16, 16, []), (48, 96, [])], [(32, 53, 4, [])], 80⟩ (by kernel_rfl)) ?_)
  rintro ⟨v, v1⟩ r0 hb hm
  rw [zq14_L1] at hm
  refine rg G (Ok_seq (cd hm (fun hm => ?_) (fun hm => ?_)))
  ·refine X_skip (thN (jn hm (fun v2 => ⟨[(3, dV now), (4, dV count), (5, .ref 16 0), (12, .own 32), (21, .own 48), (22, dV (r1.length : Int)), (23, dV v)], [bX 16 30 [dV t.Network.Stops, dV t.Network.Lines, dV t.Trips], aX 32 53 v2, aX 48 92 r1], 80⟩) (fun v2 hm => ?_) ?_))
   ·refine Ok_block ?_
    obtain ⟨e, h2, hm⟩ := obind hm
    refine rs G (hD 0 h2 (hE 1 h2 h0)) ?_
    refine jn hm (fun v3 => ⟨[(3, dV now), (4, dV count), (5, .ref 16 0), (12, .own 32), (14, .ref 48 0), (21, .own 64), (22, dV (r1.length : Int)), (23, dV v), (39, dV v3)], [bX 16 30 [dV t.Network.Stops, dV t.Network.Lines, dV t.Trips], aX 32 53 v1, bX 48 92 [dV e.trip_.Id, dV e.trip_.Line, dV e.trip_.Start, dV e.time_, dV e.delay_], aX 64 92 r1], 96⟩) (fun v3 hm => ?_) ?_
    ·rcases bf hm with ⟨hb1, hm⟩ | ⟨hb1, hm⟩
     ·refine re G (hO 7 (.b true) (hP hb1 (hN 9 v1 h0))) ?_
      exact wJ G hm
     ·refine re G (hO 7 (.b false) (hP hb1 h0)) ?_
      exact wJ G hm
    rintro v3 hm
    refine cd hm (fun hm => ?_) (fun hm => ?_)
    ·obtain ⟨r4, h7, hm⟩ := obind hm
     obtain ⟨r5, h8, hm⟩ := obind hm
     obtain ⟨e2, h9, hm⟩ := obind hm
     obtain ⟨u1, h10, hm⟩ := obind hm
     refine de G [(21, [32, 416])] (hC 8 (zq29_c h7) (hC 16 (zq27_c h8) (hD 17 h9 (hA 21 48 h10 h0)))) ?_
     exact ibN (wJ G hm)
    ·exact X_skip (ibN (wJ G hm))
   rintro v2 hm
   exact rh G (wL G hm)
  ·exact Ok_exit (thE (thE (ibE (wD G hm hb))))
 rintro v4 hm s hw
 refine thN (Ok_weak hw ?_)
 refine rg G ?_
 cases hm
 exact rt [16] []
noncomputable def zq3_M : MS (Timetable × (List TripDelay) × Int × Int × Int) ((List BoardRow) × Bool) := ⟨.x .r (.x .r (.x .r (.x .r .r))), fun x => zq3 x.1 x.2.1 x.2.2.1 x.2.2.2.1 x.2.2.2.2, fun y => .tup [dV y.1, dV y.2], fun _ => [], fun _ _ => []⟩
theorem zq3_c {t delays stop now count y} (hm : zq3 t delays stop now count = some y) : zq3_M.C (t, delays, stop, now, count) y := zq3_M.c (t, delays, stop, now, count) hm
theorem zq3_ok : FnOK Tryz.prog tJ 19 zq3_M.S := by
 refine fm tt zq3_M [fo zq22_ok, fo zq36_ok, fo zq14_ok] Tryz.call19 Tryz.func19 rfl Tryz.results19 Tryz.ntmps19 ?_
 rintro ⟨t, delays, stop, now, count⟩ y cx G hm
 have hm : zq3 t delays stop now count = some y := hm
 unfold zq3 at hm
 refine rg G (Ok_seq ?_)
 obtain ⟨r, h, hm⟩ := obind hm
 refine jn hm (fun v => ⟨[(1, dV delays), (2, dV stop), (3, dV now), (4, dV count), (5, .ref 16 0), (22, dV v)], [bX 16 30 [dV t.Network.Stops, dV t.Network.Lines, dV t.Trips]], 48⟩) (fun v hm => ?_) ?_
 ·rcases bf hm with ⟨hb, hm⟩ | ⟨hb, hm⟩
  ·refine re G (hC 4 (zq22_c h) (hO 6 (.b true) (hP hb h0))) ?_
   exact wJ G hm
  ·obtain ⟨r1, h1, hm⟩ := obind hm
   refine re G (hC 4 (zq22_c h) (hO 6 (.b false) (hP hb (hC 8 (zq36_c h1) h0)))) ?_
   exact wJ G hm
 rintro v hm
 refine cd hm (fun hm => ?_) (fun hm => ?_)
 ·refine rg G ?_
  cases hm
  exact rt [] [[.z 4]]
 ·refine X_skip (thN ?_)
  obtain ⟨r2, h2, hm⟩ := obind hm
  refine rs G (hC 5 (zq14_c h2) h0) ?_
  cases hm
  exact rt [] []
noncomputable def zq88_M : MS (Timetable × Int) Int := ⟨.x .r .r, fun x => zq88 x.1 x.2, fun y => dV y, fun _ => [], fun _ _ => []⟩
theorem zq88_c {t id y} (hm : zq88 t id = some y) : zq88_M.C (t, id) y := zq88_M.c (t, id) hm
theorem zq88_ok : FnOK Tryz.prog tJ 128 zq88_M.S := by
 refine fm tt zq88_M [] Tryz.call128 Tryz.func128 rfl Tryz.results128 Tryz.ntmps128 ?_
 rintro ⟨t, id⟩ y cx G hm
 have hm : zq88 t id = some y := hm
 unfold zq88 at hm
 refine rg G (Ok_seq (rg G (tF hm (fun _ => ⟨[], [], 32⟩) (fun v1 hr hm => ?_) ?_)))
 ·refine Ok_block (lp G hm (fun v => ⟨[(1, dV id), (2, .ref 16 0), (5, dV v)], [bX 16 30 [dV t.Network.Stops, dV t.Network.Lines, dV t.Trips]], 48⟩) ?_)
  rintro v r0 hb hm
  rw [zq88_L1] at hm
  refine Ok_seq (rs G (hN 3 t.Trips h0) ?_)
  refine cd hm (fun hm => ?_) (fun hm => ?_)
  ·refine X_skip (thN (Ok_seq (Ok_block ?_)))
   obtain ⟨e, h, hm⟩ := obind hm
   refine rs G (hD 3 h h0) ?_
   refine cd hm (fun hm => ?_) (fun hm => ?_)
   ·refine rg G ?_
    have hm := eL hm hb hr
    cases hm
    exact rt [] []
   ·exact X_skip (ibN (thN (rh G (wL G hm))))
  ·exact Ok_exit (thE (thE (ibE (wE G hm hb))))
 rintro ⟨⟩ hm s hw
 refine thN (Ok_weak hw ?_)
 refine rg G ?_
 cases hm
 exact rt [] []
noncomputable def zq68_M : MS (Timetable × (List TripDelay)) Bool := ⟨.x .r .r, fun x => zq68 x.1 x.2, fun y => dV y, fun _ => [], fun _ _ => []⟩
theorem zq68_c {t delays y} (hm : zq68 t delays = some y) : zq68_M.C (t, delays) y := zq68_M.c (t, delays) hm
theorem zq68_ok : FnOK Tryz.prog tJ 103 zq68_M.S := by
 refine fm tt zq68_M [fo zq89_ok, fo zq88_ok, fo zq60_ok] Tryz.call103 Tryz.func103 rfl Tryz.results103 Tryz.ntmps103 ?_
 rintro ⟨t, delays⟩ y cx G hm
 have hm : zq68 t delays = some y := hm
 unfold zq68 at hm
 refine rg G (Ok_seq ?_)
 obtain ⟨r, h, hm⟩ := obind hm
 refine rs G (hC 1 (zq89_c h) h0) ?_
 refine cd hm (fun hm => ?_) (fun hm => ?_)
 ·refine rg G ?_
  cases hm
  exact rt [] []
 ·refine X_skip (thN (Ok_seq (rg G (tF hm (fun _ => ⟨[], [], 32⟩) (fun v2 hr hm => ?_) ?_))))
  ·refine Ok_block (lp G hm (fun v => ⟨[(1, dV delays), (2, .ref 16 0), (5, dV v)], [bX 16 30 [dV t.Network.Stops, dV t.Network.Lines, dV t.Trips]], 48⟩) ?_)
   rintro v r0 hb hm
   rw [zq68_L1] at hm
   refine Ok_seq (rs G (hN 2 delays h0) ?_)
   refine cd hm (fun hm => ?_) (fun hm => ?_)
   ·refine X_skip (thN (Ok_seq (Ok_block ?_)))
    obtain ⟨e4, h7, hm⟩ := obind hm
    obtain ⟨r3, h8, hm⟩ := obind hm
    refine jn hm (fun v1 => ⟨[(1, dV delays), (2, .ref 16 0), (5, dV v), (49, dV v1)], [bX 16 30 [dV t.Network.Stops, dV t.Network.Lines, dV t.Trips]], 48⟩) (fun v1 hm => ?_) ?_
    ·rcases bf hm with ⟨hb1, hm⟩ | ⟨hb1, hm⟩
     ·refine de G [] (hD 3 h7 (hC 6 (zq88_c h8) (hO 8 (.b true) (hP hb1 h0)))) ?_
      exact wJ G hm
     ·obtain ⟨e5, h9, hm⟩ := obind hm
      obtain ⟨r4, h10, hm⟩ := obind hm
      rcases bf hm with ⟨hb2, hm⟩ | ⟨hb2, hm⟩
      ·refine de G [] (hD 3 h7 (hC 6 (zq88_c h8) (hO 8 (.b false) (hP hb1 (hD 11 h9 (hC 14 (zq60_c h10) (hO 17 (.b true) (hP hb2 h0)))))))) ?_
       exact wJ G hm
      ·rcases bf hm with ⟨hb3, hm⟩ | ⟨hb3, hm⟩
       ·obtain ⟨e6, h11, hm⟩ := obind hm
        obtain ⟨e7, h12, hm⟩ := obind hm
        refine de G [] (hD 3 h7 (hC 6 (zq88_c h8) (hO 8 (.b false) (hP hb1 (hD 11 h9 (hC 14 (zq60_c h10) (hO 17 (.b false) (hP hb2 (hO 20 (.b true) (hP hb3 (hD 24 h11 (hD 29 h12 h0)))))))))))) ?_
        exact wJ G hm
       ·refine de G [] (hD 3 h7 (hC 6 (zq88_c h8) (hO 8 (.b false) (hP hb1 (hD 11 h9 (hC 14 (zq60_c h10) (hO 17 (.b false) (hP hb2 (hO 20 (.b false) (hP hb3 h0)))))))))) ?_
        exact wJ G hm
    rintro v1 hm
    refine cd hm (fun hm => ?_) (fun hm => ?_)
    ·refine rg G ?_
     have hm := eL hm hb hr
     cases hm
     exact rt [] []
    ·exact X_skip (ibN (thN (rh G (wL G hm))))
   ·exact Ok_exit (thE (thE (ibE (wE G hm hb))))
  rintro ⟨⟩ hm s hw
  refine thN (Ok_weak hw ?_)
  refine rg G ?_
  cases hm
  exact rt [] []
noncomputable def zq65_M : MS (Timetable × (List TripDelay) × Int) Bool := ⟨.x .r (.x .r .r), fun x => zq65 x.1 x.2.1 x.2.2, fun y => dV y, fun _ => [], fun _ _ => []⟩
theorem zq65_c {t delays stop y} (hm : zq65 t delays stop = some y) : zq65_M.C (t, delays, stop) y := zq65_M.c (t, delays, stop) hm
theorem zq65_ok : FnOK Tryz.prog tJ 53 zq65_M.S := by
 refine fm tt zq65_M [fo zq68_ok, fo zq60_ok] Tryz.call53 Tryz.func53 rfl Tryz.results53 Tryz.ntmps53 ?_
 rintro ⟨t, delays, stop⟩ y cx G hm
 have hm : zq65 t delays stop = some y := hm
 unfold zq65 at hm
 refine rg G ?_
 obtain ⟨r, h, hm⟩ := obind hm
 refine jn hm (fun v => ⟨[(6, dV v)], [], 32⟩) (fun v hm => ?_) ?_
 ·rcases bf hm with ⟨hb, hm⟩ | ⟨hb, hm⟩
  ·obtain ⟨r1, h1, hm⟩ := obind hm
   refine re G (hC 2 (zq68_c h) (hO 3 (.b true) (hP hb (hN 8 t.Network.Stops (hC 10 (zq60_c h1) h0))))) ?_
   exact wJ G hm
  ·refine re G (hC 2 (zq68_c h) (hO 3 (.b false) (hP hb h0))) ?_
   exact wJ G hm
 rintro v hm
 cases hm
 exact rt [] []
noncomputable def zq67_M : MS (Timetable × Int × Int) Int := ⟨.x .r (.x .r .r), fun x => zq67 x.1 x.2.1 x.2.2, fun y => dV y, fun _ => [], fun _ _ => []⟩
theorem zq67_c {t i stop y} (hm : zq67 t i stop = some y) : zq67_M.C (t, i, stop) y := zq67_M.c (t, i, stop) hm
theorem zq67_ok : FnOK Tryz.prog tJ 64 zq67_M.S := by
 refine fm tt zq67_M [fo zq90_ok, fo zq81_ok, fo zq91_ok, fo zq86_ok] Tryz.call64 Tryz.func64 rfl Tryz.results64 Tryz.ntmps64 ?_
 rintro ⟨t, i, stop⟩ y cx G hm
 have hm : zq67 t i stop = some y := hm
 unfold zq67 at hm
 refine rg G ?_
 obtain ⟨r, h, hm⟩ := obind hm
 obtain ⟨r1, h1, hm⟩ := obind hm
 refine rs G (hC 2 (zq90_c h) (hC 4 (zq81_c h1) h0)) ?_
 refine Ok_seq (jn hm (fun v => ⟨[(1, dV i), (3, .ref 16 0), (7, dV r1), (23, dV v)], [bX 16 30 [dV t.Network.Stops, dV t.Network.Lines, dV t.Trips]], 48⟩) (fun v hm => ?_) ?_)
 ·rcases bf hm with ⟨hb, hm⟩ | ⟨hb, hm⟩
  ·refine re G (hO 2 (.b true) (hP hb h0)) ?_
   exact wJ G hm
  ·obtain ⟨r2, h2, hm⟩ := obind hm
   refine re G (hO 2 (.b false) (hP hb (hC 6 (zq91_c h2) (hN 7 r2 h0)))) ?_
   exact wJ G hm
 rintro v hm
 refine cd hm (fun hm => ?_) (fun hm => ?_)
 ·refine rg G ?_
  cases hm
  exact rt [] []
 ·refine X_skip (thN ?_)
  obtain ⟨r3, h3, hm⟩ := obind hm
  refine rs G (hC 3 (zq86_c h3) h0) ?_
  cases hm
  exact rt [] []
noncomputable def zq66_M : MS ((List TripDelay) × Int) Int := ⟨.x .r .r, fun x => zq66 x.1 x.2, fun y => dV y, fun _ => [], fun _ _ => []⟩
theorem zq66_c {delays id y} (hm : zq66 delays id = some y) : zq66_M.C (delays, id) y := zq66_M.c (delays, id) hm
theorem zq66_ok : FnOK Tryz.prog tJ 65 zq66_M.S := by
 refine fm tt zq66_M [] Tryz.call65 Tryz.func65 rfl Tryz.results65 Tryz.ntmps65 ?_
 rintro ⟨delays, id⟩ y cx G hm
 have hm : zq66 delays id = some y := hm
 unfold zq66 at hm
 refine rg G (Ok_seq (rg G (tF hm (fun _ => ⟨[], [], 32⟩) (fun v1 hr hm => ?_) ?_)))
 ·refine Ok_block (lp G hm (fun v => ⟨[(0, dV delays), (1, dV id), (5, dV v)], [], 32⟩) ?_)
  rintro v r0 hb hm
  rw [zq66_L1] at hm
  refine Ok_seq (rs G (hN 2 delays h0) ?_)
  refine cd hm (fun hm => ?_) (fun hm => ?_)
  ·refine X_skip (thN (Ok_seq (Ok_block ?_)))
   obtain ⟨e, h, hm⟩ := obind hm
   refine rs G (hD 2 h h0) ?_
   refine cd hm (fun hm => ?_) (fun hm => ?_)
   ·obtain ⟨e1, h1, hm⟩ := obind hm
    refine rs G (hD 2 h1 h0) ?_
    have hm := eL hm hb hr
    cases hm
    exact rt [] []
   ·exact X_skip (ibN (thN (rh G (wL G hm))))
  ·exact Ok_exit (thE (thE (ibE (wE G hm hb))))
 rintro ⟨⟩ hm s hw
 refine thN (Ok_weak hw ?_)
 refine rg G ?_
 cases hm
 exact rt [] []
noncomputable def zq70_M : MS (Timetable × (List TripDelay) × Int × Int) ((List BoardRow)) := ⟨.x .r (.x .r (.x .r .r)), fun x => zq70 x.1 x.2.1 x.2.2.1 x.2.2.2, fun _ => .own 0, fun y => [arO 53 y], fun _ _ => []⟩
theorem zq70_c {t delays stop now y} (hm : zq70 t delays stop now = some y) : zq70_M.C (t, delays, stop, now) y := zq70_M.c (t, delays, stop, now) hm
theorem zq70_ok : FnOK Tryz.prog tJ 56 zq70_M.S := by
 refine fm tt zq70_M [fo zq67_ok, fo zq66_ok, fo zq91_ok, fo zq90_ok] Tryz.call56 Tryz.func56 rfl Tryz.results56 Tryz.ntmps56 ?_
 rintro ⟨t, delays, stop, now⟩ y cx G hm
 have hm : zq70 t delays stop now = some y := hm
 unfold zq70 at hm
 refine rg G (rg G (Ok_seq (rg G (tl hm (fun stops2 => ⟨[(9, .own 16)], [aX 16 53 stops2], 48⟩) (fun stops2 hm => ?_) ?_))))
 ·refine Ok_block (lp G hm (fun (x, stops) => ⟨[(1, dV delays), (2, dV stop), (3, dV now), (4, .ref 16 0), (9, .own 32), (10, dV x)], [bX 16 30 [dV t.Network.Stops, dV t.Network.Lines, dV t.Trips], aX 32 53 stops], 64⟩) ?_)
  rintro ⟨x, stops⟩ r0 hb hm
  rw [zq70_L2] at hm
  refine Ok_seq (rs G (hN 3 t.Trips h0) ?_)
  refine cd hm (fun hm => ?_) (fun hm => ?_)
  ·refine X_skip (thN (jn hm (fun stops1 => ⟨[(1, dV delays), (2, dV stop), (3, dV now), (4, .ref 16 0), (9, .own 32), (10, dV x)], [bX 16 30 [dV t.Network.Stops, dV t.Network.Lines, dV t.Trips], aX 32 53 stops1], 64⟩) (fun stops1 hm => ?_) ?_))
   ·refine Ok_block ?_
    obtain ⟨r, h, hm⟩ := obind hm
    refine rs G (hC 3 (zq67_c h) h0) ?_
    obtain ⟨e, h1, hm⟩ := obind hm
    obtain ⟨r1, h2, hm⟩ := obind hm
    refine rs G (hD 4 h1 (hC 7 (zq66_c h2) h0)) ?_
    refine Ok_seq (jn hm (fun v => ⟨[(1, dV delays), (2, dV stop), (3, dV now), (4, .ref 16 0), (9, .own 32), (10, dV x), (11, dV r), (12, dV r1), (44, dV v)], [bX 16 30 [dV t.Network.Stops, dV t.Network.Lines, dV t.Trips], aX 32 53 stops], 64⟩) (fun v hm => ?_) ?_)
    ·rcases bf hm with ⟨hb1, hm⟩ | ⟨hb1, hm⟩
     ·refine re G (hO 2 (.b true) (hP hb1 h0)) ?_
      exact wJ G hm
     ·refine re G (hO 2 (.b false) (hP hb1 h0)) ?_
      exact wJ G hm
    rintro v hm
    refine cd hm (fun hm => ?_) (fun hm => ?_)
    ·exact Ok_exit (thE (ibE (wJ G hm)))
    ·refine X_skip (thN ?_)
     obtain ⟨r2, h3, hm⟩ := obind hm
     refine rs G (hC 2 (zq91_c h3) h0) ?_
     obtain ⟨r4, h7, hm⟩ := obind hm
     obtain ⟨e3, h8, hm⟩ := obind hm
     obtain ⟨e4, h9, hm⟩ := obind hm
     refine ds G [(19, [416])] (hC 4 (zq90_c h7) (hN 11 r2 (hD 13 h8 (hD 15 h9 h0)))) ?_
     refine rs G (hN 1 stops h0) ?_
     refine jn hm (fun v3 => ⟨[(1, dV delays), (2, dV stop), (3, dV now), (4, .ref 16 0), (9, .own 32), (10, dV x), (14, .ref 48 0), (15, dV v3)], [bX 16 30 [dV t.Network.Stops, dV t.Network.Lines, dV t.Trips], aX 32 53 stops, bX 48 53 [dV r, dV r1, dV r4.Name, dV e4]], 80⟩) (fun v3 hm => ?_) ?_
     ·refine Ok_block (lp G hm (fun v1 => ⟨[(1, dV delays), (2, dV stop), (3, dV now), (4, .ref 16 0), (9, .own 32), (10, dV x), (11, dV r), (12, dV r1), (14, .ref 48 0), (15, dV v1)], [bX 16 30 [dV t.Network.Stops, dV t.Network.Lines, dV t.Trips], aX 32 53 stops, bX 48 53 [dV r, dV r1, dV r4.Name, dV e4]], 80⟩) ?_)
      rintro v1 r0 hb2 hm
      rw [zq70_L1] at hm
      refine Ok_seq (jn hm (fun v2 => ⟨[(1, dV delays), (2, dV stop), (3, dV now), (4, .ref 16 0), (9, .own 32), (10, dV x), (11, dV r), (12, dV r1), (14, .ref 48 0), (15, dV v1), (117, dV v2)], [bX 16 30 [dV t.Network.Stops, dV t.Network.Lines, dV t.Trips], aX 32 53 stops, bX 48 53 [dV r, dV r1, dV r4.Name, dV e4]], 80⟩) (fun v2 hm => ?_) ?_)
      ·rcases bf hm with ⟨hb3, hm⟩ | ⟨hb3, hm⟩
       ·obtain ⟨e10, h15, hm⟩ := obind hm
        obtain ⟨e11, h16, hm⟩ := obind hm
        rcases bf hm with ⟨hb4, hm⟩ | ⟨hb4, hm⟩
        ·refine de G [] (hO 2 (.b true) (hP hb3 (hD 6 h15 (hE 8 h15 (hD 12 h16 (hE 14 h16 (hO 20 (.b true) (hP hb4 h0)))))))) ?_
         exact wJ G hm
        ·obtain ⟨e12, h17, hm⟩ := obind hm
         obtain ⟨e13, h18, hm⟩ := obind hm
         rcases bf hm with ⟨hb5, hm⟩ | ⟨hb5, hm⟩
         ·obtain ⟨e14, h19, hm⟩ := obind hm
          refine de G [] (hO 2 (.b true) (hP hb3 (hD 6 h15 (hE 8 h15 (hD 12 h16 (hE 14 h16 (hO 20 (.b false) (hP hb4 (hD 24 h17 (hE 26 h17 (hD 30 h18 (hE 32 h18 (hO 38 (.b true) (hP hb5 (hD 42 h19 (hE 44 h19 h0)))))))))))))))) ?_
          exact wJ G hm
         ·refine de G [] (hO 2 (.b true) (hP hb3 (hD 6 h15 (hE 8 h15 (hD 12 h16 (hE 14 h16 (hO 20 (.b false) (hP hb4 (hD 24 h17 (hE 26 h17 (hD 30 h18 (hE 32 h18 (hO 38 (.b false) (hP hb5 h0)))))))))))))) ?_
          exact wJ G hm
       ·refine de G [] (hO 2 (.b false) (hP hb3 h0)) ?_
        exact wJ G hm
      rintro v2 hm
      refine cd hm (fun hm => ?_) (fun hm => ?_)
      ·exact X_skip (thN (Ok_block (rh G (ibN (wL G hm)))))
      ·exact Ok_exit (thE (thE (ibE (wD G hm hb2))))
     rintro v3 hm
     refine Ok_weak (Wk_J (x' := (⟨[(1, dV delays), (2, dV stop), (3, dV now), (4, .ref 16 0), (9, dV stops), (10, dV x), (14, .ref 32 0), (15, dV v3)], [bX 16 30 [dV t.Network.Stops, dV t.Network.Lines, dV t.Trips], bX 32 53 [dV r, dV r1, dV r4.Name, dV e4]], 64⟩ : X)) G.hL ⟨[(1, []), (2, []), (3, []), (4, []), (9, []), (10, []), (14, []), (15, [])], [(16, 16, []), (32, 48, [])], [], 64⟩ (by kernel_rfl)) ?_
     obtain ⟨u5, h25, hm⟩ := obind hm
     obtain ⟨u6, h26, hm⟩ := obind hm
     obtain ⟨u7, h27, hm⟩ := obind hm
     obtain ⟨u8, h28, hm⟩ := obind hm
     obtain ⟨u9, h29, hm⟩ := obind hm
     refine de G [(3, []), (4, [64]), (7, [128, 160]), (10, []), (11, [176])] (hU 3 h25 (hA 4 48 h26 (hA 7 48 h27 (hV 10 h28 (hA 11 48 h29 h0))))) ?_
     exact ibN (wJ G hm)
   rintro stops1 hm
   exact rh G (wL G hm)
  ·exact Ok_exit (thE (thE (ibE (wD G hm hb))))
 rintro stops2 hm s hw
 refine thN (Ok_weak hw ?_)
 refine rg G ?_
 cases hm
 exact rt [16] []
noncomputable def zq61_M : MS (Int × Int) Int := ⟨.x .r .r, fun x => zq61 x.1 x.2, fun y => dV y, fun _ => [], fun _ _ => []⟩
theorem zq61_c {a b y} (hm : zq61 a b = some y) : zq61_M.C (a, b) y := zq61_M.c (a, b) hm
theorem zq61_ok : FnOK Tryz.prog tJ 57 zq61_M.S := by
 refine fm tt zq61_M [] Tryz.call57 Tryz.func57 rfl Tryz.results57 Tryz.ntmps57 ?_
 rintro ⟨a, b⟩ y cx G hm
 have hm : zq61 a b = some y := hm
 unfold zq61 at hm
 refine rg G (Ok_seq (rg G (cd hm (fun hm => ?_) (fun hm => ?_))))
 ·refine rg G ?_
  cases hm
  exact rt [] []
 ·refine X_skip (thN (rg G ?_))
  cases hm
  exact rt [] []
noncomputable def zq37_M : MS (Timetable × (List TripDelay) × Int × Int × Int) ((List BoardRow) × Bool) := ⟨.x .r (.x .r (.x .r (.x .r .r))), fun x => zq37 x.1 x.2.1 x.2.2.1 x.2.2.2.1 x.2.2.2.2, fun y => .tup [dV y.1, dV y.2], fun _ => [], fun _ _ => []⟩
theorem zq37_c {t delays stop now count y} (hm : zq37 t delays stop now count = some y) : zq37_M.C (t, delays, stop, now, count) y := zq37_M.c (t, delays, stop, now, count) hm
theorem zq37_ok : FnOK Tryz.prog tJ 20 zq37_M.S := by
 refine fm tt zq37_M [fo zq65_ok, fo zq84_ok, fo zq60_ok, fo zq70_ok, fo zq61_ok] Tryz.call20 Tryz.func20 rfl Tryz.results20 Tryz.ntmps20 ?_
 rintro ⟨t, delays, stop, now, count⟩ y cx G hm
 have hm : zq37 t delays stop now count = some y := hm
 unfold zq37 at hm
 refine rg G (Ok_seq ?_)
 obtain ⟨r, h, hm⟩ := obind hm
 refine jn hm (fun v => ⟨[(1, dV delays), (2, dV stop), (3, dV now), (4, dV count), (5, .ref 16 0), (27, dV v)], [bX 16 30 [dV t.Network.Stops, dV t.Network.Lines, dV t.Trips]], 48⟩) (fun v hm => ?_) ?_
 ·rcases bf hm with ⟨hb, hm⟩ | ⟨hb, hm⟩
  ·refine re G (hC 3 (zq65_c h) (hO 5 (.b true) (hP hb h0))) ?_
   exact wJ G hm
  ·obtain ⟨r1, h1, hm⟩ := obind hm
   rcases bf hm with ⟨hb1, hm⟩ | ⟨hb1, hm⟩
   ·refine re G (hC 3 (zq65_c h) (hO 5 (.b false) (hP hb (hC 7 (zq84_c h1) (hO 10 (.b true) (hP hb1 h0)))))) ?_
    exact wJ G hm
   ·obtain ⟨r2, h2, hm⟩ := obind hm
    refine re G (hC 3 (zq65_c h) (hO 5 (.b false) (hP hb (hC 7 (zq84_c h1) (hO 10 (.b false) (hP hb1 (hC 12 (zq60_c h2) h0))))))) ?_
    exact wJ G hm
 rintro v hm
 refine cd hm (fun hm => ?_) (fun hm => ?_)
 ·refine rg G ?_
  cases hm
  exact rt [] []
 ·refine X_skip (thN ?_)
  obtain ⟨r3, h3, hm⟩ := obind hm
  refine rs G (hC 4 (zq70_c h3) h0) ?_
  obtain ⟨r4, h4, hm⟩ := obind hm
  obtain ⟨u, h5, hm⟩ := obind hm
  refine rs G (hN 3 r3 (hC 4 (zq61_c h4) (hO 5 (.fz [112] [] []) (hU 5 h5 h0)))) ?_
  cases hm
  exact rt [] []
noncomputable def zq18_M : MS Int ByteArray := ⟨.r, zq18, fun y => dV y, fun _ => [], fun _ _ => []⟩
theorem zq18_c {n y} (hm : zq18 n = some y) : zq18_M.C n y := zq18_M.c n hm
theorem zq18_ok : FnOK Tryz.prog tJ 116 zq18_M.S := by
 refine fm tt zq18_M [] Tryz.call116 Tryz.func116 rfl Tryz.results116 Tryz.ntmps116 ?_
 rintro n y cx G hm
 have hm : zq18 n = some y := hm
 unfold zq18 at hm
 refine rg G ?_
 obtain ⟨u, h, hm⟩ := obind hm
 obtain ⟨u1, h1, hm⟩ := obind hm
 refine rs G (hK h (hO 3 (.n ((mkU8 (IntKind.u8.wrap ((w64 (48 + (w64 (n.tdiv 10))))))).toNat : Int)) (hP (u8w_m (w64 (48 + (w64 (n.tdiv 10))))) (hK h1 (hO 7 (.n ((mkU8 (IntKind.u8.wrap ((w64 (48 + (n.tmod 10)))))).toNat : Int)) (hP (u8w_m (w64 (48 + (n.tmod 10)))) (hO 9 (.s (bytS ([(mkU8 (IntKind.u8.wrap ((w64 (48 + (w64 (n.tdiv 10))))))), (mkU8 (IntKind.u8.wrap ((w64 (48 + (n.tmod 10))))))] : List UInt8))) (hP (byt_p ([(mkU8 (IntKind.u8.wrap ((w64 (48 + (w64 (n.tdiv 10))))))), (mkU8 (IntKind.u8.wrap ((w64 (48 + (n.tmod 10))))))] : List UInt8)) (hP (byt_m ([(mkU8 (IntKind.u8.wrap ((w64 (48 + (w64 (n.tdiv 10))))))), (mkU8 (IntKind.u8.wrap ((w64 (48 + (n.tmod 10))))))] : List UInt8)) h0))))))))) ?_
 cases hm
 exact rt [] []
noncomputable def zq17_M : MS Int ByteArray := ⟨.r, zq17, fun y => dV y, fun _ => [], fun _ _ => []⟩
theorem zq17_c {t y} (hm : zq17 t = some y) : zq17_M.C t y := zq17_M.c t hm
theorem zq17_ok : FnOK Tryz.prog tJ 73 zq17_M.S := by
 refine fm tt zq17_M [fo zq18_ok] Tryz.call73 Tryz.func73 rfl Tryz.results73 Tryz.ntmps73 ?_
 rintro t y cx G hm
 have hm : zq17 t = some y := hm
 unfold zq17 at hm
 refine rg G (rg G ?_)
 obtain ⟨u, h, hm⟩ := obind hm
 obtain ⟨r, h1, hm⟩ := obind hm
 obtain ⟨u1, h2, hm⟩ := obind hm
 obtain ⟨u2, h3, hm⟩ := obind hm
 obtain ⟨r1, h4, hm⟩ := obind hm
 obtain ⟨u3, h5, hm⟩ := obind hm
 refine rs G (hK h (hC 3 (zq18_c h1) (hP (cat_p (chk_t h2)) (hK h3 (hC 8 (zq18_c h4) (hP (cat_p (chk_t h5)) h0)))))) ?_
 cases hm
 exact rt [] []
noncomputable def zq108_M : MS (ByteArray × Int) ByteArray := ⟨.x .r .r, fun x => zq108 x.1 x.2, fun y => dV y, fun _ => [], fun _ _ => []⟩
theorem zq108_c {s count y} (hm : zq108 s count = some y) : zq108_M.C (s, count) y := zq108_M.c (s, count) hm
theorem zq108_ok : FnOK Tryz.prog tJ 131 zq108_M.S := repeatOK Tryz.lays105 Tryz.Builder_Extra_105 Tryz.call131
noncomputable def zq30_M : MS (ByteArray × Int) ByteArray := ⟨.x .r .r, fun x => zq30 x.1 x.2, fun y => dV y, fun _ => [], fun _ _ => []⟩
theorem zq30_c {s width y} (hm : zq30 s width = some y) : zq30_M.C (s, width) y := zq30_M.c (s, width) hm
theorem zq30_ok : FnOK Tryz.prog tJ 105 zq30_M.S := by
 refine fm tt zq30_M [fo zq108_ok] Tryz.call105 Tryz.func105 rfl Tryz.results105 Tryz.ntmps105 ?_
 rintro ⟨s, width⟩ y cx G hm
 have hm : zq30 s width = some y := hm
 unfold zq30 at hm
 refine rg G ?_
 obtain ⟨r, h, hm⟩ := obind hm
 obtain ⟨u, h1, hm⟩ := obind hm
 refine rs G (hC 6 (zq108_c h) (hP (cat_p (chk_t h1)) h0)) ?_
 cases hm
 exact rt [] []
noncomputable def zq105_M : MS Int ByteArray := ⟨.r, zq105, fun y => dV y, fun _ => [], fun _ _ => []⟩
theorem zq105_c {i y} (hm : zq105 i = some y) : zq105_M.C i y := zq105_M.c i hm
theorem zq105_ok : FnOK Tryz.prog tJ 71 zq105_M.S := itoaOK Tryz.laysM171 Tryz.call71 (g := 0) (by kernel_rfl)
noncomputable def zq31_M : MS (BoardRow × Int) ByteArray := ⟨.x .r .r, fun x => zq31 x.1 x.2, fun y => dV y, fun _ => [], fun _ _ => []⟩
theorem zq31_c {r now y} (hm : zq31 r now = some y) : zq31_M.C (r, now) y := zq31_M.c (r, now) hm
theorem zq31_ok : FnOK Tryz.prog tJ 61 zq31_M.S := by
 refine fm tt zq31_M [fo zq17_ok, fo zq30_ok, fo zq105_ok] Tryz.call61 Tryz.func61 rfl Tryz.results61 Tryz.ntmps61 ?_
 rintro ⟨r, now⟩ y cx G hm
 have hm : zq31 r now = some y := hm
 unfold zq31 at hm
 refine rg G ?_
 obtain ⟨r4, h8, hm⟩ := obind hm
 obtain ⟨u5, h9, hm⟩ := obind hm
 obtain ⟨r5, h10, hm⟩ := obind hm
 obtain ⟨u6, h11, hm⟩ := obind hm
 obtain ⟨u7, h12, hm⟩ := obind hm
 obtain ⟨r6, h13, hm⟩ := obind hm
 obtain ⟨u8, h14, hm⟩ := obind hm
 obtain ⟨u9, h15, hm⟩ := obind hm
 refine ds G [] (hC 2 (zq17_c h8) (hP (cat_p (chk_t h9)) (hC 6 (zq30_c h10) (hP (cat_p (chk_t h11)) (hP (cat_p (chk_t h12)) (hC 11 (zq30_c h13) (hP (cat_p (chk_t h14)) (hP (cat_p (chk_t h15)) h0)))))))) ?_
 refine jn hm (fun v => ⟨[(5, dV v)], [], 32⟩) (fun v hm => ?_) ?_
 ·refine rg G (Ok_block (rg G (cd hm (fun hm => ?_) (fun hm => ?_))))
  ·obtain ⟨u10, h16, hm⟩ := obind hm
   refine re G (hP (cat_p (chk_t h16)) h0) ?_
   exact ibN (wJ G hm)
  ·refine rg G (cd hm (fun hm => ?_) (fun hm => ?_))
   ·obtain ⟨r7, h17, hm⟩ := obind hm
    obtain ⟨u11, h18, hm⟩ := obind hm
    obtain ⟨u12, h19, hm⟩ := obind hm
    refine re G (hC 2 (zq105_c h17) (hP (cat_p (chk_t h18)) (hP (cat_p (chk_t h19)) h0))) ?_
    exact ibN (wJ G hm)
   ·exact X_skip (ibN (wJ G hm))
 rintro v hm
 obtain ⟨r8, h20, hm⟩ := obind hm
 refine rs G (hC 1 (zq30_c h20) h0) ?_
 cases hm
 exact rt [] []
noncomputable def zq10_M : MS (BoardRow × Int) (ByteArray × Bool) := ⟨.x .r .r, fun x => zq10 x.1 x.2, fun y => .tup [dV y.1, dV y.2], fun _ => [], fun _ _ => []⟩
theorem zq10_c {r now y} (hm : zq10 r now = some y) : zq10_M.C (r, now) y := zq10_M.c (r, now) hm
theorem zq10_ok : FnOK Tryz.prog tJ 22 zq10_M.S := by
 refine fm tt zq10_M [fo zq6_ok, fo zq36_ok, fo zq24_ok, fo zq31_ok] Tryz.call22 Tryz.func22 rfl Tryz.results22 Tryz.ntmps22 ?_
 rintro ⟨r, now⟩ y cx G hm
 have hm : zq10 r now = some y := hm
 unfold zq10 at hm
 refine rg G (Ok_seq ?_)
 obtain ⟨r1, h, hm⟩ := obind hm
 refine jn hm (fun v => ⟨[(1, dV now), (2, .ref 16 0), (41, dV v)], [bX 16 53 [dV r.Time, dV r.Delay, dV r.Line, dV r.Destination]], 48⟩) (fun v hm => ?_) ?_
 ·rcases bf hm with ⟨hb, hm⟩ | ⟨hb, hm⟩
  ·refine re G (hC 1 (zq6_c h) (hO 3 (.b true) (hP hb h0))) ?_
   exact wJ G hm
  ·obtain ⟨r2, h1, hm⟩ := obind hm
   rcases bf hm with ⟨hb1, hm⟩ | ⟨hb1, hm⟩
   ·refine re G (hC 1 (zq6_c h) (hO 3 (.b false) (hP hb (hC 6 (zq6_c h1) (hO 9 (.b true) (hP hb1 h0)))))) ?_
    exact wJ G hm
   ·obtain ⟨r3, h2, hm⟩ := obind hm
    rcases bf hm with ⟨hb2, hm⟩ | ⟨hb2, hm⟩
    ·refine re G (hC 1 (zq6_c h) (hO 3 (.b false) (hP hb (hC 6 (zq6_c h1) (hO 9 (.b false) (hP hb1 (hC 12 (zq36_c h2) (hO 15 (.b true) (hP hb2 h0))))))))) ?_
     exact wJ G hm
    ·obtain ⟨r4, h3, hm⟩ := obind hm
     rcases bf hm with ⟨hb3, hm⟩ | ⟨hb3, hm⟩
     ·refine re G (hC 1 (zq6_c h) (hO 3 (.b false) (hP hb (hC 6 (zq6_c h1) (hO 9 (.b false) (hP hb1 (hC 12 (zq36_c h2) (hO 15 (.b false) (hP hb2 (hC 18 (zq24_c h3) (hO 21 (.b true) (hP hb3 h0)))))))))))) ?_
      exact wJ G hm
     ·obtain ⟨r5, h4, hm⟩ := obind hm
      rcases bf hm with ⟨hb4, hm⟩ | ⟨hb4, hm⟩
      ·refine re G (hC 1 (zq6_c h) (hO 3 (.b false) (hP hb (hC 6 (zq6_c h1) (hO 9 (.b false) (hP hb1 (hC 12 (zq36_c h2) (hO 15 (.b false) (hP hb2 (hC 18 (zq24_c h3) (hO 21 (.b false) (hP hb3 (hC 24 (zq24_c h4) (hO 27 (.b true) (hP hb4 h0))))))))))))))) ?_
       exact wJ G hm
      ·refine re G (hC 1 (zq6_c h) (hO 3 (.b false) (hP hb (hC 6 (zq6_c h1) (hO 9 (.b false) (hP hb1 (hC 12 (zq36_c h2) (hO 15 (.b false) (hP hb2 (hC 18 (zq24_c h3) (hO 21 (.b false) (hP hb3 (hC 24 (zq24_c h4) (hO 27 (.b false) (hP hb4 h0))))))))))))))) ?_
       exact wJ G hm
 rintro v hm
 refine cd hm (fun hm => ?_) (fun hm => ?_)
 ·refine rg G ?_
  cases hm
  exact rt [] []
 ·refine X_skip (thN ?_)
  obtain ⟨r6, h5, hm⟩ := obind hm
  refine rs G (hC 2 (zq31_c h5) h0) ?_
  cases hm
  exact rt [] []
noncomputable def zq107_M : MS ((List UInt8) × ByteArray) (Int × NilErr × (List UInt8)) := writeStringS 98 5
theorem zq107_c {b s y} (hm : zq107 b s = some y) : zq107_M.C (b, s) y := zq107_M.c (b, s) hm
theorem zq107_ok : FnOK Tryz.prog tJ 70 zq107_M.S := writeStringOK Tryz.lays166 Tryz.Builder_Extra_166 Tryz.call70
noncomputable def zq106_M : MS ((List UInt8)) ByteArray := bldStringS 98 5
theorem zq106_c {b y} (hm : zq106 b = some y) : zq106_M.C b y := zq106_M.c b hm
theorem zq106_ok : FnOK Tryz.prog tJ 74 zq106_M.S := bldStringOK Tryz.lays169 Tryz.Builder_Extra_169 Tryz.call74
noncomputable def zq16_M : MS (Timetable × (List TripDelay) × Int × Int × Int) ByteArray := ⟨.x .r (.x .r (.x .r (.x .r .r))), fun x => zq16 x.1 x.2.1 x.2.2.1 x.2.2.2.1 x.2.2.2.2, fun y => dV y, fun _ => [], fun _ _ => []⟩
theorem zq16_c {t delays stop now count y} (hm : zq16 t delays stop now count = some y) : zq16_M.C (t, delays, stop, now, count) y := zq16_M.c (t, delays, stop, now, count) hm
theorem zq16_ok : FnOK Tryz.prog tJ 62 zq16_M.S := by
 refine fm tt zq16_M [fo zq14_ok, fo zq31_ok, fo zq107_ok, fo zq106_ok] Tryz.call62 Tryz.func62 rfl Tryz.results62 Tryz.ntmps62 ?_
 rintro ⟨t, delays, stop, now, count⟩ y cx G hm
 have hm : zq16 t delays stop now count = some y := hm
 unfold zq16 at hm
 refine rg G (rg G (Ok_seq ?_))
 obtain ⟨r, h, hm⟩ := obind hm
 refine rs G (hC 5 (zq14_c h) (hN 6 r h0)) ?_
 refine tl hm (fun v2 => ⟨[(11, .ref 16 0)], [(16, some (.bld 98 5 v2 16))], 48⟩) (fun v2 hm => ?_) ?_
 ·refine Ok_block (lpP hm (fun (v, v1) => ⟨[(3, dV now), (11, .ref 16 0), (19, .own 32), (20, dV (r.length : Int)), (21, dV v)], [(16, some (.bld 98 5 v1 16)), aX 32 53 r], 64⟩) (Wk_J G.hL ⟨[(3, []), (11, []), (19, []), (20, []), (21, [])], [(16, 48, [.bd 5]), (32, 144, [])], [], 64⟩ (by kernel_rfl)) ?_)
  rintro ⟨v, v1⟩ r0 hb hm
  rw [zq16_L1] at hm
  refine rg G (Ok_seq (cd hm (fun hm => ?_) (fun hm => ?_)))
  ·refine X_skip (thN (Ok_seq (Ok_block ?_)))
   obtain ⟨e, h1, hm⟩ := obind hm
   refine rs G (hD 0 h1 (hE 1 h1 h0)) ?_
   obtain ⟨r1, h2, hm⟩ := obind hm
   obtain ⟨u, h3, hm⟩ := obind hm
   obtain ⟨r2, h4, hm⟩ := obind hm
   refine re G (hC 2 (zq31_c h2) (hP (cat_p (chk_t h3)) (hC 4 (zq107_c h4) h0))) ?_
   exact ibN (thN (rh G (wL G hm)))
  ·exact Ok_exit (thE (thE (ibE (wD G hm hb))))
 rintro v2 hm s hw
 refine thN (Ok_weak hw ?_)
 obtain ⟨r3, h5, hm⟩ := obind hm
 refine rs G (hC 0 (zq106_c h5) h0) ?_
 cases hm
 exact rt [] []
noncomputable def zq4_M : MS (Timetable × (List TripDelay) × Int × Int × Int) (ByteArray × Bool) := ⟨.x .r (.x .r (.x .r (.x .r .r))), fun x => zq4 x.1 x.2.1 x.2.2.1 x.2.2.2.1 x.2.2.2.2, fun y => .tup [dV y.1, dV y.2], fun _ => [], fun _ _ => []⟩
theorem zq4_c {t delays stop now count y} (hm : zq4 t delays stop now count = some y) : zq4_M.C (t, delays, stop, now, count) y := zq4_M.c (t, delays, stop, now, count) hm
theorem zq4_ok : FnOK Tryz.prog tJ 23 zq4_M.S := by
 refine fm tt zq4_M [fo zq22_ok, fo zq36_ok, fo zq16_ok] Tryz.call23 Tryz.func23 rfl Tryz.results23 Tryz.ntmps23 ?_
 rintro ⟨t, delays, stop, now, count⟩ y cx G hm
 have hm : zq4 t delays stop now count = some y := hm
 unfold zq4 at hm
 refine rg G (Ok_seq ?_)
 obtain ⟨r, h, hm⟩ := obind hm
 refine jn hm (fun v => ⟨[(1, dV delays), (2, dV stop), (3, dV now), (4, dV count), (5, .ref 16 0), (22, dV v)], [bX 16 30 [dV t.Network.Stops, dV t.Network.Lines, dV t.Trips]], 48⟩) (fun v hm => ?_) ?_
 ·rcases bf hm with ⟨hb, hm⟩ | ⟨hb, hm⟩
  ·refine re G (hC 4 (zq22_c h) (hO 6 (.b true) (hP hb h0))) ?_
   exact wJ G hm
  ·obtain ⟨r1, h1, hm⟩ := obind hm
   refine re G (hC 4 (zq22_c h) (hO 6 (.b false) (hP hb (hC 8 (zq36_c h1) h0)))) ?_
   exact wJ G hm
 rintro v hm
 refine cd hm (fun hm => ?_) (fun hm => ?_)
 ·refine rg G ?_
  cases hm
  exact rt [] []
 ·refine X_skip (thN ?_)
  obtain ⟨r2, h2, hm⟩ := obind hm
  refine rs G (hC 5 (zq16_c h2) h0) ?_
  cases hm
  exact rt [] []
end Go.Proofs.YtimaoofeephgjaaGreatDoor
