/- Each function computes what its model says. Made by program (dec.py). -/
import Derived.Test.YtaegkodcjpgndaaGreatTy
import Derived.Test.YtaegkodcjpgndaaGreatAbArr
import Derived.Test.YtaegkodcjpgndaaGreatMaM
namespace Go.Proofs.YtaegkodcjpgndaaGreat
open Go Go.Ab
set_option maxRecDepth 100000
set_option maxHeartbeats 4000000
set_option linter.unusedVariables false
set_option linter.unusedSimpArgs false
theorem tt : TT Tryz.prog ty := ⟨by kernel_rfl, ty_ok⟩
noncomputable def zq150_M : MS ((List UInt8)) Bool := ⟨.r, zq150, fun y => dV y, fun _ => [], fun _ _ => []⟩
theorem zq150_c {code y} (hm : zq150 code = some y) : zq150_M.C code y := zq150_M.c code hm
theorem zq150_ok : FnOK Tryz.prog 36 zq150_M.S := by
 refine fm tt zq150_M [] Tryz.call36 Tryz.func36 rfl Tryz.results36 Tryz.ntmps36 ?_
 rintro code y cx G hm
 have hm : zq150 code = some y := hm
 unfold zq150 at hm
 refine rg G (rs G (hN 1 code h0) ?_)
 cases hm
 exact rt [] []
noncomputable def zq48_M : MS l1Cur (Int × l1Cur) := ⟨.b, zq48, fun y => dV y.1, fun _ => [], fun _ y => [bxO y.2]⟩
theorem zq48_c {c y} (hm : zq48 c = some y) : zq48_M.C c y := zq48_M.c c hm
theorem zq48_ok : FnOK Tryz.prog 206 zq48_M.S := by
 refine fm tt zq48_M [] Tryz.call206 Tryz.func206 rfl Tryz.results206 Tryz.ntmps206 ?_
 rintro c y cx G hm
 have hm : zq48 c = some y := hm
 unfold zq48 at hm
 refine rg G (rg G (jn hm (fun v => ⟨[(0, .ref 0 0), (3, dV v)], [bX 0 [dV c.code_, dV c.at_, kV .u64 c.seed_.v]], 48⟩) (fun v hm => ?_) ?_))
 ·refine ds G [] (hN 8 c.code_ h0) ?_
  refine cd hm (fun hm => ?_) (fun hm => ?_)
  ·obtain ⟨e1, h1, hm⟩ := obind hm
   refine de G [] (hD 8 h1 h0) ?_
   exact wJ G hm
  ·exact X_skip (wJ G hm)
 rintro v hm
 refine rg G (rg G (Ok_seq (ds G [] (hN 8 c.code_ h0) ?_)))
 refine cd hm (fun hm => ?_) (fun hm => ?_)
 ·refine rg G ?_
  cases hm
  exact rt [] []
 ·refine X_skip (thN ?_)
  obtain ⟨u, h2, hm⟩ := obind hm
  refine rs G (hK h2 h0) ?_
  cases hm
  exact rt [] []
noncomputable def zq53_M : MS (l1Cur × Int) (Int × l1Cur) := ⟨.x .b .r, fun x => zq53 x.1 x.2, fun y => dV y.1, fun _ => [], fun _ y => [bxO y.2]⟩
theorem zq53_c {c n y} (hm : zq53 c n = some y) : zq53_M.C (c, n) y := zq53_M.c (c, n) hm
theorem zq53_ok : FnOK Tryz.prog 146 zq53_M.S := by
 refine fm tt zq53_M [fo zq48_ok] Tryz.call146 Tryz.func146 rfl Tryz.results146 Tryz.ntmps146 ?_
 rintro ⟨c, n⟩ y cx G hm
 have hm : zq53 c n = some y := hm
 unfold zq53 at hm
 refine rg G (Ok_seq (rg G (cd hm (fun hm => ?_) (fun hm => ?_))))
 ·refine rg G ?_
  cases hm
  exact rt [] []
 ·refine X_skip (thN ?_)
  obtain ⟨r, h, hm⟩ := obind hm
  refine rs G (hC 1 (zq48_c h) h0) ?_
  refine jn hm (fun (v, v1, v2, v3) => ⟨[(0, .ref 0 0), (1, dV n), (5, dV v)], [bX 0 [dV v1, dV v2, kV .u64 v3]], 48⟩) (fun vv hm => ?_) ?_
  ·refine rg G (cd hm (fun hm => ?_) (fun hm => ?_))
   ·obtain ⟨r1, h1, hm⟩ := obind hm
    refine re G (hC 3 (zq48_c h1) h0) ?_
    exact wJ G hm
   ·exact X_skip (wJ G hm)
  rintro ⟨v, v1, v2, v3⟩ hm
  obtain ⟨u, h2, hm⟩ := obind hm
  refine rs G (hK h2 h0) ?_
  cases hm
  exact rt [] []
noncomputable def zq61_MR (rec_ : Int → Option (ByteArray)) : MS Int ByteArray := ⟨.r, rec_, fun y => dV y, fun _ => [], fun _ _ => []⟩
noncomputable def zq61_M : MS Int ByteArray := zq61_MR zq61
theorem zq61_c {n y} (hm : zq61 n = some y) : zq61_M.C n y := zq61_M.c n hm
theorem zq61_cR {rec_ : Int → Option (ByteArray)} {n y} (hm : rec_ n = some y) : (zq61_MR rec_).C n y := (zq61_MR rec_).c n hm
theorem zq61_okF {rec_ : Int → Option (ByteArray)} (hrec : FnOK Tryz.prog 220 (zq61_MR rec_).S) : FnOK Tryz.prog 220 (zq61_MR (zq61_F rec_)).S := by
 refine fm tt (zq61_MR (zq61_F rec_)) [fo hrec] Tryz.call220 Tryz.func220 rfl Tryz.results220 Tryz.ntmps220 ?_
 rintro n y cx G hm
 have hm : zq61_F rec_ n = some y := hm
 unfold zq61_F at hm
 refine rg G (Ok_seq (rg G (cd hm (fun hm => ?_) (fun hm => ?_))))
 ·obtain ⟨r, h, hm⟩ := obind hm
  obtain ⟨u, h1, hm⟩ := obind hm
  refine rs G (hC 2 (zq61_cR h) (hP (cat_p (chk_t h1)) h0)) ?_
  cases hm
  exact rt [] []
 ·refine X_skip (thN (Ok_seq (rg G (cd hm (fun hm => ?_) (fun hm => ?_)))))
  ·obtain ⟨u1, h2, hm⟩ := obind hm
   refine rs G (hK h2 h0) ?_
   cases hm
   exact rt [] []
  ·refine X_skip (thN ?_)
   obtain ⟨u7, h9, hm⟩ := obind hm
   obtain ⟨r2, h10, hm⟩ := obind hm
   obtain ⟨u8, h11, hm⟩ := obind hm
   obtain ⟨u9, h12, hm⟩ := obind hm
   obtain ⟨u10, h13, hm⟩ := obind hm
   obtain ⟨u11, h14, hm⟩ := obind hm
   refine ds G [] (hK h9 (hC 2 (zq61_cR h10) (hK h11 (hK h12 (hK h13 (hP (cat_p (chk_t h14)) h0)))))) ?_
   cases hm
   exact rt [] []
theorem zq61_okn : ∀ k, FnOK Tryz.prog 220 (zq61_MR (zq61_k k)).S
 | 0 => ⟨fun args w => Tryz.call220 args w, fun vs w F ds obs κ hp => by obtain ⟨x, y, _, _, h⟩ := hp; cases h⟩
 | k + 1 => zq61_okF (zq61_okn k)
theorem zq61_ok : FnOK Tryz.prog 220 zq61_M.S := zq61_okn 4294967296
noncomputable def zq82_M : MS (Line × Int) Int := ⟨.x .r .r, fun x => zq82 x.1 x.2, fun y => dV y, fun _ => [], fun _ _ => []⟩
theorem zq82_c {x stop y} (hm : zq82 x stop = some y) : zq82_M.C (x, stop) y := zq82_M.c (x, stop) hm
theorem zq82_ok : FnOK Tryz.prog 236 zq82_M.S := by
 refine fm tt zq82_M [] Tryz.call236 Tryz.func236 rfl Tryz.results236 Tryz.ntmps236 ?_
 rintro ⟨x, stop⟩ y cx G hm
 have hm : zq82 x stop = some y := hm
 unfold zq82 at hm
 refine rg G (Ok_seq (rg G (tF hm (fun _ => ⟨[], [], 32⟩) (fun v1 hr hm => ?_) ?_)))
 ·refine Ok_block (lp G hm (fun v => ⟨[(1, dV stop), (2, .ref 16 0), (5, dV v)], [bX 16 [dV x.Name, dV x.Stops, dV x.Runs]], 48⟩) ?_)
  rintro v r0 hb hm
  rw [zq82_L1] at hm
  refine Ok_seq (rs G (hN 3 x.Stops h0) ?_)
  refine cd hm (fun hm => ?_) (fun hm => ?_)
  ·refine X_skip (thN (Ok_seq (Ok_block ?_)))
   obtain ⟨e, h, hm⟩ := obind hm
   refine rs G (hD 3 h h0) ?_
   refine cd hm (fun hm => ?_) (fun hm => ?_)
   ·refine rg G ?_
    have hm := eL hm hb hr
    cases hm
    exact rt [] []
   ·exact X_skip (ibN (thN (rh G (wL G hm))))
  ·exact Ok_exit (thE (thE (ibE (wE G hm hb))))
 rintro ⟨⟩ hm s hw
 refine thN (Ok_weak hw ?_)
 refine rg G ?_
 cases hm
 exact rt [] []
noncomputable def zq44_M : MS (l1Cur × ByteArray × Int) (Line × l1Cur) := ⟨.x .b (.x .r .r), fun x => zq44 x.1 x.2.1 x.2.2, fun y => .aggv [dV y.1.Name, .own 0, .own 1], fun y => [arO 3 y.1.Stops, arO 3 y.1.Runs], fun _ y => [bxO y.2]⟩
theorem zq44_c {c name stops y} (hm : zq44 c name stops = some y) : zq44_M.C (c, name, stops) y := zq44_M.c (c, name, stops) hm
theorem zq44_ok : FnOK Tryz.prog 219 zq44_M.S := by
 refine fm tt zq44_M [fo zq53_ok, fo zq82_ok] Tryz.call219 Tryz.func219 rfl Tryz.results219 Tryz.ntmps219 ?_
 rintro ⟨c, name, stops⟩ y cx G hm
 have hm : zq44 c name stops = some y := hm
 unfold zq44 at hm
 refine rg G (rg G ?_)
 obtain ⟨r, h, hm⟩ := obind hm
 refine rs G (hC 2 (zq53_c h) h0) ?_
 refine Ok_seq ?_
 obtain ⟨r1, h1, hm⟩ := obind hm
 refine rs G (hC 1 (zq53_c h1) h0) ?_
 refine tl hm (fun (v7, v8, v9, v10) => ⟨[(0, .ref 0 0), (2, dV stops), (6, .ref 32 0), (7, .ref 48 0)], [bX 0 [dV v7, dV v8, kV .u64 v9], bX 32 [dV ByteArray.empty, .dat (.sc (.slice none 0 0)), .dat (.sc (.slice none 0 0))], bX 48 [dV name, .own 64, .dat (.sc (.slice none 0 0))], aX 64 3 v10], 96⟩) (fun vv1 hm => ?_) ?_
 ·refine Ok_block (lpP hm (fun (v, v1, v2, v3, v4, v5) => ⟨[(0, .ref 0 0), (2, dV stops), (6, .ref 32 0), (7, .ref 48 0), (8, dV v), (9, dV v1)], [bX 0 [dV v2, dV v3, kV .u64 v4], bX 32 [dV ByteArray.empty, .dat (.sc (.slice none 0 0)), .dat (.sc (.slice none 0 0))], bX 48 [dV name, .own 64, .dat (.sc (.slice none 0 0))], aX 64 3 v5], 96⟩) (Wk_J G.hL ⟨[(0, []), (2, []), (6, []), (7, []), (8, []), (9, [])], [(0, 0, []), (32, 16, []), (48, 64, [.k, .o 64])], [(64, 3, 1, [])], 96⟩ (by kernel_rfl)) ?_)
  rintro ⟨v, v1, v2, v3, v4, v5⟩ r0 hb hm
  rw [zq44_L1] at hm
  refine Ok_seq (rg G (cd hm (fun hm => ?_) (fun hm => ?_)))
  ·refine X_skip (thN (Ok_seq (Ok_block (jn hm (fun v6 => ⟨[(0, .ref 0 0), (2, dV stops), (6, .ref 32 0), (7, .ref 48 0), (8, dV v), (9, dV v1)], [bX 0 [dV v2, dV v3, kV .u64 v4], bX 32 [dV ByteArray.empty, .dat (.sc (.slice none 0 0)), .dat (.sc (.slice none 0 0))], bX 48 [dV name, .own 64, .dat (.sc (.slice none 0 0))], aX 64 3 v6], 96⟩) (fun v6 hm => ?_) ?_))))
   ·obtain ⟨r2, h2, hm⟩ := obind hm
    refine rs G (hC 2 (zq82_c h2) h0) ?_
    refine cd hm (fun hm => ?_) (fun hm => ?_)
    ·obtain ⟨u, h3, hm⟩ := obind hm
     refine re G (hA 4 8 h3 h0) ?_
     exact wJ G hm
    ·exact X_skip (wJ G hm)
   rintro v6 hm
   obtain ⟨r3, h4, hm⟩ := obind hm
   obtain ⟨u1, h5, hm⟩ := obind hm
   refine re G (hC 3 (zq53_c h4) (hK h5 h0)) ?_
   exact ibN (thN (rh G (wL G hm)))
  ·exact Ok_exit (thE (thE (ibE (wD G hm hb))))
 rintro ⟨v7, v8, v9, v10⟩ hm s hw
 refine thN (Ok_weak hw ?_)
 refine jn hm (fun v11 => ⟨[(0, .ref 0 0), (6, .ref 32 0), (7, .ref 48 0)], [bX 0 [dV v7, dV v8, kV .u64 v9], bX 32 [dV ByteArray.empty, .dat (.sc (.slice none 0 0)), .dat (.sc (.slice none 0 0))], bX 48 [dV name, .own 64, .dat (.sc (.slice none 0 0))], aX 64 3 v11], 96⟩) (fun v11 hm => ?_) ?_
 ·refine rs G (hN 2 v10 h0) ?_
  refine cd hm (fun hm => ?_) (fun hm => ?_)
  ·obtain ⟨e1, h9, hm⟩ := obind hm
   obtain ⟨u4, h10, hm⟩ := obind hm
   obtain ⟨u5, h11, hm⟩ := obind hm
   refine de G [(10, [64, 304]), (12, [48, 320])] (hD 4 h9 (hE 5 h9 (hK h10 (hA 10 8 h11 h0)))) ?_
   exact wJ G hm
  ·exact X_skip (wJ G hm)
 rintro v11 hm
 refine Ok_seq (rg G (tl hm (fun (v17, v18, v19, v20) => ⟨[(0, .ref 0 0), (6, .ref 32 0), (7, .ref 48 0)], [bX 0 [dV v17, dV v18, kV .u64 v19], bX 32 [dV ByteArray.empty, .dat (.sc (.slice none 0 0)), .dat (.sc (.slice none 0 0))], bX 48 [dV name, .own 64, .own 80], aX 64 3 v11, aX 80 3 v20], 112⟩) (fun vv hm => ?_) ?_))
 ·refine Ok_block (lpP hm (fun (v12, v13, v14, v15, v16) => ⟨[(0, .ref 0 0), (6, .ref 32 0), (7, .ref 48 0), (10, dV v12)], [bX 0 [dV v13, dV v14, kV .u64 v15], bX 32 [dV ByteArray.empty, .dat (.sc (.slice none 0 0)), .dat (.sc (.slice none 0 0))], bX 48 [dV name, .own 64, .own 80], aX 64 3 v11, aX 80 3 v16], 112⟩) (Wk_J G.hL ⟨[(0, []), (6, []), (7, []), (10, [])], [(0, 0, []), (32, 32, []), (48, 48, [.k, .k, .o 80]), (64, 64, [])], [(80, 3, 1, [])], 112⟩ (by kernel_rfl)) ?_)
  rintro ⟨v12, v13, v14, v15, v16⟩ r0 hb1 hm
  rw [zq44_L2] at hm
  refine Ok_seq (rs G (hN 3 v11 h0) ?_)
  refine cd hm (fun hm => ?_) (fun hm => ?_)
  ·refine X_skip (thN (Ok_seq (Ok_block ?_)))
   obtain ⟨r5, h14, hm⟩ := obind hm
   obtain ⟨u7, h15, hm⟩ := obind hm
   refine de G [(3, [0]), (6, [80, 272]), (8, [48, 288])] (hC 3 (zq53_c h14) (hA 6 8 h15 h0)) ?_
   exact ibN (thN (rh G (wL G hm)))
  ·exact Ok_exit (thE (thE (ibE (wD G hm hb1))))
 rintro ⟨v17, v18, v19, v20⟩ hm s1 hw1
 refine thN (Ok_weak hw1 ?_)
 refine rg G ?_
 cases hm
 exact rt [64, 80] []
noncomputable def zq45_M : MS (l1Cur × ByteArray × Int) (Line × l1Cur) := ⟨.x .b (.x .r .r), fun x => zq45 x.1 x.2.1 x.2.2, fun y => dV y.1, fun _ => [], fun _ y => [bxO y.2]⟩
theorem zq45_c {c name stops y} (hm : zq45 c name stops = some y) : zq45_M.C (c, name, stops) y := zq45_M.c (c, name, stops) hm
theorem zq45_ok : FnOK Tryz.prog 219 zq45_M.S := by
 refine fm tt zq45_M [fo zq53_ok, fo zq82_ok] Tryz.call219 Tryz.func219 rfl Tryz.results219 Tryz.ntmps219 ?_
 rintro ⟨c, name, stops⟩ y cx G hm
 have hm : zq45 c name stops = some y := hm
 unfold zq45 at hm
 refine rg G (rg G ?_)
 obtain ⟨r, h, hm⟩ := obind hm
 refine rs G (hC 2 (zq53_c h) h0) ?_
 refine Ok_seq ?_
 obtain ⟨r1, h1, hm⟩ := obind hm
 refine rs G (hC 1 (zq53_c h1) h0) ?_
 refine tl hm (fun (v7, v8, v9, v10) => ⟨[(0, .ref 0 0), (2, dV stops), (6, .ref 32 0), (7, .ref 48 0)], [bX 0 [dV v7, dV v8, kV .u64 v9], bX 32 [dV ByteArray.empty, .dat (.sc (.slice none 0 0)), .dat (.sc (.slice none 0 0))], bX 48 [dV name, .own 64, .dat (.sc (.slice none 0 0))], aX 64 3 v10], 96⟩) (fun vv1 hm => ?_) ?_
 ·refine Ok_block (lpP hm (fun (v, v1, v2, v3, v4, v5) => ⟨[(0, .ref 0 0), (2, dV stops), (6, .ref 32 0), (7, .ref 48 0), (8, dV v), (9, dV v1)], [bX 0 [dV v2, dV v3, kV .u64 v4], bX 32 [dV ByteArray.empty, .dat (.sc (.slice none 0 0)), .dat (.sc (.slice none 0 0))], bX 48 [dV name, .own 64, .dat (.sc (.slice none 0 0))], aX 64 3 v5], 96⟩) (Wk_J G.hL ⟨[(0, []), (2, []), (6, []), (7, []), (8, []), (9, [])], [(0, 0, []), (32, 16, []), (48, 64, [.k, .o 64])], [(64, 3, 1, [])], 96⟩ (by kernel_rfl)) ?_)
  rintro ⟨v, v1, v2, v3, v4, v5⟩ r0 hb hm
  rw [zq45_L1] at hm
  refine Ok_seq (rg G (cd hm (fun hm => ?_) (fun hm => ?_)))
  ·refine X_skip (thN (Ok_seq (Ok_block (jn hm (fun v6 => ⟨[(0, .ref 0 0), (2, dV stops), (6, .ref 32 0), (7, .ref 48 0), (8, dV v), (9, dV v1)], [bX 0 [dV v2, dV v3, kV .u64 v4], bX 32 [dV ByteArray.empty, .dat (.sc (.slice none 0 0)), .dat (.sc (.slice none 0 0))], bX 48 [dV name, .own 64, .dat (.sc (.slice none 0 0))], aX 64 3 v6], 96⟩) (fun v6 hm => ?_) ?_))))
   ·obtain ⟨r2, h2, hm⟩ := obind hm
    refine rs G (hC 2 (zq82_c h2) h0) ?_
    refine cd hm (fun hm => ?_) (fun hm => ?_)
    ·obtain ⟨u, h3, hm⟩ := obind hm
     refine re G (hA 4 8 h3 h0) ?_
     exact wJ G hm
    ·exact X_skip (wJ G hm)
   rintro v6 hm
   obtain ⟨r3, h4, hm⟩ := obind hm
   obtain ⟨u1, h5, hm⟩ := obind hm
   refine re G (hC 3 (zq53_c h4) (hK h5 h0)) ?_
   exact ibN (thN (rh G (wL G hm)))
  ·exact Ok_exit (thE (thE (ibE (wD G hm hb))))
 rintro ⟨v7, v8, v9, v10⟩ hm s hw
 refine thN (Ok_weak hw ?_)
 refine jn hm (fun v11 => ⟨[(0, .ref 0 0), (6, .ref 32 0), (7, .ref 48 0)], [bX 0 [dV v7, dV v8, kV .u64 v9], bX 32 [dV ByteArray.empty, .dat (.sc (.slice none 0 0)), .dat (.sc (.slice none 0 0))], bX 48 [dV name, .own 64, .dat (.sc (.slice none 0 0))], aX 64 3 v11], 96⟩) (fun v11 hm => ?_) ?_
 ·refine rs G (hN 2 v10 h0) ?_
  refine cd hm (fun hm => ?_) (fun hm => ?_)
  ·obtain ⟨e1, h9, hm⟩ := obind hm
   obtain ⟨u4, h10, hm⟩ := obind hm
   obtain ⟨u5, h11, hm⟩ := obind hm
   refine de G [(10, [64, 304]), (12, [48, 320])] (hD 4 h9 (hE 5 h9 (hK h10 (hA 10 8 h11 h0)))) ?_
   exact wJ G hm
  ·exact X_skip (wJ G hm)
 rintro v11 hm
 refine Ok_seq (rg G (tl hm (fun (v17, v18, v19, v20) => ⟨[(0, .ref 0 0), (6, .ref 32 0), (7, .ref 48 0)], [bX 0 [dV v17, dV v18, kV .u64 v19], bX 32 [dV ByteArray.empty, .dat (.sc (.slice none 0 0)), .dat (.sc (.slice none 0 0))], bX 48 [dV name, .own 64, .own 80], aX 64 3 v11, aX 80 3 v20], 112⟩) (fun vv hm => ?_) ?_))
 ·refine Ok_block (lpP hm (fun (v12, v13, v14, v15, v16) => ⟨[(0, .ref 0 0), (6, .ref 32 0), (7, .ref 48 0), (10, dV v12)], [bX 0 [dV v13, dV v14, kV .u64 v15], bX 32 [dV ByteArray.empty, .dat (.sc (.slice none 0 0)), .dat (.sc (.slice none 0 0))], bX 48 [dV name, .own 64, .own 80], aX 64 3 v11, aX 80 3 v16], 112⟩) (Wk_J G.hL ⟨[(0, []), (6, []), (7, []), (10, [])], [(0, 0, []), (32, 32, []), (48, 48, [.k, .k, .o 80]), (64, 64, [])], [(80, 3, 1, [])], 112⟩ (by kernel_rfl)) ?_)
  rintro ⟨v12, v13, v14, v15, v16⟩ r0 hb1 hm
  rw [zq45_L2] at hm
  refine Ok_seq (rs G (hN 3 v11 h0) ?_)
  refine cd hm (fun hm => ?_) (fun hm => ?_)
  ·refine X_skip (thN (Ok_seq (Ok_block ?_)))
   obtain ⟨r5, h14, hm⟩ := obind hm
   obtain ⟨u7, h15, hm⟩ := obind hm
   refine de G [(3, [0]), (6, [80, 272]), (8, [48, 288])] (hC 3 (zq53_c h14) (hA 6 8 h15 h0)) ?_
   exact ibN (thN (rh G (wL G hm)))
  ·exact Ok_exit (thE (thE (ibE (wD G hm hb1))))
 rintro ⟨v17, v18, v19, v20⟩ hm s1 hw1
 refine thN (Ok_weak hw1 ?_)
 refine rg G ?_
 cases hm
 exact rt [] []
noncomputable def zq52_M : MS (l1Cur × Int) (Bool × l1Cur) := ⟨.x .b .r, fun x => zq52 x.1 x.2, fun y => dV y.1, fun _ => [], fun _ y => [bxO y.2]⟩
theorem zq52_c {c n y} (hm : zq52 c n = some y) : zq52_M.C (c, n) y := zq52_M.c (c, n) hm
theorem zq52_ok : FnOK Tryz.prog 145 zq52_M.S := by
 refine fm tt zq52_M [fo zq53_ok] Tryz.call145 Tryz.func145 rfl Tryz.results145 Tryz.ntmps145 ?_
 rintro ⟨c, n⟩ y cx G hm
 have hm : zq52 c n = some y := hm
 unfold zq52 at hm
 refine rg G ?_
 obtain ⟨r, h, hm⟩ := obind hm
 refine rs G (hC 2 (zq53_c h) h0) ?_
 cases hm
 exact rt [] []
noncomputable def zq74_M : MS ((List Int)) ((List Int)) := ⟨.r, zq74, fun y => dV y, fun _ => [], fun _ _ => []⟩
theorem zq74_c {list y} (hm : zq74 list = some y) : zq74_M.C list y := zq74_M.c list hm
theorem zq74_ok : FnOK Tryz.prog 230 zq74_M.S := by
 refine fm tt zq74_M [] Tryz.call230 Tryz.func230 rfl Tryz.results230 Tryz.ntmps230 ?_
 rintro list y cx G hm
 have hm : zq74 list = some y := hm
 unfold zq74 at hm
 refine rg G (rg G (Ok_seq (rs G (hN 1 list h0) ?_)))
 refine tl hm (fun i1 => ⟨[(3, .own 16)], [aX 16 3 i1], 48⟩) (fun i1 hm => ?_) ?_
 ·refine Ok_block (lp G hm (fun (v, i) => ⟨[(0, dV list), (3, .own 16), (4, dV v)], [aX 16 3 i], 48⟩) ?_)
  rintro ⟨v, i⟩ r0 hb hm
  rw [zq74_L1] at hm
  refine Ok_seq (rg G (cd hm (fun hm => ?_) (fun hm => ?_)))
  ·refine X_skip (thN (Ok_seq (Ok_block ?_)))
   obtain ⟨e, h, hm⟩ := obind hm
   obtain ⟨u, h1, hm⟩ := obind hm
   refine re G (hD 3 h (hA 6 8 h1 h0)) ?_
   exact ibN (thN (rh G (wL G hm)))
  ·exact Ok_exit (thE (thE (ibE (wD G hm hb))))
 rintro i1 hm s hw
 refine thN (Ok_weak hw ?_)
 refine rg G ?_
 cases hm
 exact rt [] []
noncomputable def zq62_M : MS ((List Int)) ((List Int)) := ⟨.r, zq62, fun _ => .own 0, fun y => [arO 3 y], fun _ _ => []⟩
theorem zq62_c {l y} (hm : zq62 l = some y) : zq62_M.C l y := zq62_M.c l hm
theorem zq62_ok : FnOK Tryz.prog 136 zq62_M.S := by
 refine fm tt zq62_M [] Tryz.call136 Tryz.func136 rfl Tryz.results136 Tryz.ntmps136 ?_
 rintro l y cx G hm
 have hm : zq62 l = some y := hm
 unfold zq62 at hm
 refine rg G ?_
 obtain ⟨u, h, hm⟩ := obind hm
 refine rs G (hA 2 8 h h0) ?_
 cases hm
 exact rt [64] []
noncomputable def zq63_M : MS ((List Int)) ((List Int)) := ⟨.r, zq63, fun y => dV y, fun _ => [], fun _ _ => []⟩
theorem zq63_c {l y} (hm : zq63 l = some y) : zq63_M.C l y := zq63_M.c l hm
theorem zq63_ok : FnOK Tryz.prog 136 zq63_M.S := by
 refine fm tt zq63_M [] Tryz.call136 Tryz.func136 rfl Tryz.results136 Tryz.ntmps136 ?_
 rintro l y cx G hm
 have hm : zq63 l = some y := hm
 unfold zq63 at hm
 refine rg G ?_
 obtain ⟨u, h, hm⟩ := obind hm
 refine rs G (hA 2 8 h h0) ?_
 cases hm
 exact rt [] []
noncomputable def zq80_M : MS Network Network := ⟨.r, zq80, fun _ => .aggv [.own 0, .own 1], fun y => [arO 9 y.Stops, arO 170 y.Lines], fun _ _ => []⟩
theorem zq80_c {n y} (hm : zq80 n = some y) : zq80_M.C n y := zq80_M.c n hm
theorem zq80_ok : FnOK Tryz.prog 231 zq80_M.S := by
 refine fm tt zq80_M [fo zq63_ok] Tryz.call231 Tryz.func231 rfl Tryz.results231 Tryz.ntmps231 ?_
 rintro n y cx G hm
 have hm : zq80 n = some y := hm
 unfold zq80 at hm
 refine rg G ?_
 obtain ⟨u, h, hm⟩ := obind hm
 refine rs G (hA 3 16 h h0) ?_
 refine Ok_seq (rg G (tl hm (fun v2 => ⟨[(2, .ref 16 0), (3, .ref 32 0)], [bX 16 [.dat (.sc (.slice none 0 0)), .dat (.sc (.slice none 0 0))], bX 32 [.own 48, .own 64], aX 48 9 (([] : List ByteArray) ++ n.Stops), aX 64 170 v2], 96⟩) (fun v2 hm => ?_) ?_))
 ·refine Ok_block (lpP hm (fun (v, v1) => ⟨[(1, .ref 16 0), (2, .ref 32 0), (3, .ref 48 0), (4, dV v)], [bX 16 [dV n.Stops, dV n.Lines], bX 32 [.dat (.sc (.slice none 0 0)), .dat (.sc (.slice none 0 0))], bX 48 [.own 64, .own 80], aX 64 9 (([] : List ByteArray) ++ n.Stops), aX 80 170 v1], 112⟩) (Wk_J G.hL ⟨[(1, []), (2, []), (3, []), (4, [])], [(16, 16, []), (32, 32, []), (48, 128, [.k, .o 80]), (64, 96, [])], [(80, 170, 3, [])], 112⟩ (by kernel_rfl)) ?_)
  rintro ⟨v, v1⟩ r0 hb hm
  rw [zq80_L1] at hm
  refine Ok_seq (rs G (hN 3 n.Lines h0) ?_)
  refine cd hm (fun hm => ?_) (fun hm => ?_)
  ·refine X_skip (thN (Ok_seq (Ok_block ?_)))
   obtain ⟨e3, h7, hm⟩ := obind hm
   obtain ⟨e4, h8, hm⟩ := obind hm
   obtain ⟨r2, h9, hm⟩ := obind hm
   obtain ⟨e5, h10, hm⟩ := obind hm
   obtain ⟨r3, h11, hm⟩ := obind hm
   obtain ⟨u2, h12, hm⟩ := obind hm
   refine de G [(23, []), (24, [80, 560]), (26, [48, 576])] (hD 5 h7 (hD 11 h8 (hC 14 (zq63_c h9) (hD 18 h10 (hC 21 (zq63_c h11) (hA 24 64 h12 h0)))))) ?_
   exact ibN (thN (rh G (wL G hm)))
  ·exact Ok_exit (thE (thE (ibE (wD G hm hb))))
 rintro v2 hm s hw
 refine thN (Ok_weak hw ?_)
 refine rg G ?_
 cases hm
 exact rt [48, 64] []
noncomputable def zq46_M : MS l1Cur (Network × l1Cur) := ⟨.b, zq46, fun _ => .aggv [.own 0, .own 1], fun y => [arO 9 y.1.Stops, arO 170 y.1.Lines], fun _ y => [bxO y.2]⟩
theorem zq46_c {c y} (hm : zq46 c = some y) : zq46_M.C c y := zq46_M.c c hm
theorem zq46_ok : FnOK Tryz.prog 204 zq46_M.S := by
 refine fm tt zq46_M [fo zq53_ok, fo zq61_ok, fo zq45_ok, fo zq52_ok, fo zq74_ok, fo zq80_ok] Tryz.call204 Tryz.func204 rfl Tryz.results204 Tryz.ntmps204 ?_
 rintro c y cx G hm
 have hm : zq46 c = some y := hm
 unfold zq46 at hm
 refine rg G ?_
 obtain ⟨r, h, hm⟩ := obind hm
 refine rs G (hC 1 (zq53_c h) h0) ?_
 obtain ⟨u, h1, hm⟩ := obind hm
 refine rs G (hO 2 (.fz [96] [] []) (hU 2 h1 h0)) ?_
 refine Ok_seq ?_
 obtain ⟨r1, h2, hm⟩ := obind hm
 refine rs G (hC 1 (zq53_c h2) h0) ?_
 refine tl hm (fun (v4, v5, v6, v7) => ⟨[(0, .ref 0 0), (2, .ref 32 0), (4, .ref 48 0)], [bX 0 [dV v4, dV v5, kV .u64 v6], bX 32 [.dat (.sc (.slice none 0 0)), .dat (.sc (.slice none 0 0))], bX 48 [dV ((([(str [112, 111, 114, 116]), (str [109, 105, 108, 108]), (str [112, 97, 114, 107]), (str [104, 97, 108, 108]), (str [100, 111, 99, 107]), (str [102, 97, 105, 114])] : List ByteArray).take (w64 (2 + r.1)).toNat).drop (0 : Int).toNat), .own 64], aX 64 170 v7], 96⟩) (fun vv1 hm => ?_) ?_
 ·refine Ok_block (lpP hm (fun (x, v, v1, v2, v3) => ⟨[(0, .ref 0 0), (2, .ref 32 0), (3, dV (w64 (2 + r.1))), (4, .ref 48 0), (5, dV x)], [bX 0 [dV v, dV v1, kV .u64 v2], bX 32 [.dat (.sc (.slice none 0 0)), .dat (.sc (.slice none 0 0))], bX 48 [dV ((([(str [112, 111, 114, 116]), (str [109, 105, 108, 108]), (str [112, 97, 114, 107]), (str [104, 97, 108, 108]), (str [100, 111, 99, 107]), (str [102, 97, 105, 114])] : List ByteArray).take (w64 (2 + r.1)).toNat).drop (0 : Int).toNat), .own 64], aX 64 170 v3], 96⟩) (Wk_J G.hL ⟨[(0, []), (2, []), (3, []), (4, []), (5, [])], [(0, 0, []), (32, 16, []), (48, 160, [.k, .o 64])], [(64, 170, 3, [])], 96⟩ (by kernel_rfl)) ?_)
  rintro ⟨x, v, v1, v2, v3⟩ r0 hb hm
  rw [zq46_L1] at hm
  refine Ok_seq (rg G (cd hm (fun hm => ?_) (fun hm => ?_)))
  ·refine X_skip (thN (Ok_seq (Ok_block ?_)))
   obtain ⟨r4, h7, hm⟩ := obind hm
   obtain ⟨u3, h8, hm⟩ := obind hm
   obtain ⟨r5, h9, hm⟩ := obind hm
   obtain ⟨u4, h10, hm⟩ := obind hm
   refine de G [(7, [0]), (8, []), (9, [64, 256]), (11, [48, 272])] (hC 4 (zq61_c h7) (hP (cat_p (chk_t h8)) (hC 7 (zq45_c h9) (hA 9 64 h10 h0)))) ?_
   exact ibN (thN (rh G (wL G hm)))
  ·exact Ok_exit (thE (thE (ibE (wD G hm hb))))
 rintro ⟨v4, v5, v6, v7⟩ hm s hw
 refine thN (Ok_weak hw ?_)
 refine jn hm (fun (v8, v9, v10, v11) => ⟨[(0, .ref 0 0), (2, .ref 32 0), (4, .ref 48 0)], [bX 0 [dV v8, dV v9, kV .u64 v10], bX 32 [.dat (.sc (.slice none 0 0)), .dat (.sc (.slice none 0 0))], bX 48 [dV ((([(str [112, 111, 114, 116]), (str [109, 105, 108, 108]), (str [112, 97, 114, 107]), (str [104, 97, 108, 108]), (str [100, 111, 99, 107]), (str [102, 97, 105, 114])] : List ByteArray).take (w64 (2 + r.1)).toNat).drop (0 : Int).toNat), .own 64], aX 64 170 v11], 96⟩) (fun vv hm => ?_) ?_
 ·obtain ⟨r6, h11, hm⟩ := obind hm
  refine rs G (hC 1 (zq52_c h11) h0) ?_
  refine cd hm (fun hm => ?_) (fun hm => ?_)
  ·obtain ⟨e, h12, hm⟩ := obind hm
   refine rs G (hD 2 h12 (hE 3 h12 h0)) ?_
   obtain ⟨r9, h16, hm⟩ := obind hm
   obtain ⟨r10, h17, hm⟩ := obind hm
   obtain ⟨u6, h18, hm⟩ := obind hm
   refine de G [(9, []), (10, [64, 368]), (12, [48, 384])] (hC 4 (zq74_c h16) (hC 7 (zq74_c h17) (hA 10 64 h18 h0))) ?_
   exact wJ G hm
  ·exact X_skip (wJ G hm)
 rintro ⟨v8, v9, v10, v11⟩ hm
 obtain ⟨r11, h19, hm⟩ := obind hm
 refine rs G (hO 1 (.fz [64] [] []) (hC 1 (zq80_c h19) h0)) ?_
 cases hm
 exact rt [112, 113] []
noncomputable def zq57_M : MS l1Cur (Timetable × l1Cur) := ⟨.b, zq57, fun _ => .aggv [.own 0, .own 1, .own 2], fun y => [arO 9 y.1.Network.Stops, arO 170 y.1.Network.Lines, arO 45 y.1.Trips], fun _ y => [bxO y.2]⟩
theorem zq57_c {c y} (hm : zq57 c = some y) : zq57_M.C c y := zq57_M.c c hm
theorem zq57_ok : FnOK Tryz.prog 178 zq57_M.S := by
 refine fm tt zq57_M [fo zq46_ok, fo zq53_ok] Tryz.call178 Tryz.func178 rfl Tryz.results178 Tryz.ntmps178 ?_
 rintro c y cx G hm
 have hm : zq57 c = some y := hm
 unfold zq57 at hm
 refine rg G ?_
 obtain ⟨r, h, hm⟩ := obind hm
 refine rs G (hC 1 (zq46_c h) h0) ?_
 refine rg G (Ok_seq ?_)
 obtain ⟨r1, h1, hm⟩ := obind hm
 refine rs G (hC 1 (zq53_c h1) h0) ?_
 refine tl hm (fun (v5, v6, v7, v8) => ⟨[(0, .ref 0 0), (2, .ref 32 0), (3, .ref 48 0)], [bX 0 [dV v5, dV v6, kV .u64 v7], bX 32 [.dat (.sc (.slice none 0 0)), .dat (.sc (.slice none 0 0)), .dat (.sc (.slice none 0 0))], bX 48 [.own 64, .own 80, .own 96], aX 64 9 r.1.Stops, aX 80 170 r.1.Lines, aX 96 45 v8], 128⟩) (fun vv hm => ?_) ?_
 ·refine Ok_block (lpP hm (fun (n, v, v1, v2, v3, v4) => ⟨[(0, .ref 0 0), (2, .ref 32 0), (3, .ref 48 0), (4, dV n), (5, dV v)], [bX 0 [dV v1, dV v2, kV .u64 v3], bX 32 [.dat (.sc (.slice none 0 0)), .dat (.sc (.slice none 0 0)), .dat (.sc (.slice none 0 0))], bX 48 [.own 64, .own 80, .own 96], aX 64 9 r.1.Stops, aX 80 170 r.1.Lines, aX 96 45 v4], 128⟩) (Wk_J G.hL ⟨[(0, []), (2, []), (3, []), (4, []), (5, [])], [(0, 0, []), (32, 16, []), (48, 80, [.k, .k, .o 96]), (64, 48, []), (80, 49, [])], [(96, 45, 3, [])], 128⟩ (by kernel_rfl)) ?_)
  rintro ⟨n, v, v1, v2, v3, v4⟩ r0 hb hm
  rw [zq57_L1] at hm
  refine Ok_seq (rg G (cd hm (fun hm => ?_) (fun hm => ?_)))
  ·refine X_skip (thN (Ok_seq (Ok_block ?_)))
   obtain ⟨r2, h2, hm⟩ := obind hm
   refine rs G (hC 3 (zq53_c h2) h0) ?_
   obtain ⟨r5, h6, hm⟩ := obind hm
   obtain ⟨r6, h7, hm⟩ := obind hm
   obtain ⟨u1, h8, hm⟩ := obind hm
   refine de G [(8, [0]), (10, [0]), (15, [96, 480]), (17, [48, 496])] (hN 7 r.1.Lines (hC 8 (zq53_c h6) (hC 10 (zq53_c h7) (hA 15 24 h8 h0)))) ?_
   exact ibN (thN (rh G (wL G hm)))
  ·exact Ok_exit (thE (thE (ibE (wD G hm hb))))
 rintro ⟨v5, v6, v7, v8⟩ hm s hw
 refine thN (Ok_weak hw ?_)
 refine rg G ?_
 cases hm
 exact rt [64, 80, 96] []
noncomputable def zq39_M : MS (l1Cur × (List Int)) (Int × l1Cur) := ⟨.x .b .r, fun x => zq39 x.1 x.2, fun y => dV y.1, fun _ => [], fun _ y => [bxO y.2]⟩
theorem zq39_c {c list y} (hm : zq39 c list = some y) : zq39_M.C (c, list) y := zq39_M.c (c, list) hm
theorem zq39_ok : FnOK Tryz.prog 147 zq39_M.S := by
 refine fm tt zq39_M [fo zq53_ok] Tryz.call147 Tryz.func147 rfl Tryz.results147 Tryz.ntmps147 ?_
 rintro ⟨c, list⟩ y cx G hm
 have hm : zq39 c list = some y := hm
 unfold zq39 at hm
 refine rg G ?_
 obtain ⟨r, h, hm⟩ := obind hm
 obtain ⟨e, h1, hm⟩ := obind hm
 refine rs G (hN 3 list (hC 4 (zq53_c h) (hD 5 h1 h0))) ?_
 cases hm
 exact rt [] []
noncomputable def zq51_M : MS (l1Cur × (List ByteArray)) (ByteArray × l1Cur) := ⟨.x .b (.s 9), fun x => zq51 x.1 x.2, fun y => dV y.1, fun _ => [], fun x y => [bxO y.2, arO 9 x.2]⟩
theorem zq51_c {c list y} (hm : zq51 c list = some y) : zq51_M.C (c, list) y := zq51_M.c (c, list) hm
theorem zq51_ok : FnOK Tryz.prog 218 zq51_M.S := by
 refine fm tt zq51_M [fo zq53_ok] Tryz.call218 Tryz.func218 rfl Tryz.results218 Tryz.ntmps218 ?_
 rintro ⟨c, list⟩ y cx G hm
 have hm : zq51 c list = some y := hm
 unfold zq51 at hm
 refine rg G ?_
 obtain ⟨r, h, hm⟩ := obind hm
 obtain ⟨e, h1, hm⟩ := obind hm
 refine rs G (hN 3 list (hC 4 (zq53_c h) (hD 5 h1 (hE 6 h1 h0)))) ?_
 cases hm
 exact rt [] []
noncomputable def zq81_M : MS Network Network := ⟨.r, zq81, fun _ => .aggv [.own 0, .own 1], fun y => [arO 9 y.Stops, taO 170 [none, some 3, some 3] y.Lines], fun _ _ => []⟩
theorem zq81_c {n y} (hm : zq81 n = some y) : zq81_M.C n y := zq81_M.c n hm
theorem zq81_ok : FnOK Tryz.prog 231 zq81_M.S := by
 refine fm tt zq81_M [fo zq62_ok] Tryz.call231 Tryz.func231 rfl Tryz.results231 Tryz.ntmps231 ?_
 rintro n y cx G hm
 have hm : zq81 n = some y := hm
 unfold zq81 at hm
 refine rg G ?_
 obtain ⟨u, h, hm⟩ := obind hm
 refine rs G (hA 3 16 h h0) ?_
 refine Ok_seq (rg G (tl hm (fun v2 => ⟨[(2, .ref 16 0), (3, .ref 32 0)], [bX 16 [.dat (.sc (.slice none 0 0)), .dat (.sc (.slice none 0 0))], bX 32 [.own 48, .own 64], aX 48 9 (([] : List ByteArray) ++ n.Stops), tX 64 170 [none, some 3, some 3] v2 64 none], 96⟩) (fun v2 hm => ?_) ?_))
 ·refine Ok_block (lpP hm (fun (v, v1) => ⟨[(1, .ref 16 0), (2, .ref 32 0), (3, .ref 48 0), (4, dV v)], [bX 16 [dV n.Stops, dV n.Lines], bX 32 [.dat (.sc (.slice none 0 0)), .dat (.sc (.slice none 0 0))], bX 48 [.own 64, .own 80], aX 64 9 (([] : List ByteArray) ++ n.Stops), tX 80 170 [none, some 3, some 3] v1 80 none], 112⟩) (Wk_J G.hL ⟨[(1, []), (2, []), (3, []), (4, [])], [(16, 16, []), (32, 32, []), (48, 128, [.k, .o 80]), (64, 96, [])], [(80, 170, 3, [none, some 3, some 3])], 112⟩ (by kernel_rfl)) ?_)
  rintro ⟨v, v1⟩ r0 hb hm
  rw [zq81_L1] at hm
  refine Ok_seq (rs G (hN 3 n.Lines h0) ?_)
  refine cd hm (fun hm => ?_) (fun hm => ?_)
  ·refine X_skip (thN (Ok_seq (Ok_block ?_)))
   obtain ⟨e3, h7, hm⟩ := obind hm
   obtain ⟨e4, h8, hm⟩ := obind hm
   obtain ⟨r2, h9, hm⟩ := obind hm
   obtain ⟨e5, h10, hm⟩ := obind hm
   obtain ⟨r3, h11, hm⟩ := obind hm
   obtain ⟨u2, h12, hm⟩ := obind hm
   refine de G [(23, [416, 528]), (24, [80, 560]), (26, [48, 576])] (hD 5 h7 (hD 11 h8 (hC 14 (zq62_c h9) (hD 18 h10 (hC 21 (zq62_c h11) (hP (nodupB_ok (l := [416, 528]) rfl) (hA 24 64 h12 h0))))))) ?_
   exact ibN (thN (rh G (wL G hm)))
  ·exact Ok_exit (thE (thE (ibE (wD G hm hb))))
 rintro v2 hm s hw
 refine thN (Ok_weak hw ?_)
 refine rg G ?_
 cases hm
 exact rt [48, 64] []
noncomputable def zq47_M : MS l1Cur (Network × l1Cur) := ⟨.b, zq47, fun _ => .aggv [.own 0, .own 1], fun y => [arO 9 y.1.Stops, taO 170 [none, some 3, some 3] y.1.Lines], fun _ y => [bxO y.2]⟩
theorem zq47_c {c y} (hm : zq47 c = some y) : zq47_M.C c y := zq47_M.c c hm
theorem zq47_ok : FnOK Tryz.prog 204 zq47_M.S := by
 refine fm tt zq47_M [fo zq53_ok, fo zq61_ok, fo zq45_ok, fo zq52_ok, fo zq74_ok, fo zq81_ok] Tryz.call204 Tryz.func204 rfl Tryz.results204 Tryz.ntmps204 ?_
 rintro c y cx G hm
 have hm : zq47 c = some y := hm
 unfold zq47 at hm
 refine rg G ?_
 obtain ⟨r, h, hm⟩ := obind hm
 refine rs G (hC 1 (zq53_c h) h0) ?_
 obtain ⟨u, h1, hm⟩ := obind hm
 refine rs G (hO 2 (.fz [96] [] []) (hU 2 h1 h0)) ?_
 refine Ok_seq ?_
 obtain ⟨r1, h2, hm⟩ := obind hm
 refine rs G (hC 1 (zq53_c h2) h0) ?_
 refine tl hm (fun (v4, v5, v6, v7) => ⟨[(0, .ref 0 0), (2, .ref 32 0), (4, .ref 48 0)], [bX 0 [dV v4, dV v5, kV .u64 v6], bX 32 [.dat (.sc (.slice none 0 0)), .dat (.sc (.slice none 0 0))], bX 48 [dV ((([(str [112, 111, 114, 116]), (str [109, 105, 108, 108]), (str [112, 97, 114, 107]), (str [104, 97, 108, 108]), (str [100, 111, 99, 107]), (str [102, 97, 105, 114])] : List ByteArray).take (w64 (2 + r.1)).toNat).drop (0 : Int).toNat), .own 64], aX 64 170 v7], 96⟩) (fun vv1 hm => ?_) ?_
 ·refine Ok_block (lpP hm (fun (x, v, v1, v2, v3) => ⟨[(0, .ref 0 0), (2, .ref 32 0), (3, dV (w64 (2 + r.1))), (4, .ref 48 0), (5, dV x)], [bX 0 [dV v, dV v1, kV .u64 v2], bX 32 [.dat (.sc (.slice none 0 0)), .dat (.sc (.slice none 0 0))], bX 48 [dV ((([(str [112, 111, 114, 116]), (str [109, 105, 108, 108]), (str [112, 97, 114, 107]), (str [104, 97, 108, 108]), (str [100, 111, 99, 107]), (str [102, 97, 105, 114])] : List ByteArray).take (w64 (2 + r.1)).toNat).drop (0 : Int).toNat), .own 64], aX 64 170 v3], 96⟩) (Wk_J G.hL ⟨[(0, []), (2, []), (3, []), (4, []), (5, [])], [(0, 0, []), (32, 16, []), (48, 160, [.k, .o 64])], [(64, 170, 3, [])], 96⟩ (by kernel_rfl)) ?_)
  rintro ⟨x, v, v1, v2, v3⟩ r0 hb hm
  rw [zq47_L1] at hm
  refine Ok_seq (rg G (cd hm (fun hm => ?_) (fun hm => ?_)))
  ·refine X_skip (thN (Ok_seq (Ok_block ?_)))
   obtain ⟨r4, h7, hm⟩ := obind hm
   obtain ⟨u3, h8, hm⟩ := obind hm
   obtain ⟨r5, h9, hm⟩ := obind hm
   obtain ⟨u4, h10, hm⟩ := obind hm
   refine de G [(7, [0]), (8, []), (9, [64, 256]), (11, [48, 272])] (hC 4 (zq61_c h7) (hP (cat_p (chk_t h8)) (hC 7 (zq45_c h9) (hA 9 64 h10 h0)))) ?_
   exact ibN (thN (rh G (wL G hm)))
  ·exact Ok_exit (thE (thE (ibE (wD G hm hb))))
 rintro ⟨v4, v5, v6, v7⟩ hm s hw
 refine thN (Ok_weak hw ?_)
 refine jn hm (fun (v8, v9, v10, v11) => ⟨[(0, .ref 0 0), (2, .ref 32 0), (4, .ref 48 0)], [bX 0 [dV v8, dV v9, kV .u64 v10], bX 32 [.dat (.sc (.slice none 0 0)), .dat (.sc (.slice none 0 0))], bX 48 [dV ((([(str [112, 111, 114, 116]), (str [109, 105, 108, 108]), (str [112, 97, 114, 107]), (str [104, 97, 108, 108]), (str [100, 111, 99, 107]), (str [102, 97, 105, 114])] : List ByteArray).take (w64 (2 + r.1)).toNat).drop (0 : Int).toNat), .own 64], aX 64 170 v11], 96⟩) (fun vv hm => ?_) ?_
 ·obtain ⟨r6, h11, hm⟩ := obind hm
  refine rs G (hC 1 (zq52_c h11) h0) ?_
  refine cd hm (fun hm => ?_) (fun hm => ?_)
  ·obtain ⟨e, h12, hm⟩ := obind hm
   refine rs G (hD 2 h12 (hE 3 h12 h0)) ?_
   obtain ⟨r9, h16, hm⟩ := obind hm
   obtain ⟨r10, h17, hm⟩ := obind hm
   obtain ⟨u6, h18, hm⟩ := obind hm
   refine de G [(9, []), (10, [64, 368]), (12, [48, 384])] (hC 4 (zq74_c h16) (hC 7 (zq74_c h17) (hA 10 64 h18 h0))) ?_
   exact wJ G hm
  ·exact X_skip (wJ G hm)
 rintro ⟨v8, v9, v10, v11⟩ hm
 obtain ⟨r11, h19, hm⟩ := obind hm
 refine rs G (hO 1 (.fz [64] [] []) (hC 1 (zq81_c h19) h0)) ?_
 cases hm
 exact rt [112, 113] []
noncomputable def zq40_M : MS (l1Cur × (List Int)) (Int × l1Cur) := ⟨.x .b (.s 3), fun x => zq40 x.1 x.2, fun y => dV y.1, fun _ => [], fun x y => [bxO y.2, arO 3 x.2]⟩
theorem zq40_c {c list y} (hm : zq40 c list = some y) : zq40_M.C (c, list) y := zq40_M.c (c, list) hm
theorem zq40_ok : FnOK Tryz.prog 147 zq40_M.S := by
 refine fm tt zq40_M [fo zq53_ok] Tryz.call147 Tryz.func147 rfl Tryz.results147 Tryz.ntmps147 ?_
 rintro ⟨c, list⟩ y cx G hm
 have hm : zq40 c list = some y := hm
 unfold zq40 at hm
 refine rg G ?_
 obtain ⟨r, h, hm⟩ := obind hm
 obtain ⟨e, h1, hm⟩ := obind hm
 refine rs G (hN 3 list (hC 4 (zq53_c h) (hD 5 h1 (hE 6 h1 h0)))) ?_
 cases hm
 exact rt [] []
noncomputable def zq41_M : MS l1Cur (Network × l1Cur) := ⟨.b, zq41, fun y => .aggv [.own 0, dV y.1.Lines], fun y => [arO 9 y.1.Stops], fun _ y => [bxO y.2]⟩
theorem zq41_c {c y} (hm : zq41 c = some y) : zq41_M.C c y := zq41_M.c c hm
theorem zq41_ok : FnOK Tryz.prog 179 zq41_M.S := by
 refine fm tt zq41_M [fo zq47_ok, fo zq53_ok, fo zq51_ok, fo zq40_ok, fo zq61_ok, fo zq44_ok] Tryz.call179 Tryz.func179 rfl Tryz.results179 Tryz.ntmps179 ?_
 rintro c y cx G hm
 have hm : zq41 c = some y := hm
 unfold zq41 at hm
 refine rg G ?_
 obtain ⟨r, h, hm⟩ := obind hm
 refine rs G (hC 1 (zq47_c h) h0) ?_
 obtain ⟨r1, h1, hm⟩ := obind hm
 refine rs G (hN 3 r.1.Lines (hC 4 (zq53_c h1) h0)) ?_
 obtain ⟨e, h2, hm⟩ := obind hm
 refine rs G (hD 3 h2 (hE 4 h2 h0)) ?_
 refine jF hm (fun (v, v1, v2, v3, v4, v5, v6) => ⟨[(0, .ref 0 0), (2, .ref 32 0), (3, .ref 48 0), (4, dV r1.1), (5, .ref 64 0)], [bX 0 [dV v, dV v1, kV .u64 v2], bX 32 [.dat (.sc (.slice none 0 0)), .dat (.sc (.slice none 0 0))], bX 48 [.own 80, .own 96], bX 64 [dV v3, .row 96 96 r1.1.toNat 1, .own 112], aX 80 9 v4, tX 96 170 [none, some 3, some 3] v5 96 (some (r1.1.toNat, 2)), aX 112 3 v6], 144⟩) (fun v17 hr hm => ?_) ?_
 ·obtain ⟨r2, h3, hm⟩ := obind hm
  refine rs G (hC 1 (zq53_c h3) h0) ?_
  refine Ok_block (rg G (cd hm (fun hm => ?_) (fun hm => ?_)))
  ·obtain ⟨r4, h6, hm⟩ := obind hm
   obtain ⟨e2, h7, hm⟩ := obind hm
   refine de G [(4, [0, 416]), (6, [48])] (hC 4 (zq51_c h6) (hD 5 h7 (hS 6 h7 r4.1 h0))) ?_
   exact ibN (wFp hm (Wk.trans (Wk_S (.c 272 2) (Enc.e e) (.cons (idx_m2 (f := Enc.e) (l := r.1.Lines) (i := r1.1) h2) .nil) (by kernel_rfl)) (Wk_J G.hL ⟨[(0, []), (2, []), (3, []), (4, []), (5, [])], [(0, 0, []), (32, 16, []), (48, 64, []), (64, 272, []), (80, 48, []), (96, 49, []), (112, 480, [])], [], 144⟩ (by kernel_rfl))))
  ·refine rg G (cd hm (fun hm => ?_) (fun hm => ?_))
   ·obtain ⟨r5, h8, hm⟩ := obind hm
    refine re G (hC 2 (zq51_c h8) h0) ?_
    exact ibN (wFp hm (Wk.trans (Wk_S (.c 272 2) (Enc.e e) (.cons (idx_m2 (f := Enc.e) (l := r.1.Lines) (i := r1.1) h2) .nil) (by kernel_rfl)) (Wk_J G.hL ⟨[(0, []), (2, []), (3, []), (4, []), (5, [])], [(0, 0, []), (32, 16, []), (48, 64, []), (64, 272, []), (80, 48, []), (96, 49, []), (112, 480, [])], [], 144⟩ (by kernel_rfl))))
   ·refine rg G (cd hm (fun hm => ?_) (fun hm => ?_))
    ·obtain ⟨r8, h12, hm⟩ := obind hm
     obtain ⟨r9, h13, hm⟩ := obind hm
     obtain ⟨e4, h14, hm⟩ := obind hm
     refine de G [(6, [0]), (8, [0]), (11, [49])] (hO 5 (.dn (Enc.e e) (e.Stops.length : Int)) (hP (idx_m2 (f := Enc.e) h2) (hP (len_m Enc.e e.Stops) (hC 6 (zq53_c h12) (hC 8 (zq53_c h13) (hE 10 h2 (hP (idx_b (f := Enc.e) h14) (hO 11 (.sd2 (Enc.e e) (Enc.e e4) (List.map Enc.e (e.Stops.set r8.1.toNat (w64 (r9.1 - 1)))) (List.map Enc.e (r.1.Lines.set r1.1.toNat (⟨e.Name, (e.Stops.set r8.1.toNat (w64 (r9.1 - 1))), e.Runs⟩ : Line)))) (hP (idx_m2 (f := Enc.e) h2) (hP (idx_m2 (f := Enc.e) h14) (hP (set_m Enc.e e.Stops r8.1.toNat (w64 (r9.1 - 1))) (hP (set_m Enc.e r.1.Lines r1.1.toNat (⟨e.Name, (e.Stops.set r8.1.toNat (w64 (r9.1 - 1))), e.Runs⟩ : Line)) h0)))))))))))) ?_
     exact ibN (wFp hm (Wk.trans (Wk_S (.c 272 2) (Enc.e (⟨e.Name, (e.Stops.set r8.1.toNat (w64 (r9.1 - 1))), e.Runs⟩ : Line)) (.cons (idx_m2 (f := Enc.e) (l := (r.1.Lines.set r1.1.toNat (⟨e.Name, (e.Stops.set r8.1.toNat (w64 (r9.1 - 1))), e.Runs⟩ : Line))) (i := r1.1) (idx_set (y := (⟨e.Name, (e.Stops.set r8.1.toNat (w64 (r9.1 - 1))), e.Runs⟩ : Line)) h2)) .nil) (by kernel_rfl)) (Wk_J G.hL ⟨[(0, []), (2, []), (3, []), (4, []), (5, [])], [(0, 0, []), (32, 16, []), (48, 64, []), (64, 272, []), (80, 48, []), (96, 49, []), (112, 624, [])], [], 144⟩ (by kernel_rfl))))
    ·refine rg G (cd hm (fun hm => ?_) (fun hm => ?_))
     ·obtain ⟨r12, h18, hm⟩ := obind hm
      obtain ⟨r13, h19, hm⟩ := obind hm
      obtain ⟨e6, h20, hm⟩ := obind hm
      refine de G [(6, [0]), (9, [0, 592]), (11, [49])] (hO 5 (.dn (Enc.e e) (e.Runs.length : Int)) (hP (idx_m2 (f := Enc.e) h2) (hP (len_m Enc.e e.Runs) (hC 6 (zq53_c h18) (hC 9 (zq40_c h19) (hE 10 h2 (hP (idx_b (f := Enc.e) h20) (hO 11 (.sd2 (Enc.e e) (Enc.e e6) (List.map Enc.e (e.Runs.set r12.1.toNat r13.1)) (List.map Enc.e (r.1.Lines.set r1.1.toNat (⟨e.Name, e.Stops, (e.Runs.set r12.1.toNat r13.1)⟩ : Line)))) (hP (idx_m2 (f := Enc.e) h2) (hP (idx_m2 (f := Enc.e) h20) (hP (set_m Enc.e e.Runs r12.1.toNat r13.1) (hP (set_m Enc.e r.1.Lines r1.1.toNat (⟨e.Name, e.Stops, (e.Runs.set r12.1.toNat r13.1)⟩ : Line)) h0)))))))))))) ?_
      exact ibN (wFp hm (Wk.trans (Wk_S (.c 272 2) (Enc.e (⟨e.Name, e.Stops, (e.Runs.set r12.1.toNat r13.1)⟩ : Line)) (.cons (idx_m2 (f := Enc.e) (l := (r.1.Lines.set r1.1.toNat (⟨e.Name, e.Stops, (e.Runs.set r12.1.toNat r13.1)⟩ : Line))) (i := r1.1) (idx_set (y := (⟨e.Name, e.Stops, (e.Runs.set r12.1.toNat r13.1)⟩ : Line)) h2)) .nil) (by kernel_rfl)) (Wk_J G.hL ⟨[(0, []), (2, []), (3, []), (4, []), (5, [])], [(0, 0, []), (32, 16, []), (48, 64, []), (64, 272, []), (80, 48, []), (96, 49, []), (112, 656, [])], [], 144⟩ (by kernel_rfl))))
     ·refine rg G (cd hm (fun hm => ?_) (fun hm => ?_))
      ·obtain ⟨u, h21, hm⟩ := obind hm
       refine re G (hO 3 (.sd (Enc.e e) (List.map Enc.e (e.Runs ++ ([3] : List Int)))) (hP (idx_m2 (f := Enc.e) h2) (hP (app_p (f := Enc.e) (g := Enc.e) (l := e.Runs) (r := ([3] : List Int)) (b := 8) (chk_t h21) rfl) (hP (app_m Enc.e e.Runs ([3] : List Int)) h0)))) ?_
       exact ibN (wF G hm)
      ·refine rg G (cd hm (fun hm => ?_) (fun hm => ?_))
       ·refine rg G (rg G ?_)
        have hm := eR hm hr
        cases hm
        exact rt [48] []
       ·refine rg G (cd hm (fun hm => ?_) (fun hm => ?_))
        ·refine Ok_seq (rg G (tl hm (fun (v13, v14, v15, v16) => ⟨[(0, .ref 0 0), (2, .ref 32 0), (3, .ref 48 0)], [bX 0 [dV v13, dV v14, kV .u64 v15], bX 32 [.dat (.sc (.slice none 0 0)), .dat (.sc (.slice none 0 0))], bX 48 [.own 64, .own 80], aX 64 9 r.1.Stops, tX 80 170 [none, some 3, some 3] v16 80 none], 112⟩) (fun vv hm => ?_) ?_))
         ·refine Ok_block (lp G hm (fun (v7, v8, v9, v10, v11) => ⟨[(0, .ref 0 0), (2, .ref 32 0), (3, .ref 48 0), (6, dV v7)], [bX 0 [dV v8, dV v9, kV .u64 v10], bX 32 [.dat (.sc (.slice none 0 0)), .dat (.sc (.slice none 0 0))], bX 48 [.own 64, .own 80], aX 64 9 r.1.Stops, tX 80 170 [none, some 3, some 3] v11 80 none], 112⟩) ?_)
          rintro ⟨v7, v8, v9, v10, v11⟩ r0 hb hm
          rw [zq41_L1] at hm
          refine Ok_seq ?_
          obtain ⟨r16, h23, hm⟩ := obind hm
          refine jn hm (fun v12 => ⟨[(0, .ref 0 0), (2, .ref 32 0), (3, .ref 48 0), (6, dV v7), (85, dV v12)], [bX 0 [dV r16.2.code_, dV r16.2.at_, kV .u64 r16.2.seed_.v], bX 32 [.dat (.sc (.slice none 0 0)), .dat (.sc (.slice none 0 0))], bX 48 [.own 64, .own 80], aX 64 9 r.1.Stops, tX 80 170 [none, some 3, some 3] v11 80 none], 112⟩) (fun v12 hm => ?_) ?_
          ·rcases bf hm with ⟨hb1, hm⟩ | ⟨hb1, hm⟩
           ·refine de G [(4, [0])] (hN 2 v11 (hC 4 (zq53_c h23) (hO 7 (.b true) (hP hb1 h0)))) ?_
            exact wJ G hm
           ·refine de G [(4, [0])] (hN 2 v11 (hC 4 (zq53_c h23) (hO 7 (.b false) (hP hb1 h0)))) ?_
            exact wJ G hm
          rintro v12 hm
          refine cd hm (fun hm => ?_) (fun hm => ?_)
          ·refine X_skip (thN (Ok_seq (Ok_block ?_)))
           obtain ⟨r19, h28, hm⟩ := obind hm
           obtain ⟨u3, h29, hm⟩ := obind hm
           obtain ⟨r20, h30, hm⟩ := obind hm
           obtain ⟨u4, h31, hm⟩ := obind hm
           refine de G [(9, [0]), (10, [256, 257]), (11, [80, 272]), (13, [48, 288])] (hC 4 (zq61_c h28) (hP (cat_p (chk_t h29)) (hN 8 r.1.Stops (hC 9 (zq44_c h30) (hP (nodupB_ok (l := [256, 257]) rfl) (hA 11 64 h31 h0)))))) ?_
           exact ibN (thN (rh G (wL G hm)))
          ·exact Ok_exit (thE (thE (ibE (wD G hm hb))))
         rintro ⟨v13, v14, v15, v16⟩ hm s hw
         refine thN (Ok_weak hw ?_)
         refine rg G ?_
         have hm := eR hm hr
         cases hm
         exact rt [64] []
        ·exact X_skip (ibN (wFp hm (Wk.trans (Wk_S (.c 272 2) (Enc.e e) (.cons (idx_m2 (f := Enc.e) (l := r.1.Lines) (i := r1.1) h2) .nil) (by kernel_rfl)) (Wk_J G.hL ⟨[(0, []), (2, []), (3, []), (4, []), (5, [])], [(0, 0, []), (32, 16, []), (48, 64, []), (64, 272, []), (80, 48, []), (96, 49, []), (112, 560, [])], [], 144⟩ (by kernel_rfl)))))
 rintro ⟨v, v1, v2, v3, v4, v5, v6⟩ hm
 obtain ⟨e9, h32, hm⟩ := obind hm
 refine rs G (hD 4 h32 (hS 5 h32 (⟨v3, e9.Stops, v6⟩ : Line) (hP (Eq.refl r1.1.toNat) (hP (Eq.refl r1.1.toNat) h0)))) ?_
 refine rg G ?_
 cases hm
 exact rt [80] []
noncomputable def zq42_M : MS l1Cur (Timetable × l1Cur) := ⟨.b, zq42, fun y => .aggv [.own 0, dV y.1.Network.Lines, .own 1], fun y => [arO 9 y.1.Network.Stops, arO 45 y.1.Trips], fun _ y => [bxO y.2]⟩
theorem zq42_c {c y} (hm : zq42 c = some y) : zq42_M.C c y := zq42_M.c c hm
theorem zq42_ok : FnOK Tryz.prog 106 zq42_M.S := by
 refine fm tt zq42_M [fo zq57_ok, fo zq53_ok, fo zq39_ok, fo zq41_ok] Tryz.call106 Tryz.func106 rfl Tryz.results106 Tryz.ntmps106 ?_
 rintro c y cx G hm
 have hm : zq42 c = some y := hm
 unfold zq42 at hm
 refine rg G ?_
 obtain ⟨r, h, hm⟩ := obind hm
 refine rs G (hC 1 (zq57_c h) h0) ?_
 refine Ok_seq (rs G (hN 2 r.1.Trips h0) ?_)
 refine cd hm (fun hm => ?_) (fun hm => ?_)
 ·refine rg G ?_
  cases hm
  exact rt [48, 50] []
 ·refine X_skip (thN ?_)
  obtain ⟨r1, h1, hm⟩ := obind hm
  refine rs G (hN 3 r.1.Trips (hC 4 (zq53_c h1) h0)) ?_
  obtain ⟨e, h2, hm⟩ := obind hm
  refine rs G (hD 3 h2 (hE 4 h2 h0)) ?_
  refine jF hm (fun (v, v1, v2, v3, v4, v5, v6, v7) => ⟨[(0, .ref 0 0), (2, .ref 32 0), (3, .ref 48 0), (4, dV r1.1), (5, .ref 64 0)], [bX 0 [dV v, dV v1, kV .u64 v2], bX 32 [.dat (.sc (.slice none 0 0)), .dat (.sc (.slice none 0 0)), .dat (.sc (.slice none 0 0))], bX 48 [.own 80, dV v3, .own 96], bX 64 [dV v4, dV v5, dV v6], aX 80 9 v7, aX 96 45 r.1.Trips], 128⟩) (fun v18 hr hm => ?_) ?_
  ·obtain ⟨r2, h3, hm⟩ := obind hm
   refine rs G (hC 1 (zq53_c h3) h0) ?_
   refine Ok_block (rg G (cd hm (fun hm => ?_) (fun hm => ?_)))
   ·obtain ⟨r3, h4, hm⟩ := obind hm
    refine re G (hO 2 (.fz [448] [] []) (hC 2 (zq39_c h4) h0)) ?_
    exact ibN (wF G hm)
   ·refine rg G (cd hm (fun hm => ?_) (fun hm => ?_))
    ·obtain ⟨r4, h5, hm⟩ := obind hm
     refine re G (hC 1 (zq53_c h5) h0) ?_
     exact ibN (wF G hm)
    ·refine rg G (cd hm (fun hm => ?_) (fun hm => ?_))
     ·obtain ⟨r5, h6, hm⟩ := obind hm
      refine re G (hO 2 (.fz [512] [] []) (hC 2 (zq39_c h6) h0)) ?_
      exact ibN (wF G hm)
     ·refine rg G (cd hm (fun hm => ?_) (fun hm => ?_))
      ·obtain ⟨r6, h7, hm⟩ := obind hm
       refine re G (hC 1 (zq41_c h7) h0) ?_
       exact ibN (wF G hm)
      ·refine rg G (cd hm (fun hm => ?_) (fun hm => ?_))
       ·refine Ok_seq (rg G (tl hm (fun (v14, v15, v16, v17) => ⟨[(0, .ref 0 0), (2, .ref 32 0), (3, .ref 48 0)], [bX 0 [dV v14, dV v15, kV .u64 v16], bX 32 [.dat (.sc (.slice none 0 0)), .dat (.sc (.slice none 0 0)), .dat (.sc (.slice none 0 0))], bX 48 [.own 64, .own 80, .own 96], aX 64 9 r.1.Network.Stops, aX 80 170 r.1.Network.Lines, aX 96 45 v17], 128⟩) (fun vv hm => ?_) ?_))
        ·refine Ok_block (lp G hm (fun (v8, v9, v10, v11, v12) => ⟨[(0, .ref 0 0), (2, .ref 32 0), (3, .ref 48 0), (6, dV v8)], [bX 0 [dV v9, dV v10, kV .u64 v11], bX 32 [.dat (.sc (.slice none 0 0)), .dat (.sc (.slice none 0 0)), .dat (.sc (.slice none 0 0))], bX 48 [.own 64, .own 80, .own 96], aX 64 9 r.1.Network.Stops, aX 80 170 r.1.Network.Lines, aX 96 45 v12], 128⟩) ?_)
         rintro ⟨v8, v9, v10, v11, v12⟩ r0 hb hm
         rw [zq42_L1] at hm
         refine Ok_seq ?_
         obtain ⟨r8, h9, hm⟩ := obind hm
         refine jn hm (fun v13 => ⟨[(0, .ref 0 0), (2, .ref 32 0), (3, .ref 48 0), (6, dV v8), (61, dV v13)], [bX 0 [dV r8.2.code_, dV r8.2.at_, kV .u64 r8.2.seed_.v], bX 32 [.dat (.sc (.slice none 0 0)), .dat (.sc (.slice none 0 0)), .dat (.sc (.slice none 0 0))], bX 48 [.own 64, .own 80, .own 96], aX 64 9 r.1.Network.Stops, aX 80 170 r.1.Network.Lines, aX 96 45 v12], 128⟩) (fun v13 hm => ?_) ?_
         ·rcases bf hm with ⟨hb1, hm⟩ | ⟨hb1, hm⟩
          ·refine de G [(4, [0])] (hN 2 v12 (hC 4 (zq53_c h9) (hO 7 (.b true) (hP hb1 h0)))) ?_
           exact wJ G hm
          ·refine de G [(4, [0])] (hN 2 v12 (hC 4 (zq53_c h9) (hO 7 (.b false) (hP hb1 h0)))) ?_
           exact wJ G hm
         rintro v13 hm
         refine cd hm (fun hm => ?_) (fun hm => ?_)
         ·refine X_skip (thN (Ok_seq (Ok_block ?_)))
          obtain ⟨u, h10, hm⟩ := obind hm
          refine re G (hA 8 24 h10 h0) ?_
          exact ibN (thN (rh G (wL G hm)))
         ·exact Ok_exit (thE (thE (ibE (wD G hm hb))))
        rintro ⟨v14, v15, v16, v17⟩ hm s hw
        refine thN (Ok_weak hw ?_)
        refine rg G ?_
        have hm := eR hm hr
        cases hm
        exact rt [64, 96] []
       ·exact X_skip (ibN (wF G hm))
  rintro ⟨v, v1, v2, v3, v4, v5, v6, v7⟩ hm
  obtain ⟨e2, h11, hm⟩ := obind hm
  refine rs G (hD 4 h11 (hS 5 h11 (⟨v4, v5, v6⟩ : Trip) h0)) ?_
  refine rg G ?_
  cases hm
  exact rt [80, 96] []
noncomputable def zq56_M : MS l1Cur (Int × l1Cur) := ⟨.b, zq56, fun y => dV y.1, fun _ => [], fun _ y => [bxO y.2]⟩
theorem zq56_c {c y} (hm : zq56 c = some y) : zq56_M.C c y := zq56_M.c c hm
theorem zq56_ok : FnOK Tryz.prog 194 zq56_M.S := by
 refine fm tt zq56_M [fo zq52_ok, fo zq39_ok, fo zq53_ok] Tryz.call194 Tryz.func194 rfl Tryz.results194 Tryz.ntmps194 ?_
 rintro c y cx G hm
 have hm : zq56 c = some y := hm
 unfold zq56 at hm
 refine rg G (Ok_seq ?_)
 obtain ⟨r, h, hm⟩ := obind hm
 refine rs G (hC 1 (zq52_c h) h0) ?_
 refine cd hm (fun hm => ?_) (fun hm => ?_)
 ·obtain ⟨r1, h1, hm⟩ := obind hm
  refine rs G (hO 2 (.fz [80] [] []) (hC 2 (zq39_c h1) h0)) ?_
  cases hm
  exact rt [] []
 ·refine X_skip (thN ?_)
  obtain ⟨r2, h2, hm⟩ := obind hm
  refine rs G (hC 1 (zq53_c h2) h0) ?_
  cases hm
  exact rt [] []
noncomputable def zq49_M : MS (l1Cur × Timetable) (Int × l1Cur) := ⟨.x .b .r, fun x => zq49 x.1 x.2, fun y => dV y.1, fun _ => [], fun _ y => [bxO y.2]⟩
theorem zq49_c {c t y} (hm : zq49 c t = some y) : zq49_M.C (c, t) y := zq49_M.c (c, t) hm
theorem zq49_ok : FnOK Tryz.prog 117 zq49_M.S := by
 refine fm tt zq49_M [fo zq52_ok, fo zq53_ok, fo zq56_ok] Tryz.call117 Tryz.func117 rfl Tryz.results117 Tryz.ntmps117 ?_
 rintro ⟨c, t⟩ y cx G hm
 have hm : zq49 c t = some y := hm
 unfold zq49 at hm
 refine rg G (Ok_seq (jn hm (fun (v, v1, v2, v3) => ⟨[(0, .ref 0 0), (3, .ref 32 0), (13, dV v)], [bX 0 [dV v1, dV v2, kV .u64 v3], bX 32 [dV t.Network.Stops, dV t.Network.Lines, dV t.Trips]], 64⟩) (fun vv hm => ?_) ?_))
 ·rcases bf hm with ⟨hb, hm⟩ | ⟨hb, hm⟩
  ·obtain ⟨r, h, hm⟩ := obind hm
   refine re G (hN 2 t.Trips (hO 4 (.b true) (hP hb (hC 6 (zq52_c h) h0)))) ?_
   exact wJ G hm
  ·refine re G (hN 2 t.Trips (hO 4 (.b false) (hP hb h0))) ?_
   exact wJ G hm
 rintro ⟨v, v1, v2, v3⟩ hm
 refine cd hm (fun hm => ?_) (fun hm => ?_)
 ·obtain ⟨r3, h4, hm⟩ := obind hm
  obtain ⟨e1, h5, hm⟩ := obind hm
  obtain ⟨r4, h6, hm⟩ := obind hm
  refine ds G [(6, [0]), (11, [0])] (hN 5 t.Trips (hC 6 (zq53_c h4) (hD 7 h5 (hC 11 (zq53_c h6) h0)))) ?_
  cases hm
  exact rt [] []
 ·refine X_skip (thN ?_)
  obtain ⟨r5, h7, hm⟩ := obind hm
  refine rs G (hC 1 (zq56_c h7) h0) ?_
  cases hm
  exact rt [] []
noncomputable def zq59_M : MS (Int × Int × Int) Bool := ⟨.x .r (.x .r .r), fun x => zq59 x.1 x.2.1 x.2.2, fun y => dV y, fun _ => [], fun _ _ => []⟩
theorem zq59_c {x a b y} (hm : zq59 x a b = some y) : zq59_M.C (x, a, b) y := zq59_M.c (x, a, b) hm
theorem zq59_ok : FnOK Tryz.prog 101 zq59_M.S := by
 refine fm tt zq59_M [] Tryz.call101 Tryz.func101 rfl Tryz.results101 Tryz.ntmps101 ?_
 rintro ⟨x, a, b⟩ y cx G hm
 have hm : zq59 x a b = some y := hm
 unfold zq59 at hm
 refine rg G (jn hm (fun v => ⟨[(6, dV v)], [], 32⟩) (fun v hm => ?_) ?_)
 ·rcases bf hm with ⟨hb, hm⟩ | ⟨hb, hm⟩
  ·refine re G (hO 3 (.b true) (hP hb h0)) ?_
   exact wJ G hm
  ·refine re G (hO 3 (.b false) (hP hb h0)) ?_
   exact wJ G hm
 rintro v hm
 cases hm
 exact rt [] []
noncomputable def zq84_M : MS Int Bool := ⟨.r, zq84, fun y => dV y, fun _ => [], fun _ _ => []⟩
theorem zq84_c {t y} (hm : zq84 t = some y) : zq84_M.C t y := zq84_M.c t hm
theorem zq84_ok : FnOK Tryz.prog 120 zq84_M.S := by
 refine fm tt zq84_M [fo zq59_ok] Tryz.call120 Tryz.func120 rfl Tryz.results120 Tryz.ntmps120 ?_
 rintro t y cx G hm
 have hm : zq84 t = some y := hm
 unfold zq84 at hm
 refine rg G ?_
 obtain ⟨r, h, hm⟩ := obind hm
 refine rs G (hC 1 (zq59_c h) h0) ?_
 cases hm
 exact rt [] []
noncomputable def zq79_M : MS ByteArray Bool := ⟨.r, zq79, fun y => dV y, fun _ => [], fun _ _ => []⟩
theorem zq79_c {s y} (hm : zq79 s = some y) : zq79_M.C s y := zq79_M.c s hm
theorem zq79_ok : FnOK Tryz.prog 212 zq79_M.S := by
 refine fm tt zq79_M [fo zq59_ok] Tryz.call212 Tryz.func212 rfl Tryz.results212 Tryz.ntmps212 ?_
 rintro s y cx G hm
 have hm : zq79 s = some y := hm
 unfold zq79 at hm
 refine rg G (Ok_seq ?_)
 obtain ⟨r, h, hm⟩ := obind hm
 refine jn hm (fun v => ⟨[(0, dV s), (17, dV v)], [], 32⟩) (fun v hm => ?_) ?_
 ·rcases bf hm with ⟨hb, hm⟩ | ⟨hb, hm⟩
  ·refine re G (hC 2 (zq59_c h) (hO 4 (.b true) (hP hb h0))) ?_
   exact wJ G hm
  ·obtain ⟨u, h1, hm⟩ := obind hm
   rcases bf hm with ⟨hb1, hm⟩ | ⟨hb1, hm⟩
   ·refine re G (hC 2 (zq59_c h) (hO 4 (.b false) (hP hb (hK h1 (hO 9 (.b true) (hP hb1 h0)))))) ?_
    exact wJ G hm
   ·obtain ⟨u1, h2, hm⟩ := obind hm
    refine re G (hC 2 (zq59_c h) (hO 4 (.b false) (hP hb (hK h1 (hO 9 (.b false) (hP hb1 (hK h2 h0))))))) ?_
    exact wJ G hm
 rintro v hm
 refine cd hm (fun hm => ?_) (fun hm => ?_)
 ·refine rg G ?_
  cases hm
  exact rt [] []
 ·refine X_skip (thN (Ok_seq (rg G (tF hm (fun _ => ⟨[], [], 32⟩) (fun v3 hr hm => ?_) ?_))))
  ·refine Ok_block (lp G hm (fun v1 => ⟨[(0, dV s), (3, dV v1)], [], 32⟩) ?_)
   rintro v1 r0 hb2 hm
   rw [zq79_L1] at hm
   refine Ok_seq (rg G (cd hm (fun hm => ?_) (fun hm => ?_)))
   ·refine X_skip (thN (Ok_seq (Ok_block ?_)))
    obtain ⟨u2, h3, hm⟩ := obind hm
    refine jn hm (fun v2 => ⟨[(0, dV s), (3, dV v1), (45, dV v2)], [], 32⟩) (fun v2 hm => ?_) ?_
    ·rcases bf hm with ⟨hb3, hm⟩ | ⟨hb3, hm⟩
     ·obtain ⟨u3, h4, hm⟩ := obind hm
      rcases bf hm with ⟨hb4, hm⟩ | ⟨hb4, hm⟩
      ·refine re G (hK h3 (hO 4 (.b true) (hP hb3 (hK h4 (hO 15 (.b true) (hP hb4 h0)))))) ?_
       exact wJ G hm
      ·obtain ⟨u4, h5, hm⟩ := obind hm
       refine re G (hK h3 (hO 4 (.b true) (hP hb3 (hK h4 (hO 15 (.b false) (hP hb4 (hK h5 h0))))))) ?_
       exact wJ G hm
     ·obtain ⟨u5, h6, hm⟩ := obind hm
      rcases bf hm with ⟨hb5, hm⟩ | ⟨hb5, hm⟩
      ·obtain ⟨u6, h7, hm⟩ := obind hm
       rcases bf hm with ⟨hb6, hm⟩ | ⟨hb6, hm⟩
       ·refine re G (hK h3 (hO 4 (.b false) (hP hb3 (hK h6 (hO 10 (.b true) (hP hb5 (hK h7 (hO 15 (.b true) (hP hb6 h0))))))))) ?_
        exact wJ G hm
       ·obtain ⟨u7, h8, hm⟩ := obind hm
        refine re G (hK h3 (hO 4 (.b false) (hP hb3 (hK h6 (hO 10 (.b true) (hP hb5 (hK h7 (hO 15 (.b false) (hP hb6 (hK h8 h0)))))))))) ?_
        exact wJ G hm
      ·refine re G (hK h3 (hO 4 (.b false) (hP hb3 (hK h6 (hO 10 (.b false) (hP hb5 h0)))))) ?_
       exact wJ G hm
    rintro v2 hm
    refine cd hm (fun hm => ?_) (fun hm => ?_)
    ·refine rg G ?_
     have hm := eL hm hb2 hr
     cases hm
     exact rt [] []
    ·exact X_skip (ibN (thN (rh G (wL G hm))))
   ·exact Ok_exit (thE (thE (ibE (wE G hm hb2))))
  rintro ⟨⟩ hm s1 hw
  refine thN (Ok_weak hw ?_)
  refine rg G ?_
  cases hm
  exact rt [] []
noncomputable def zq75_M : MS ((List ByteArray) × ByteArray) Int := ⟨.x .r .r, fun x => zq75 x.1 x.2, fun y => dV y, fun _ => [], fun _ _ => []⟩
theorem zq75_c {list name y} (hm : zq75 list name = some y) : zq75_M.C (list, name) y := zq75_M.c (list, name) hm
theorem zq75_ok : FnOK Tryz.prog 213 zq75_M.S := by
 refine fm tt zq75_M [] Tryz.call213 Tryz.func213 rfl Tryz.results213 Tryz.ntmps213 ?_
 rintro ⟨list, name⟩ y cx G hm
 have hm : zq75 list name = some y := hm
 unfold zq75 at hm
 refine rg G (Ok_seq (rg G (tF hm (fun _ => ⟨[], [], 32⟩) (fun v1 hr hm => ?_) ?_)))
 ·refine Ok_block (lp G hm (fun v => ⟨[(0, dV list), (1, dV name), (5, dV v)], [], 32⟩) ?_)
  rintro v r0 hb hm
  rw [zq75_L1] at hm
  refine Ok_seq (rs G (hN 2 list h0) ?_)
  refine cd hm (fun hm => ?_) (fun hm => ?_)
  ·refine X_skip (thN (Ok_seq (Ok_block ?_)))
   obtain ⟨e, h, hm⟩ := obind hm
   refine rs G (hD 2 h h0) ?_
   refine cd hm (fun hm => ?_) (fun hm => ?_)
   ·refine rg G ?_
    have hm := eL hm hb hr
    cases hm
    exact rt [] []
   ·exact X_skip (ibN (thN (rh G (wL G hm))))
  ·exact Ok_exit (thE (thE (ibE (wE G hm hb))))
 rintro ⟨⟩ hm s hw
 refine thN (Ok_weak hw ?_)
 refine rg G ?_
 cases hm
 exact rt [] []
noncomputable def zq77_M : MS (Line × Int) Bool := ⟨.x .r .r, fun x => zq77 x.1 x.2, fun y => dV y, fun _ => [], fun _ _ => []⟩
theorem zq77_c {x stops y} (hm : zq77 x stops = some y) : zq77_M.C (x, stops) y := zq77_M.c (x, stops) hm
theorem zq77_ok : FnOK Tryz.prog 214 zq77_M.S := by
 refine fm tt zq77_M [fo zq79_ok, fo zq59_ok, fo zq82_ok] Tryz.call214 Tryz.func214 rfl Tryz.results214 Tryz.ntmps214 ?_
 rintro ⟨x, stops⟩ y cx G hm
 have hm : zq77 x stops = some y := hm
 unfold zq77 at hm
 refine rg G (Ok_seq ?_)
 obtain ⟨r, h, hm⟩ := obind hm
 refine jn hm (fun v => ⟨[(1, dV stops), (2, .ref 16 0), (27, dV v)], [bX 16 [dV x.Name, dV x.Stops, dV x.Runs]], 48⟩) (fun v hm => ?_) ?_
 ·rcases bf hm with ⟨hb, hm⟩ | ⟨hb, hm⟩
  ·refine re G (hC 2 (zq79_c h) (hO 4 (.b true) (hP hb h0))) ?_
   exact wJ G hm
  ·obtain ⟨r1, h1, hm⟩ := obind hm
   rcases bf hm with ⟨hb1, hm⟩ | ⟨hb1, hm⟩
   ·refine re G (hC 2 (zq79_c h) (hO 4 (.b false) (hP hb (hN 7 x.Stops (hC 8 (zq59_c h1) (hO 11 (.b true) (hP hb1 h0))))))) ?_
    exact wJ G hm
   ·refine re G (hC 2 (zq79_c h) (hO 4 (.b false) (hP hb (hN 7 x.Stops (hC 8 (zq59_c h1) (hO 11 (.b false) (hP hb1 (hN 14 x.Runs (hN 17 x.Stops h0))))))))) ?_
    exact wJ G hm
 rintro v hm
 refine cd hm (fun hm => ?_) (fun hm => ?_)
 ·refine rg G ?_
  cases hm
  exact rt [] []
 ·refine X_skip (thN (Ok_seq (rg G (tF hm (fun _ => ⟨[(2, .ref 16 0)], [bX 16 [dV x.Name, dV x.Stops, dV x.Runs]], 48⟩) (fun v5 hr hm => ?_) ?_))))
  ·refine Ok_block (lp G hm (fun v1 => ⟨[(1, dV stops), (2, .ref 16 0), (5, dV v1)], [bX 16 [dV x.Name, dV x.Stops, dV x.Runs]], 48⟩) ?_)
   rintro v1 r0 hb2 hm
   rw [zq77_L1] at hm
   refine Ok_seq (rs G (hN 3 x.Stops h0) ?_)
   refine cd hm (fun hm => ?_) (fun hm => ?_)
   ·refine X_skip (thN (Ok_seq (Ok_block ?_)))
    obtain ⟨e2, h6, hm⟩ := obind hm
    obtain ⟨r4, h7, hm⟩ := obind hm
    refine jn hm (fun v2 => ⟨[(1, dV stops), (2, .ref 16 0), (5, dV v1), (54, dV v2)], [bX 16 [dV x.Name, dV x.Stops, dV x.Runs]], 48⟩) (fun v2 hm => ?_) ?_
    ·rcases bf hm with ⟨hb3, hm⟩ | ⟨hb3, hm⟩
     ·refine de G [] (hD 3 h6 (hC 7 (zq59_c h7) (hO 9 (.b true) (hP hb3 h0)))) ?_
      exact wJ G hm
     ·obtain ⟨e3, h8, hm⟩ := obind hm
      obtain ⟨r5, h9, hm⟩ := obind hm
      refine de G [] (hD 3 h6 (hC 7 (zq59_c h7) (hO 9 (.b false) (hP hb3 (hD 14 h8 (hC 16 (zq82_c h9) h0)))))) ?_
      exact wJ G hm
    rintro v2 hm
    refine cd hm (fun hm => ?_) (fun hm => ?_)
    ·refine rg G ?_
     have hm := eL hm hb2 hr
     cases hm
     exact rt [] []
    ·exact X_skip (ibN (thN (rh G (wL G hm))))
   ·exact Ok_exit (thE (thE (ibE (wE G hm hb2))))
  rintro ⟨⟩ hm s hw
  refine thN (Ok_weak hw ?_)
  refine Ok_seq (rg G (tF hm (fun _ => ⟨[], [], 32⟩) (fun v4 hr1 hm => ?_) ?_))
  ·refine Ok_block (lp G hm (fun v3 => ⟨[(2, .ref 16 0), (6, dV v3)], [bX 16 [dV x.Name, dV x.Stops, dV x.Runs]], 48⟩) ?_)
   rintro v3 r0 hb4 hm
   rw [zq77_L2] at hm
   refine Ok_seq (rs G (hN 3 x.Runs h0) ?_)
   refine cd hm (fun hm => ?_) (fun hm => ?_)
   ·refine X_skip (thN (Ok_seq (Ok_block ?_)))
    obtain ⟨e5, h10, hm⟩ := obind hm
    obtain ⟨r7, h11, hm⟩ := obind hm
    refine rs G (hD 3 h10 (hC 5 (zq59_c h11) h0)) ?_
    refine cd hm (fun hm => ?_) (fun hm => ?_)
    ·refine rg G ?_
     have hm := eL hm hb4 hr1
     cases hm
     exact rt [] []
    ·exact X_skip (ibN (thN (rh G (wL G hm))))
   ·exact Ok_exit (thE (thE (ibE (wE G hm hb4))))
  rintro ⟨⟩ hm s1 hw1
  refine thN (Ok_weak hw1 ?_)
  refine rg G ?_
  cases hm
  exact rt [] []
noncomputable def zq78_M : MS (Network × ByteArray) Int := ⟨.x .r .r, fun x => zq78 x.1 x.2, fun y => dV y, fun _ => [], fun _ _ => []⟩
theorem zq78_c {n name y} (hm : zq78 n name = some y) : zq78_M.C (n, name) y := zq78_M.c (n, name) hm
theorem zq78_ok : FnOK Tryz.prog 215 zq78_M.S := by
 refine fm tt zq78_M [] Tryz.call215 Tryz.func215 rfl Tryz.results215 Tryz.ntmps215 ?_
 rintro ⟨n, name⟩ y cx G hm
 have hm : zq78 n name = some y := hm
 unfold zq78 at hm
 refine rg G (Ok_seq (rg G (tF hm (fun _ => ⟨[], [], 32⟩) (fun v1 hr hm => ?_) ?_)))
 ·refine Ok_block (lp G hm (fun v => ⟨[(1, dV name), (2, .ref 16 0), (5, dV v)], [bX 16 [dV n.Stops, dV n.Lines]], 48⟩) ?_)
  rintro v r0 hb hm
  rw [zq78_L1] at hm
  refine Ok_seq (rs G (hN 3 n.Lines h0) ?_)
  refine cd hm (fun hm => ?_) (fun hm => ?_)
  ·refine X_skip (thN (Ok_seq (Ok_block ?_)))
   obtain ⟨e, h, hm⟩ := obind hm
   refine rs G (hD 3 h h0) ?_
   refine cd hm (fun hm => ?_) (fun hm => ?_)
   ·refine rg G ?_
    have hm := eL hm hb hr
    cases hm
    exact rt [] []
   ·exact X_skip (ibN (thN (rh G (wL G hm))))
  ·exact Ok_exit (thE (thE (ibE (wE G hm hb))))
 rintro ⟨⟩ hm s hw
 refine thN (Ok_weak hw ?_)
 refine rg G ?_
 cases hm
 exact rt [] []
noncomputable def zq76_M : MS Network Bool := ⟨.r, zq76, fun y => dV y, fun _ => [], fun _ _ => []⟩
theorem zq76_c {n y} (hm : zq76 n = some y) : zq76_M.C n y := zq76_M.c n hm
theorem zq76_ok : FnOK Tryz.prog 158 zq76_M.S := by
 refine fm tt zq76_M [fo zq59_ok, fo zq79_ok, fo zq75_ok, fo zq77_ok, fo zq78_ok] Tryz.call158 Tryz.func158 rfl Tryz.results158 Tryz.ntmps158 ?_
 rintro n y cx G hm
 have hm : zq76 n = some y := hm
 unfold zq76 at hm
 refine rg G (Ok_seq ?_)
 obtain ⟨r, h, hm⟩ := obind hm
 refine jn hm (fun v => ⟨[(1, .ref 16 0), (16, dV v)], [bX 16 [dV n.Stops, dV n.Lines]], 48⟩) (fun v hm => ?_) ?_
 ·rcases bf hm with ⟨hb, hm⟩ | ⟨hb, hm⟩
  ·refine re G (hN 2 n.Stops (hC 3 (zq59_c h) (hO 5 (.b true) (hP hb h0)))) ?_
   exact wJ G hm
  ·obtain ⟨r1, h1, hm⟩ := obind hm
   refine re G (hN 2 n.Stops (hC 3 (zq59_c h) (hO 5 (.b false) (hP hb (hN 8 n.Lines (hC 9 (zq59_c h1) h0)))))) ?_
   exact wJ G hm
 rintro v hm
 refine cd hm (fun hm => ?_) (fun hm => ?_)
 ·refine rg G ?_
  cases hm
  exact rt [] []
 ·refine X_skip (thN (Ok_seq (rg G (tF hm (fun _ => ⟨[(1, .ref 16 0)], [bX 16 [dV n.Stops, dV n.Lines]], 48⟩) (fun v5 hr hm => ?_) ?_))))
  ·refine Ok_block (lp G hm (fun i => ⟨[(1, .ref 16 0), (3, dV i)], [bX 16 [dV n.Stops, dV n.Lines]], 48⟩) ?_)
   rintro i r0 hb1 hm
   rw [zq76_L1] at hm
   refine Ok_seq (rs G (hN 3 n.Stops h0) ?_)
   refine cd hm (fun hm => ?_) (fun hm => ?_)
   ·refine X_skip (thN (Ok_seq (Ok_block ?_)))
    obtain ⟨e2, h6, hm⟩ := obind hm
    obtain ⟨r4, h7, hm⟩ := obind hm
    refine jn hm (fun v1 => ⟨[(1, .ref 16 0), (3, dV i), (42, dV v1)], [bX 16 [dV n.Stops, dV n.Lines]], 48⟩) (fun v1 hm => ?_) ?_
    ·rcases bf hm with ⟨hb2, hm⟩ | ⟨hb2, hm⟩
     ·refine de G [] (hD 3 h6 (hC 5 (zq79_c h7) (hO 7 (.b true) (hP hb2 h0)))) ?_
      exact wJ G hm
     ·obtain ⟨e3, h8, hm⟩ := obind hm
      obtain ⟨r5, h9, hm⟩ := obind hm
      refine de G [] (hD 3 h6 (hC 5 (zq79_c h7) (hO 7 (.b false) (hP hb2 (hD 13 h8 (hC 15 (zq75_c h9) h0)))))) ?_
      exact wJ G hm
    rintro v1 hm
    refine cd hm (fun hm => ?_) (fun hm => ?_)
    ·refine rg G ?_
     have hm := eL hm hb1 hr
     cases hm
     exact rt [] []
    ·exact X_skip (ibN (thN (rh G (wL G hm))))
   ·exact Ok_exit (thE (thE (ibE (wE G hm hb1))))
  rintro ⟨⟩ hm s hw
  refine thN (Ok_weak hw ?_)
  refine Ok_seq (rg G (tF hm (fun _ => ⟨[], [], 32⟩) (fun v4 hr1 hm => ?_) ?_))
  ·refine Ok_block (lp G hm (fun v2 => ⟨[(1, .ref 16 0), (4, dV v2)], [bX 16 [dV n.Stops, dV n.Lines]], 48⟩) ?_)
   rintro v2 r0 hb3 hm
   rw [zq76_L2] at hm
   refine Ok_seq (rs G (hN 3 n.Lines h0) ?_)
   refine cd hm (fun hm => ?_) (fun hm => ?_)
   ·refine X_skip (thN (Ok_seq (Ok_block ?_)))
    obtain ⟨e7, h14, hm⟩ := obind hm
    obtain ⟨r9, h15, hm⟩ := obind hm
    refine jn hm (fun v3 => ⟨[(1, .ref 16 0), (4, dV v2), (71, dV v3)], [bX 16 [dV n.Stops, dV n.Lines]], 48⟩) (fun v3 hm => ?_) ?_
    ·rcases bf hm with ⟨hb4, hm⟩ | ⟨hb4, hm⟩
     ·refine de G [] (hD 3 h14 (hN 7 n.Stops (hC 8 (zq77_c h15) (hO 10 (.b true) (hP hb4 h0))))) ?_
      exact wJ G hm
     ·obtain ⟨e8, h16, hm⟩ := obind hm
      obtain ⟨r10, h17, hm⟩ := obind hm
      refine de G [] (hD 3 h14 (hN 7 n.Stops (hC 8 (zq77_c h15) (hO 10 (.b false) (hP hb4 (hD 15 h16 (hC 18 (zq78_c h17) h0))))))) ?_
      exact wJ G hm
    rintro v3 hm
    refine cd hm (fun hm => ?_) (fun hm => ?_)
    ·refine rg G ?_
     have hm := eL hm hb3 hr1
     cases hm
     exact rt [] []
    ·exact X_skip (ibN (thN (rh G (wL G hm))))
   ·exact Ok_exit (thE (thE (ibE (wE G hm hb3))))
  rintro ⟨⟩ hm s1 hw1
  refine thN (Ok_weak hw1 ?_)
  refine rg G ?_
  cases hm
  exact rt [] []
noncomputable def zq88_M : MS (Timetable × Int) Line := ⟨.x .r .r, fun x => zq88 x.1 x.2, fun y => dV y, fun _ => [], fun _ _ => []⟩
theorem zq88_c {t i y} (hm : zq88 t i = some y) : zq88_M.C (t, i) y := zq88_M.c (t, i) hm
theorem zq88_ok : FnOK Tryz.prog 217 zq88_M.S := by
 refine fm tt zq88_M [] Tryz.call217 Tryz.func217 rfl Tryz.results217 Tryz.ntmps217 ?_
 rintro ⟨t, i⟩ y cx G hm
 have hm : zq88 t i = some y := hm
 unfold zq88 at hm
 refine rg G ?_
 obtain ⟨e2, h2, hm⟩ := obind hm
 obtain ⟨e3, h3, hm⟩ := obind hm
 refine ds G [(11, [32])] (hD 6 h2 (hD 9 h3 h0)) ?_
 cases hm
 exact rt [] []
noncomputable def zq89_M : MS (Timetable × Int) ((List Int)) := ⟨.x .r .r, fun x => zq89 x.1 x.2, fun y => dV y, fun _ => [], fun _ _ => []⟩
theorem zq89_c {t i y} (hm : zq89 t i = some y) : zq89_M.C (t, i) y := zq89_M.c (t, i) hm
theorem zq89_ok : FnOK Tryz.prog 170 zq89_M.S := by
 refine fm tt zq89_M [fo zq88_ok] Tryz.call170 Tryz.func170 rfl Tryz.results170 Tryz.ntmps170 ?_
 rintro ⟨t, i⟩ y cx G hm
 have hm : zq89 t i = some y := hm
 unfold zq89 at hm
 refine rg G ?_
 obtain ⟨r, h, hm⟩ := obind hm
 refine rs G (hC 2 (zq88_c h) h0) ?_
 cases hm
 exact rt [] []
noncomputable def zq83_M : MS (Line × Int × Int) Int := ⟨.x .r (.x .r .r), fun x => zq83 x.1 x.2.1 x.2.2, fun y => dV y, fun _ => [], fun _ _ => []⟩
theorem zq83_c {x from_ to y} (hm : zq83 x from_ to = some y) : zq83_M.C (x, from_, to) y := zq83_M.c (x, from_, to) hm
theorem zq83_ok : FnOK Tryz.prog 227 zq83_M.S := by
 refine fm tt zq83_M [] Tryz.call227 Tryz.func227 rfl Tryz.results227 Tryz.ntmps227 ?_
 rintro ⟨x, from_, to⟩ y cx G hm
 have hm : zq83 x from_ to = some y := hm
 unfold zq83 at hm
 refine rg G (rg G (Ok_seq (rg G (tl hm (fun v2 => ⟨[(7, dV v2)], [], 32⟩) (fun v2 hm => ?_) ?_))))
 ·refine Ok_block (lp G hm (fun (v, v1) => ⟨[(2, dV to), (3, .ref 16 0), (7, dV v), (8, dV v1)], [bX 16 [dV x.Name, dV x.Stops, dV x.Runs]], 48⟩) ?_)
  rintro ⟨v, v1⟩ r0 hb hm
  rw [zq83_L1] at hm
  refine Ok_seq (rg G (cd hm (fun hm => ?_) (fun hm => ?_)))
  ·refine X_skip (thN (Ok_seq (Ok_block ?_)))
   obtain ⟨e, h, hm⟩ := obind hm
   refine re G (hD 4 h h0) ?_
   exact ibN (thN (rh G (wL G hm)))
  ·exact Ok_exit (thE (thE (ibE (wD G hm hb))))
 rintro v2 hm s hw
 refine thN (Ok_weak hw ?_)
 refine rg G ?_
 cases hm
 exact rt [] []
noncomputable def zq85_M : MS (Timetable × Int × Int) Int := ⟨.x .r (.x .r .r), fun x => zq85 x.1 x.2.1 x.2.2, fun y => dV y, fun _ => [], fun _ _ => []⟩
theorem zq85_c {t i k y} (hm : zq85 t i k = some y) : zq85_M.C (t, i, k) y := zq85_M.c (t, i, k) hm
theorem zq85_ok : FnOK Tryz.prog 195 zq85_M.S := by
 refine fm tt zq85_M [fo zq88_ok, fo zq83_ok] Tryz.call195 Tryz.func195 rfl Tryz.results195 Tryz.ntmps195 ?_
 rintro ⟨t, i, k⟩ y cx G hm
 have hm : zq85 t i k = some y := hm
 unfold zq85 at hm
 refine rg G ?_
 obtain ⟨e1, h3, hm⟩ := obind hm
 obtain ⟨r2, h4, hm⟩ := obind hm
 obtain ⟨r3, h5, hm⟩ := obind hm
 refine ds G [] (hD 3 h3 (hC 8 (zq88_c h4) (hC 10 (zq83_c h5) h0))) ?_
 cases hm
 exact rt [] []
noncomputable def zq86_M : MS (Timetable × Int) Int := ⟨.x .r .r, fun x => zq86 x.1 x.2, fun y => dV y, fun _ => [], fun _ _ => []⟩
theorem zq86_c {t i y} (hm : zq86 t i = some y) : zq86_M.C (t, i) y := zq86_M.c (t, i) hm
theorem zq86_ok : FnOK Tryz.prog 121 zq86_M.S := by
 refine fm tt zq86_M [fo zq89_ok, fo zq85_ok] Tryz.call121 Tryz.func121 rfl Tryz.results121 Tryz.ntmps121 ?_
 rintro ⟨t, i⟩ y cx G hm
 have hm : zq86 t i = some y := hm
 unfold zq86 at hm
 refine rg G ?_
 obtain ⟨r2, h2, hm⟩ := obind hm
 obtain ⟨r3, h3, hm⟩ := obind hm
 refine ds G [] (hC 4 (zq89_c h2) (hN 5 r2 (hC 7 (zq85_c h3) h0))) ?_
 cases hm
 exact rt [] []
noncomputable def zq87_M : MS Timetable Bool := ⟨.r, zq87, fun y => dV y, fun _ => [], fun _ _ => []⟩
theorem zq87_c {t y} (hm : zq87 t = some y) : zq87_M.C t y := zq87_M.c t hm
theorem zq87_ok : FnOK Tryz.prog 79 zq87_M.S := by
 refine fm tt zq87_M [fo zq76_ok, fo zq59_ok, fo zq84_ok, fo zq86_ok] Tryz.call79 Tryz.func79 rfl Tryz.results79 Tryz.ntmps79 ?_
 rintro t y cx G hm
 have hm : zq87 t = some y := hm
 unfold zq87 at hm
 refine rg G (Ok_seq ?_)
 obtain ⟨r, h, hm⟩ := obind hm
 refine jn hm (fun v => ⟨[(1, .ref 16 0), (14, dV v)], [bX 16 [dV t.Network.Stops, dV t.Network.Lines, dV t.Trips]], 48⟩) (fun v hm => ?_) ?_
 ·rcases bf hm with ⟨hb, hm⟩ | ⟨hb, hm⟩
  ·refine re G (hC 2 (zq76_c h) (hO 4 (.b true) (hP hb h0))) ?_
   exact wJ G hm
  ·refine re G (hC 2 (zq76_c h) (hO 4 (.b false) (hP hb (hN 7 t.Trips h0)))) ?_
   exact wJ G hm
 rintro v hm
 refine cd hm (fun hm => ?_) (fun hm => ?_)
 ·refine rg G ?_
  cases hm
  exact rt [] []
 ·refine X_skip (thN (Ok_seq (rg G (tF hm (fun _ => ⟨[], [], 32⟩) (fun v2 hr hm => ?_) ?_))))
  ·refine Ok_block (lp G hm (fun x => ⟨[(1, .ref 16 0), (3, dV x)], [bX 16 [dV t.Network.Stops, dV t.Network.Lines, dV t.Trips]], 48⟩) ?_)
   rintro x r0 hb1 hm
   rw [zq87_L1] at hm
   refine Ok_seq (rs G (hN 3 t.Trips h0) ?_)
   refine cd hm (fun hm => ?_) (fun hm => ?_)
   ·refine X_skip (thN (Ok_seq (Ok_block ?_)))
    obtain ⟨e, h1, hm⟩ := obind hm
    refine rs G (hD 3 h1 h0) ?_
    obtain ⟨r6, h8, hm⟩ := obind hm
    refine jn hm (fun v1 => ⟨[(1, .ref 16 0), (3, dV x), (70, dV v1)], [bX 16 [dV t.Network.Stops, dV t.Network.Lines, dV t.Trips]], 48⟩) (fun v1 hm => ?_) ?_
    ·rcases bf hm with ⟨hb2, hm⟩ | ⟨hb2, hm⟩
     ·refine de G [] (hC 2 (zq59_c h8) (hO 4 (.b true) (hP hb2 h0))) ?_
      exact wJ G hm
     ·obtain ⟨r7, h9, hm⟩ := obind hm
      rcases bf hm with ⟨hb3, hm⟩ | ⟨hb3, hm⟩
      ·refine de G [] (hC 2 (zq59_c h8) (hO 4 (.b false) (hP hb2 (hN 10 t.Network.Lines (hC 12 (zq59_c h9) (hO 15 (.b true) (hP hb3 h0))))))) ?_
       exact wJ G hm
      ·obtain ⟨r8, h10, hm⟩ := obind hm
       rcases bf hm with ⟨hb4, hm⟩ | ⟨hb4, hm⟩
       ·refine de G [] (hC 2 (zq59_c h8) (hO 4 (.b false) (hP hb2 (hN 10 t.Network.Lines (hC 12 (zq59_c h9) (hO 15 (.b false) (hP hb3 (hC 18 (zq84_c h10) (hO 21 (.b true) (hP hb4 h0)))))))))) ?_
        exact wJ G hm
       ·obtain ⟨r9, h11, hm⟩ := obind hm
        obtain ⟨r10, h12, hm⟩ := obind hm
        rcases bf hm with ⟨hb5, hm⟩ | ⟨hb5, hm⟩
        ·refine de G [] (hC 2 (zq59_c h8) (hO 4 (.b false) (hP hb2 (hN 10 t.Network.Lines (hC 12 (zq59_c h9) (hO 15 (.b false) (hP hb3 (hC 18 (zq84_c h10) (hO 21 (.b false) (hP hb4 (hC 24 (zq86_c h11) (hC 25 (zq84_c h12) (hO 28 (.b true) (hP hb5 h0)))))))))))))) ?_
         exact wJ G hm
        ·rcases bf hm with ⟨hb6, hm⟩ | ⟨hb6, hm⟩
         ·obtain ⟨e2, h13, hm⟩ := obind hm
          refine de G [] (hC 2 (zq59_c h8) (hO 4 (.b false) (hP hb2 (hN 10 t.Network.Lines (hC 12 (zq59_c h9) (hO 15 (.b false) (hP hb3 (hC 18 (zq84_c h10) (hO 21 (.b false) (hP hb4 (hC 24 (zq86_c h11) (hC 25 (zq84_c h12) (hO 28 (.b false) (hP hb5 (hO 31 (.b true) (hP hb6 (hD 36 h13 h0))))))))))))))))) ?_
          exact wJ G hm
         ·refine de G [] (hC 2 (zq59_c h8) (hO 4 (.b false) (hP hb2 (hN 10 t.Network.Lines (hC 12 (zq59_c h9) (hO 15 (.b false) (hP hb3 (hC 18 (zq84_c h10) (hO 21 (.b false) (hP hb4 (hC 24 (zq86_c h11) (hC 25 (zq84_c h12) (hO 28 (.b false) (hP hb5 (hO 31 (.b false) (hP hb6 h0)))))))))))))))) ?_
          exact wJ G hm
    rintro v1 hm
    refine cd hm (fun hm => ?_) (fun hm => ?_)
    ·refine rg G ?_
     have hm := eL hm hb1 hr
     cases hm
     exact rt [] []
    ·exact X_skip (ibN (thN (rh G (wL G hm))))
   ·exact Ok_exit (thE (thE (ibE (wE G hm hb1))))
  rintro ⟨⟩ hm s hw
  refine thN (Ok_weak hw ?_)
  refine rg G ?_
  cases hm
  exact rt [] []
noncomputable def zq70_M : MS Line Int := ⟨.r, zq70, fun y => dV y, fun _ => [], fun _ _ => []⟩
theorem zq70_c {x y} (hm : zq70 x = some y) : zq70_M.C x y := zq70_M.c x hm
theorem zq70_ok : FnOK Tryz.prog 221 zq70_M.S := by
 refine fm tt zq70_M [fo zq83_ok] Tryz.call221 Tryz.func221 rfl Tryz.results221 Tryz.ntmps221 ?_
 rintro x y cx G hm
 have hm : zq70 x = some y := hm
 unfold zq70 at hm
 refine rg G ?_
 obtain ⟨r, h, hm⟩ := obind hm
 refine rs G (hN 3 x.Stops (hC 5 (zq83_c h) h0)) ?_
 cases hm
 exact rt [] []
noncomputable def zq54_M : MS (l1Cur × Timetable × Int × Int) (Report × l1Cur) := ⟨.x .b (.x .r (.x .r .r)), fun x => zq54 x.1 x.2.1 x.2.2.1 x.2.2.2, fun y => dV y.1, fun _ => [], fun _ y => [bxO y.2]⟩
theorem zq54_c {c t vehicle time y} (hm : zq54 c t vehicle time = some y) : zq54_M.C (c, t, vehicle, time) y := zq54_M.c (c, t, vehicle, time) hm
theorem zq54_ok : FnOK Tryz.prog 180 zq54_M.S := by
 refine fm tt zq54_M [fo zq53_ok, fo zq87_ok, fo zq52_ok, fo zq76_ok, fo zq70_ok] Tryz.call180 Tryz.func180 rfl Tryz.results180 Tryz.ntmps180 ?_
 rintro ⟨c, t, vehicle, time⟩ y cx G hm
 have hm : zq54 c t vehicle time = some y := hm
 unfold zq54 at hm
 refine rg G (rg G (Ok_seq (rs G (hN 3 t.Network.Lines h0) ?_)))
 refine cd hm (fun hm => ?_) (fun hm => ?_)
 ·refine rg G ?_
  cases hm
  exact rt [] []
 ·refine X_skip (thN ?_)
  obtain ⟨r, h, hm⟩ := obind hm
  refine rs G (hN 4 t.Network.Lines (hC 5 (zq53_c h) h0)) ?_
  refine jn hm (fun (v, v1, v2, v3) => ⟨[(0, .ref 0 0), (5, .ref 32 0), (8, .ref 48 0), (9, .ref 64 0)], [bX 0 [dV v, dV v1, kV .u64 v2], bX 32 [dV t.Network.Stops, dV t.Network.Lines, dV t.Trips], bX 48 [kV .i64 0, kV .i64 0, kV .i64 0, kV .i64 0], bX 64 [dV vehicle, dV time, dV v3, kV .i64 0]], 96⟩) (fun vv2 hm => ?_) ?_
  ·refine jn hm (fun (v4, v5, v6, v7) => ⟨[(0, .ref 0 0), (5, .ref 32 0), (8, .ref 48 0), (9, .ref 64 0), (38, dV v4)], [bX 0 [dV v5, dV v6, kV .u64 v7], bX 32 [dV t.Network.Stops, dV t.Network.Lines, dV t.Trips], bX 48 [kV .i64 0, kV .i64 0, kV .i64 0, kV .i64 0], bX 64 [dV vehicle, dV time, dV r.1, kV .i64 0]], 96⟩) (fun vv hm => ?_) ?_
   ·rcases bf hm with ⟨hb, hm⟩ | ⟨hb, hm⟩
    ·obtain ⟨r1, h1, hm⟩ := obind hm
     rcases bf hm with ⟨hb1, hm⟩ | ⟨hb1, hm⟩
     ·obtain ⟨r2, h2, hm⟩ := obind hm
      refine re G (hN 2 t.Trips (hO 4 (.b true) (hP hb (hC 6 (zq87_c h1) (hO 8 (.b true) (hP hb1 (hC 10 (zq52_c h2) h0))))))) ?_
      exact wJ G hm
     ·refine re G (hN 2 t.Trips (hO 4 (.b true) (hP hb (hC 6 (zq87_c h1) (hO 8 (.b false) (hP hb1 h0)))))) ?_
      exact wJ G hm
    ·refine re G (hN 2 t.Trips (hO 4 (.b false) (hP hb h0))) ?_
     exact wJ G hm
   rintro ⟨v4, v5, v6, v7⟩ hm
   refine cd hm (fun hm => ?_) (fun hm => ?_)
   ·obtain ⟨r4, h5, hm⟩ := obind hm
    obtain ⟨e1, h6, hm⟩ := obind hm
    refine de G [(6, [0]), (11, [64])] (hN 5 t.Trips (hC 6 (zq53_c h5) (hD 7 h6 h0))) ?_
    exact wJ G hm
   ·exact X_skip (wJ G hm)
  rintro ⟨v, v1, v2, v3⟩ hm
  refine jn hm (fun (v8, v9, v10, v11) => ⟨[(0, .ref 0 0), (8, .ref 32 0), (9, .ref 48 0)], [bX 0 [dV v8, dV v9, kV .u64 v10], bX 32 [kV .i64 0, kV .i64 0, kV .i64 0, kV .i64 0], bX 48 [dV vehicle, dV time, dV v3, dV v11]], 80⟩) (fun vv1 hm => ?_) ?_
  ·obtain ⟨r5, h7, hm⟩ := obind hm
   refine rs G (hC 2 (zq76_c h7) h0) ?_
   refine cd hm (fun hm => ?_) (fun hm => ?_)
   ·obtain ⟨e2, h8, hm⟩ := obind hm
    obtain ⟨r6, h9, hm⟩ := obind hm
    obtain ⟨r7, h10, hm⟩ := obind hm
    refine re G (hD 6 h8 (hC 8 (zq70_c h9) (hC 10 (zq53_c h10) h0))) ?_
    exact wJ G hm
   ·exact X_skip (wJ G hm)
  rintro ⟨v8, v9, v10, v11⟩ hm
  refine rg G ?_
  cases hm
  exact rt [] []
noncomputable def zq55_M : MS (l1Cur × Timetable) ((List Report) × l1Cur) := ⟨.x .b .r, fun x => zq55 x.1 x.2, fun _ => .own 0, fun y => [arO 76 y.1], fun _ y => [bxO y.2]⟩
theorem zq55_c {c t y} (hm : zq55 c t = some y) : zq55_M.C (c, t) y := zq55_M.c (c, t) hm
theorem zq55_ok : FnOK Tryz.prog 107 zq55_M.S := by
 refine fm tt zq55_M [fo zq49_ok, fo zq53_ok, fo zq84_ok, fo zq54_ok, fo zq52_ok, fo zq39_ok] Tryz.call107 Tryz.func107 rfl Tryz.results107 Tryz.ntmps107 ?_
 rintro ⟨c, t⟩ y cx G hm
 have hm : zq55 c t = some y := hm
 unfold zq55 at hm
 refine rg G (rg G ?_)
 obtain ⟨r, h, hm⟩ := obind hm
 refine rs G (hC 2 (zq49_c h) h0) ?_
 refine rg G (Ok_seq ?_)
 obtain ⟨r1, h1, hm⟩ := obind hm
 refine rs G (hC 1 (zq53_c h1) h0) ?_
 refine tl hm (fun (v9, v10, v11, v12) => ⟨[(0, .ref 0 0), (5, .own 32)], [bX 0 [dV v9, dV v10, kV .u64 v11], aX 32 76 v12], 64⟩) (fun vv2 hm => ?_) ?_
 ·refine Ok_block (lp G hm (fun (n, k, x, v, v1, v2, v3) => ⟨[(0, .ref 0 0), (3, .ref 32 0), (5, .own 48), (6, dV n), (7, dV k), (8, dV x)], [bX 0 [dV v, dV v1, kV .u64 v2], bX 32 [dV t.Network.Stops, dV t.Network.Lines, dV t.Trips], aX 48 76 v3], 80⟩) ?_)
  rintro ⟨n, k, x, v, v1, v2, v3⟩ r0 hb hm
  rw [zq55_L1] at hm
  refine Ok_seq (jn hm (fun v4 => ⟨[(0, .ref 0 0), (3, .ref 32 0), (5, .own 48), (6, dV n), (7, dV k), (8, dV x), (22, dV v4)], [bX 0 [dV v, dV v1, kV .u64 v2], bX 32 [dV t.Network.Stops, dV t.Network.Lines, dV t.Trips], aX 48 76 v3], 80⟩) (fun v4 hm => ?_) ?_)
  ·rcases bf hm with ⟨hb1, hm⟩ | ⟨hb1, hm⟩
   ·obtain ⟨r2, h2, hm⟩ := obind hm
    refine re G (hO 2 (.b true) (hP hb1 (hC 4 (zq84_c h2) h0))) ?_
    exact wJ G hm
   ·refine re G (hO 2 (.b false) (hP hb1 h0)) ?_
    exact wJ G hm
  rintro v4 hm
  refine cd hm (fun hm => ?_) (fun hm => ?_)
  ·refine X_skip (thN (jn hm (fun (n1, k1, v5, v6, v7, v8) => ⟨[(0, .ref 0 0), (3, .ref 32 0), (5, .own 48), (6, dV n1), (7, dV k1), (8, dV x)], [bX 0 [dV v5, dV v6, kV .u64 v7], bX 32 [dV t.Network.Stops, dV t.Network.Lines, dV t.Trips], aX 48 76 v8], 80⟩) (fun vv hm => ?_) ?_))
   ·refine Ok_block ?_
    obtain ⟨r3, h3, hm⟩ := obind hm
    refine rs G (hC 3 (zq53_c h3) h0) ?_
    obtain ⟨r4, h4, hm⟩ := obind hm
    obtain ⟨u, h5, hm⟩ := obind hm
    refine rs G (hC 5 (zq54_c h4) (hA 7 32 h5 h0)) ?_
    obtain ⟨r5, h6, hm⟩ := obind hm
    refine rs G (hC 1 (zq52_c h6) h0) ?_
    refine cd hm (fun hm => ?_) (fun hm => ?_)
    ·obtain ⟨r6, h7, hm⟩ := obind hm
     refine rs G (hO 3 (.fz [384] [] []) (hC 3 (zq39_c h7) h0)) ?_
     exact rh G (ibN (wJ G hm))
    ·exact X_skip (ibN (wJ G hm))
   rintro ⟨n1, k1, v5, v6, v7, v8⟩ hm
   exact rh G (wL G hm)
  ·exact Ok_exit (thE (thE (ibE (wD G hm hb))))
 rintro ⟨v9, v10, v11, v12⟩ hm s hw
 refine thN (Ok_weak hw ?_)
 refine Ok_seq (rs G (hN 1 v12 h0) ?_)
 refine cd hm (fun hm => ?_) (fun hm => ?_)
 ·refine rg G ?_
  cases hm
  exact rt [32] []
 ·refine X_skip (thN ?_)
  obtain ⟨r7, h8, hm⟩ := obind hm
  refine rs G (hN 2 v12 (hC 3 (zq53_c h8) h0)) ?_
  obtain ⟨e, h9, hm⟩ := obind hm
  refine rs G (hD 2 h9 (hE 3 h9 h0)) ?_
  refine jn hm (fun (v13, v14, v15, v16, v17, v18) => ⟨[(0, .ref 0 0), (5, .own 32), (9, dV r7.1), (10, .ref 48 0)], [bX 0 [dV v13, dV v14, kV .u64 v15], aX 32 76 v12, bX 48 [dV v16, dV e.Time, dV v17, dV v18]], 80⟩) (fun vv1 hm => ?_) ?_
  ·obtain ⟨r8, h10, hm⟩ := obind hm
   refine rs G (hC 1 (zq53_c h10) h0) ?_
   refine Ok_block (rg G (cd hm (fun hm => ?_) (fun hm => ?_)))
   ·obtain ⟨r9, h11, hm⟩ := obind hm
    refine re G (hO 2 (.fz [368] [] []) (hC 2 (zq39_c h11) h0)) ?_
    exact ibN (wJ G hm)
   ·refine rg G (cd hm (fun hm => ?_) (fun hm => ?_))
    ·obtain ⟨r10, h12, hm⟩ := obind hm
     refine re G (hO 2 (.fz [400] [] []) (hC 2 (zq39_c h12) h0)) ?_
     exact ibN (wJ G hm)
    ·refine rg G (cd hm (fun hm => ?_) (fun hm => ?_))
     ·obtain ⟨r11, h13, hm⟩ := obind hm
      refine re G (hO 2 (.fz [432] [] []) (hC 2 (zq39_c h13) h0)) ?_
      exact ibN (wJ G hm)
     ·exact X_skip (ibN (wJ G hm))
  rintro ⟨v13, v14, v15, v16, v17, v18⟩ hm
  obtain ⟨e1, h14, hm⟩ := obind hm
  refine rs G (hD 3 h14 (hS 4 h14 (⟨v16, e.Time, v17, v18⟩ : Report) h0)) ?_
  refine rg G ?_
  cases hm
  exact rt [32] []
noncomputable def zq43_M : MS l1Cur (Int × l1Cur) := ⟨.b, zq43, fun y => dV y.1, fun _ => [], fun _ y => [bxO y.2]⟩
theorem zq43_c {c y} (hm : zq43 c = some y) : zq43_M.C c y := zq43_M.c c hm
theorem zq43_ok : FnOK Tryz.prog 108 zq43_M.S := by
 refine fm tt zq43_M [fo zq53_ok, fo zq39_ok] Tryz.call108 Tryz.func108 rfl Tryz.results108 Tryz.ntmps108 ?_
 rintro c y cx G hm
 have hm : zq43 c = some y := hm
 unfold zq43 at hm
 refine rg G ?_
 obtain ⟨r, h, hm⟩ := obind hm
 obtain ⟨u, h1, hm⟩ := obind hm
 obtain ⟨u1, h2, hm⟩ := obind hm
 obtain ⟨r1, h3, hm⟩ := obind hm
 refine rs G (hC 3 (zq53_c h) (hK h1 (hO 6 (.fz [48] [] []) (hU 6 h2 (hC 7 (zq39_c h3) h0))))) ?_
 cases hm
 exact rt [] []
noncomputable def zq35_M : MS ((List UInt8)) (Timetable × (List Report) × Int) := ⟨.r, zq35, fun y => .tup [dV y.1, .own 0, dV y.2.2], fun y => [arO 76 y.2.1], fun _ _ => []⟩
theorem zq35_c {code y} (hm : zq35 code = some y) : zq35_M.C code y := zq35_M.c code hm
theorem zq35_ok : FnOK Tryz.prog 37 zq35_M.S := by
 refine fm tt zq35_M [fo zq42_ok, fo zq55_ok, fo zq43_ok] Tryz.call37 Tryz.func37 rfl Tryz.results37 Tryz.ntmps37 ?_
 rintro code y cx G hm
 have hm : zq35 code = some y := hm
 unfold zq35 at hm
 refine rg G (rg G ?_)
 obtain ⟨r, h, hm⟩ := obind hm
 refine rs G (hC 1 (zq42_c h) h0) ?_
 obtain ⟨r1, h1, hm⟩ := obind hm
 refine rs G (hO 2 (.fz [144, 145] [] []) (hC 2 (zq55_c h1) h0)) ?_
 obtain ⟨r3, h3, hm⟩ := obind hm
 refine ds G [(3, [96]), (4, [16])] (hC 3 (zq43_c h3) h0) ?_
 cases hm
 exact rt [224] []
noncomputable def zq32_M : MS (Int × Int × Int) Bool := ⟨.x .r (.x .r .r), fun x => zq32 x.1 x.2.1 x.2.2, fun y => dV y, fun _ => [], fun _ _ => []⟩
theorem zq32_c {n lo hi y} (hm : zq32 n lo hi = some y) : zq32_M.C (n, lo, hi) y := zq32_M.c (n, lo, hi) hm
theorem zq32_ok : FnOK Tryz.prog 72 zq32_M.S := by
 refine fm tt zq32_M [] Tryz.call72 Tryz.func72 rfl Tryz.results72 Tryz.ntmps72 ?_
 rintro ⟨n, lo, hi⟩ y cx G hm
 have hm : zq32 n lo hi = some y := hm
 unfold zq32 at hm
 refine rg G (jn hm (fun v => ⟨[(6, dV v)], [], 32⟩) (fun v hm => ?_) ?_)
 ·rcases bf hm with ⟨hb, hm⟩ | ⟨hb, hm⟩
  ·refine re G (hO 3 (.b true) (hP hb h0)) ?_
   exact wJ G hm
  ·refine re G (hO 3 (.b false) (hP hb h0)) ?_
   exact wJ G hm
 rintro v hm
 cases hm
 exact rt [] []
noncomputable def zq21_M : MS ByteArray Bool := ⟨.r, zq21, fun y => dV y, fun _ => [], fun _ _ => []⟩
theorem zq21_c {s y} (hm : zq21 s = some y) : zq21_M.C s y := zq21_M.c s hm
theorem zq21_ok : FnOK Tryz.prog 233 zq21_M.S := by
 refine fm tt zq21_M [] Tryz.call233 Tryz.func233 rfl Tryz.results233 Tryz.ntmps233 ?_
 rintro s y cx G hm
 have hm : zq21 s = some y := hm
 unfold zq21 at hm
 refine rg G (Ok_seq (jn hm (fun v => ⟨[(0, dV s), (12, dV v)], [], 32⟩) (fun v hm => ?_) ?_))
 ·rcases bf hm with ⟨hb, hm⟩ | ⟨hb, hm⟩
  ·refine re G (hO 3 (.b true) (hP hb h0)) ?_
   exact wJ G hm
  ·refine re G (hO 3 (.b false) (hP hb h0)) ?_
   exact wJ G hm
 rintro v hm
 refine cd hm (fun hm => ?_) (fun hm => ?_)
 ·refine rg G ?_
  cases hm
  exact rt [] []
 ·refine X_skip (thN (Ok_seq (rg G (tF hm (fun _ => ⟨[], [], 32⟩) (fun v4 hr hm => ?_) ?_))))
  ·refine Ok_block (lp G hm (fun v1 => ⟨[(0, dV s), (14, dV (s.size : Int)), (15, dV v1)], [], 32⟩) ?_)
   rintro v1 r0 hb1 hm
   rw [zq21_L1] at hm
   refine rg G (Ok_seq (cd hm (fun hm => ?_) (fun hm => ?_)))
   ·refine X_skip (thN (Ok_seq (Ok_block (rg G ?_))))
    obtain ⟨u, h, hm⟩ := obind hm
    refine jn hm (fun v2 => ⟨[(0, dV s), (3, dV v1), (4, dV v2), (14, dV (s.size : Int)), (15, dV v1)], [], 32⟩) (fun v2 hm => ?_) ?_
    ·rcases bf hm with ⟨hb2, hm⟩ | ⟨hb2, hm⟩
     ·obtain ⟨u1, h1, hm⟩ := obind hm
      refine re G (hK h (hO 4 (.b true) (hP hb2 (hK h1 h0)))) ?_
      exact wJ G hm
     ·refine re G (hK h (hO 4 (.b false) (hP hb2 h0))) ?_
      exact wJ G hm
    rintro v2 hm
    refine jn hm (fun v3 => ⟨[(0, dV s), (14, dV (s.size : Int)), (15, dV v1), (45, dV v3)], [], 32⟩) (fun v3 hm => ?_) ?_
    ·rcases bf hm with ⟨hb3, hm⟩ | ⟨hb3, hm⟩
     ·rcases bf hm with ⟨hb4, hm⟩ | ⟨hb4, hm⟩
      ·refine re G (hO 2 (.b true) (hP hb3 (hO 5 (.b true) (hP hb4 h0)))) ?_
       exact wJ G hm
      ·obtain ⟨u2, h2, hm⟩ := obind hm
       rcases bf hm with ⟨hb5, hm⟩ | ⟨hb5, hm⟩
       ·refine re G (hO 2 (.b true) (hP hb3 (hO 5 (.b false) (hP hb4 (hK h2 (hO 11 (.b true) (hP hb5 h0))))))) ?_
        exact wJ G hm
       ·obtain ⟨u3, h3, hm⟩ := obind hm
        refine re G (hO 2 (.b true) (hP hb3 (hO 5 (.b false) (hP hb4 (hK h2 (hO 11 (.b false) (hP hb5 (hK h3 h0)))))))) ?_
        exact wJ G hm
     ·refine re G (hO 2 (.b false) (hP hb3 h0)) ?_
      exact wJ G hm
    rintro v3 hm
    refine cd hm (fun hm => ?_) (fun hm => ?_)
    ·refine rg G ?_
     have hm := eL hm hb1 hr
     cases hm
     exact rt [] []
    ·exact X_skip (ibN (thN (rh G (wL G hm))))
   ·exact Ok_exit (thE (thE (ibE (wE G hm hb1))))
  rintro ⟨⟩ hm s1 hw
  refine thN (Ok_weak hw ?_)
  refine rg G ?_
  cases hm
  exact rt [] []
noncomputable def zq99_M : MS ((List ByteArray) × ByteArray) Int := ⟨.x .r .r, fun x => zq99 x.1 x.2, fun y => dV y, fun _ => [], fun _ _ => []⟩
theorem zq99_c {s v y} (hm : zq99 s v = some y) : zq99_M.C (s, v) y := zq99_M.c (s, v) hm
theorem zq99_ok : FnOK Tryz.prog 234 zq99_M.S := by
 refine fm tt zq99_M [] Tryz.call234 Tryz.func234 rfl Tryz.results234 Tryz.ntmps234 ?_
 rintro ⟨s, v⟩ y cx G hm
 have hm : zq99 s v = some y := hm
 unfold zq99 at hm
 refine rg G (Ok_seq (rs G (hN 1 s h0) ?_))
 refine tF hm (fun _ => ⟨[], [], 32⟩) (fun v2 hr hm => ?_) ?_
 ·refine Ok_block (lp G hm (fun v1 => ⟨[(0, dV s), (1, dV v), (7, dV (s.length : Int)), (8, dV v1)], [], 32⟩) ?_)
  rintro v1 r0 hb hm
  rw [zq99_L1] at hm
  refine rg G (Ok_seq (cd hm (fun hm => ?_) (fun hm => ?_)))
  ·refine X_skip (thN (Ok_seq (Ok_block (rg G ?_))))
   obtain ⟨e, h, hm⟩ := obind hm
   refine rs G (hD 3 h h0) ?_
   refine cd hm (fun hm => ?_) (fun hm => ?_)
   ·refine rg G ?_
    have hm := eL hm hb hr
    cases hm
    exact rt [] []
   ·exact X_skip (ibN (thN (rh G (wL G hm))))
  ·exact Ok_exit (thE (thE (ibE (wE G hm hb))))
 rintro ⟨⟩ hm s1 hw
 refine thN (Ok_weak hw ?_)
 refine rg G ?_
 cases hm
 exact rt [] []
noncomputable def zq14_M : MS ((List ByteArray)) Bool := ⟨.r, zq14, fun y => dV y, fun _ => [], fun _ _ => []⟩
theorem zq14_c {names y} (hm : zq14 names = some y) : zq14_M.C names y := zq14_M.c names hm
theorem zq14_ok : FnOK Tryz.prog 208 zq14_M.S := by
 refine fm tt zq14_M [fo zq21_ok, fo zq99_ok] Tryz.call208 Tryz.func208 rfl Tryz.results208 Tryz.ntmps208 ?_
 rintro names y cx G hm
 have hm : zq14 names = some y := hm
 unfold zq14 at hm
 refine rg G (Ok_seq (rs G (hN 1 names h0) ?_))
 refine tF hm (fun _ => ⟨[], [], 32⟩) (fun v2 hr hm => ?_) ?_
 ·refine Ok_block (lp G hm (fun v => ⟨[(0, dV names), (5, dV names), (6, dV (names.length : Int)), (7, dV v)], [], 32⟩) ?_)
  rintro v r0 hb hm
  rw [zq14_L1] at hm
  refine rg G (Ok_seq (cd hm (fun hm => ?_) (fun hm => ?_)))
  ·refine X_skip (thN (Ok_seq (Ok_block ?_)))
   obtain ⟨e, h, hm⟩ := obind hm
   refine rs G (hD 1 h h0) ?_
   obtain ⟨r, h1, hm⟩ := obind hm
   refine jn hm (fun v1 => ⟨[(0, dV names), (5, dV names), (6, dV (names.length : Int)), (7, dV v), (21, dV v1)], [], 32⟩) (fun v1 hm => ?_) ?_
   ·rcases bf hm with ⟨hb1, hm⟩ | ⟨hb1, hm⟩
    ·refine re G (hC 1 (zq21_c h1) (hO 3 (.b true) (hP hb1 h0))) ?_
     exact wJ G hm
    ·obtain ⟨r1, h2, hm⟩ := obind hm
     refine re G (hC 1 (zq21_c h1) (hO 3 (.b false) (hP hb1 (hC 6 (zq99_c h2) h0)))) ?_
     exact wJ G hm
   rintro v1 hm
   refine cd hm (fun hm => ?_) (fun hm => ?_)
   ·refine rg G ?_
    have hm := eL hm hb hr
    cases hm
    exact rt [] []
   ·exact X_skip (ibN (thN (rh G (wL G hm))))
  ·exact Ok_exit (thE (thE (ibE (wE G hm hb))))
 rintro ⟨⟩ hm s hw
 refine thN (Ok_weak hw ?_)
 refine rg G ?_
 cases hm
 exact rt [] []
noncomputable def zq26_M : MS Network ((List ByteArray)) := ⟨.r, zq26, fun _ => .own 0, fun y => [arO 9 y], fun _ _ => []⟩
theorem zq26_c {n y} (hm : zq26 n = some y) : zq26_M.C n y := zq26_M.c n hm
theorem zq26_ok : FnOK Tryz.prog 209 zq26_M.S := by
 refine fm tt zq26_M [] Tryz.call209 Tryz.func209 rfl Tryz.results209 Tryz.ntmps209 ?_
 rintro n y cx G hm
 have hm : zq26 n = some y := hm
 unfold zq26 at hm
 refine rg G ?_
 obtain ⟨u, h, hm⟩ := obind hm
 refine rs G (hN 2 n.Lines (hO 3 (.l (List.map Enc.e (List.replicate (n.Lines.length : Int).toNat (ByteArray.empty : ByteArray)))) (hP (mk_p (b := 16) (chk_t h) rfl) (hP (rep_m Enc.e (n.Lines.length : Int).toNat (ByteArray.empty : ByteArray)) h0)))) ?_
 refine Ok_seq (rs G (hN 2 n.Lines h0) ?_)
 refine tl hm (fun i1 => ⟨[(3, .own 16)], [aX 16 9 i1], 48⟩) (fun i1 hm => ?_) ?_
 ·refine Ok_block (lp G hm (fun (v, i) => ⟨[(3, .own 16), (11, dV n.Lines), (12, dV (n.Lines.length : Int)), (13, dV v)], [aX 16 9 i], 48⟩) ?_)
  rintro ⟨v, i⟩ r0 hb hm
  rw [zq26_L1] at hm
  refine rg G (Ok_seq (cd hm (fun hm => ?_) (fun hm => ?_)))
  ·refine X_skip (thN (Ok_seq (Ok_block ?_)))
   obtain ⟨e, h1, hm⟩ := obind hm
   refine rs G (hD 1 h1 h0) ?_
   obtain ⟨e1, h2, hm⟩ := obind hm
   refine re G (hD 4 h2 (hS 5 h2 e.Name h0)) ?_
   exact ibN (thN (rh G (wL G hm)))
  ·exact Ok_exit (thE (thE (ibE (wD G hm hb))))
 rintro i1 hm s hw
 refine thN (Ok_weak hw ?_)
 refine rg G ?_
 cases hm
 exact rt [16] []
noncomputable def zq23_M : MS (Network × Int) Bool := ⟨.x .r .r, fun x => zq23 x.1 x.2, fun y => dV y, fun _ => [], fun _ _ => []⟩
theorem zq23_c {n stop y} (hm : zq23 n stop = some y) : zq23_M.C (n, stop) y := zq23_M.c (n, stop) hm
theorem zq23_ok : FnOK Tryz.prog 235 zq23_M.S := by
 refine fm tt zq23_M [] Tryz.call235 Tryz.func235 rfl Tryz.results235 Tryz.ntmps235 ?_
 rintro ⟨n, stop⟩ y cx G hm
 have hm : zq23 n stop = some y := hm
 unfold zq23 at hm
 refine rg G (jn hm (fun v => ⟨[(4, dV v)], [], 32⟩) (fun v hm => ?_) ?_)
 ·rcases bf hm with ⟨hb, hm⟩ | ⟨hb, hm⟩
  ·refine re G (hO 2 (.b true) (hP hb (hN 6 n.Stops h0))) ?_
   exact wJ G hm
  ·refine re G (hO 2 (.b false) (hP hb h0)) ?_
   exact wJ G hm
 rintro v hm
 cases hm
 exact rt [] []
noncomputable def zq98_M : MS ((List Int) × Int) Int := ⟨.x .r .r, fun x => zq98 x.1 x.2, fun y => dV y, fun _ => [], fun _ _ => []⟩
theorem zq98_c {s v y} (hm : zq98 s v = some y) : zq98_M.C (s, v) y := zq98_M.c (s, v) hm
theorem zq98_ok : FnOK Tryz.prog 164 zq98_M.S := by
 refine fm tt zq98_M [] Tryz.call164 Tryz.func164 rfl Tryz.results164 Tryz.ntmps164 ?_
 rintro ⟨s, v⟩ y cx G hm
 have hm : zq98 s v = some y := hm
 unfold zq98 at hm
 refine rg G (Ok_seq (rs G (hN 1 s h0) ?_))
 refine tF hm (fun _ => ⟨[], [], 32⟩) (fun v2 hr hm => ?_) ?_
 ·refine Ok_block (lp G hm (fun v1 => ⟨[(0, dV s), (1, dV v), (7, dV (s.length : Int)), (8, dV v1)], [], 32⟩) ?_)
  rintro v1 r0 hb hm
  rw [zq98_L1] at hm
  refine rg G (Ok_seq (cd hm (fun hm => ?_) (fun hm => ?_)))
  ·refine X_skip (thN (Ok_seq (Ok_block (rg G ?_))))
   obtain ⟨e, h, hm⟩ := obind hm
   refine rs G (hD 3 h h0) ?_
   refine cd hm (fun hm => ?_) (fun hm => ?_)
   ·refine rg G ?_
    have hm := eL hm hb hr
    cases hm
    exact rt [] []
   ·exact X_skip (ibN (thN (rh G (wL G hm))))
  ·exact Ok_exit (thE (thE (ibE (wE G hm hb))))
 rintro ⟨⟩ hm s1 hw
 refine thN (Ok_weak hw ?_)
 refine rg G ?_
 cases hm
 exact rt [] []
noncomputable def zq24_M : MS (Network × Line) Bool := ⟨.x .r .r, fun x => zq24 x.1 x.2, fun y => dV y, fun _ => [], fun _ _ => []⟩
theorem zq24_c {n l y} (hm : zq24 n l = some y) : zq24_M.C (n, l) y := zq24_M.c (n, l) hm
theorem zq24_ok : FnOK Tryz.prog 210 zq24_M.S := by
 refine fm tt zq24_M [fo zq32_ok, fo zq23_ok, fo zq98_ok] Tryz.call210 Tryz.func210 rfl Tryz.results210 Tryz.ntmps210 ?_
 rintro ⟨n, l⟩ y cx G hm
 have hm : zq24 n l = some y := hm
 unfold zq24 at hm
 refine rg G (Ok_seq ?_)
 obtain ⟨r, h, hm⟩ := obind hm
 refine jn hm (fun v => ⟨[(2, .ref 16 0), (3, .ref 32 0), (23, dV v)], [bX 16 [dV n.Stops, dV n.Lines], bX 32 [dV l.Name, dV l.Stops, dV l.Runs]], 64⟩) (fun v hm => ?_) ?_
 ·rcases bf hm with ⟨hb, hm⟩ | ⟨hb, hm⟩
  ·refine re G (hN 2 l.Stops (hC 3 (zq32_c h) (hO 5 (.b true) (hP hb h0)))) ?_
   exact wJ G hm
  ·refine re G (hN 2 l.Stops (hC 3 (zq32_c h) (hO 5 (.b false) (hP hb (hN 8 l.Runs (hN 11 l.Stops h0)))))) ?_
   exact wJ G hm
 rintro v hm
 refine cd hm (fun hm => ?_) (fun hm => ?_)
 ·refine rg G ?_
  cases hm
  exact rt [] []
 ·refine X_skip (thN (Ok_seq (rs G (hN 2 l.Stops h0) ?_)))
  refine tF hm (fun _ => ⟨[(3, .ref 16 0)], [bX 16 [dV l.Name, dV l.Stops, dV l.Runs]], 48⟩) (fun v5 hr hm => ?_) ?_
  ·refine Ok_block (lp G hm (fun v1 => ⟨[(2, .ref 16 0), (3, .ref 32 0), (25, dV l.Stops), (26, dV (l.Stops.length : Int)), (27, dV v1)], [bX 16 [dV n.Stops, dV n.Lines], bX 32 [dV l.Name, dV l.Stops, dV l.Runs]], 64⟩) ?_)
   rintro v1 r0 hb1 hm
   rw [zq24_L1] at hm
   refine rg G (Ok_seq (cd hm (fun hm => ?_) (fun hm => ?_)))
   ·refine X_skip (thN (Ok_seq (Ok_block ?_)))
    obtain ⟨e, h1, hm⟩ := obind hm
    refine rs G (hD 1 h1 h0) ?_
    obtain ⟨r1, h2, hm⟩ := obind hm
    refine jn hm (fun v2 => ⟨[(2, .ref 16 0), (3, .ref 32 0), (25, dV l.Stops), (26, dV (l.Stops.length : Int)), (27, dV v1), (43, dV v2)], [bX 16 [dV n.Stops, dV n.Lines], bX 32 [dV l.Name, dV l.Stops, dV l.Runs]], 64⟩) (fun v2 hm => ?_) ?_
    ·rcases bf hm with ⟨hb2, hm⟩ | ⟨hb2, hm⟩
     ·refine re G (hC 2 (zq23_c h2) (hO 4 (.b true) (hP hb2 h0))) ?_
      exact wJ G hm
     ·obtain ⟨r2, h3, hm⟩ := obind hm
      refine re G (hC 2 (zq23_c h2) (hO 4 (.b false) (hP hb2 (hC 8 (zq98_c h3) h0)))) ?_
      exact wJ G hm
    rintro v2 hm
    refine cd hm (fun hm => ?_) (fun hm => ?_)
    ·refine rg G ?_
     have hm := eL hm hb1 hr
     cases hm
     exact rt [] []
    ·exact X_skip (ibN (thN (rh G (wL G hm))))
   ·exact Ok_exit (thE (thE (ibE (wE G hm hb1))))
  rintro ⟨⟩ hm s hw
  refine thN (Ok_weak hw ?_)
  refine Ok_seq (rs G (hN 2 l.Runs h0) ?_)
  refine tF hm (fun _ => ⟨[], [], 32⟩) (fun v4 hr1 hm => ?_) ?_
  ·refine Ok_block (lp G hm (fun v3 => ⟨[(46, dV l.Runs), (47, dV (l.Runs.length : Int)), (48, dV v3)], [], 32⟩) ?_)
   rintro v3 r0 hb3 hm
   rw [zq24_L2] at hm
   refine rg G (Ok_seq (cd hm (fun hm => ?_) (fun hm => ?_)))
   ·refine X_skip (thN (Ok_seq (Ok_block ?_)))
    obtain ⟨e2, h4, hm⟩ := obind hm
    refine rs G (hD 0 h4 h0) ?_
    obtain ⟨r4, h5, hm⟩ := obind hm
    refine rs G (hC 1 (zq32_c h5) h0) ?_
    refine cd hm (fun hm => ?_) (fun hm => ?_)
    ·refine rg G ?_
     have hm := eL hm hb3 hr1
     cases hm
     exact rt [] []
    ·exact X_skip (ibN (thN (rh G (wL G hm))))
   ·exact Ok_exit (thE (thE (ibE (wE G hm hb3))))
  rintro ⟨⟩ hm s1 hw1
  refine thN (Ok_weak hw1 ?_)
  refine rg G ?_
  cases hm
  exact rt [] []
noncomputable def zq3_M : MS Network Bool := ⟨.r, zq3, fun y => dV y, fun _ => [], fun _ _ => []⟩
theorem zq3_c {n y} (hm : zq3 n = some y) : zq3_M.C n y := zq3_M.c n hm
theorem zq3_ok : FnOK Tryz.prog 156 zq3_M.S := by
 refine fm tt zq3_M [fo zq32_ok, fo zq14_ok, fo zq26_ok, fo zq24_ok] Tryz.call156 Tryz.func156 rfl Tryz.results156 Tryz.ntmps156 ?_
 rintro n y cx G hm
 have hm : zq3 n = some y := hm
 unfold zq3 at hm
 refine rg G (Ok_seq ?_)
 obtain ⟨r, h, hm⟩ := obind hm
 refine jn hm (fun v => ⟨[(1, .ref 16 0), (28, dV v)], [bX 16 [dV n.Stops, dV n.Lines]], 48⟩) (fun v hm => ?_) ?_
 ·rcases bf hm with ⟨hb, hm⟩ | ⟨hb, hm⟩
  ·refine re G (hN 2 n.Stops (hC 3 (zq32_c h) (hO 5 (.b true) (hP hb h0)))) ?_
   exact wJ G hm
  ·obtain ⟨r1, h1, hm⟩ := obind hm
   rcases bf hm with ⟨hb1, hm⟩ | ⟨hb1, hm⟩
   ·refine re G (hN 2 n.Stops (hC 3 (zq32_c h) (hO 5 (.b false) (hP hb (hN 8 n.Lines (hC 9 (zq32_c h1) (hO 12 (.b true) (hP hb1 h0)))))))) ?_
    exact wJ G hm
   ·obtain ⟨r2, h2, hm⟩ := obind hm
    rcases bf hm with ⟨hb2, hm⟩ | ⟨hb2, hm⟩
    ·refine re G (hN 2 n.Stops (hC 3 (zq32_c h) (hO 5 (.b false) (hP hb (hN 8 n.Lines (hC 9 (zq32_c h1) (hO 12 (.b false) (hP hb1 (hC 15 (zq14_c h2) (hO 18 (.b true) (hP hb2 h0))))))))))) ?_
     exact wJ G hm
    ·obtain ⟨r3, h3, hm⟩ := obind hm
     obtain ⟨r4, h4, hm⟩ := obind hm
     refine re G (hN 2 n.Stops (hC 3 (zq32_c h) (hO 5 (.b false) (hP hb (hN 8 n.Lines (hC 9 (zq32_c h1) (hO 12 (.b false) (hP hb1 (hC 15 (zq14_c h2) (hO 18 (.b false) (hP hb2 (hC 20 (zq26_c h3) (hC 21 (zq14_c h4) h0))))))))))))) ?_
     exact wJ G hm
 rintro v hm
 refine cd hm (fun hm => ?_) (fun hm => ?_)
 ·refine rg G ?_
  cases hm
  exact rt [] []
 ·refine X_skip (thN (Ok_seq (rs G (hN 2 n.Lines h0) ?_)))
  refine tF hm (fun _ => ⟨[], [], 32⟩) (fun v2 hr hm => ?_) ?_
  ·refine Ok_block (lp G hm (fun v1 => ⟨[(1, .ref 16 0), (30, dV n.Lines), (31, dV (n.Lines.length : Int)), (32, dV v1)], [bX 16 [dV n.Stops, dV n.Lines]], 48⟩) ?_)
   rintro v1 r0 hb3 hm
   rw [zq3_L1] at hm
   refine rg G (Ok_seq (cd hm (fun hm => ?_) (fun hm => ?_)))
   ·refine X_skip (thN (Ok_seq (Ok_block ?_)))
    obtain ⟨e, h5, hm⟩ := obind hm
    refine rs G (hD 0 h5 h0) ?_
    obtain ⟨r5, h6, hm⟩ := obind hm
    refine rs G (hC 2 (zq24_c h6) h0) ?_
    refine cd hm (fun hm => ?_) (fun hm => ?_)
    ·refine rg G ?_
     have hm := eL hm hb3 hr
     cases hm
     exact rt [] []
    ·exact X_skip (ibN (thN (rh G (wL G hm))))
   ·exact Ok_exit (thE (thE (ibE (wE G hm hb3))))
  rintro ⟨⟩ hm s hw
  refine thN (Ok_weak hw ?_)
  refine rg G ?_
  cases hm
  exact rt [] []
noncomputable def zq20_M : MS (Network × Int) Bool := ⟨.x .r .r, fun x => zq20 x.1 x.2, fun y => dV y, fun _ => [], fun _ _ => []⟩
theorem zq20_c {n line y} (hm : zq20 n line = some y) : zq20_M.C (n, line) y := zq20_M.c (n, line) hm
theorem zq20_ok : FnOK Tryz.prog 211 zq20_M.S := by
 refine fm tt zq20_M [] Tryz.call211 Tryz.func211 rfl Tryz.results211 Tryz.ntmps211 ?_
 rintro ⟨n, line⟩ y cx G hm
 have hm : zq20 n line = some y := hm
 unfold zq20 at hm
 refine rg G (jn hm (fun v => ⟨[(4, dV v)], [], 32⟩) (fun v hm => ?_) ?_)
 ·rcases bf hm with ⟨hb, hm⟩ | ⟨hb, hm⟩
  ·refine re G (hO 2 (.b true) (hP hb (hN 6 n.Lines h0))) ?_
   exact wJ G hm
  ·refine re G (hO 2 (.b false) (hP hb h0)) ?_
   exact wJ G hm
 rintro v hm
 cases hm
 exact rt [] []
noncomputable def zq5_M : MS Int Bool := ⟨.r, zq5, fun y => dV y, fun _ => [], fun _ _ => []⟩
theorem zq5_c {t y} (hm : zq5 t = some y) : zq5_M.C t y := zq5_M.c t hm
theorem zq5_ok : FnOK Tryz.prog 118 zq5_M.S := by
 refine fm tt zq5_M [fo zq32_ok] Tryz.call118 Tryz.func118 rfl Tryz.results118 Tryz.ntmps118 ?_
 rintro t y cx G hm
 have hm : zq5 t = some y := hm
 unfold zq5 at hm
 refine rg G ?_
 obtain ⟨r, h, hm⟩ := obind hm
 refine rs G (hC 1 (zq32_c h) h0) ?_
 cases hm
 exact rt [] []
noncomputable def zq31_M : MS ((List Int)) Int := ⟨.r, zq31, fun y => dV y, fun _ => [], fun _ _ => []⟩
theorem zq31_c {list y} (hm : zq31 list = some y) : zq31_M.C list y := zq31_M.c list hm
theorem zq31_ok : FnOK Tryz.prog 165 zq31_M.S := by
 refine fm tt zq31_M [] Tryz.call165 Tryz.func165 rfl Tryz.results165 Tryz.ntmps165 ?_
 rintro list y cx G hm
 have hm : zq31 list = some y := hm
 unfold zq31 at hm
 refine rg G (rg G (Ok_seq (rs G (hN 1 list h0) ?_)))
 refine tl hm (fun v2 => ⟨[(3, dV v2)], [], 32⟩) (fun v2 hm => ?_) ?_
 ·refine Ok_block (lp G hm (fun (v, v1) => ⟨[(3, dV v), (6, dV list), (7, dV (list.length : Int)), (8, dV v1)], [], 32⟩) ?_)
  rintro ⟨v, v1⟩ r0 hb hm
  rw [zq31_L1] at hm
  refine rg G (Ok_seq (cd hm (fun hm => ?_) (fun hm => ?_)))
  ·refine X_skip (thN (Ok_seq (Ok_block ?_)))
   obtain ⟨e, h, hm⟩ := obind hm
   refine rs G (hD 0 h h0) ?_
   exact rh G (ibN (thN (rh G (wL G hm))))
  ·exact Ok_exit (thE (thE (ibE (wD G hm hb))))
 rintro v2 hm s hw
 refine thN (Ok_weak hw ?_)
 refine rg G ?_
 cases hm
 exact rt [] []
noncomputable def zq17_M : MS (Timetable × Trip) Int := ⟨.x .r .r, fun x => zq17 x.1 x.2, fun y => dV y, fun _ => [], fun _ _ => []⟩
theorem zq17_c {t x y} (hm : zq17 t x = some y) : zq17_M.C (t, x) y := zq17_M.c (t, x) hm
theorem zq17_ok : FnOK Tryz.prog 87 zq17_M.S := by
 refine fm tt zq17_M [fo zq31_ok] Tryz.call87 Tryz.func87 rfl Tryz.results87 Tryz.ntmps87 ?_
 rintro ⟨t, x⟩ y cx G hm
 have hm : zq17 t x = some y := hm
 unfold zq17 at hm
 refine rg G ?_
 obtain ⟨e1, h2, hm⟩ := obind hm
 obtain ⟨r1, h3, hm⟩ := obind hm
 refine ds G [] (hD 7 h2 (hC 10 (zq31_c h3) h0)) ?_
 cases hm
 exact rt [] []
noncomputable def zq16_M : MS Timetable Bool := ⟨.r, zq16, fun y => dV y, fun _ => [], fun _ _ => []⟩
theorem zq16_c {t y} (hm : zq16 t = some y) : zq16_M.C t y := zq16_M.c t hm
theorem zq16_ok : FnOK Tryz.prog 157 zq16_M.S := by
 refine fm tt zq16_M [fo zq20_ok, fo zq5_ok, fo zq17_ok] Tryz.call157 Tryz.func157 rfl Tryz.results157 Tryz.ntmps157 ?_
 rintro t y cx G hm
 have hm : zq16 t = some y := hm
 unfold zq16 at hm
 refine rg G (Ok_seq (rs G (hN 2 t.Trips h0) ?_))
 refine cd hm (fun hm => ?_) (fun hm => ?_)
 ·refine rg G ?_
  cases hm
  exact rt [] []
 ·refine X_skip (thN (rg G (Ok_seq (rs G (hN 2 t.Trips h0) ?_))))
  refine tF hm (fun _ => ⟨[], [], 32⟩) (fun v3 hr hm => ?_) ?_
  ·refine Ok_block (lp G hm (fun (v, v1) => ⟨[(1, .ref 16 0), (3, dV v), (11, dV t.Trips), (12, dV (t.Trips.length : Int)), (13, dV v1)], [bX 16 [dV t.Network.Stops, dV t.Network.Lines, dV t.Trips]], 48⟩) ?_)
   rintro ⟨v, v1⟩ r0 hb hm
   rw [zq16_L1] at hm
   refine rg G (Ok_seq (cd hm (fun hm => ?_) (fun hm => ?_)))
   ·refine X_skip (thN (Ok_seq (Ok_block ?_)))
    obtain ⟨e, h, hm⟩ := obind hm
    refine rs G (hD 0 h h0) ?_
    refine Ok_seq (jn hm (fun v2 => ⟨[(1, .ref 16 0), (5, .ref 32 0), (11, dV t.Trips), (12, dV (t.Trips.length : Int)), (13, dV v1), (46, dV v2)], [bX 16 [dV t.Network.Stops, dV t.Network.Lines, dV t.Trips], bX 32 [dV e.Id, dV e.Line, dV e.Start]], 64⟩) (fun v2 hm => ?_) ?_)
    ·rcases bf hm with ⟨hb1, hm⟩ | ⟨hb1, hm⟩
     ·refine re G (hO 4 (.b true) (hP hb1 h0)) ?_
      exact wJ G hm
     ·rcases bf hm with ⟨hb2, hm⟩ | ⟨hb2, hm⟩
      ·refine re G (hO 4 (.b false) (hP hb1 (hO 9 (.b true) (hP hb2 h0)))) ?_
       exact wJ G hm
      ·obtain ⟨r, h1, hm⟩ := obind hm
       rcases bf hm with ⟨hb3, hm⟩ | ⟨hb3, hm⟩
       ·refine re G (hO 4 (.b false) (hP hb1 (hO 9 (.b false) (hP hb2 (hC 14 (zq20_c h1) (hO 17 (.b true) (hP hb3 h0))))))) ?_
        exact wJ G hm
       ·obtain ⟨r1, h2, hm⟩ := obind hm
        rcases bf hm with ⟨hb4, hm⟩ | ⟨hb4, hm⟩
        ·refine re G (hO 4 (.b false) (hP hb1 (hO 9 (.b false) (hP hb2 (hC 14 (zq20_c h1) (hO 17 (.b false) (hP hb3 (hC 20 (zq5_c h2) (hO 23 (.b true) (hP hb4 h0)))))))))) ?_
         exact wJ G hm
        ·obtain ⟨r2, h3, hm⟩ := obind hm
         obtain ⟨r3, h4, hm⟩ := obind hm
         refine re G (hO 4 (.b false) (hP hb1 (hO 9 (.b false) (hP hb2 (hC 14 (zq20_c h1) (hO 17 (.b false) (hP hb3 (hC 20 (zq5_c h2) (hO 23 (.b false) (hP hb4 (hC 26 (zq17_c h3) (hC 27 (zq5_c h4) h0)))))))))))) ?_
         exact wJ G hm
    rintro v2 hm
    refine cd hm (fun hm => ?_) (fun hm => ?_)
    ·refine rg G ?_
     have hm := eL hm hb hr
     cases hm
     exact rt [] []
    ·exact X_skip (thN (rh G (ibN (thN (rh G (wL G hm))))))
   ·exact Ok_exit (thE (thE (ibE (wE G hm hb))))
  rintro ⟨⟩ hm s hw
  refine thN (Ok_weak hw ?_)
  refine rg G ?_
  cases hm
  exact rt [] []
noncomputable def zq6_M : MS Timetable Bool := ⟨.r, zq6, fun y => dV y, fun _ => [], fun _ _ => []⟩
theorem zq6_c {t y} (hm : zq6 t = some y) : zq6_M.C t y := zq6_M.c t hm
theorem zq6_ok : FnOK Tryz.prog 78 zq6_M.S := by
 refine fm tt zq6_M [fo zq3_ok, fo zq16_ok] Tryz.call78 Tryz.func78 rfl Tryz.results78 Tryz.ntmps78 ?_
 rintro t y cx G hm
 have hm : zq6 t = some y := hm
 unfold zq6 at hm
 refine rg G ?_
 obtain ⟨r, h, hm⟩ := obind hm
 refine jn hm (fun v => ⟨[(2, dV v)], [], 32⟩) (fun v hm => ?_) ?_
 ·rcases bf hm with ⟨hb, hm⟩ | ⟨hb, hm⟩
  ·obtain ⟨r1, h1, hm⟩ := obind hm
   refine re G (hC 2 (zq3_c h) (hO 3 (.b true) (hP hb (hC 5 (zq16_c h1) h0)))) ?_
   exact wJ G hm
  ·refine re G (hC 2 (zq3_c h) (hO 3 (.b false) (hP hb h0))) ?_
   exact wJ G hm
 rintro v hm
 cases hm
 exact rt [] []
noncomputable def zq22_M : MS (Timetable × Report) Bool := ⟨.x .r .r, fun x => zq22 x.1 x.2, fun y => dV y, fun _ => [], fun _ _ => []⟩
theorem zq22_c {t r y} (hm : zq22 t r = some y) : zq22_M.C (t, r) y := zq22_M.c (t, r) hm
theorem zq22_ok : FnOK Tryz.prog 192 zq22_M.S := by
 refine fm tt zq22_M [fo zq32_ok, fo zq5_ok, fo zq20_ok, fo zq31_ok] Tryz.call192 Tryz.func192 rfl Tryz.results192 Tryz.ntmps192 ?_
 rintro ⟨t, r⟩ y cx G hm
 have hm : zq22 t r = some y := hm
 unfold zq22 at hm
 refine rg G ?_
 obtain ⟨r6, h6, hm⟩ := obind hm
 refine jn hm (fun v => ⟨[(4, dV v)], [], 32⟩) (fun v hm => ?_) ?_
 ·rcases bf hm with ⟨hb, hm⟩ | ⟨hb, hm⟩
  ·obtain ⟨r7, h7, hm⟩ := obind hm
   rcases bf hm with ⟨hb1, hm⟩ | ⟨hb1, hm⟩
   ·obtain ⟨r8, h8, hm⟩ := obind hm
    rcases bf hm with ⟨hb2, hm⟩ | ⟨hb2, hm⟩
    ·obtain ⟨e1, h9, hm⟩ := obind hm
     obtain ⟨r9, h10, hm⟩ := obind hm
     obtain ⟨r10, h11, hm⟩ := obind hm
     refine de G [] (hC 2 (zq32_c h6) (hO 3 (.b true) (hP hb (hC 6 (zq5_c h7) (hO 8 (.b true) (hP hb1 (hC 13 (zq20_c h8) (hO 15 (.b true) (hP hb2 (hD 23 h9 (hC 26 (zq31_c h10) (hC 27 (zq32_c h11) h0)))))))))))) ?_
     exact wJ G hm
    ·refine de G [] (hC 2 (zq32_c h6) (hO 3 (.b true) (hP hb (hC 6 (zq5_c h7) (hO 8 (.b true) (hP hb1 (hC 13 (zq20_c h8) (hO 15 (.b false) (hP hb2 h0))))))))) ?_
     exact wJ G hm
   ·refine de G [] (hC 2 (zq32_c h6) (hO 3 (.b true) (hP hb (hC 6 (zq5_c h7) (hO 8 (.b false) (hP hb1 h0)))))) ?_
    exact wJ G hm
  ·refine de G [] (hC 2 (zq32_c h6) (hO 3 (.b false) (hP hb h0))) ?_
   exact wJ G hm
 rintro v hm
 cases hm
 exact rt [] []
noncomputable def zq2_M : MS Int Bool := ⟨.r, zq2, fun y => dV y, fun _ => [], fun _ _ => []⟩
theorem zq2_c {x y} (hm : zq2 x = some y) : zq2_M.C x y := zq2_M.c x hm
theorem zq2_ok : FnOK Tryz.prog 172 zq2_M.S := by
 refine fm tt zq2_M [] Tryz.call172 Tryz.func172 rfl Tryz.results172 Tryz.ntmps172 ?_
 rintro x y cx G hm
 have hm : zq2 x = some y := hm
 unfold zq2 at hm
 refine rg G (rg G ?_)
 cases hm
 exact rt [] []
noncomputable def zq0_M : MS (Int × Int) Int := ⟨.x .r .r, fun x => zq0 x.1 x.2, fun y => dV y, fun _ => [], fun _ _ => []⟩
theorem zq0_c {x y_ y} (hm : zq0 x y_ = some y) : zq0_M.C (x, y_) y := zq0_M.c (x, y_) hm
theorem zq0_ok : FnOK Tryz.prog 99 zq0_M.S := by
 refine fm tt zq0_M [fo zq2_ok] Tryz.call99 Tryz.func99 rfl Tryz.results99 Tryz.ntmps99 ?_
 rintro ⟨x, y_⟩ y cx G hm
 have hm : zq0 x y_ = some y := hm
 unfold zq0 at hm
 refine rg G ?_
 obtain ⟨r, h, hm⟩ := obind hm
 refine rs G (hC 1 (zq2_c h) h0) ?_
 obtain ⟨r1, h1, hm⟩ := obind hm
 refine rs G (hC 1 (zq2_c h1) h0) ?_
 refine Ok_seq (rg G (cd hm (fun hm => ?_) (fun hm => ?_)))
 ·refine Ok_seq (rg G (cd hm (fun hm => ?_) (fun hm => ?_)))
  ·refine rg G ?_
   cases hm
   exact rt [] []
  ·refine X_skip (thN (rg G ?_))
   cases hm
   exact rt [] []
 ·refine X_skip (thN (Ok_seq (rg G (cd hm (fun hm => ?_) (fun hm => ?_)))))
  ·refine rg G ?_
   cases hm
   exact rt [] []
  ·refine X_skip (thN (Ok_seq (rg G (cd hm (fun hm => ?_) (fun hm => ?_)))))
   ·refine rg G ?_
    cases hm
    exact rt [] []
   ·refine X_skip (thN (Ok_seq (rg G (cd hm (fun hm => ?_) (fun hm => ?_)))))
    ·refine rg G ?_
     cases hm
     exact rt [] []
    ·refine X_skip (thN (rg G ?_))
     cases hm
     exact rt [] []
noncomputable def zq1_M : MS ((List Int)) Int := ⟨.r, zq1, fun y => dV y, fun _ => [], fun _ _ => []⟩
theorem zq1_c {vals y} (hm : zq1 vals = some y) : zq1_M.C vals y := zq1_M.c vals hm
theorem zq1_ok : FnOK Tryz.prog 98 zq1_M.S := by
 refine fm tt zq1_M [] Tryz.call98 Tryz.func98 rfl Tryz.results98 Tryz.ntmps98 ?_
 rintro vals y cx G hm
 have hm : zq1 vals = some y := hm
 unfold zq1 at hm
 refine rg G (rg G (Ok_seq (rs G (hN 1 vals h0) ?_)))
 refine tF hm (fun _ => ⟨[(3, kV .i64 0)], [], 32⟩) (fun v1 hr hm => ?_) ?_
 ·refine Ok_block (lp G hm (fun v => ⟨[(3, kV .i64 0), (6, dV vals), (7, dV (vals.length : Int)), (8, dV v)], [], 32⟩) ?_)
  rintro v r0 hb hm
  rw [zq1_L1] at hm
  refine rg G (Ok_seq (cd hm (fun hm => ?_) (fun hm => ?_)))
  ·refine X_skip (thN (Ok_seq (Ok_block ?_)))
   obtain ⟨e, h, hm⟩ := obind hm
   refine rs G (hD 0 h h0) ?_
   refine rg G (cd hm (fun hm => ?_) (fun hm => ?_))
   ·refine rg G ?_
    have hm := eL hm hb hr
    cases hm
    exact rt [] []
   ·exact X_skip (ibN (thN (rh G (wL G hm))))
  ·exact Ok_exit (thE (thE (ibE (wE G hm hb))))
 rintro ⟨⟩ hm s hw
 refine thN (Ok_weak hw ?_)
 refine rg G ?_
 cases hm
 exact rt [] []
noncomputable def zq15_M : MS (Timetable × (List Report)) Bool := ⟨.x .r .r, fun x => zq15 x.1 x.2, fun y => dV y, fun _ => [], fun _ _ => []⟩
theorem zq15_c {t list y} (hm : zq15 t list = some y) : zq15_M.C (t, list) y := zq15_M.c (t, list) hm
theorem zq15_ok : FnOK Tryz.prog 113 zq15_M.S := by
 refine fm tt zq15_M [fo zq22_ok, fo zq0_ok, fo zq1_ok] Tryz.call113 Tryz.func113 rfl Tryz.results113 Tryz.ntmps113 ?_
 rintro ⟨t, list⟩ y cx G hm
 have hm : zq15 t list = some y := hm
 unfold zq15 at hm
 refine rg G (Ok_seq (rs G (hN 1 list h0) ?_))
 refine cd hm (fun hm => ?_) (fun hm => ?_)
 ·refine rg G ?_
  cases hm
  exact rt [] []
 ·refine X_skip (thN (Ok_seq (rs G (hN 1 list h0) ?_)))
  refine tF hm (fun _ => ⟨[], [], 32⟩) (fun v2 hr hm => ?_) ?_
  ·refine Ok_block (lp G hm (fun v => ⟨[(1, dV list), (2, .ref 16 0), (10, dV list), (11, dV (list.length : Int)), (12, dV v)], [bX 16 [dV t.Network.Stops, dV t.Network.Lines, dV t.Trips]], 48⟩) ?_)
   rintro v r0 hb hm
   rw [zq15_L1] at hm
   refine rg G (Ok_seq (cd hm (fun hm => ?_) (fun hm => ?_)))
   ·refine X_skip (thN (Ok_seq (Ok_block ?_)))
    obtain ⟨e, h, hm⟩ := obind hm
    refine rs G (hD 1 h h0) ?_
    obtain ⟨r4, h7, hm⟩ := obind hm
    refine jn hm (fun v1 => ⟨[(1, dV list), (2, .ref 16 0), (10, dV list), (11, dV (list.length : Int)), (12, dV v), (47, dV v1)], [bX 16 [dV t.Network.Stops, dV t.Network.Lines, dV t.Trips]], 48⟩) (fun v1 hm => ?_) ?_
    ·rcases bf hm with ⟨hb1, hm⟩ | ⟨hb1, hm⟩
     ·refine de G [] (hC 2 (zq22_c h7) (hO 4 (.b true) (hP hb1 h0))) ?_
      exact wJ G hm
     ·rcases bf hm with ⟨hb2, hm⟩ | ⟨hb2, hm⟩
      ·obtain ⟨e3, h8, hm⟩ := obind hm
       obtain ⟨r5, h9, hm⟩ := obind hm
       obtain ⟨e4, h10, hm⟩ := obind hm
       obtain ⟨r6, h11, hm⟩ := obind hm
       obtain ⟨r7, h12, hm⟩ := obind hm
       refine de G [] (hC 2 (zq22_c h7) (hO 4 (.b false) (hP hb1 (hO 7 (.b true) (hP hb2 (hD 11 h8 (hC 16 (zq0_c h9) (hD 20 h10 (hC 25 (zq0_c h11) (hC 27 (zq1_c h12) h0)))))))))) ?_
       exact wJ G hm
      ·refine de G [] (hC 2 (zq22_c h7) (hO 4 (.b false) (hP hb1 (hO 7 (.b false) (hP hb2 h0))))) ?_
       exact wJ G hm
    rintro v1 hm
    refine cd hm (fun hm => ?_) (fun hm => ?_)
    ·refine rg G ?_
     have hm := eL hm hb hr
     cases hm
     exact rt [] []
    ·exact X_skip (ibN (thN (rh G (wL G hm))))
   ·exact Ok_exit (thE (thE (ibE (wE G hm hb))))
  rintro ⟨⟩ hm s hw
  refine thN (Ok_weak hw ?_)
  refine rg G ?_
  cases hm
  exact rt [] []
noncomputable def zq4_M : MS (Timetable × (List Report)) Bool := ⟨.x .r .r, fun x => zq4 x.1 x.2, fun y => dV y, fun _ => [], fun _ _ => []⟩
theorem zq4_c {t list y} (hm : zq4 t list = some y) : zq4_M.C (t, list) y := zq4_M.c (t, list) hm
theorem zq4_ok : FnOK Tryz.prog 40 zq4_M.S := by
 refine fm tt zq4_M [fo zq6_ok, fo zq15_ok] Tryz.call40 Tryz.func40 rfl Tryz.results40 Tryz.ntmps40 ?_
 rintro ⟨t, list⟩ y cx G hm
 have hm : zq4 t list = some y := hm
 unfold zq4 at hm
 refine rg G ?_
 obtain ⟨r, h, hm⟩ := obind hm
 refine jn hm (fun v => ⟨[(4, dV v)], [], 32⟩) (fun v hm => ?_) ?_
 ·rcases bf hm with ⟨hb, hm⟩ | ⟨hb, hm⟩
  ·obtain ⟨r1, h1, hm⟩ := obind hm
   refine re G (hC 1 (zq6_c h) (hO 2 (.b true) (hP hb (hC 5 (zq15_c h1) h0)))) ?_
   exact wJ G hm
  ·refine re G (hC 1 (zq6_c h) (hO 2 (.b false) (hP hb h0))) ?_
   exact wJ G hm
 rintro v hm
 cases hm
 exact rt [] []
noncomputable def zq13_M : MS (Timetable × (List Report) × Int) Bool := ⟨.x .r (.x .r .r), fun x => zq13 x.1 x.2.1 x.2.2, fun y => dV y, fun _ => [], fun _ _ => []⟩
theorem zq13_c {t list limit y} (hm : zq13 t list limit = some y) : zq13_M.C (t, list, limit) y := zq13_M.c (t, list, limit) hm
theorem zq13_ok : FnOK Tryz.prog 109 zq13_M.S := by
 refine fm tt zq13_M [fo zq4_ok, fo zq5_ok] Tryz.call109 Tryz.func109 rfl Tryz.results109 Tryz.ntmps109 ?_
 rintro ⟨t, list, limit⟩ y cx G hm
 have hm : zq13 t list limit = some y := hm
 unfold zq13 at hm
 refine rg G ?_
 obtain ⟨r, h, hm⟩ := obind hm
 refine jn hm (fun v => ⟨[(6, dV v)], [], 32⟩) (fun v hm => ?_) ?_
 ·rcases bf hm with ⟨hb, hm⟩ | ⟨hb, hm⟩
  ·obtain ⟨r1, h1, hm⟩ := obind hm
   refine re G (hC 2 (zq4_c h) (hO 3 (.b true) (hP hb (hC 5 (zq5_c h1) h0)))) ?_
   exact wJ G hm
  ·refine re G (hC 2 (zq4_c h) (hO 3 (.b false) (hP hb h0))) ?_
   exact wJ G hm
 rintro v hm
 cases hm
 exact rt [] []
noncomputable def zq25_M : MS ((List Report)) ((List Report)) := ⟨.r, zq25, fun _ => .own 0, fun y => [arO 76 y], fun _ _ => []⟩
theorem zq25_c {list y} (hm : zq25 list = some y) : zq25_M.C list y := zq25_M.c list hm
theorem zq25_ok : FnOK Tryz.prog 114 zq25_M.S := by
 refine fm tt zq25_M [] Tryz.call114 Tryz.func114 rfl Tryz.results114 Tryz.ntmps114 ?_
 rintro list y cx G hm
 have hm : zq25 list = some y := hm
 unfold zq25 at hm
 refine rg G (rg G (Ok_seq (rs G (hN 1 list h0) ?_)))
 refine tl hm (fun v2 => ⟨[(3, .eref 16 4 0 0)], [aX 16 76 v2], 48⟩) (fun v2 hm => ?_) ?_
 ·refine Ok_block (lp G hm (fun (v, v1) => ⟨[(3, .eref 16 4 0 0), (9, dV list), (10, dV (list.length : Int)), (11, dV v)], [aX 16 76 v1], 48⟩) ?_)
  rintro ⟨v, v1⟩ r0 hb hm
  rw [zq25_L1] at hm
  refine rg G (Ok_seq (cd hm (fun hm => ?_) (fun hm => ?_)))
  ·refine X_skip (thN (Ok_seq (Ok_block ?_)))
   obtain ⟨e, h, hm⟩ := obind hm
   refine rs G (hD 0 h h0) ?_
   obtain ⟨u, h2, hm⟩ := obind hm
   obtain ⟨e1, h1, hm⟩ := obind hm
   refine re G (hK h2 (hS 4 h1 e h0)) ?_
   exact ibN (thN (rh G (wL G hm)))
  ·exact Ok_exit (thE (thE (ibE (wD G hm hb))))
 rintro v2 hm s hw
 refine thN (Ok_weak hw ?_)
 refine rg G (Ok_seq ?_)
 obtain ⟨u1, h3, hm⟩ := obind hm
 refine ldS (ls := v2) (t := 187) (T := tyE187) (ob := 16) (el := 76) G (by rw [chk_t h3]; rfl) h0 ?_
 refine tl hm (fun v6 => ⟨[(6, .own 16)], [aX 16 76 v6], 48⟩) (fun v6 hm => ?_) ?_
 ·refine Ok_block (lpP hm (fun (v3, v4) => ⟨[(6, .own 16), (20, .dat (.agg (flatE v2))), (21, dV v3)], [aX 16 76 v4], 48⟩) (Wk_J G.hL ⟨[(6, [.o 16]), (20, []), (21, [])], [], [(16, 76, 4, [])], 48⟩ (by kernel_rfl)) ?_)
  rintro ⟨v3, v4⟩ r0 hb1 hm
  rw [zq25_L2] at hm
  refine rg G (Ok_seq (cd hm (fun hm => ?_) (fun hm => ?_)))
  ·refine X_skip (thN (jn hm (fun v5 => ⟨[(6, .own 16), (20, .dat (.agg (flatE v2))), (21, dV v3)], [aX 16 76 v5], 48⟩) (fun v5 hm => ?_) ?_))
   ·refine Ok_block ?_
    obtain ⟨u2, h5, hm⟩ := obind hm
    obtain ⟨e2, h4, hm⟩ := obind hm
    refine ixS (ls := v2) (t := 187) (el := 76) (kk := .i64) (T := tyE187) (E := tyE76) (len := 100) (e := e2) G (chk_t h5) h4 h0 ?_ (fun _ => ⟨rfl, rfl⟩)
    refine rg G (cd hm (fun hm => ?_) (fun hm => ?_))
    ·obtain ⟨u3, h6, hm⟩ := obind hm
     refine re G (hA 3 32 h6 h0) ?_
     exact ibN (wJ G hm)
    ·exact X_skip (ibN (wJ G hm))
   rintro v5 hm
   exact rh G (wL G hm)
  ·exact Ok_exit (thE (thE (ibE (wD G hm hb1))))
 rintro v6 hm s1 hw1
 refine thN (Ok_weak hw1 ?_)
 refine rg G ?_
 cases hm
 exact rt [16] []
noncomputable def zq12_M : MS Int Int := ⟨.r, zq12, fun y => dV y, fun _ => [], fun _ _ => []⟩
theorem zq12_c {n y} (hm : zq12 n = some y) : zq12_M.C n y := zq12_M.c n hm
theorem zq12_ok : FnOK Tryz.prog 182 zq12_M.S := by
 refine fm tt zq12_M [] Tryz.call182 Tryz.func182 rfl Tryz.results182 Tryz.ntmps182 ?_
 rintro n y cx G hm
 have hm : zq12 n = some y := hm
 unfold zq12 at hm
 refine rg G (rg G ?_)
 cases hm
 exact rt [] []
noncomputable def zq19_M : MS (Match × Match) Int := ⟨.x .r .r, fun x => zq19 x.1 x.2, fun y => dV y, fun _ => [], fun _ _ => []⟩
theorem zq19_c {a b y} (hm : zq19 a b = some y) : zq19_M.C (a, b) y := zq19_M.c (a, b) hm
theorem zq19_ok : FnOK Tryz.prog 223 zq19_M.S := by
 refine fm tt zq19_M [fo zq12_ok, fo zq0_ok, fo zq1_ok] Tryz.call223 Tryz.func223 rfl Tryz.results223 Tryz.ntmps223 ?_
 rintro ⟨a, b⟩ y cx G hm
 have hm : zq19 a b = some y := hm
 unfold zq19 at hm
 refine rg G ?_
 obtain ⟨r5, h5, hm⟩ := obind hm
 obtain ⟨r6, h6, hm⟩ := obind hm
 obtain ⟨r7, h7, hm⟩ := obind hm
 obtain ⟨r8, h8, hm⟩ := obind hm
 obtain ⟨r9, h9, hm⟩ := obind hm
 refine ds G [] (hC 2 (zq12_c h5) (hC 5 (zq12_c h6) (hC 6 (zq0_c h7) (hC 11 (zq0_c h8) (hC 13 (zq1_c h9) h0))))) ?_
 cases hm
 exact rt [] []
noncomputable def zq113_M : MS ((List Match) × Int × Int) ((List Match)) := ⟨⟨[.sl, .rd, .rd, .fn 223 []], fun x => [.sc undef, Enc.e x.2.1, Enc.e x.2.2, .agg []], fun x => [arO 74 x.1], 1, 1, fun _ => rfl, fun _ => rfl, rfl, (by
  rintro ⟨a0, a1, a2⟩ ⟨b0, b1, b2⟩ h hO
  have q0 : a0 = b0 := Enc.inj _ _ (congrArg (fun l => D.sl 3 (obL l 0)) hO)
  have q1 : a1 = b1 := qI 1 h
  have q2 : a2 = b2 := qI 2 h
  subst q0; subst q1; subst q2; rfl)⟩, fun x => zq113 x.1 x.2.1 x.2.2, fun _ => .tup [], fun _ => [], fun _ y => [arO 74 y]⟩
theorem zq113_c {data a b y} (hm : zq113 data a b = some y) : zq113_M.C (data, a, b) y := zq113_M.c (data, a, b) hm
theorem zq113_ok : FnOK Tryz.prog 238 zq113_M.S := by
 refine fm tt zq113_M [fo zq19_ok] Tryz.call238 Tryz.func238 rfl Tryz.results238 Tryz.ntmps238 ?_
 rintro ⟨data, a, b⟩ y cx G hm
 have hm : zq113 data a b = some y := hm
 obtain ⟨cmp, hf_cmp⟩ : ∃ q, (fun (z0 : Match) (z1 : Match) => zq19 z0 z1) = q := ⟨_, rfl⟩
 have hm : zq112 data a b cmp = some y := by rw [← hf_cmp]; exact hm
 unfold zq112 at hm
 refine rg G (Ok_block (lp G hm (fun (v, data1) => ⟨[(0, .own 0), (1, dV a), (2, dV b), (3, .fn 223 []), (8, dV v)], [aX 0 74 data1], 48⟩) ?_))
 rintro ⟨v, data1⟩ r0 hb hm
 rw [zq112_L2] at hm
 refine Ok_seq (rg G (cd hm (fun hm => ?_) (fun hm => ?_)))
 ·refine X_skip (thN (Ok_seq (Ok_block (rg G (tl hm (fun data3 => ⟨[(0, .own 0), (1, dV a), (2, dV b), (3, .fn 223 []), (8, dV v)], [aX 0 74 data3], 48⟩) (fun data3 hm => ?_) ?_)))))
  ·refine Ok_block (lp G hm (fun (v1, data2) => ⟨[(0, .own 0), (1, dV a), (2, dV b), (3, .fn 223 []), (8, dV v), (9, dV v1)], [aX 0 74 data2], 48⟩) ?_)
   rintro ⟨v1, data2⟩ r0 hb1 hm
   rw [zq112_L1] at hm
   refine Ok_seq (jn hm (fun v2 => ⟨[(0, .own 0), (1, dV a), (2, dV b), (3, .fn 223 []), (8, dV v), (9, dV v1), (34, dV v2)], [aX 0 74 data2], 48⟩) (fun v2 hm => ?_) ?_)
   ·rcases bf hm with ⟨hb2, hm⟩ | ⟨hb2, hm⟩
    ·obtain ⟨e2, h3, hm⟩ := obind hm
     obtain ⟨e3, h4, hm⟩ := obind hm
     obtain ⟨r1, h5, hm⟩ := obind hm
     have h5 : zq19 e2 e3 = some r1 := by rw [← hf_cmp] at h5; exact h5
     refine de G [(14, [])] (hO 3 (.b true) (hP hb2 (hD 7 h3 (hE 8 h3 (hD 12 h4 (hE 13 h4 (hC 14 (zq19_c h5) h0))))))) ?_
     exact wJ G hm
    ·refine de G [(14, [])] (hO 3 (.b false) (hP hb2 h0)) ?_
     exact wJ G hm
   rintro v2 hm
   refine cd hm (fun hm => ?_) (fun hm => ?_)
   ·refine X_skip (thN (Ok_seq (Ok_block ?_)))
    obtain ⟨e8, h10, hm⟩ := obind hm
    obtain ⟨e9, h11, hm⟩ := obind hm
    obtain ⟨e10, h12, hm⟩ := obind hm
    obtain ⟨e11, h13, hm⟩ := obind hm
    refine de G [(15, [0]), (17, [0])] (hD 8 h10 (hE 9 h10 (hD 12 h11 (hE 13 h11 (hD 14 h12 (hS 15 h12 e8 (hD 16 h13 (hS 17 h13 e9 h0)))))))) ?_
    exact ibN (thN (rh G (wL G hm)))
   ·exact Ok_exit (thE (thE (ibE (wD G hm hb1))))
  rintro data3 hm s hw
  refine ibN (thN (Ok_weak hw ?_))
  exact rh G (wL G hm)
 ·have hm := eD hm hb
  refine Ok_exit (thE (thE (ibE ?_)))
  cases hm
  exact fN [] []
noncomputable def zq147_M : MS ((List Match) × Int × Int × Int) ((List Match)) := ⟨⟨[.sl, .rd, .rd, .rd, .fn 223 []], fun x => [.sc undef, Enc.e x.2.1, Enc.e x.2.2.1, Enc.e x.2.2.2, .agg []], fun x => [arO 74 x.1], 1, 1, fun _ => rfl, fun _ => rfl, rfl, (by
  rintro ⟨a0, a1, a2, a3⟩ ⟨b0, b1, b2, b3⟩ h hO
  have q0 : a0 = b0 := Enc.inj _ _ (congrArg (fun l => D.sl 3 (obL l 0)) hO)
  have q1 : a1 = b1 := qI 1 h
  have q2 : a2 = b2 := qI 2 h
  have q3 : a3 = b3 := qI 3 h
  subst q0; subst q1; subst q2; subst q3; rfl)⟩, fun x => zq147 x.1 x.2.1 x.2.2.1 x.2.2.2, fun _ => .tup [], fun _ => [], fun _ y => [arO 74 y]⟩
theorem zq147_c {data a b n y} (hm : zq147 data a b n = some y) : zq147_M.C (data, a, b, n) y := zq147_M.c (data, a, b, n) hm
theorem zq147_ok : FnOK Tryz.prog 269 zq147_M.S := by
 refine fm tt zq147_M [] Tryz.call269 Tryz.func269 rfl Tryz.results269 Tryz.ntmps269 ?_
 rintro ⟨data, a, b, n⟩ y cx G hm
 have hm : zq147 data a b n = some y := hm
 obtain ⟨cmp, hf_cmp⟩ : ∃ q, (fun (z0 : Match) (z1 : Match) => zq19 z0 z1) = q := ⟨_, rfl⟩
 have hm : zq146 data a b n cmp = some y := by rw [← hf_cmp]; exact hm
 unfold zq146 at hm
 refine rg G (Ok_block (lp G hm (fun (v, data1) => ⟨[(0, .own 0), (1, dV a), (2, dV b), (3, dV n), (4, .fn 223 []), (10, dV v)], [aX 0 74 data1], 48⟩) ?_))
 rintro ⟨v, data1⟩ r0 hb hm
 rw [zq146_L1] at hm
 refine Ok_seq (rg G (cd hm (fun hm => ?_) (fun hm => ?_)))
 ·refine X_skip (thN (Ok_seq (Ok_block ?_)))
  obtain ⟨e4, h4, hm⟩ := obind hm
  obtain ⟨e5, h5, hm⟩ := obind hm
  obtain ⟨e6, h6, hm⟩ := obind hm
  obtain ⟨e7, h7, hm⟩ := obind hm
  refine de G [(21, [0]), (23, [0])] (hD 12 h4 (hE 13 h4 (hD 18 h5 (hE 19 h5 (hD 20 h6 (hS 21 h6 e4 (hD 22 h7 (hS 23 h7 e5 h0)))))))) ?_
  exact ibN (thN (rh G (wL G hm)))
 ·have hm := eD hm hb
  refine Ok_exit (thE (thE (ibE ?_)))
  cases hm
  exact fN [] []
noncomputable def zq141_M : MS ((List Match) × Int × Int × Int) ((List Match)) := ⟨⟨[.sl, .rd, .rd, .rd, .fn 223 []], fun x => [.sc undef, Enc.e x.2.1, Enc.e x.2.2.1, Enc.e x.2.2.2, .agg []], fun x => [arO 74 x.1], 1, 1, fun _ => rfl, fun _ => rfl, rfl, (by
  rintro ⟨a0, a1, a2, a3⟩ ⟨b0, b1, b2, b3⟩ h hO
  have q0 : a0 = b0 := Enc.inj _ _ (congrArg (fun l => D.sl 3 (obL l 0)) hO)
  have q1 : a1 = b1 := qI 1 h
  have q2 : a2 = b2 := qI 2 h
  have q3 : a3 = b3 := qI 3 h
  subst q0; subst q1; subst q2; subst q3; rfl)⟩, fun x => zq141 x.1 x.2.1 x.2.2.1 x.2.2.2, fun _ => .tup [], fun _ => [], fun _ y => [arO 74 y]⟩
theorem zq141_c {data a m b y} (hm : zq141 data a m b = some y) : zq141_M.C (data, a, m, b) y := zq141_M.c (data, a, m, b) hm
theorem zq141_ok : FnOK Tryz.prog 266 zq141_M.S := by
 refine fm tt zq141_M [fo zq147_ok] Tryz.call266 Tryz.func266 rfl Tryz.results266 Tryz.ntmps266 ?_
 rintro ⟨data, a, m, b⟩ y cx G hm
 have hm : zq141 data a m b = some y := hm
 obtain ⟨cmp, hf_cmp⟩ : ∃ q, (fun (z0 : Match) (z1 : Match) => zq19 z0 z1) = q := ⟨_, rfl⟩
 have hm : zq140 data a m b cmp = some y := by rw [← hf_cmp]; exact hm
 unfold zq140 at hm
 refine rg G (rg G (jn hm (fun (v2, data2) => ⟨[(0, .own 0), (2, dV m), (4, .fn 223 []), (10, dV v2)], [aX 0 74 data2], 48⟩) (fun vv hm => ?_) ?_))
 ·refine Ok_block (lp G hm (fun (v, v1, data1) => ⟨[(0, .own 0), (2, dV m), (4, .fn 223 []), (10, dV v), (11, dV v1)], [aX 0 74 data1], 48⟩) ?_)
  rintro ⟨v, v1, data1⟩ r0 hb hm
  rw [zq140_L1] at hm
  refine Ok_seq (rg G (cd hm (fun hm => ?_) (fun hm => ?_)))
  ·refine X_skip (thN (Ok_block (rg G (cd hm (fun hm => ?_) (fun hm => ?_)))))
   ·obtain ⟨r, h, hm⟩ := obind hm
    have h : zq147 data1 (w64 (m - v)) m v1 = some r := by rw [← hf_cmp] at h; exact h
    refine rs G (hC 7 (zq147_c h) h0) ?_
    exact rh G (ibN (wL G hm))
   ·obtain ⟨r1, h1, hm⟩ := obind hm
    have h1 : zq147 data1 (w64 (m - v)) (w64 ((w64 (m + v1)) - v)) v = some r1 := by rw [← hf_cmp] at h1; exact h1
    refine rs G (hC 11 (zq147_c h1) h0) ?_
    exact rh G (ibN (wL G hm))
  ·exact Ok_exit (thE (thE (ibE (wD G hm hb))))
 rintro ⟨v2, data2⟩ hm
 obtain ⟨r2, h2, hm⟩ := obind hm
 have h2 : zq147 data2 (w64 (m - v2)) m v2 = some r2 := by rw [← hf_cmp] at h2; exact h2
 refine re G (hC 7 (zq147_c h2) h0) ?_
 cases hm
 exact fN [] []
noncomputable def zq148_MR (rec_ : (List Match) → Int → Int → Int → Option ((List Match))) : MS ((List Match) × Int × Int × Int) ((List Match)) := ⟨⟨[.sl, .rd, .rd, .rd, .fn 223 []], fun x => [.sc undef, Enc.e x.2.1, Enc.e x.2.2.1, Enc.e x.2.2.2, .agg []], fun x => [arO 74 x.1], 1, 1, fun _ => rfl, fun _ => rfl, rfl, (by
  rintro ⟨a0, a1, a2, a3⟩ ⟨b0, b1, b2, b3⟩ h hO
  have q0 : a0 = b0 := Enc.inj _ _ (congrArg (fun l => D.sl 3 (obL l 0)) hO)
  have q1 : a1 = b1 := qI 1 h
  have q2 : a2 = b2 := qI 2 h
  have q3 : a3 = b3 := qI 3 h
  subst q0; subst q1; subst q2; subst q3; rfl)⟩, fun x => rec_ x.1 x.2.1 x.2.2.1 x.2.2.2, fun _ => .tup [], fun _ => [], fun _ y => [arO 74 y]⟩
noncomputable def zq148_M : MS ((List Match) × Int × Int × Int) ((List Match)) := zq148_MR zq148
theorem zq148_c {data a m b y} (hm : zq148 data a m b = some y) : zq148_M.C (data, a, m, b) y := zq148_M.c (data, a, m, b) hm
theorem zq148_cR {rec_ : (List Match) → Int → Int → Int → Option ((List Match))} {data a m b y} (hm : rec_ data a m b = some y) : (zq148_MR rec_).C (data, a, m, b) y := (zq148_MR rec_).c (data, a, m, b) hm
theorem zq148_okF {rec_ : (List Match) → Int → Int → Int → Option ((List Match))} (hrec : FnOK Tryz.prog 257 (zq148_MR rec_).S) : FnOK Tryz.prog 257 (zq148_MR (zq148_F rec_)).S := by
 refine fm tt (zq148_MR (zq148_F rec_)) [fo hrec, fo zq19_ok, fo zq141_ok] Tryz.call257 Tryz.func257 rfl Tryz.results257 Tryz.ntmps257 ?_
 rintro ⟨data, a, m, b⟩ y cx G hm
 have hm : zq148_F rec_ data a m b = some y := hm
 unfold zq148_F at hm
 refine Ok_seq (rg G (cd hm (fun hm => ?_) (fun hm => ?_)))
 ·refine rg G (rg G (jn hm (fun j1 => ⟨[(0, .own 0), (1, dV a), (4, .fn 223 []), (10, dV j1)], [aX 0 74 data], 48⟩) (fun j1 hm => ?_) ?_))
  ·refine Ok_block (lp G hm (fun (j, h) => ⟨[(0, .own 0), (1, dV a), (4, .fn 223 []), (10, dV j), (11, dV h)], [aX 0 74 data], 48⟩) ?_)
   rintro ⟨j, h⟩ r0 hb hm
   rw [zq148_L1] at hm
   refine Ok_seq (rg G (cd hm (fun hm => ?_) (fun hm => ?_)))
   ·refine X_skip (thN (Ok_block ?_))
    obtain ⟨u, h1, hm⟩ := obind hm
    refine rs G (hK h1 h0) ?_
    obtain ⟨e2, h5, hm⟩ := obind hm
    obtain ⟨e3, h6, hm⟩ := obind hm
    obtain ⟨r1, h7, hm⟩ := obind hm
    refine ds G [(9, [])] (hD 3 h5 (hE 4 h5 (hD 7 h6 (hE 8 h6 (hC 9 (zq19_c h7) h0))))) ?_
    refine cd hm (fun hm => ?_) (fun hm => ?_)
    ·exact rh G (ibN (wL G hm))
    ·exact rh G (ibN (wL G hm))
   ·exact Ok_exit (thE (thE (ibE (wD G hm hb))))
  rintro j1 hm
  refine Ok_seq (rg G (tl hm (fun data2 => ⟨[(0, .own 0), (4, .fn 223 [])], [aX 0 74 data2], 48⟩) (fun data2 hm => ?_) ?_))
  ·refine Ok_block (lp G hm (fun (mid, data1) => ⟨[(0, .own 0), (4, .fn 223 []), (10, dV j1), (13, dV mid)], [aX 0 74 data1], 48⟩) ?_)
   rintro ⟨mid, data1⟩ r0 hb1 hm
   rw [zq148_L2] at hm
   refine Ok_seq (rg G (cd hm (fun hm => ?_) (fun hm => ?_)))
   ·refine X_skip (thN (Ok_seq (Ok_block ?_)))
    obtain ⟨e8, h12, hm⟩ := obind hm
    obtain ⟨e9, h13, hm⟩ := obind hm
    obtain ⟨e10, h14, hm⟩ := obind hm
    obtain ⟨e11, h15, hm⟩ := obind hm
    refine de G [(15, [0]), (17, [0])] (hD 8 h12 (hE 9 h12 (hD 12 h13 (hE 13 h13 (hD 14 h14 (hS 15 h14 e8 (hD 16 h15 (hS 17 h15 e9 h0)))))))) ?_
    exact ibN (thN (rh G (wL G hm)))
   ·exact Ok_exit (thE (thE (ibE (wD G hm hb1))))
  rintro data2 hm s hw
  refine thN (Ok_weak hw ?_)
  cases hm
  exact rt [] []
 ·refine X_skip (thN (Ok_seq (rg G (cd hm (fun hm => ?_) (fun hm => ?_)))))
  ·refine rg G (rg G (jn hm (fun n1 => ⟨[(0, .own 0), (2, dV m), (4, .fn 223 []), (14, dV n1)], [aX 0 74 data], 48⟩) (fun n1 hm => ?_) ?_))
   ·refine Ok_block (lp G hm (fun (n, start) => ⟨[(0, .own 0), (2, dV m), (4, .fn 223 []), (14, dV n), (15, dV start)], [aX 0 74 data], 48⟩) ?_)
    rintro ⟨n, start⟩ r0 hb2 hm
    rw [zq148_L3] at hm
    refine Ok_seq (rg G (cd hm (fun hm => ?_) (fun hm => ?_)))
    ·refine X_skip (thN (Ok_block ?_))
     obtain ⟨u1, h16, hm⟩ := obind hm
     refine rs G (hK h16 h0) ?_
     obtain ⟨e14, h20, hm⟩ := obind hm
     obtain ⟨e15, h21, hm⟩ := obind hm
     obtain ⟨r3, h22, hm⟩ := obind hm
     refine ds G [(9, [])] (hD 3 h20 (hE 4 h20 (hD 7 h21 (hE 8 h21 (hC 9 (zq19_c h22) h0))))) ?_
     refine cd hm (fun hm => ?_) (fun hm => ?_)
     ·exact rh G (ibN (wL G hm))
     ·exact rh G (ibN (wL G hm))
    ·exact Ok_exit (thE (thE (ibE (wD G hm hb2))))
   rintro n1 hm
   refine Ok_seq (rg G (tl hm (fun data4 => ⟨[(0, .own 0), (4, .fn 223 [])], [aX 0 74 data4], 48⟩) (fun data4 hm => ?_) ?_))
   ·refine Ok_block (lp G hm (fun (p, data3) => ⟨[(0, .own 0), (4, .fn 223 []), (14, dV n1), (17, dV p)], [aX 0 74 data3], 48⟩) ?_)
    rintro ⟨p, data3⟩ r0 hb3 hm
    rw [zq148_L4] at hm
    refine Ok_seq (rg G (cd hm (fun hm => ?_) (fun hm => ?_)))
    ·refine X_skip (thN (Ok_seq (Ok_block ?_)))
     obtain ⟨e20, h27, hm⟩ := obind hm
     obtain ⟨e21, h28, hm⟩ := obind hm
     obtain ⟨e22, h29, hm⟩ := obind hm
     obtain ⟨e23, h30, hm⟩ := obind hm
     refine de G [(15, [0]), (17, [0])] (hD 8 h27 (hE 9 h27 (hD 12 h28 (hE 13 h28 (hD 14 h29 (hS 15 h29 e20 (hD 16 h30 (hS 17 h30 e21 h0)))))))) ?_
     exact ibN (thN (rh G (wL G hm)))
    ·exact Ok_exit (thE (thE (ibE (wD G hm hb3))))
   rintro data4 hm s1 hw1
   refine thN (Ok_weak hw1 ?_)
   cases hm
   exact rt [] []
  ·refine X_skip (thN ?_)
   obtain ⟨u2, h31, hm⟩ := obind hm
   refine rs G (hK h31 h0) ?_
   refine rg G (rg G (jn hm (fun (v, v1) => ⟨[(0, .own 0), (1, dV a), (2, dV m), (3, dV b), (4, .fn 223 []), (18, dV (w64 (((IntKind.u64.wrap ((w64 (a + b)))).fdiv (2 ^ (min (1 : Int).toNat (IntKind.u64).bits)))))), (19, dV (w64 ((w64 (((IntKind.u64.wrap ((w64 (a + b)))).fdiv (2 ^ (min (1 : Int).toNat (IntKind.u64).bits))))) + m))), (20, dV v), (21, dV v1)], [aX 0 74 data], 48⟩) (fun vv hm => ?_) ?_))
   ·refine rg G (cd hm (fun hm => ?_) (fun hm => ?_))
    ·exact rg G (rh G (wJ G hm))
    ·exact rg G (rh G (wJ G hm))
   rintro ⟨v, v1⟩ hm
   refine rg G (jn hm (fun v4 => ⟨[(0, .own 0), (1, dV a), (2, dV m), (3, dV b), (4, .fn 223 []), (18, dV (w64 (((IntKind.u64.wrap ((w64 (a + b)))).fdiv (2 ^ (min (1 : Int).toNat (IntKind.u64).bits)))))), (19, dV (w64 ((w64 (((IntKind.u64.wrap ((w64 (a + b)))).fdiv (2 ^ (min (1 : Int).toNat (IntKind.u64).bits))))) + m))), (20, dV v4)], [aX 0 74 data], 48⟩) (fun v4 hm => ?_) ?_)
   ·refine Ok_block (lp G hm (fun (v2, v3) => ⟨[(0, .own 0), (1, dV a), (2, dV m), (3, dV b), (4, .fn 223 []), (18, dV (w64 (((IntKind.u64.wrap ((w64 (a + b)))).fdiv (2 ^ (min (1 : Int).toNat (IntKind.u64).bits)))))), (19, dV (w64 ((w64 (((IntKind.u64.wrap ((w64 (a + b)))).fdiv (2 ^ (min (1 : Int).toNat (IntKind.u64).bits))))) + m))), (20, dV v2), (21, dV v3), (22, dV (w64 ((w64 ((w64 (((IntKind.u64.wrap ((w64 (a + b)))).fdiv (2 ^ (min (1 : Int).toNat (IntKind.u64).bits))))) + m)) - 1)))], [aX 0 74 data], 48⟩) ?_)
    rintro ⟨v2, v3⟩ r0 hb4 hm
    rw [zq148_L5] at hm
    refine Ok_seq (rg G (cd hm (fun hm => ?_) (fun hm => ?_)))
    ·refine X_skip (thN (Ok_block ?_))
     obtain ⟨u3, h32, hm⟩ := obind hm
     refine rs G (hK h32 h0) ?_
     obtain ⟨e26, h36, hm⟩ := obind hm
     obtain ⟨e27, h37, hm⟩ := obind hm
     obtain ⟨r5, h38, hm⟩ := obind hm
     refine ds G [(11, [])] (hD 5 h36 (hE 6 h36 (hD 9 h37 (hE 10 h37 (hC 11 (zq19_c h38) h0))))) ?_
     refine cd hm (fun hm => ?_) (fun hm => ?_)
     ·exact rh G (ibN (wL G hm))
     ·exact rh G (ibN (wL G hm))
    ·exact Ok_exit (thE (thE (ibE (wD G hm hb4))))
   rintro v4 hm
   refine rg G (jn hm (fun data5 => ⟨[(0, .own 0), (1, dV a), (3, dV b), (4, .fn 223 []), (18, dV (w64 (((IntKind.u64.wrap ((w64 (a + b)))).fdiv (2 ^ (min (1 : Int).toNat (IntKind.u64).bits)))))), (20, dV v4), (24, dV (w64 ((w64 ((w64 (((IntKind.u64.wrap ((w64 (a + b)))).fdiv (2 ^ (min (1 : Int).toNat (IntKind.u64).bits))))) + m)) - v4)))], [aX 0 74 data5], 48⟩) (fun data5 hm => ?_) ?_)
   ·refine jn hm (fun v5 => ⟨[(0, .own 0), (1, dV a), (2, dV m), (3, dV b), (4, .fn 223 []), (18, dV (w64 (((IntKind.u64.wrap ((w64 (a + b)))).fdiv (2 ^ (min (1 : Int).toNat (IntKind.u64).bits)))))), (20, dV v4), (24, dV (w64 ((w64 ((w64 (((IntKind.u64.wrap ((w64 (a + b)))).fdiv (2 ^ (min (1 : Int).toNat (IntKind.u64).bits))))) + m)) - v4))), (185, dV v5)], [aX 0 74 data], 48⟩) (fun v5 hm => ?_) ?_
    ·rcases bf hm with ⟨hb5, hm⟩ | ⟨hb5, hm⟩
     ·refine re G (hO 3 (.b true) (hP hb5 h0)) ?_
      exact wJ G hm
     ·refine re G (hO 3 (.b false) (hP hb5 h0)) ?_
      exact wJ G hm
    rintro v5 hm
    refine cd hm (fun hm => ?_) (fun hm => ?_)
    ·obtain ⟨r6, h39, hm⟩ := obind hm
     refine re G (hC 5 (zq141_c h39) h0) ?_
     exact wJ G hm
    ·exact X_skip (wJ G hm)
   rintro data5 hm
   refine jn hm (fun data6 => ⟨[(0, .own 0), (3, dV b), (4, .fn 223 []), (18, dV (w64 (((IntKind.u64.wrap ((w64 (a + b)))).fdiv (2 ^ (min (1 : Int).toNat (IntKind.u64).bits)))))), (24, dV (w64 ((w64 ((w64 (((IntKind.u64.wrap ((w64 (a + b)))).fdiv (2 ^ (min (1 : Int).toNat (IntKind.u64).bits))))) + m)) - v4)))], [aX 0 74 data6], 48⟩) (fun data6 hm => ?_) ?_
   ·refine jn hm (fun v6 => ⟨[(0, .own 0), (1, dV a), (3, dV b), (4, .fn 223 []), (18, dV (w64 (((IntKind.u64.wrap ((w64 (a + b)))).fdiv (2 ^ (min (1 : Int).toNat (IntKind.u64).bits)))))), (20, dV v4), (24, dV (w64 ((w64 ((w64 (((IntKind.u64.wrap ((w64 (a + b)))).fdiv (2 ^ (min (1 : Int).toNat (IntKind.u64).bits))))) + m)) - v4))), (199, dV v6)], [aX 0 74 data5], 48⟩) (fun v6 hm => ?_) ?_
    ·rcases bf hm with ⟨hb6, hm⟩ | ⟨hb6, hm⟩
     ·refine re G (hO 3 (.b true) (hP hb6 h0)) ?_
      exact wJ G hm
     ·refine re G (hO 3 (.b false) (hP hb6 h0)) ?_
      exact wJ G hm
    rintro v6 hm
    refine cd hm (fun hm => ?_) (fun hm => ?_)
    ·obtain ⟨r7, h40, hm⟩ := obind hm
     refine re G (hC 5 (zq148_cR h40) h0) ?_
     exact wJ G hm
    ·exact X_skip (wJ G hm)
   rintro data6 hm
   refine jn hm (fun v7 => ⟨[(0, .own 0), (3, dV b), (4, .fn 223 []), (18, dV (w64 (((IntKind.u64.wrap ((w64 (a + b)))).fdiv (2 ^ (min (1 : Int).toNat (IntKind.u64).bits)))))), (24, dV (w64 ((w64 ((w64 (((IntKind.u64.wrap ((w64 (a + b)))).fdiv (2 ^ (min (1 : Int).toNat (IntKind.u64).bits))))) + m)) - v4))), (213, dV v7)], [aX 0 74 data6], 48⟩) (fun v7 hm => ?_) ?_
   ·rcases bf hm with ⟨hb7, hm⟩ | ⟨hb7, hm⟩
    ·refine re G (hO 3 (.b true) (hP hb7 h0)) ?_
     exact wJ G hm
    ·refine re G (hO 3 (.b false) (hP hb7 h0)) ?_
     exact wJ G hm
   rintro v7 hm
   refine cd hm (fun hm => ?_) (fun hm => ?_)
   ·obtain ⟨r8, h41, hm⟩ := obind hm
    refine re G (hC 5 (zq148_cR h41) h0) ?_
    cases hm
    exact fN [] []
   ·refine X_skip ?_
    cases hm
    exact fN [] []
theorem zq148_okn : ∀ k, FnOK Tryz.prog 257 (zq148_MR (zq148_k k)).S
 | 0 => ⟨fun args w => Tryz.call257 args w, fun vs w F ds obs κ hp => by obtain ⟨x, y, _, _, h⟩ := hp; cases h⟩
 | k + 1 => zq148_okF (zq148_okn k)
theorem zq148_ok : FnOK Tryz.prog 257 zq148_M.S := zq148_okn 4294967296
noncomputable def zq145_M : MS ((List Match) × Int) ((List Match)) := ⟨⟨[.sl, .rd, .fn 223 []], fun x => [.sc undef, Enc.e x.2, .agg []], fun x => [arO 74 x.1], 1, 1, fun _ => rfl, fun _ => rfl, rfl, (by
  rintro ⟨a0, a1⟩ ⟨b0, b1⟩ h hO
  have q0 : a0 = b0 := Enc.inj _ _ (congrArg (fun l => D.sl 3 (obL l 0)) hO)
  have q1 : a1 = b1 := qI 1 h
  subst q0; subst q1; rfl)⟩, fun x => zq145 x.1 x.2, fun _ => .tup [], fun _ => [], fun _ y => [arO 74 y]⟩
theorem zq145_c {data n y} (hm : zq145 data n = some y) : zq145_M.C (data, n) y := zq145_M.c (data, n) hm
theorem zq145_ok : FnOK Tryz.prog 237 zq145_M.S := by
 refine fm tt zq145_M [fo zq113_ok, fo zq148_ok] Tryz.call237 Tryz.func237 rfl Tryz.results237 Tryz.ntmps237 ?_
 rintro ⟨data, n⟩ y cx G hm
 have hm : zq145 data n = some y := hm
 unfold zq145 at hm
 refine rg G (rg G (jn hm (fun (v2, data2) => ⟨[(0, .own 0), (1, dV n), (2, .fn 223 []), (6, kV .i64 20), (7, dV v2)], [aX 0 74 data2], 48⟩) (fun vv1 hm => ?_) ?_))
 ·refine Ok_block (lp G hm (fun (v, v1, data1) => ⟨[(0, .own 0), (1, dV n), (2, .fn 223 []), (6, kV .i64 20), (7, dV v), (8, dV v1)], [aX 0 74 data1], 48⟩) ?_)
  rintro ⟨v, v1, data1⟩ r0 hb hm
  rw [zq145_L1] at hm
  refine Ok_seq (rg G (cd hm (fun hm => ?_) (fun hm => ?_)))
  ·refine X_skip (thN (Ok_block ?_))
   obtain ⟨r, h, hm⟩ := obind hm
   refine rs G (hC 4 (zq113_c h) h0) ?_
   exact rg G (rh G (ibN (wL G hm)))
  ·exact Ok_exit (thE (thE (ibE (wD G hm hb))))
 rintro ⟨v2, data2⟩ hm
 obtain ⟨r1, h1, hm⟩ := obind hm
 refine rs G (hC 4 (zq113_c h1) h0) ?_
 refine Ok_block (lp G hm (fun (m, data3) => ⟨[(0, .own 0), (1, dV n), (2, .fn 223 []), (6, dV m)], [aX 0 74 data3], 48⟩) ?_)
 rintro ⟨m, data3⟩ r0 hb1 hm
 rw [zq145_L3] at hm
 refine Ok_seq (rg G (cd hm (fun hm => ?_) (fun hm => ?_)))
 ·refine X_skip (thN (Ok_block (rg G (jn hm (fun (v5, data5) => ⟨[(0, .own 0), (1, dV n), (2, .fn 223 []), (6, dV m), (7, dV v5)], [aX 0 74 data5], 48⟩) (fun vv hm => ?_) ?_))))
  ·refine Ok_block (lp G hm (fun (v3, v4, data4) => ⟨[(0, .own 0), (1, dV n), (2, .fn 223 []), (6, dV m), (7, dV v3), (8, dV v4)], [aX 0 74 data4], 48⟩) ?_)
   rintro ⟨v3, v4, data4⟩ r0 hb2 hm
   rw [zq145_L2] at hm
   refine Ok_seq (rg G (cd hm (fun hm => ?_) (fun hm => ?_)))
   ·refine X_skip (thN (Ok_block ?_))
    obtain ⟨r2, h2, hm⟩ := obind hm
    refine rs G (hC 7 (zq148_c h2) h0) ?_
    exact rg G (rh G (ibN (wL G hm)))
   ·exact Ok_exit (thE (thE (ibE (wD G hm hb2))))
  rintro ⟨v5, data5⟩ hm
  refine jn hm (fun data6 => ⟨[(0, .own 0), (1, dV n), (2, .fn 223 []), (6, dV m)], [aX 0 74 data6], 48⟩) (fun data6 hm => ?_) ?_
  ·refine rg G (rg G (cd hm (fun hm => ?_) (fun hm => ?_)))
   ·obtain ⟨r3, h3, hm⟩ := obind hm
    refine re G (hC 5 (zq148_c h3) h0) ?_
    exact wJ G hm
   ·exact X_skip (wJ G hm)
  rintro data6 hm
  exact rh G (ibN (wL G hm))
 ·have hm := eD hm hb1
  refine Ok_exit (thE (thE (ibE ?_)))
  cases hm
  exact fN [] []
noncomputable def zq102_M : MS ((List Match)) ((List Match)) := ⟨⟨[.sl, .fn 223 []], fun x => [.sc undef, .agg []], fun x => [arO 74 x], 1, 1, fun _ => rfl, fun _ => rfl, rfl, (by
  rintro a0 b0 h hO
  have q0 : a0 = b0 := Enc.inj _ _ (congrArg (fun l => D.sl 3 (obL l 0)) hO)
  subst q0; rfl)⟩, zq102, fun _ => .tup [], fun _ => [], fun _ y => [arO 74 y]⟩
theorem zq102_c {x y} (hm : zq102 x = some y) : zq102_M.C x y := zq102_M.c x hm
theorem zq102_ok : FnOK Tryz.prog 222 zq102_M.S := by
 refine fm tt zq102_M [fo zq145_ok] Tryz.call222 Tryz.func222 rfl Tryz.results222 Tryz.ntmps222 ?_
 rintro x y cx G hm
 have hm : zq102 x = some y := hm
 unfold zq102 at hm
 obtain ⟨r, h, hm⟩ := obind hm
 refine re G (hN 2 x (hC 4 (zq145_c h) h0)) ?_
 cases hm
 exact fN [] []
noncomputable def zq18_M : MS (Timetable × Report) ((List Match)) := ⟨.x .r .r, fun x => zq18 x.1 x.2, fun _ => .own 0, fun y => [arO 74 y], fun _ _ => []⟩
theorem zq18_c {t r y} (hm : zq18 t r = some y) : zq18_M.C (t, r) y := zq18_M.c (t, r) hm
theorem zq18_ok : FnOK Tryz.prog 181 zq18_M.S := by
 refine fm tt zq18_M [fo zq102_ok] Tryz.call181 Tryz.func181 rfl Tryz.results181 Tryz.ntmps181 ?_
 rintro ⟨t, r⟩ y cx G hm
 have hm : zq18 t r = some y := hm
 unfold zq18 at hm
 refine rg G (rg G (Ok_seq (rs G (hN 2 t.Trips h0) ?_)))
 refine tl hm (fun x2 => ⟨[(5, .own 16)], [aX 16 74 x2], 48⟩) (fun x2 hm => ?_) ?_
 ·refine Ok_block (lpP hm (fun (v, x) => ⟨[(3, .ref 16 0), (5, .own 32), (9, dV t.Trips), (10, dV (t.Trips.length : Int)), (11, dV v)], [bX 16 [dV r.Vehicle, dV r.Time, dV r.Line, dV r.Done], aX 32 74 x], 64⟩) (Wk_J G.hL ⟨[(3, []), (5, [.o 32]), (9, []), (10, []), (11, [])], [(16, 32, [])], [(32, 74, 3, [])], 64⟩ (by kernel_rfl)) ?_)
  rintro ⟨v, x⟩ r0 hb hm
  rw [zq18_L1] at hm
  refine rg G (Ok_seq (cd hm (fun hm => ?_) (fun hm => ?_)))
  ·refine X_skip (thN (jn hm (fun x1 => ⟨[(3, .ref 16 0), (5, .own 32), (9, dV t.Trips), (10, dV (t.Trips.length : Int)), (11, dV v)], [bX 16 [dV r.Vehicle, dV r.Time, dV r.Line, dV r.Done], aX 32 74 x1], 64⟩) (fun x1 hm => ?_) ?_))
   ·refine Ok_block ?_
    obtain ⟨e, h, hm⟩ := obind hm
    refine rs G (hD 0 h h0) ?_
    refine rg G (cd hm (fun hm => ?_) (fun hm => ?_))
    ·obtain ⟨u, h1, hm⟩ := obind hm
     refine re G (hA 15 24 h1 h0) ?_
     exact ibN (wJ G hm)
    ·exact X_skip (ibN (wJ G hm))
   rintro x1 hm
   exact rh G (wL G hm)
  ·exact Ok_exit (thE (thE (ibE (wD G hm hb))))
 rintro x2 hm s hw
 refine thN (Ok_weak hw ?_)
 obtain ⟨r1, h2, hm⟩ := obind hm
 refine rs G (hC 1 (zq102_c h2) h0) ?_
 refine rg G ?_
 cases hm
 exact rt [16] []
noncomputable def zq28_M : MS (Match × Match) Int := ⟨.x .r .r, fun x => zq28 x.1 x.2, fun y => dV y, fun _ => [], fun _ _ => []⟩
theorem zq28_c {a b y} (hm : zq28 a b = some y) : zq28_M.C (a, b) y := zq28_M.c (a, b) hm
theorem zq28_ok : FnOK Tryz.prog 184 zq28_M.S := by
 refine fm tt zq28_M [fo zq12_ok, fo zq0_ok, fo zq1_ok] Tryz.call184 Tryz.func184 rfl Tryz.results184 Tryz.ntmps184 ?_
 rintro ⟨a, b⟩ y cx G hm
 have hm : zq28 a b = some y := hm
 unfold zq28 at hm
 refine rg G ?_
 obtain ⟨r6, h6, hm⟩ := obind hm
 obtain ⟨r7, h7, hm⟩ := obind hm
 obtain ⟨r8, h8, hm⟩ := obind hm
 obtain ⟨r9, h9, hm⟩ := obind hm
 obtain ⟨r10, h10, hm⟩ := obind hm
 obtain ⟨r11, h11, hm⟩ := obind hm
 refine ds G [] (hC 2 (zq12_c h6) (hC 5 (zq12_c h7) (hC 6 (zq0_c h8) (hC 11 (zq0_c h9) (hC 16 (zq0_c h10) (hC 18 (zq1_c h11) h0)))))) ?_
 cases hm
 exact rt [] []
noncomputable def zq34_M : MS ((IK .u64)) Int := ⟨.r, zq34, fun y => dV y, fun _ => [], fun _ _ => []⟩
theorem zq34_c {x y} (hm : zq34 x = some y) : zq34_M.C x y := zq34_M.c x hm
theorem zq34_ok : FnOK Tryz.prog 247 zq34_M.S := by
 refine fm tt zq34_M [] Tryz.call247 Tryz.func247 rfl Tryz.results247 Tryz.ntmps247 ?_
 rintro x y cx G hm
 have hm : zq34 x = some y := hm
 unfold zq34 at hm
 refine rg G (jn hm (fun (x1, v) => ⟨[(0, kV .u64 x1), (2, dV v)], [], 32⟩) (fun vv2 hm => ?_) ?_)
 ·refine rg G (cd hm (fun hm => ?_) (fun hm => ?_))
  ·obtain ⟨u, h, hm⟩ := obind hm
   refine rs G (hK h h0) ?_
   exact rh G (wJ G hm)
  ·exact X_skip (wJ G hm)
 rintro ⟨x1, v⟩ hm
 refine jn hm (fun (x2, v1) => ⟨[(0, kV .u64 x2), (2, dV v1)], [], 32⟩) (fun vv1 hm => ?_) ?_
 ·refine rg G (cd hm (fun hm => ?_) (fun hm => ?_))
  ·obtain ⟨u1, h1, hm⟩ := obind hm
   refine rs G (hK h1 h0) ?_
   exact rh G (wJ G hm)
  ·exact X_skip (wJ G hm)
 rintro ⟨x2, v1⟩ hm
 refine jn hm (fun (x3, v2) => ⟨[(0, kV .u64 x3), (2, dV v2)], [], 32⟩) (fun vv hm => ?_) ?_
 ·refine rg G (cd hm (fun hm => ?_) (fun hm => ?_))
  ·obtain ⟨u2, h2, hm⟩ := obind hm
   refine rs G (hK h2 h0) ?_
   exact rh G (wJ G hm)
  ·exact X_skip (wJ G hm)
 rintro ⟨x3, v2⟩ hm
 obtain ⟨u3, h3, hm⟩ := obind hm
 refine rs G (hK h3 h0) ?_
 cases hm
 exact rt [] []
noncomputable def zq33_M : MS ((IK .u64)) Int := ⟨.r, zq33, fun y => dV y, fun _ => [], fun _ _ => []⟩
theorem zq33_c {x y} (hm : zq33 x = some y) : zq33_M.C x y := zq33_M.c x hm
theorem zq33_ok : FnOK Tryz.prog 225 zq33_M.S := by
 refine fm tt zq33_M [fo zq34_ok] Tryz.call225 Tryz.func225 rfl Tryz.results225 Tryz.ntmps225 ?_
 rintro x y cx G hm
 have hm : zq33 x = some y := hm
 unfold zq33 at hm
 refine rg G (Ok_seq (cF (X_skip (thN ?_))))
 obtain ⟨r, h, hm⟩ := obind hm
 refine rs G (hC 1 (zq34_c h) h0) ?_
 cases hm
 exact rt [] []
noncomputable def zq114_M : MS ((List Match) × Int × Int) ((List Match)) := ⟨⟨[.sl, .rd, .rd, .fn 184 []], fun x => [.sc undef, Enc.e x.2.1, Enc.e x.2.2, .agg []], fun x => [arO 74 x.1], 1, 1, fun _ => rfl, fun _ => rfl, rfl, (by
  rintro ⟨a0, a1, a2⟩ ⟨b0, b1, b2⟩ h hO
  have q0 : a0 = b0 := Enc.inj _ _ (congrArg (fun l => D.sl 3 (obL l 0)) hO)
  have q1 : a1 = b1 := qI 1 h
  have q2 : a2 = b2 := qI 2 h
  subst q0; subst q1; subst q2; rfl)⟩, fun x => zq114 x.1 x.2.1 x.2.2, fun _ => .tup [], fun _ => [], fun _ y => [arO 74 y]⟩
theorem zq114_c {data a b y} (hm : zq114 data a b = some y) : zq114_M.C (data, a, b) y := zq114_M.c (data, a, b) hm
theorem zq114_ok : FnOK Tryz.prog 238 zq114_M.S := by
 refine fm tt zq114_M [fo zq28_ok] Tryz.call238 Tryz.func238 rfl Tryz.results238 Tryz.ntmps238 ?_
 rintro ⟨data, a, b⟩ y cx G hm
 have hm : zq114 data a b = some y := hm
 obtain ⟨cmp, hf_cmp⟩ : ∃ q, (fun (z0 : Match) (z1 : Match) => zq28 z0 z1) = q := ⟨_, rfl⟩
 have hm : zq112 data a b cmp = some y := by rw [← hf_cmp]; exact hm
 unfold zq112 at hm
 refine rg G (Ok_block (lp G hm (fun (v, data1) => ⟨[(0, .own 0), (1, dV a), (2, dV b), (3, .fn 184 []), (8, dV v)], [aX 0 74 data1], 48⟩) ?_))
 rintro ⟨v, data1⟩ r0 hb hm
 rw [zq112_L2] at hm
 refine Ok_seq (rg G (cd hm (fun hm => ?_) (fun hm => ?_)))
 ·refine X_skip (thN (Ok_seq (Ok_block (rg G (tl hm (fun data3 => ⟨[(0, .own 0), (1, dV a), (2, dV b), (3, .fn 184 []), (8, dV v)], [aX 0 74 data3], 48⟩) (fun data3 hm => ?_) ?_)))))
  ·refine Ok_block (lp G hm (fun (v1, data2) => ⟨[(0, .own 0), (1, dV a), (2, dV b), (3, .fn 184 []), (8, dV v), (9, dV v1)], [aX 0 74 data2], 48⟩) ?_)
   rintro ⟨v1, data2⟩ r0 hb1 hm
   rw [zq112_L1] at hm
   refine Ok_seq (jn hm (fun v2 => ⟨[(0, .own 0), (1, dV a), (2, dV b), (3, .fn 184 []), (8, dV v), (9, dV v1), (34, dV v2)], [aX 0 74 data2], 48⟩) (fun v2 hm => ?_) ?_)
   ·rcases bf hm with ⟨hb2, hm⟩ | ⟨hb2, hm⟩
    ·obtain ⟨e2, h3, hm⟩ := obind hm
     obtain ⟨e3, h4, hm⟩ := obind hm
     obtain ⟨r1, h5, hm⟩ := obind hm
     have h5 : zq28 e2 e3 = some r1 := by rw [← hf_cmp] at h5; exact h5
     refine de G [(14, [])] (hO 3 (.b true) (hP hb2 (hD 7 h3 (hE 8 h3 (hD 12 h4 (hE 13 h4 (hC 14 (zq28_c h5) h0))))))) ?_
     exact wJ G hm
    ·refine de G [(14, [])] (hO 3 (.b false) (hP hb2 h0)) ?_
     exact wJ G hm
   rintro v2 hm
   refine cd hm (fun hm => ?_) (fun hm => ?_)
   ·refine X_skip (thN (Ok_seq (Ok_block ?_)))
    obtain ⟨e8, h10, hm⟩ := obind hm
    obtain ⟨e9, h11, hm⟩ := obind hm
    obtain ⟨e10, h12, hm⟩ := obind hm
    obtain ⟨e11, h13, hm⟩ := obind hm
    refine de G [(15, [0]), (17, [0])] (hD 8 h10 (hE 9 h10 (hD 12 h11 (hE 13 h11 (hD 14 h12 (hS 15 h12 e8 (hD 16 h13 (hS 17 h13 e9 h0)))))))) ?_
    exact ibN (thN (rh G (wL G hm)))
   ·exact Ok_exit (thE (thE (ibE (wD G hm hb1))))
  rintro data3 hm s hw
  refine ibN (thN (Ok_weak hw ?_))
  exact rh G (wL G hm)
 ·have hm := eD hm hb
  refine Ok_exit (thE (thE (ibE ?_)))
  cases hm
  exact fN [] []
noncomputable def zq143_M : MS ((List Match) × Int × Int × Int) ((List Match)) := ⟨⟨[.sl, .rd, .rd, .rd, .fn 184 []], fun x => [.sc undef, Enc.e x.2.1, Enc.e x.2.2.1, Enc.e x.2.2.2, .agg []], fun x => [arO 74 x.1], 1, 1, fun _ => rfl, fun _ => rfl, rfl, (by
  rintro ⟨a0, a1, a2, a3⟩ ⟨b0, b1, b2, b3⟩ h hO
  have q0 : a0 = b0 := Enc.inj _ _ (congrArg (fun l => D.sl 3 (obL l 0)) hO)
  have q1 : a1 = b1 := qI 1 h
  have q2 : a2 = b2 := qI 2 h
  have q3 : a3 = b3 := qI 3 h
  subst q0; subst q1; subst q2; subst q3; rfl)⟩, fun x => zq143 x.1 x.2.1 x.2.2.1 x.2.2.2, fun _ => .tup [], fun _ => [], fun _ y => [arO 74 y]⟩
theorem zq143_c {data lo hi first y} (hm : zq143 data lo hi first = some y) : zq143_M.C (data, lo, hi, first) y := zq143_M.c (data, lo, hi, first) hm
theorem zq143_ok : FnOK Tryz.prog 258 zq143_M.S := by
 refine fm tt zq143_M [fo zq28_ok] Tryz.call258 Tryz.func258 rfl Tryz.results258 Tryz.ntmps258 ?_
 rintro ⟨data, lo, hi, first⟩ y cx G hm
 have hm : zq143 data lo hi first = some y := hm
 obtain ⟨cmp, hf_cmp⟩ : ∃ q, (fun (z0 : Match) (z1 : Match) => zq28 z0 z1) = q := ⟨_, rfl⟩
 have hm : zq142 data lo hi first cmp = some y := by rw [← hf_cmp]; exact hm
 unfold zq142 at hm
 refine rg G (Ok_block (lp G hm (fun (v, data1) => ⟨[(0, .own 0), (2, dV hi), (3, dV first), (4, .fn 184 []), (10, dV v)], [aX 0 74 data1], 48⟩) ?_))
 rintro ⟨v, data1⟩ r0 hb hm
 rw [zq142_L1] at hm
 refine Ok_block (rg G (Ok_seq (rg G (cd hm (fun hm => ?_) (fun hm => ?_)))))
 ·have hm := eD hm hb
  refine Ok_exit (thE (ibX rfl (thE (ibE ?_))))
  cases hm
  exact fN [] []
 ·refine X_skip (thN (jn hm (fun v1 => ⟨[(0, .own 0), (2, dV hi), (3, dV first), (4, .fn 184 []), (10, dV v), (11, dV v1)], [aX 0 74 data1], 48⟩) (fun v1 hm => ?_) ?_))
  ·refine jn hm (fun v2 => ⟨[(0, .own 0), (2, dV hi), (3, dV first), (4, .fn 184 []), (10, dV v), (11, dV (w64 ((w64 (2 * v)) + 1))), (40, dV v2)], [aX 0 74 data1], 48⟩) (fun v2 hm => ?_) ?_
   ·rcases bf hm with ⟨hb1, hm⟩ | ⟨hb1, hm⟩
    ·obtain ⟨e3, h3, hm⟩ := obind hm
     obtain ⟨e4, h4, hm⟩ := obind hm
     obtain ⟨r2, h5, hm⟩ := obind hm
     have h5 : zq28 e3 e4 = some r2 := by rw [← hf_cmp] at h5; exact h5
     refine de G [(19, [])] (hO 4 (.b true) (hP hb1 (hD 10 h3 (hE 11 h3 (hD 17 h4 (hE 18 h4 (hC 19 (zq28_c h5) h0))))))) ?_
     exact wJ G hm
    ·refine de G [(19, [])] (hO 4 (.b false) (hP hb1 h0)) ?_
     exact wJ G hm
   rintro v2 hm
   refine cd hm (fun hm => ?_) (fun hm => ?_)
   ·exact rh G (wJ G hm)
   ·exact X_skip (wJ G hm)
  rintro v1 hm
  refine Ok_seq ?_
  obtain ⟨e7, h9, hm⟩ := obind hm
  obtain ⟨e8, h10, hm⟩ := obind hm
  obtain ⟨r4, h11, hm⟩ := obind hm
  have h11 : zq28 e7 e8 = some r4 := by rw [← hf_cmp] at h11; exact h11
  refine ds G [(13, [])] (hD 5 h9 (hE 6 h9 (hD 11 h10 (hE 12 h10 (hC 13 (zq28_c h11) h0))))) ?_
  refine cd hm (fun hm => ?_) (fun hm => ?_)
  ·have hm := eD hm hb
   cases hm
   exact rt [] []
  ·refine X_skip (thN ?_)
   obtain ⟨e14, h16, hm⟩ := obind hm
   obtain ⟨e15, h17, hm⟩ := obind hm
   obtain ⟨e16, h18, hm⟩ := obind hm
   obtain ⟨e17, h19, hm⟩ := obind hm
   refine ds G [(21, [0]), (23, [0])] (hD 12 h16 (hE 13 h16 (hD 18 h17 (hE 19 h17 (hD 20 h18 (hS 21 h18 e14 (hD 22 h19 (hS 23 h19 e15 h0)))))))) ?_
   exact rh G (ibN (wL G hm))
noncomputable def zq110_M : MS ((List Match) × Int × Int) ((List Match)) := ⟨⟨[.sl, .rd, .rd, .fn 184 []], fun x => [.sc undef, Enc.e x.2.1, Enc.e x.2.2, .agg []], fun x => [arO 74 x.1], 1, 1, fun _ => rfl, fun _ => rfl, rfl, (by
  rintro ⟨a0, a1, a2⟩ ⟨b0, b1, b2⟩ h hO
  have q0 : a0 = b0 := Enc.inj _ _ (congrArg (fun l => D.sl 3 (obL l 0)) hO)
  have q1 : a1 = b1 := qI 1 h
  have q2 : a2 = b2 := qI 2 h
  subst q0; subst q1; subst q2; rfl)⟩, fun x => zq110 x.1 x.2.1 x.2.2, fun _ => .tup [], fun _ => [], fun _ y => [arO 74 y]⟩
theorem zq110_c {data a b y} (hm : zq110 data a b = some y) : zq110_M.C (data, a, b) y := zq110_M.c (data, a, b) hm
theorem zq110_ok : FnOK Tryz.prog 239 zq110_M.S := by
 refine fm tt zq110_M [fo zq143_ok] Tryz.call239 Tryz.func239 rfl Tryz.results239 Tryz.ntmps239 ?_
 rintro ⟨data, a, b⟩ y cx G hm
 have hm : zq110 data a b = some y := hm
 obtain ⟨cmp, hf_cmp⟩ : ∃ q, (fun (z0 : Match) (z1 : Match) => zq28 z0 z1) = q := ⟨_, rfl⟩
 have hm : zq109 data a b cmp = some y := by rw [← hf_cmp]; exact hm
 unfold zq109 at hm
 refine rg G (rg G (rg G (Ok_seq ?_)))
 obtain ⟨u, h, hm⟩ := obind hm
 refine rs G (hK h h0) ?_
 refine tl hm (fun data2 => ⟨[(0, .own 0), (3, .fn 184 []), (8, dV a), (9, kV .i64 0), (10, dV (w64 (b - a)))], [aX 0 74 data2], 48⟩) (fun data2 hm => ?_) ?_
 ·refine Ok_block (lp G hm (fun (v, data1) => ⟨[(0, .own 0), (3, .fn 184 []), (8, dV a), (9, kV .i64 0), (10, dV (w64 (b - a))), (11, dV v)], [aX 0 74 data1], 48⟩) ?_)
  rintro ⟨v, data1⟩ r0 hb hm
  rw [zq109_L1] at hm
  refine Ok_seq (rg G (cd hm (fun hm => ?_) (fun hm => ?_)))
  ·refine X_skip (thN (Ok_seq (Ok_block ?_)))
   obtain ⟨r, h1, hm⟩ := obind hm
   have h1 : zq143 data1 v (w64 (b - a)) a = some r := by rw [← hf_cmp] at h1; exact h1
   refine re G (hC 5 (zq143_c h1) h0) ?_
   exact ibN (thN (rh G (wL G hm)))
  ·exact Ok_exit (thE (thE (ibE (wD G hm hb))))
 rintro data2 hm s hw
 refine thN (Ok_weak hw ?_)
 refine rg G (Ok_block (lp G hm (fun (v1, data3) => ⟨[(0, .own 0), (3, .fn 184 []), (8, dV a), (9, kV .i64 0), (12, dV v1)], [aX 0 74 data3], 48⟩) ?_))
 rintro ⟨v1, data3⟩ r0 hb1 hm
 rw [zq109_L2] at hm
 refine Ok_seq (rg G (cd hm (fun hm => ?_) (fun hm => ?_)))
 ·refine X_skip (thN (Ok_seq (Ok_block ?_)))
  obtain ⟨e4, h6, hm⟩ := obind hm
  obtain ⟨e5, h7, hm⟩ := obind hm
  obtain ⟨e6, h8, hm⟩ := obind hm
  obtain ⟨e7, h9, hm⟩ := obind hm
  refine ds G [(17, [0]), (19, [0])] (hD 10 h6 (hE 11 h6 (hD 14 h7 (hE 15 h7 (hD 16 h8 (hS 17 h8 e4 (hD 18 h9 (hS 19 h9 e5 h0)))))))) ?_
  obtain ⟨r1, h10, hm⟩ := obind hm
  have h10 : zq143 ((data3.set a.toNat e4).set (w64 (a + v1)).toNat e5) 0 v1 a = some r1 := by rw [← hf_cmp] at h10; exact h10
  refine re G (hC 5 (zq143_c h10) h0) ?_
  exact ibN (thN (rh G (wL G hm)))
 ·have hm := eD hm hb1
  refine Ok_exit (thE (thE (ibE ?_)))
  cases hm
  exact fN [] []
noncomputable def zq124_M : MS ((List Match) × Int × Int × Int) (Int × Int × Int) := ⟨⟨[.rd, .rd, .rd, .bx, .fn 184 []], fun x => [Enc.e x.1, Enc.e x.2.1, Enc.e x.2.2.1, .sc undef, .agg []], fun x => [bxO x.2.2.2], 1, 1, fun _ => rfl, fun _ => rfl, rfl, (by
  rintro ⟨a0, a1, a2, a3⟩ ⟨b0, b1, b2, b3⟩ h hO
  have q0 : a0 = b0 := qI 0 h
  have q1 : a1 = b1 := qI 1 h
  have q2 : a2 = b2 := qI 2 h
  have q3 : a3 = b3 := Enc.inj _ _ (congrArg (fun l => (obD l 0).getD 0 (.sc undef)) hO)
  subst q0; subst q1; subst q2; subst q3; rfl)⟩, fun x => zq124 x.1 x.2.1 x.2.2.1 x.2.2.2, fun y => .tup [dV y.1, dV y.2.1], fun _ => [], fun _ y => [bxO y.2.2]⟩
theorem zq124_c {data a b swaps y} (hm : zq124 data a b swaps = some y) : zq124_M.C (data, a, b, swaps) y := zq124_M.c (data, a, b, swaps) hm
theorem zq124_ok : FnOK Tryz.prog 267 zq124_M.S := by
 refine fm tt zq124_M [fo zq28_ok] Tryz.call267 Tryz.func267 rfl Tryz.results267 Tryz.ntmps267 ?_
 rintro ⟨data, a, b, swaps⟩ y cx G hm
 have hm : zq124 data a b swaps = some y := hm
 obtain ⟨cmp, hf_cmp⟩ : ∃ q, (fun (z0 : Match) (z1 : Match) => zq28 z0 z1) = q := ⟨_, rfl⟩
 have hm : zq123 data a b swaps cmp = some y := by rw [← hf_cmp]; exact hm
 unfold zq123 at hm
 refine rg G (Ok_seq ?_)
 obtain ⟨e2, h3, hm⟩ := obind hm
 obtain ⟨e3, h4, hm⟩ := obind hm
 obtain ⟨r1, h5, hm⟩ := obind hm
 have h5 : zq28 e2 e3 = some r1 := by rw [← hf_cmp] at h5; exact h5
 refine ds G [(9, [])] (hD 3 h3 (hD 7 h4 (hC 9 (zq28_c h5) h0))) ?_
 refine cd hm (fun hm => ?_) (fun hm => ?_)
 ·refine rg G (rg G ?_)
  cases hm
  exact rt [] []
 ·refine X_skip (thN (rg G ?_))
  cases hm
  exact rt [] []
noncomputable def zq120_M : MS ((List Match) × Int × Int × Int × Int) (Int × Int) := ⟨⟨[.rd, .rd, .rd, .rd, .bx, .fn 184 []], fun x => [Enc.e x.1, Enc.e x.2.1, Enc.e x.2.2.1, Enc.e x.2.2.2.1, .sc undef, .agg []], fun x => [bxO x.2.2.2.2], 1, 1, fun _ => rfl, fun _ => rfl, rfl, (by
  rintro ⟨a0, a1, a2, a3, a4⟩ ⟨b0, b1, b2, b3, b4⟩ h hO
  have q0 : a0 = b0 := qI 0 h
  have q1 : a1 = b1 := qI 1 h
  have q2 : a2 = b2 := qI 2 h
  have q3 : a3 = b3 := qI 3 h
  have q4 : a4 = b4 := Enc.inj _ _ (congrArg (fun l => (obD l 0).getD 0 (.sc undef)) hO)
  subst q0; subst q1; subst q2; subst q3; subst q4; rfl)⟩, fun x => zq120 x.1 x.2.1 x.2.2.1 x.2.2.2.1 x.2.2.2.2, fun y => dV y.1, fun _ => [], fun _ y => [bxO y.2]⟩
theorem zq120_c {data a b c swaps y} (hm : zq120 data a b c swaps = some y) : zq120_M.C (data, a, b, c, swaps) y := zq120_M.c (data, a, b, c, swaps) hm
theorem zq120_ok : FnOK Tryz.prog 262 zq120_M.S := by
 refine fm tt zq120_M [fo zq124_ok] Tryz.call262 Tryz.func262 rfl Tryz.results262 Tryz.ntmps262 ?_
 rintro ⟨data, a, b, c, swaps⟩ y cx G hm
 have hm : zq120 data a b c swaps = some y := hm
 obtain ⟨cmp, hf_cmp⟩ : ∃ q, (fun (z0 : Match) (z1 : Match) => zq28 z0 z1) = q := ⟨_, rfl⟩
 have hm : zq119 data a b c swaps cmp = some y := by rw [← hf_cmp]; exact hm
 unfold zq119 at hm
 refine rg G ?_
 obtain ⟨r, h, hm⟩ := obind hm
 have h : zq124 data a b swaps = some r := by rw [← hf_cmp] at h; exact h
 refine rs G (hC 5 (zq124_c h) h0) ?_
 obtain ⟨r1, h1, hm⟩ := obind hm
 have h1 : zq124 data r.2.1 c r.2.2 = some r1 := by rw [← hf_cmp] at h1; exact h1
 refine rs G (hC 5 (zq124_c h1) h0) ?_
 obtain ⟨r2, h2, hm⟩ := obind hm
 have h2 : zq124 data r.1 r1.1 r1.2.2 = some r2 := by rw [← hf_cmp] at h2; exact h2
 refine rs G (hC 5 (zq124_c h2) h0) ?_
 refine rg G ?_
 cases hm
 exact rt [] []
noncomputable def zq117_M : MS ((List Match) × Int × Int) (Int × Int) := ⟨⟨[.rd, .rd, .bx, .fn 184 []], fun x => [Enc.e x.1, Enc.e x.2.1, .sc undef, .agg []], fun x => [bxO x.2.2], 1, 1, fun _ => rfl, fun _ => rfl, rfl, (by
  rintro ⟨a0, a1, a2⟩ ⟨b0, b1, b2⟩ h hO
  have q0 : a0 = b0 := qI 0 h
  have q1 : a1 = b1 := qI 1 h
  have q2 : a2 = b2 := Enc.inj _ _ (congrArg (fun l => (obD l 0).getD 0 (.sc undef)) hO)
  subst q0; subst q1; subst q2; rfl)⟩, fun x => zq117 x.1 x.2.1 x.2.2, fun y => dV y.1, fun _ => [], fun _ y => [bxO y.2]⟩
theorem zq117_c {data a swaps y} (hm : zq117 data a swaps = some y) : zq117_M.C (data, a, swaps) y := zq117_M.c (data, a, swaps) hm
theorem zq117_ok : FnOK Tryz.prog 261 zq117_M.S := by
 refine fm tt zq117_M [fo zq120_ok] Tryz.call261 Tryz.func261 rfl Tryz.results261 Tryz.ntmps261 ?_
 rintro ⟨data, a, swaps⟩ y cx G hm
 have hm : zq117 data a swaps = some y := hm
 obtain ⟨cmp, hf_cmp⟩ : ∃ q, (fun (z0 : Match) (z1 : Match) => zq28 z0 z1) = q := ⟨_, rfl⟩
 have hm : zq116 data a swaps cmp = some y := by rw [← hf_cmp]; exact hm
 unfold zq116 at hm
 refine rg G ?_
 obtain ⟨r, h, hm⟩ := obind hm
 have h : zq120 data (w64 (a - 1)) a (w64 (a + 1)) swaps = some r := by rw [← hf_cmp] at h; exact h
 refine rs G (hC 8 (zq120_c h) h0) ?_
 cases hm
 exact rt [] []
noncomputable def zq107_M : MS ((List Match) × Int × Int) (Int × Int) := ⟨⟨[.rd, .rd, .rd, .fn 184 []], fun x => [Enc.e x.1, Enc.e x.2.1, Enc.e x.2.2, .agg []], fun x => [], 0, 0, fun _ => rfl, fun _ => rfl, rfl, (by
  rintro ⟨a0, a1, a2⟩ ⟨b0, b1, b2⟩ h hO
  have q0 : a0 = b0 := qI 0 h
  have q1 : a1 = b1 := qI 1 h
  have q2 : a2 = b2 := qI 2 h
  subst q0; subst q1; subst q2; rfl)⟩, fun x => zq107 x.1 x.2.1 x.2.2, fun y => .tup [dV y.1, dV y.2], fun _ => [], fun _ _ => []⟩
theorem zq107_c {data a b y} (hm : zq107 data a b = some y) : zq107_M.C (data, a, b) y := zq107_M.c (data, a, b) hm
theorem zq107_ok : FnOK Tryz.prog 241 zq107_M.S := by
 refine fm tt zq107_M [fo zq117_ok, fo zq120_ok] Tryz.call241 Tryz.func241 rfl Tryz.results241 Tryz.ntmps241 ?_
 rintro ⟨data, a, b⟩ y cx G hm
 have hm : zq107 data a b = some y := hm
 obtain ⟨cmp, hf_cmp⟩ : ∃ q, (fun (z0 : Match) (z1 : Match) => zq28 z0 z1) = q := ⟨_, rfl⟩
 have hm : zq106 data a b cmp = some y := by rw [← hf_cmp]; exact hm
 unfold zq106 at hm
 refine rg G (rg G (rg G ?_))
 obtain ⟨u, h, hm⟩ := obind hm
 refine rs G (hK h h0) ?_
 obtain ⟨u1, h1, hm⟩ := obind hm
 refine rs G (hK h1 h0) ?_
 obtain ⟨u2, h2, hm⟩ := obind hm
 refine rs G (hK h2 h0) ?_
 refine jn hm (fun (v, v1) => ⟨[(3, .fn 184 []), (11, .ref 16 0), (13, dV v)], [bX 16 [dV v1]], 48⟩) (fun vv1 hm => ?_) ?_
 ·refine rg G (cd hm (fun hm => ?_) (fun hm => ?_))
  ·refine jn hm (fun (v2, v3, v4, v5) => ⟨[(0, dV data), (3, .fn 184 []), (11, .ref 16 0), (12, dV v2), (13, dV v3), (14, dV v4)], [bX 16 [dV v5]], 48⟩) (fun vv hm => ?_) ?_
   ·refine rg G (cd hm (fun hm => ?_) (fun hm => ?_))
    ·obtain ⟨r, h3, hm⟩ := obind hm
     have h3 : zq117 data (w64 (a + (w64 ((w64 ((w64 (b - a)).tdiv 4)) * 1)))) 0 = some r := by rw [← hf_cmp] at h3; exact h3
     refine rs G (hC 3 (zq117_c h3) h0) ?_
     obtain ⟨r1, h4, hm⟩ := obind hm
     have h4 : zq117 data (w64 (a + (w64 ((w64 ((w64 (b - a)).tdiv 4)) * 2)))) r.2 = some r1 := by rw [← hf_cmp] at h4; exact h4
     refine rs G (hC 3 (zq117_c h4) h0) ?_
     obtain ⟨r2, h5, hm⟩ := obind hm
     have h5 : zq117 data (w64 (a + (w64 ((w64 ((w64 (b - a)).tdiv 4)) * 3)))) r1.2 = some r2 := by rw [← hf_cmp] at h5; exact h5
     refine re G (hC 3 (zq117_c h5) h0) ?_
     exact wJ G hm
    ·exact X_skip (wJ G hm)
   rintro ⟨v2, v3, v4, v5⟩ hm
   obtain ⟨r3, h6, hm⟩ := obind hm
   have h6 : zq120 data v2 v3 v4 v5 = some r3 := by rw [← hf_cmp] at h6; exact h6
   refine re G (hC 5 (zq120_c h6) h0) ?_
   exact wJ G hm
  ·exact X_skip (wJ G hm)
 rintro ⟨v, v1⟩ hm
 refine rg G (Ok_block (rg G (cd hm (fun hm => ?_) (fun hm => ?_))))
 ·refine rg G ?_
  cases hm
  exact rt [] []
 ·refine rg G (cd hm (fun hm => ?_) (fun hm => ?_))
  ·refine rg G ?_
   cases hm
   exact rt [] []
  ·refine rg G ?_
   cases hm
   exact rt [] []
noncomputable def zq138_M : MS ((List Match) × Int × Int) ((List Match)) := ⟨⟨[.sl, .rd, .rd, .fn 184 []], fun x => [.sc undef, Enc.e x.2.1, Enc.e x.2.2, .agg []], fun x => [arO 74 x.1], 1, 1, fun _ => rfl, fun _ => rfl, rfl, (by
  rintro ⟨a0, a1, a2⟩ ⟨b0, b1, b2⟩ h hO
  have q0 : a0 = b0 := Enc.inj _ _ (congrArg (fun l => D.sl 3 (obL l 0)) hO)
  have q1 : a1 = b1 := qI 1 h
  have q2 : a2 = b2 := qI 2 h
  subst q0; subst q1; subst q2; rfl)⟩, fun x => zq138 x.1 x.2.1 x.2.2, fun _ => .tup [], fun _ => [], fun _ y => [arO 74 y]⟩
theorem zq138_c {data a b y} (hm : zq138 data a b = some y) : zq138_M.C (data, a, b) y := zq138_M.c (data, a, b) hm
theorem zq138_ok : FnOK Tryz.prog 242 zq138_M.S := by
 refine fm tt zq138_M [] Tryz.call242 Tryz.func242 rfl Tryz.results242 Tryz.ntmps242 ?_
 rintro ⟨data, a, b⟩ y cx G hm
 have hm : zq138 data a b = some y := hm
 obtain ⟨cmp, hf_cmp⟩ : ∃ q, (fun (z0 : Match) (z1 : Match) => zq28 z0 z1) = q := ⟨_, rfl⟩
 have hm : zq137 data a b cmp = some y := by rw [← hf_cmp]; exact hm
 unfold zq137 at hm
 refine rg G (rg G (Ok_block (lp G hm (fun (v, v1, data1) => ⟨[(0, .own 0), (3, .fn 184 []), (8, dV v), (9, dV v1)], [aX 0 74 data1], 48⟩) ?_)))
 rintro ⟨v, v1, data1⟩ r0 hb hm
 rw [zq137_L1] at hm
 refine Ok_seq (rg G (cd hm (fun hm => ?_) (fun hm => ?_)))
 ·refine X_skip (thN (Ok_block ?_))
  obtain ⟨e4, h4, hm⟩ := obind hm
  obtain ⟨e5, h5, hm⟩ := obind hm
  obtain ⟨e6, h6, hm⟩ := obind hm
  obtain ⟨e7, h7, hm⟩ := obind hm
  refine ds G [(13, [0]), (15, [0])] (hD 6 h4 (hE 7 h4 (hD 10 h5 (hE 11 h5 (hD 12 h6 (hS 13 h6 e4 (hD 14 h7 (hS 15 h7 e5 h0)))))))) ?_
  exact rg G (rh G (ibN (wL G hm)))
 ·have hm := eD hm hb
  refine Ok_exit (thE (thE (ibE ?_)))
  cases hm
  exact fN [] []
noncomputable def zq127_M : MS ((List Match) × Int × Int) (Bool × (List Match)) := ⟨⟨[.sl, .rd, .rd, .fn 184 []], fun x => [.sc undef, Enc.e x.2.1, Enc.e x.2.2, .agg []], fun x => [arO 74 x.1], 1, 1, fun _ => rfl, fun _ => rfl, rfl, (by
  rintro ⟨a0, a1, a2⟩ ⟨b0, b1, b2⟩ h hO
  have q0 : a0 = b0 := Enc.inj _ _ (congrArg (fun l => D.sl 3 (obL l 0)) hO)
  have q1 : a1 = b1 := qI 1 h
  have q2 : a2 = b2 := qI 2 h
  subst q0; subst q1; subst q2; rfl)⟩, fun x => zq127 x.1 x.2.1 x.2.2, fun y => dV y.1, fun _ => [], fun _ y => [arO 74 y.2]⟩
theorem zq127_c {data a b y} (hm : zq127 data a b = some y) : zq127_M.C (data, a, b) y := zq127_M.c (data, a, b) hm
theorem zq127_ok : FnOK Tryz.prog 243 zq127_M.S := by
 refine fm tt zq127_M [fo zq28_ok] Tryz.call243 Tryz.func243 rfl Tryz.results243 Tryz.ntmps243 ?_
 rintro ⟨data, a, b⟩ y cx G hm
 have hm : zq127 data a b = some y := hm
 obtain ⟨cmp, hf_cmp⟩ : ∃ q, (fun (z0 : Match) (z1 : Match) => zq28 z0 z1) = q := ⟨_, rfl⟩
 have hm : zq126 data a b cmp = some y := by rw [← hf_cmp]; exact hm
 unfold zq126 at hm
 refine rg G (rg G (Ok_seq (rg G (tF hm (fun data8 => ⟨[(0, .own 0), (3, .fn 184 [])], [aX 0 74 data8], 48⟩) (fun v9 hr hm => ?_) ?_))))
 ·refine Ok_block (lp G hm (fun (v, v1, data1) => ⟨[(0, .own 0), (1, dV a), (2, dV b), (3, .fn 184 []), (9, dV v), (10, dV v1)], [aX 0 74 data1], 48⟩) ?_)
  rintro ⟨v, v1, data1⟩ r0 hb hm
  rw [zq126_L4] at hm
  refine Ok_seq (rg G (cd hm (fun hm => ?_) (fun hm => ?_)))
  ·refine X_skip (thN (jF hm (fun (v2, data2) => ⟨[(0, .own 0), (1, dV a), (2, dV b), (3, .fn 184 []), (9, dV v2), (10, dV v1)], [aX 0 74 data2], 48⟩) (fun v8 hr1 hm => ?_) ?_))
   ·refine Ok_block (jn hm (fun v5 => ⟨[(0, .own 0), (1, dV a), (2, dV b), (3, .fn 184 []), (9, dV v5), (10, dV v1)], [aX 0 74 data1], 48⟩) (fun v5 hm => ?_) ?_)
    ·refine Ok_block (lp G hm (fun v3 => ⟨[(0, .own 0), (1, dV a), (2, dV b), (3, .fn 184 []), (9, dV v3), (10, dV v1)], [aX 0 74 data1], 48⟩) ?_)
     rintro v3 r0 hb1 hm
     rw [zq126_L1] at hm
     refine Ok_seq (jn hm (fun v4 => ⟨[(0, .own 0), (1, dV a), (2, dV b), (3, .fn 184 []), (9, dV v3), (10, dV v1), (36, dV v4)], [aX 0 74 data1], 48⟩) (fun v4 hm => ?_) ?_)
     ·rcases bf hm with ⟨hb2, hm⟩ | ⟨hb2, hm⟩
      ·obtain ⟨e2, h3, hm⟩ := obind hm
       obtain ⟨e3, h4, hm⟩ := obind hm
       obtain ⟨r1, h5, hm⟩ := obind hm
       have h5 : zq28 e2 e3 = some r1 := by rw [← hf_cmp] at h5; exact h5
       refine de G [(14, [])] (hO 3 (.b true) (hP hb2 (hD 7 h3 (hE 8 h3 (hD 12 h4 (hE 13 h4 (hC 14 (zq28_c h5) h0))))))) ?_
       exact wJ G hm
      ·refine de G [(14, [])] (hO 3 (.b false) (hP hb2 h0)) ?_
       exact wJ G hm
     rintro v4 hm
     refine cd hm (fun hm => ?_) (fun hm => ?_)
     ·exact X_skip (thN (Ok_block (rh G (ibN (wL G hm)))))
     ·exact Ok_exit (thE (thE (ibE (wD G hm hb1))))
    rintro v5 hm
    refine Ok_seq (rg G (cd hm (fun hm => ?_) (fun hm => ?_)))
    ·refine rg G ?_
     have hm := eR hm hr1
     have hm := eL hm hb hr
     cases hm
     exact rt [] []
    ·refine X_skip (thN (Ok_seq (rg G (cd hm (fun hm => ?_) (fun hm => ?_)))))
     ·refine rg G ?_
      have hm := eR hm hr1
      have hm := eL hm hb hr
      cases hm
      exact rt [] []
     ·refine X_skip (thN ?_)
      obtain ⟨e12, h10, hm⟩ := obind hm
      obtain ⟨e13, h11, hm⟩ := obind hm
      obtain ⟨e14, h12, hm⟩ := obind hm
      obtain ⟨e15, h13, hm⟩ := obind hm
      refine ds G [(15, [0]), (17, [0])] (hD 8 h10 (hE 9 h10 (hD 12 h11 (hE 13 h11 (hD 14 h12 (hS 15 h12 e12 (hD 16 h13 (hS 17 h13 e13 h0)))))))) ?_
      refine jn hm (fun data3 => ⟨[(0, .own 0), (1, dV a), (2, dV b), (3, .fn 184 []), (9, dV v5), (10, dV v1)], [aX 0 74 data3], 48⟩) (fun data3 hm => ?_) ?_
      ·refine rg G (cd hm (fun hm => ?_) (fun hm => ?_))
       ·refine rg G (tl hm (fun data5 => ⟨[(0, .own 0), (1, dV a), (2, dV b), (3, .fn 184 []), (9, dV v5), (10, dV v1)], [aX 0 74 data5], 48⟩) (fun data5 hm => ?_) ?_)
        ·refine Ok_block (lp G hm (fun (v6, data4) => ⟨[(0, .own 0), (1, dV a), (2, dV b), (3, .fn 184 []), (9, dV v5), (10, dV v1), (11, dV v6)], [aX 0 74 data4], 48⟩) ?_)
         rintro ⟨v6, data4⟩ r0 hb3 hm
         rw [zq126_L2] at hm
         refine Ok_seq (rg G (cd hm (fun hm => ?_) (fun hm => ?_)))
         ·refine X_skip (thN (Ok_seq (Ok_block (Ok_seq ?_))))
          obtain ⟨e18, h17, hm⟩ := obind hm
          obtain ⟨e19, h18, hm⟩ := obind hm
          obtain ⟨r7, h19, hm⟩ := obind hm
          have h19 : zq28 e18 e19 = some r7 := by rw [← hf_cmp] at h19; exact h19
          refine ds G [(10, [])] (hD 3 h17 (hE 4 h17 (hD 8 h18 (hE 9 h18 (hC 10 (zq28_c h19) h0))))) ?_
          refine cd hm (fun hm => ?_) (fun hm => ?_)
          ·exact Ok_exit (thE (ibX rfl (thE (thE (ibE (wD G hm hb3))))))
          ·refine X_skip (thN ?_)
           obtain ⟨e24, h24, hm⟩ := obind hm
           obtain ⟨e25, h25, hm⟩ := obind hm
           obtain ⟨e26, h26, hm⟩ := obind hm
           obtain ⟨e27, h27, hm⟩ := obind hm
           refine de G [(15, [0]), (17, [0])] (hD 8 h24 (hE 9 h24 (hD 12 h25 (hE 13 h25 (hD 14 h26 (hS 15 h26 e24 (hD 16 h27 (hS 17 h27 e25 h0)))))))) ?_
           exact ibN (thN (rh G (wL G hm)))
         ·exact Ok_exit (thE (thE (ibE (wD G hm hb3))))
        rintro data5 hm s hw
        exact wJp hm (Wk.trans hw (Wk_J G.hL ⟨[(0, []), (1, []), (2, []), (3, []), (9, []), (10, [])], [(0, 0, [])], [], 48⟩ (by kernel_rfl)))
       ·exact X_skip (wJ G hm)
      rintro data3 hm
      refine rg G (cd hm (fun hm => ?_) (fun hm => ?_))
      ·refine rg G (tl hm (fun data7 => ⟨[(0, .own 0), (1, dV a), (2, dV b), (3, .fn 184 []), (9, dV v5), (10, dV v1)], [aX 0 74 data7], 48⟩) (fun data7 hm => ?_) ?_)
       ·refine Ok_block (lp G hm (fun (v7, data6) => ⟨[(0, .own 0), (1, dV a), (2, dV b), (3, .fn 184 []), (9, dV v5), (10, dV v1), (12, dV v7)], [aX 0 74 data6], 48⟩) ?_)
        rintro ⟨v7, data6⟩ r0 hb4 hm
        rw [zq126_L3] at hm
        refine Ok_seq (rg G (cd hm (fun hm => ?_) (fun hm => ?_)))
        ·refine X_skip (thN (Ok_seq (Ok_block (Ok_seq ?_))))
         obtain ⟨e30, h31, hm⟩ := obind hm
         obtain ⟨e31, h32, hm⟩ := obind hm
         obtain ⟨r9, h33, hm⟩ := obind hm
         have h33 : zq28 e30 e31 = some r9 := by rw [← hf_cmp] at h33; exact h33
         refine ds G [(10, [])] (hD 3 h31 (hE 4 h31 (hD 8 h32 (hE 9 h32 (hC 10 (zq28_c h33) h0))))) ?_
         refine cd hm (fun hm => ?_) (fun hm => ?_)
         ·exact Ok_exit (thE (ibX rfl (thE (thE (ibE (wD G hm hb4))))))
         ·refine X_skip (thN ?_)
          obtain ⟨e36, h38, hm⟩ := obind hm
          obtain ⟨e37, h39, hm⟩ := obind hm
          obtain ⟨e38, h40, hm⟩ := obind hm
          obtain ⟨e39, h41, hm⟩ := obind hm
          refine de G [(15, [0]), (17, [0])] (hD 8 h38 (hE 9 h38 (hD 12 h39 (hE 13 h39 (hD 14 h40 (hS 15 h40 e36 (hD 16 h41 (hS 17 h41 e37 h0)))))))) ?_
          exact ibN (thN (rh G (wL G hm)))
        ·exact Ok_exit (thE (thE (ibE (wD G hm hb4))))
       rintro data7 hm s1 hw1
       exact ibN (wFp hm (Wk.trans hw1 (Wk_J G.hL ⟨[(0, []), (1, []), (2, []), (3, []), (9, []), (10, [])], [(0, 0, [])], [], 48⟩ (by kernel_rfl))))
      ·exact X_skip (ibN (wF G hm))
   rintro ⟨v2, data2⟩ hm
   exact rh G (wL G hm)
  ·exact Ok_exit (thE (thE (ibE (wE G hm hb))))
 rintro data8 hm s2 hw2
 refine thN (Ok_weak hw2 ?_)
 refine rg G ?_
 cases hm
 exact rt [] []
end Go.Proofs.YtaegkodcjpgndaaGreat
