/- Each function computes what its model says. Made by program (dec.py). -/
import Derived.Test.YtaegkodcjpgndaaGreatTy
import Derived.Test.YtaegkodcjpgndaaGreatAbC
import Derived.Test.YtaegkodcjpgndaaGreatRcM
namespace Go.Proofs.YtaegkodcjpgndaaGreat
open Go Go.Ab
set_option maxRecDepth 100000
set_option maxHeartbeats 4000000
set_option linter.unusedVariables false
set_option linter.unusedSimpArgs false
theorem tt : TT Tryz.prog ty := ⟨by kernel_rfl, ty_ok⟩
noncomputable def zq131_M : MS ((List UInt8)) Bool := ⟨.r, zq131, fun y => dV y, fun _ => [], fun _ _ => []⟩
theorem zq131_c {code y} (hm : zq131 code = some y) : zq131_M.C code y := zq131_M.c code hm
theorem zq131_ok : FnOK Tryz.prog 9 zq131_M.S := by
 refine fm tt zq131_M [] Tryz.call9 Tryz.func9 rfl Tryz.results9 Tryz.ntmps9 ?_
 rintro code y cx G hm
 have hm : zq131 code = some y := hm
 unfold zq131 at hm
 refine rg G (rs G (hN 1 code h0) ?_)
 cases hm
 exact rt [] []
noncomputable def zq88_M : MS l1Cur (Int × l1Cur) := ⟨.b, zq88, fun y => dV y.1, fun _ => [], fun _ y => [bxO y.2]⟩
theorem zq88_c {c y} (hm : zq88 c = some y) : zq88_M.C c y := zq88_M.c c hm
theorem zq88_ok : FnOK Tryz.prog 206 zq88_M.S := by
 refine fm tt zq88_M [] Tryz.call206 Tryz.func206 rfl Tryz.results206 Tryz.ntmps206 ?_
 rintro c y cx G hm
 have hm : zq88 c = some y := hm
 unfold zq88 at hm
 refine rg G (rg G (jn hm (fun v => ⟨[(0, .ref 0 0), (3, dV v)], [bX 0 [dV c.code_, dV c.at_, kV .u64 c.seed_.v]], 48⟩) (fun v hm => ?_) ?_))
 ·refine ds G [] (hN 8 c.code_ h0) ?_
  refine cd hm (fun hm => ?_) (fun hm => ?_)
  ·obtain ⟨e1, h1, hm⟩ := obind hm
   refine de G [] (hD 8 h1 h0) ?_
   exact wJ G hm
  ·exact X_skip (wJ G hm)
 rintro v hm
 refine rg G (rg G (Ok_seq (ds G [] (hN 8 c.code_ h0) ?_)))
 refine cd hm (fun hm => ?_) (fun hm => ?_)
 ·refine rg G ?_
  cases hm
  exact rt [] []
 ·refine X_skip (thN ?_)
  obtain ⟨u, h2, hm⟩ := obind hm
  refine rs G (hK h2 h0) ?_
  cases hm
  exact rt [] []
noncomputable def zq93_M : MS (l1Cur × Int) (Int × l1Cur) := ⟨.x .b .r, fun x => zq93 x.1 x.2, fun y => dV y.1, fun _ => [], fun _ y => [bxO y.2]⟩
theorem zq93_c {c n y} (hm : zq93 c n = some y) : zq93_M.C (c, n) y := zq93_M.c (c, n) hm
theorem zq93_ok : FnOK Tryz.prog 146 zq93_M.S := by
 refine fm tt zq93_M [fo zq88_ok] Tryz.call146 Tryz.func146 rfl Tryz.results146 Tryz.ntmps146 ?_
 rintro ⟨c, n⟩ y cx G hm
 have hm : zq93 c n = some y := hm
 unfold zq93 at hm
 refine rg G (Ok_seq (rg G (cd hm (fun hm => ?_) (fun hm => ?_))))
 ·refine rg G ?_
  cases hm
  exact rt [] []
 ·refine X_skip (thN ?_)
  obtain ⟨r, h, hm⟩ := obind hm
  refine rs G (hC 1 (zq88_c h) h0) ?_
  refine jn hm (fun (v, v1, v2, v3) => ⟨[(0, .ref 0 0), (1, dV n), (5, dV v)], [bX 0 [dV v1, dV v2, kV .u64 v3]], 48⟩) (fun vv hm => ?_) ?_
  ·refine rg G (cd hm (fun hm => ?_) (fun hm => ?_))
   ·obtain ⟨r1, h1, hm⟩ := obind hm
    refine re G (hC 3 (zq88_c h1) h0) ?_
    exact wJ G hm
   ·exact X_skip (wJ G hm)
  rintro ⟨v, v1, v2, v3⟩ hm
  obtain ⟨u, h2, hm⟩ := obind hm
  refine rs G (hK h2 h0) ?_
  cases hm
  exact rt [] []
noncomputable def zq91_M : MS (l1Cur × Int) (Bool × l1Cur) := ⟨.x .b .r, fun x => zq91 x.1 x.2, fun y => dV y.1, fun _ => [], fun _ y => [bxO y.2]⟩
theorem zq91_c {c n y} (hm : zq91 c n = some y) : zq91_M.C (c, n) y := zq91_M.c (c, n) hm
theorem zq91_ok : FnOK Tryz.prog 145 zq91_M.S := by
 refine fm tt zq91_M [fo zq93_ok] Tryz.call145 Tryz.func145 rfl Tryz.results145 Tryz.ntmps145 ?_
 rintro ⟨c, n⟩ y cx G hm
 have hm : zq91 c n = some y := hm
 unfold zq91 at hm
 refine rg G ?_
 obtain ⟨r, h, hm⟩ := obind hm
 refine rs G (hC 2 (zq93_c h) h0) ?_
 cases hm
 exact rt [] []
noncomputable def zq103_MR (rec_ : Int → Option (ByteArray)) : MS Int ByteArray := ⟨.r, rec_, fun y => dV y, fun _ => [], fun _ _ => []⟩
noncomputable def zq103_M : MS Int ByteArray := zq103_MR zq103
theorem zq103_c {n y} (hm : zq103 n = some y) : zq103_M.C n y := zq103_M.c n hm
theorem zq103_cR {rec_ : Int → Option (ByteArray)} {n y} (hm : rec_ n = some y) : (zq103_MR rec_).C n y := (zq103_MR rec_).c n hm
theorem zq103_okF {rec_ : Int → Option (ByteArray)} (hrec : FnOK Tryz.prog 220 (zq103_MR rec_).S) : FnOK Tryz.prog 220 (zq103_MR (zq103_F rec_)).S := by
 refine fm tt (zq103_MR (zq103_F rec_)) [fo hrec] Tryz.call220 Tryz.func220 rfl Tryz.results220 Tryz.ntmps220 ?_
 rintro n y cx G hm
 have hm : zq103_F rec_ n = some y := hm
 unfold zq103_F at hm
 refine rg G (Ok_seq (rg G (cd hm (fun hm => ?_) (fun hm => ?_))))
 ·obtain ⟨r, h, hm⟩ := obind hm
  obtain ⟨u, h1, hm⟩ := obind hm
  refine rs G (hC 2 (zq103_cR h) (hP (cat_p (chk_t h1)) h0)) ?_
  cases hm
  exact rt [] []
 ·refine X_skip (thN (Ok_seq (rg G (cd hm (fun hm => ?_) (fun hm => ?_)))))
  ·obtain ⟨u1, h2, hm⟩ := obind hm
   refine rs G (hK h2 h0) ?_
   cases hm
   exact rt [] []
  ·refine X_skip (thN ?_)
   obtain ⟨u7, h9, hm⟩ := obind hm
   obtain ⟨r2, h10, hm⟩ := obind hm
   obtain ⟨u8, h11, hm⟩ := obind hm
   obtain ⟨u9, h12, hm⟩ := obind hm
   obtain ⟨u10, h13, hm⟩ := obind hm
   obtain ⟨u11, h14, hm⟩ := obind hm
   refine ds G [] (hK h9 (hC 2 (zq103_cR h10) (hK h11 (hK h12 (hK h13 (hP (cat_p (chk_t h14)) h0)))))) ?_
   cases hm
   exact rt [] []
theorem zq103_okn : ∀ k, FnOK Tryz.prog 220 (zq103_MR (zq103_k k)).S
 | 0 => ⟨fun args w => Tryz.call220 args w, fun vs w F ds obs κ hp => by obtain ⟨x, y, _, _, h⟩ := hp; cases h⟩
 | k + 1 => zq103_okF (zq103_okn k)
theorem zq103_ok : FnOK Tryz.prog 220 zq103_M.S := zq103_okn 4294967296
noncomputable def zq116_M : MS (Line × Int) Int := ⟨.x .r .r, fun x => zq116 x.1 x.2, fun y => dV y, fun _ => [], fun _ _ => []⟩
theorem zq116_c {x stop y} (hm : zq116 x stop = some y) : zq116_M.C (x, stop) y := zq116_M.c (x, stop) hm
theorem zq116_ok : FnOK Tryz.prog 236 zq116_M.S := by
 refine fm tt zq116_M [] Tryz.call236 Tryz.func236 rfl Tryz.results236 Tryz.ntmps236 ?_
 rintro ⟨x, stop⟩ y cx G hm
 have hm : zq116 x stop = some y := hm
 unfold zq116 at hm
 refine rg G (Ok_seq (rg G (tF hm (fun _ => ⟨[], [], 32⟩) (fun v1 hr hm => ?_) ?_)))
 ·refine Ok_block (lp G hm (fun v => ⟨[(1, dV stop), (2, .ref 16 0), (5, dV v)], [bX 16 [dV x.Name, dV x.Stops, dV x.Runs]], 48⟩) ?_)
  rintro v r0 hb hm
  rw [zq116_L1] at hm
  refine Ok_seq (rs G (hN 3 x.Stops h0) ?_)
  refine cd hm (fun hm => ?_) (fun hm => ?_)
  ·refine X_skip (thN (Ok_seq (Ok_block ?_)))
   obtain ⟨e, h, hm⟩ := obind hm
   refine rs G (hD 3 h h0) ?_
   refine cd hm (fun hm => ?_) (fun hm => ?_)
   ·refine rg G ?_
    have hm := eL hm hb hr
    cases hm
    exact rt [] []
   ·exact X_skip (ibN (thN (rh G (wL G hm))))
  ·exact Ok_exit (thE (thE (ibE (wE G hm hb))))
 rintro ⟨⟩ hm s hw
 refine thN (Ok_weak hw ?_)
 refine rg G ?_
 cases hm
 exact rt [] []
noncomputable def zq84_M : MS (l1Cur × ByteArray × Int) (Line × l1Cur) := ⟨.x .b (.x .r .r), fun x => zq84 x.1 x.2.1 x.2.2, fun y => .aggv [dV y.1.Name, .own 0, .own 1], fun y => [arO 3 y.1.Stops, arO 3 y.1.Runs], fun _ y => [bxO y.2]⟩
theorem zq84_c {c name stops y} (hm : zq84 c name stops = some y) : zq84_M.C (c, name, stops) y := zq84_M.c (c, name, stops) hm
theorem zq84_ok : FnOK Tryz.prog 219 zq84_M.S := by
 refine fm tt zq84_M [fo zq93_ok, fo zq116_ok] Tryz.call219 Tryz.func219 rfl Tryz.results219 Tryz.ntmps219 ?_
 rintro ⟨c, name, stops⟩ y cx G hm
 have hm : zq84 c name stops = some y := hm
 unfold zq84 at hm
 refine rg G (rg G ?_)
 obtain ⟨r, h, hm⟩ := obind hm
 refine rs G (hC 2 (zq93_c h) h0) ?_
 refine Ok_seq ?_
 obtain ⟨r1, h1, hm⟩ := obind hm
 refine rs G (hC 1 (zq93_c h1) h0) ?_
 refine tl hm (fun (v7, v8, v9, v10) => ⟨[(0, .ref 0 0), (2, dV stops), (6, .ref 32 0), (7, .ref 48 0)], [bX 0 [dV v7, dV v8, kV .u64 v9], bX 32 [dV ByteArray.empty, .dat (.sc (.slice none 0 0)), .dat (.sc (.slice none 0 0))], bX 48 [dV name, .own 64, .dat (.sc (.slice none 0 0))], aX 64 3 v10], 96⟩) (fun vv1 hm => ?_) ?_
 ·refine Ok_block (lpP hm (fun (v, v1, v2, v3, v4, v5) => ⟨[(0, .ref 0 0), (2, dV stops), (6, .ref 32 0), (7, .ref 48 0), (8, dV v), (9, dV v1)], [bX 0 [dV v2, dV v3, kV .u64 v4], bX 32 [dV ByteArray.empty, .dat (.sc (.slice none 0 0)), .dat (.sc (.slice none 0 0))], bX 48 [dV name, .own 64, .dat (.sc (.slice none 0 0))], aX 64 3 v5], 96⟩) (Wk_J G.hL ⟨[(0, []), (2, []), (6, []), (7, []), (8, []), (9, [])], [(0, 0, []), (32, 16, []), (48, 64, [.k, .o 64])], [(64, 3, 1, [])], 96⟩ (by kernel_rfl)) ?_)
  rintro ⟨v, v1, v2, v3, v4, v5⟩ r0 hb hm
  rw [zq84_L1] at hm
  refine Ok_seq (rg G (cd hm (fun hm => ?_) (fun hm => ?_)))
  ·refine X_skip (thN (Ok_seq (Ok_block (jn hm (fun v6 => ⟨[(0, .ref 0 0), (2, dV stops), (6, .ref 32 0), (7, .ref 48 0), (8, dV v), (9, dV v1)], [bX 0 [dV v2, dV v3, kV .u64 v4], bX 32 [dV ByteArray.empty, .dat (.sc (.slice none 0 0)), .dat (.sc (.slice none 0 0))], bX 48 [dV name, .own 64, .dat (.sc (.slice none 0 0))], aX 64 3 v6], 96⟩) (fun v6 hm => ?_) ?_))))
   ·obtain ⟨r2, h2, hm⟩ := obind hm
    refine rs G (hC 2 (zq116_c h2) h0) ?_
    refine cd hm (fun hm => ?_) (fun hm => ?_)
    ·obtain ⟨u, h3, hm⟩ := obind hm
     refine re G (hA 4 8 h3 h0) ?_
     exact wJ G hm
    ·exact X_skip (wJ G hm)
   rintro v6 hm
   obtain ⟨r3, h4, hm⟩ := obind hm
   obtain ⟨u1, h5, hm⟩ := obind hm
   refine re G (hC 3 (zq93_c h4) (hK h5 h0)) ?_
   exact ibN (thN (rh G (wL G hm)))
  ·exact Ok_exit (thE (thE (ibE (wD G hm hb))))
 rintro ⟨v7, v8, v9, v10⟩ hm s hw
 refine thN (Ok_weak hw ?_)
 refine jn hm (fun v11 => ⟨[(0, .ref 0 0), (6, .ref 32 0), (7, .ref 48 0)], [bX 0 [dV v7, dV v8, kV .u64 v9], bX 32 [dV ByteArray.empty, .dat (.sc (.slice none 0 0)), .dat (.sc (.slice none 0 0))], bX 48 [dV name, .own 64, .dat (.sc (.slice none 0 0))], aX 64 3 v11], 96⟩) (fun v11 hm => ?_) ?_
 ·refine rs G (hN 2 v10 h0) ?_
  refine cd hm (fun hm => ?_) (fun hm => ?_)
  ·obtain ⟨e1, h9, hm⟩ := obind hm
   obtain ⟨u4, h10, hm⟩ := obind hm
   obtain ⟨u5, h11, hm⟩ := obind hm
   refine de G [(10, [64, 304]), (12, [48, 320])] (hD 4 h9 (hE 5 h9 (hK h10 (hA 10 8 h11 h0)))) ?_
   exact wJ G hm
  ·exact X_skip (wJ G hm)
 rintro v11 hm
 refine Ok_seq (rg G (tl hm (fun (v17, v18, v19, v20) => ⟨[(0, .ref 0 0), (6, .ref 32 0), (7, .ref 48 0)], [bX 0 [dV v17, dV v18, kV .u64 v19], bX 32 [dV ByteArray.empty, .dat (.sc (.slice none 0 0)), .dat (.sc (.slice none 0 0))], bX 48 [dV name, .own 64, .own 80], aX 64 3 v11, aX 80 3 v20], 112⟩) (fun vv hm => ?_) ?_))
 ·refine Ok_block (lpP hm (fun (v12, v13, v14, v15, v16) => ⟨[(0, .ref 0 0), (6, .ref 32 0), (7, .ref 48 0), (10, dV v12)], [bX 0 [dV v13, dV v14, kV .u64 v15], bX 32 [dV ByteArray.empty, .dat (.sc (.slice none 0 0)), .dat (.sc (.slice none 0 0))], bX 48 [dV name, .own 64, .own 80], aX 64 3 v11, aX 80 3 v16], 112⟩) (Wk_J G.hL ⟨[(0, []), (6, []), (7, []), (10, [])], [(0, 0, []), (32, 32, []), (48, 48, [.k, .k, .o 80]), (64, 64, [])], [(80, 3, 1, [])], 112⟩ (by kernel_rfl)) ?_)
  rintro ⟨v12, v13, v14, v15, v16⟩ r0 hb1 hm
  rw [zq84_L2] at hm
  refine Ok_seq (rs G (hN 3 v11 h0) ?_)
  refine cd hm (fun hm => ?_) (fun hm => ?_)
  ·refine X_skip (thN (Ok_seq (Ok_block ?_)))
   obtain ⟨r5, h14, hm⟩ := obind hm
   obtain ⟨u7, h15, hm⟩ := obind hm
   refine de G [(3, [0]), (6, [80, 272]), (8, [48, 288])] (hC 3 (zq93_c h14) (hA 6 8 h15 h0)) ?_
   exact ibN (thN (rh G (wL G hm)))
  ·exact Ok_exit (thE (thE (ibE (wD G hm hb1))))
 rintro ⟨v17, v18, v19, v20⟩ hm s1 hw1
 refine thN (Ok_weak hw1 ?_)
 refine rg G ?_
 cases hm
 exact rt [64, 80] []
noncomputable def zq85_M : MS (l1Cur × ByteArray × Int) (Line × l1Cur) := ⟨.x .b (.x .r .r), fun x => zq85 x.1 x.2.1 x.2.2, fun y => dV y.1, fun _ => [], fun _ y => [bxO y.2]⟩
theorem zq85_c {c name stops y} (hm : zq85 c name stops = some y) : zq85_M.C (c, name, stops) y := zq85_M.c (c, name, stops) hm
theorem zq85_ok : FnOK Tryz.prog 219 zq85_M.S := by
 refine fm tt zq85_M [fo zq93_ok, fo zq116_ok] Tryz.call219 Tryz.func219 rfl Tryz.results219 Tryz.ntmps219 ?_
 rintro ⟨c, name, stops⟩ y cx G hm
 have hm : zq85 c name stops = some y := hm
 unfold zq85 at hm
 refine rg G (rg G ?_)
 obtain ⟨r, h, hm⟩ := obind hm
 refine rs G (hC 2 (zq93_c h) h0) ?_
 refine Ok_seq ?_
 obtain ⟨r1, h1, hm⟩ := obind hm
 refine rs G (hC 1 (zq93_c h1) h0) ?_
 refine tl hm (fun (v7, v8, v9, v10) => ⟨[(0, .ref 0 0), (2, dV stops), (6, .ref 32 0), (7, .ref 48 0)], [bX 0 [dV v7, dV v8, kV .u64 v9], bX 32 [dV ByteArray.empty, .dat (.sc (.slice none 0 0)), .dat (.sc (.slice none 0 0))], bX 48 [dV name, .own 64, .dat (.sc (.slice none 0 0))], aX 64 3 v10], 96⟩) (fun vv1 hm => ?_) ?_
 ·refine Ok_block (lpP hm (fun (v, v1, v2, v3, v4, v5) => ⟨[(0, .ref 0 0), (2, dV stops), (6, .ref 32 0), (7, .ref 48 0), (8, dV v), (9, dV v1)], [bX 0 [dV v2, dV v3, kV .u64 v4], bX 32 [dV ByteArray.empty, .dat (.sc (.slice none 0 0)), .dat (.sc (.slice none 0 0))], bX 48 [dV name, .own 64, .dat (.sc (.slice none 0 0))], aX 64 3 v5], 96⟩) (Wk_J G.hL ⟨[(0, []), (2, []), (6, []), (7, []), (8, []), (9, [])], [(0, 0, []), (32, 16, []), (48, 64, [.k, .o 64])], [(64, 3, 1, [])], 96⟩ (by kernel_rfl)) ?_)
  rintro ⟨v, v1, v2, v3, v4, v5⟩ r0 hb hm
  rw [zq85_L1] at hm
  refine Ok_seq (rg G (cd hm (fun hm => ?_) (fun hm => ?_)))
  ·refine X_skip (thN (Ok_seq (Ok_block (jn hm (fun v6 => ⟨[(0, .ref 0 0), (2, dV stops), (6, .ref 32 0), (7, .ref 48 0), (8, dV v), (9, dV v1)], [bX 0 [dV v2, dV v3, kV .u64 v4], bX 32 [dV ByteArray.empty, .dat (.sc (.slice none 0 0)), .dat (.sc (.slice none 0 0))], bX 48 [dV name, .own 64, .dat (.sc (.slice none 0 0))], aX 64 3 v6], 96⟩) (fun v6 hm => ?_) ?_))))
   ·obtain ⟨r2, h2, hm⟩ := obind hm
    refine rs G (hC 2 (zq116_c h2) h0) ?_
    refine cd hm (fun hm => ?_) (fun hm => ?_)
    ·obtain ⟨u, h3, hm⟩ := obind hm
     refine re G (hA 4 8 h3 h0) ?_
     exact wJ G hm
    ·exact X_skip (wJ G hm)
   rintro v6 hm
   obtain ⟨r3, h4, hm⟩ := obind hm
   obtain ⟨u1, h5, hm⟩ := obind hm
   refine re G (hC 3 (zq93_c h4) (hK h5 h0)) ?_
   exact ibN (thN (rh G (wL G hm)))
  ·exact Ok_exit (thE (thE (ibE (wD G hm hb))))
 rintro ⟨v7, v8, v9, v10⟩ hm s hw
 refine thN (Ok_weak hw ?_)
 refine jn hm (fun v11 => ⟨[(0, .ref 0 0), (6, .ref 32 0), (7, .ref 48 0)], [bX 0 [dV v7, dV v8, kV .u64 v9], bX 32 [dV ByteArray.empty, .dat (.sc (.slice none 0 0)), .dat (.sc (.slice none 0 0))], bX 48 [dV name, .own 64, .dat (.sc (.slice none 0 0))], aX 64 3 v11], 96⟩) (fun v11 hm => ?_) ?_
 ·refine rs G (hN 2 v10 h0) ?_
  refine cd hm (fun hm => ?_) (fun hm => ?_)
  ·obtain ⟨e1, h9, hm⟩ := obind hm
   obtain ⟨u4, h10, hm⟩ := obind hm
   obtain ⟨u5, h11, hm⟩ := obind hm
   refine de G [(10, [64, 304]), (12, [48, 320])] (hD 4 h9 (hE 5 h9 (hK h10 (hA 10 8 h11 h0)))) ?_
   exact wJ G hm
  ·exact X_skip (wJ G hm)
 rintro v11 hm
 refine Ok_seq (rg G (tl hm (fun (v17, v18, v19, v20) => ⟨[(0, .ref 0 0), (6, .ref 32 0), (7, .ref 48 0)], [bX 0 [dV v17, dV v18, kV .u64 v19], bX 32 [dV ByteArray.empty, .dat (.sc (.slice none 0 0)), .dat (.sc (.slice none 0 0))], bX 48 [dV name, .own 64, .own 80], aX 64 3 v11, aX 80 3 v20], 112⟩) (fun vv hm => ?_) ?_))
 ·refine Ok_block (lpP hm (fun (v12, v13, v14, v15, v16) => ⟨[(0, .ref 0 0), (6, .ref 32 0), (7, .ref 48 0), (10, dV v12)], [bX 0 [dV v13, dV v14, kV .u64 v15], bX 32 [dV ByteArray.empty, .dat (.sc (.slice none 0 0)), .dat (.sc (.slice none 0 0))], bX 48 [dV name, .own 64, .own 80], aX 64 3 v11, aX 80 3 v16], 112⟩) (Wk_J G.hL ⟨[(0, []), (6, []), (7, []), (10, [])], [(0, 0, []), (32, 32, []), (48, 48, [.k, .k, .o 80]), (64, 64, [])], [(80, 3, 1, [])], 112⟩ (by kernel_rfl)) ?_)
  rintro ⟨v12, v13, v14, v15, v16⟩ r0 hb1 hm
  rw [zq85_L2] at hm
  refine Ok_seq (rs G (hN 3 v11 h0) ?_)
  refine cd hm (fun hm => ?_) (fun hm => ?_)
  ·refine X_skip (thN (Ok_seq (Ok_block ?_)))
   obtain ⟨r5, h14, hm⟩ := obind hm
   obtain ⟨u7, h15, hm⟩ := obind hm
   refine de G [(3, [0]), (6, [80, 272]), (8, [48, 288])] (hC 3 (zq93_c h14) (hA 6 8 h15 h0)) ?_
   exact ibN (thN (rh G (wL G hm)))
  ·exact Ok_exit (thE (thE (ibE (wD G hm hb1))))
 rintro ⟨v17, v18, v19, v20⟩ hm s1 hw1
 refine thN (Ok_weak hw1 ?_)
 refine rg G ?_
 cases hm
 exact rt [] []
noncomputable def zq108_M : MS ((List Int)) ((List Int)) := ⟨.r, zq108, fun y => dV y, fun _ => [], fun _ _ => []⟩
theorem zq108_c {list y} (hm : zq108 list = some y) : zq108_M.C list y := zq108_M.c list hm
theorem zq108_ok : FnOK Tryz.prog 230 zq108_M.S := by
 refine fm tt zq108_M [] Tryz.call230 Tryz.func230 rfl Tryz.results230 Tryz.ntmps230 ?_
 rintro list y cx G hm
 have hm : zq108 list = some y := hm
 unfold zq108 at hm
 refine rg G (rg G (Ok_seq (rs G (hN 1 list h0) ?_)))
 refine tl hm (fun i1 => ⟨[(3, .own 16)], [aX 16 3 i1], 48⟩) (fun i1 hm => ?_) ?_
 ·refine Ok_block (lp G hm (fun (v, i) => ⟨[(0, dV list), (3, .own 16), (4, dV v)], [aX 16 3 i], 48⟩) ?_)
  rintro ⟨v, i⟩ r0 hb hm
  rw [zq108_L1] at hm
  refine Ok_seq (rg G (cd hm (fun hm => ?_) (fun hm => ?_)))
  ·refine X_skip (thN (Ok_seq (Ok_block ?_)))
   obtain ⟨e, h, hm⟩ := obind hm
   obtain ⟨u, h1, hm⟩ := obind hm
   refine re G (hD 3 h (hA 6 8 h1 h0)) ?_
   exact ibN (thN (rh G (wL G hm)))
  ·exact Ok_exit (thE (thE (ibE (wD G hm hb))))
 rintro i1 hm s hw
 refine thN (Ok_weak hw ?_)
 refine rg G ?_
 cases hm
 exact rt [] []
noncomputable def zq104_M : MS ((List Int)) ((List Int)) := ⟨.r, zq104, fun _ => .own 0, fun y => [arO 3 y], fun _ _ => []⟩
theorem zq104_c {l y} (hm : zq104 l = some y) : zq104_M.C l y := zq104_M.c l hm
theorem zq104_ok : FnOK Tryz.prog 136 zq104_M.S := by
 refine fm tt zq104_M [] Tryz.call136 Tryz.func136 rfl Tryz.results136 Tryz.ntmps136 ?_
 rintro l y cx G hm
 have hm : zq104 l = some y := hm
 unfold zq104 at hm
 refine rg G ?_
 obtain ⟨u, h, hm⟩ := obind hm
 refine rs G (hA 2 8 h h0) ?_
 cases hm
 exact rt [64] []
noncomputable def zq105_M : MS ((List Int)) ((List Int)) := ⟨.r, zq105, fun y => dV y, fun _ => [], fun _ _ => []⟩
theorem zq105_c {l y} (hm : zq105 l = some y) : zq105_M.C l y := zq105_M.c l hm
theorem zq105_ok : FnOK Tryz.prog 136 zq105_M.S := by
 refine fm tt zq105_M [] Tryz.call136 Tryz.func136 rfl Tryz.results136 Tryz.ntmps136 ?_
 rintro l y cx G hm
 have hm : zq105 l = some y := hm
 unfold zq105 at hm
 refine rg G ?_
 obtain ⟨u, h, hm⟩ := obind hm
 refine rs G (hA 2 8 h h0) ?_
 cases hm
 exact rt [] []
noncomputable def zq114_M : MS Network Network := ⟨.r, zq114, fun _ => .aggv [.own 0, .own 1], fun y => [arO 9 y.Stops, arO 170 y.Lines], fun _ _ => []⟩
theorem zq114_c {n y} (hm : zq114 n = some y) : zq114_M.C n y := zq114_M.c n hm
theorem zq114_ok : FnOK Tryz.prog 231 zq114_M.S := by
 refine fm tt zq114_M [fo zq105_ok] Tryz.call231 Tryz.func231 rfl Tryz.results231 Tryz.ntmps231 ?_
 rintro n y cx G hm
 have hm : zq114 n = some y := hm
 unfold zq114 at hm
 refine rg G ?_
 obtain ⟨u, h, hm⟩ := obind hm
 refine rs G (hA 3 16 h h0) ?_
 refine Ok_seq (rg G (tl hm (fun v2 => ⟨[(2, .ref 16 0), (3, .ref 32 0)], [bX 16 [.dat (.sc (.slice none 0 0)), .dat (.sc (.slice none 0 0))], bX 32 [.own 48, .own 64], aX 48 9 (([] : List ByteArray) ++ n.Stops), aX 64 170 v2], 96⟩) (fun v2 hm => ?_) ?_))
 ·refine Ok_block (lpP hm (fun (v, v1) => ⟨[(1, .ref 16 0), (2, .ref 32 0), (3, .ref 48 0), (4, dV v)], [bX 16 [dV n.Stops, dV n.Lines], bX 32 [.dat (.sc (.slice none 0 0)), .dat (.sc (.slice none 0 0))], bX 48 [.own 64, .own 80], aX 64 9 (([] : List ByteArray) ++ n.Stops), aX 80 170 v1], 112⟩) (Wk_J G.hL ⟨[(1, []), (2, []), (3, []), (4, [])], [(16, 16, []), (32, 32, []), (48, 128, [.k, .o 80]), (64, 96, [])], [(80, 170, 3, [])], 112⟩ (by kernel_rfl)) ?_)
  rintro ⟨v, v1⟩ r0 hb hm
  rw [zq114_L1] at hm
  refine Ok_seq (rs G (hN 3 n.Lines h0) ?_)
  refine cd hm (fun hm => ?_) (fun hm => ?_)
  ·refine X_skip (thN (Ok_seq (Ok_block ?_)))
   obtain ⟨e3, h7, hm⟩ := obind hm
   obtain ⟨e4, h8, hm⟩ := obind hm
   obtain ⟨r2, h9, hm⟩ := obind hm
   obtain ⟨e5, h10, hm⟩ := obind hm
   obtain ⟨r3, h11, hm⟩ := obind hm
   obtain ⟨u2, h12, hm⟩ := obind hm
   refine de G [(23, []), (24, [80, 560]), (26, [48, 576])] (hD 5 h7 (hD 11 h8 (hC 14 (zq105_c h9) (hD 18 h10 (hC 21 (zq105_c h11) (hA 24 64 h12 h0)))))) ?_
   exact ibN (thN (rh G (wL G hm)))
  ·exact Ok_exit (thE (thE (ibE (wD G hm hb))))
 rintro v2 hm s hw
 refine thN (Ok_weak hw ?_)
 refine rg G ?_
 cases hm
 exact rt [48, 64] []
noncomputable def zq86_M : MS l1Cur (Network × l1Cur) := ⟨.b, zq86, fun _ => .aggv [.own 0, .own 1], fun y => [arO 9 y.1.Stops, arO 170 y.1.Lines], fun _ y => [bxO y.2]⟩
theorem zq86_c {c y} (hm : zq86 c = some y) : zq86_M.C c y := zq86_M.c c hm
theorem zq86_ok : FnOK Tryz.prog 204 zq86_M.S := by
 refine fm tt zq86_M [fo zq93_ok, fo zq103_ok, fo zq85_ok, fo zq91_ok, fo zq108_ok, fo zq114_ok] Tryz.call204 Tryz.func204 rfl Tryz.results204 Tryz.ntmps204 ?_
 rintro c y cx G hm
 have hm : zq86 c = some y := hm
 unfold zq86 at hm
 refine rg G ?_
 obtain ⟨r, h, hm⟩ := obind hm
 refine rs G (hC 1 (zq93_c h) h0) ?_
 obtain ⟨u, h1, hm⟩ := obind hm
 refine rs G (hO 2 (.fz [96] [] []) (hU 2 h1 h0)) ?_
 refine Ok_seq ?_
 obtain ⟨r1, h2, hm⟩ := obind hm
 refine rs G (hC 1 (zq93_c h2) h0) ?_
 refine tl hm (fun (v4, v5, v6, v7) => ⟨[(0, .ref 0 0), (2, .ref 32 0), (4, .ref 48 0)], [bX 0 [dV v4, dV v5, kV .u64 v6], bX 32 [.dat (.sc (.slice none 0 0)), .dat (.sc (.slice none 0 0))], bX 48 [dV ((([(str [112, 111, 114, 116]), (str [109, 105, 108, 108]), (str [112, 97, 114, 107]), (str [104, 97, 108, 108]), (str [100, 111, 99, 107]), (str [102, 97, 105, 114])] : List ByteArray).take (w64 (2 + r.1)).toNat).drop (0 : Int).toNat), .own 64], aX 64 170 v7], 96⟩) (fun vv1 hm => ?_) ?_
 ·refine Ok_block (lpP hm (fun (x, v, v1, v2, v3) => ⟨[(0, .ref 0 0), (2, .ref 32 0), (3, dV (w64 (2 + r.1))), (4, .ref 48 0), (5, dV x)], [bX 0 [dV v, dV v1, kV .u64 v2], bX 32 [.dat (.sc (.slice none 0 0)), .dat (.sc (.slice none 0 0))], bX 48 [dV ((([(str [112, 111, 114, 116]), (str [109, 105, 108, 108]), (str [112, 97, 114, 107]), (str [104, 97, 108, 108]), (str [100, 111, 99, 107]), (str [102, 97, 105, 114])] : List ByteArray).take (w64 (2 + r.1)).toNat).drop (0 : Int).toNat), .own 64], aX 64 170 v3], 96⟩) (Wk_J G.hL ⟨[(0, []), (2, []), (3, []), (4, []), (5, [])], [(0, 0, []), (32, 16, []), (48, 160, [.k, .o 64])], [(64, 170, 3, [])], 96⟩ (by kernel_rfl)) ?_)
  rintro ⟨x, v, v1, v2, v3⟩ r0 hb hm
  rw [zq86_L1] at hm
  refine Ok_seq (rg G (cd hm (fun hm => ?_) (fun hm => ?_)))
  ·refine X_skip (thN (Ok_seq (Ok_block ?_)))
   obtain ⟨r4, h7, hm⟩ := obind hm
   obtain ⟨u3, h8, hm⟩ := obind hm
   obtain ⟨r5, h9, hm⟩ := obind hm
   obtain ⟨u4, h10, hm⟩ := obind hm
   refine de G [(7, [0]), (8, []), (9, [64, 256]), (11, [48, 272])] (hC 4 (zq103_c h7) (hP (cat_p (chk_t h8)) (hC 7 (zq85_c h9) (hA 9 64 h10 h0)))) ?_
   exact ibN (thN (rh G (wL G hm)))
  ·exact Ok_exit (thE (thE (ibE (wD G hm hb))))
 rintro ⟨v4, v5, v6, v7⟩ hm s hw
 refine thN (Ok_weak hw ?_)
 refine jn hm (fun (v8, v9, v10, v11) => ⟨[(0, .ref 0 0), (2, .ref 32 0), (4, .ref 48 0)], [bX 0 [dV v8, dV v9, kV .u64 v10], bX 32 [.dat (.sc (.slice none 0 0)), .dat (.sc (.slice none 0 0))], bX 48 [dV ((([(str [112, 111, 114, 116]), (str [109, 105, 108, 108]), (str [112, 97, 114, 107]), (str [104, 97, 108, 108]), (str [100, 111, 99, 107]), (str [102, 97, 105, 114])] : List ByteArray).take (w64 (2 + r.1)).toNat).drop (0 : Int).toNat), .own 64], aX 64 170 v11], 96⟩) (fun vv hm => ?_) ?_
 ·obtain ⟨r6, h11, hm⟩ := obind hm
  refine rs G (hC 1 (zq91_c h11) h0) ?_
  refine cd hm (fun hm => ?_) (fun hm => ?_)
  ·obtain ⟨e, h12, hm⟩ := obind hm
   refine rs G (hD 2 h12 (hE 3 h12 h0)) ?_
   obtain ⟨r9, h16, hm⟩ := obind hm
   obtain ⟨r10, h17, hm⟩ := obind hm
   obtain ⟨u6, h18, hm⟩ := obind hm
   refine de G [(9, []), (10, [64, 368]), (12, [48, 384])] (hC 4 (zq108_c h16) (hC 7 (zq108_c h17) (hA 10 64 h18 h0))) ?_
   exact wJ G hm
  ·exact X_skip (wJ G hm)
 rintro ⟨v8, v9, v10, v11⟩ hm
 obtain ⟨r11, h19, hm⟩ := obind hm
 refine rs G (hO 1 (.fz [64] [] []) (hC 1 (zq114_c h19) h0)) ?_
 cases hm
 exact rt [112, 113] []
noncomputable def zq95_M : MS l1Cur (Timetable × l1Cur) := ⟨.b, zq95, fun _ => .aggv [.own 0, .own 1, .own 2], fun y => [arO 9 y.1.Network.Stops, arO 170 y.1.Network.Lines, arO 45 y.1.Trips], fun _ y => [bxO y.2]⟩
theorem zq95_c {c y} (hm : zq95 c = some y) : zq95_M.C c y := zq95_M.c c hm
theorem zq95_ok : FnOK Tryz.prog 178 zq95_M.S := by
 refine fm tt zq95_M [fo zq86_ok, fo zq93_ok] Tryz.call178 Tryz.func178 rfl Tryz.results178 Tryz.ntmps178 ?_
 rintro c y cx G hm
 have hm : zq95 c = some y := hm
 unfold zq95 at hm
 refine rg G ?_
 obtain ⟨r, h, hm⟩ := obind hm
 refine rs G (hC 1 (zq86_c h) h0) ?_
 refine rg G (Ok_seq ?_)
 obtain ⟨r1, h1, hm⟩ := obind hm
 refine rs G (hC 1 (zq93_c h1) h0) ?_
 refine tl hm (fun (v5, v6, v7, v8) => ⟨[(0, .ref 0 0), (2, .ref 32 0), (3, .ref 48 0)], [bX 0 [dV v5, dV v6, kV .u64 v7], bX 32 [.dat (.sc (.slice none 0 0)), .dat (.sc (.slice none 0 0)), .dat (.sc (.slice none 0 0))], bX 48 [.own 64, .own 80, .own 96], aX 64 9 r.1.Stops, aX 80 170 r.1.Lines, aX 96 45 v8], 128⟩) (fun vv hm => ?_) ?_
 ·refine Ok_block (lpP hm (fun (n, v, v1, v2, v3, v4) => ⟨[(0, .ref 0 0), (2, .ref 32 0), (3, .ref 48 0), (4, dV n), (5, dV v)], [bX 0 [dV v1, dV v2, kV .u64 v3], bX 32 [.dat (.sc (.slice none 0 0)), .dat (.sc (.slice none 0 0)), .dat (.sc (.slice none 0 0))], bX 48 [.own 64, .own 80, .own 96], aX 64 9 r.1.Stops, aX 80 170 r.1.Lines, aX 96 45 v4], 128⟩) (Wk_J G.hL ⟨[(0, []), (2, []), (3, []), (4, []), (5, [])], [(0, 0, []), (32, 16, []), (48, 80, [.k, .k, .o 96]), (64, 48, []), (80, 49, [])], [(96, 45, 3, [])], 128⟩ (by kernel_rfl)) ?_)
  rintro ⟨n, v, v1, v2, v3, v4⟩ r0 hb hm
  rw [zq95_L1] at hm
  refine Ok_seq (rg G (cd hm (fun hm => ?_) (fun hm => ?_)))
  ·refine X_skip (thN (Ok_seq (Ok_block ?_)))
   obtain ⟨r2, h2, hm⟩ := obind hm
   refine rs G (hC 3 (zq93_c h2) h0) ?_
   obtain ⟨r5, h6, hm⟩ := obind hm
   obtain ⟨r6, h7, hm⟩ := obind hm
   obtain ⟨u1, h8, hm⟩ := obind hm
   refine de G [(8, [0]), (10, [0]), (15, [96, 480]), (17, [48, 496])] (hN 7 r.1.Lines (hC 8 (zq93_c h6) (hC 10 (zq93_c h7) (hA 15 24 h8 h0)))) ?_
   exact ibN (thN (rh G (wL G hm)))
  ·exact Ok_exit (thE (thE (ibE (wD G hm hb))))
 rintro ⟨v5, v6, v7, v8⟩ hm s hw
 refine thN (Ok_weak hw ?_)
 refine rg G ?_
 cases hm
 exact rt [64, 80, 96] []
noncomputable def zq73_M : MS (l1Cur × (List Int)) (Int × l1Cur) := ⟨.x .b .r, fun x => zq73 x.1 x.2, fun y => dV y.1, fun _ => [], fun _ y => [bxO y.2]⟩
theorem zq73_c {c list y} (hm : zq73 c list = some y) : zq73_M.C (c, list) y := zq73_M.c (c, list) hm
theorem zq73_ok : FnOK Tryz.prog 147 zq73_M.S := by
 refine fm tt zq73_M [fo zq93_ok] Tryz.call147 Tryz.func147 rfl Tryz.results147 Tryz.ntmps147 ?_
 rintro ⟨c, list⟩ y cx G hm
 have hm : zq73 c list = some y := hm
 unfold zq73 at hm
 refine rg G ?_
 obtain ⟨r, h, hm⟩ := obind hm
 obtain ⟨e, h1, hm⟩ := obind hm
 refine rs G (hN 3 list (hC 4 (zq93_c h) (hD 5 h1 h0))) ?_
 cases hm
 exact rt [] []
noncomputable def zq90_M : MS (l1Cur × (List ByteArray)) (ByteArray × l1Cur) := ⟨.x .b (.s 9), fun x => zq90 x.1 x.2, fun y => dV y.1, fun _ => [], fun x y => [bxO y.2, arO 9 x.2]⟩
theorem zq90_c {c list y} (hm : zq90 c list = some y) : zq90_M.C (c, list) y := zq90_M.c (c, list) hm
theorem zq90_ok : FnOK Tryz.prog 218 zq90_M.S := by
 refine fm tt zq90_M [fo zq93_ok] Tryz.call218 Tryz.func218 rfl Tryz.results218 Tryz.ntmps218 ?_
 rintro ⟨c, list⟩ y cx G hm
 have hm : zq90 c list = some y := hm
 unfold zq90 at hm
 refine rg G ?_
 obtain ⟨r, h, hm⟩ := obind hm
 obtain ⟨e, h1, hm⟩ := obind hm
 refine rs G (hN 3 list (hC 4 (zq93_c h) (hD 5 h1 (hE 6 h1 h0)))) ?_
 cases hm
 exact rt [] []
noncomputable def zq115_M : MS Network Network := ⟨.r, zq115, fun _ => .aggv [.own 0, .own 1], fun y => [arO 9 y.Stops, taO 170 [none, some 3, some 3] y.Lines], fun _ _ => []⟩
theorem zq115_c {n y} (hm : zq115 n = some y) : zq115_M.C n y := zq115_M.c n hm
theorem zq115_ok : FnOK Tryz.prog 231 zq115_M.S := by
 refine fm tt zq115_M [fo zq104_ok] Tryz.call231 Tryz.func231 rfl Tryz.results231 Tryz.ntmps231 ?_
 rintro n y cx G hm
 have hm : zq115 n = some y := hm
 unfold zq115 at hm
 refine rg G ?_
 obtain ⟨u, h, hm⟩ := obind hm
 refine rs G (hA 3 16 h h0) ?_
 refine Ok_seq (rg G (tl hm (fun v2 => ⟨[(2, .ref 16 0), (3, .ref 32 0)], [bX 16 [.dat (.sc (.slice none 0 0)), .dat (.sc (.slice none 0 0))], bX 32 [.own 48, .own 64], aX 48 9 (([] : List ByteArray) ++ n.Stops), tX 64 170 [none, some 3, some 3] v2 64 none], 96⟩) (fun v2 hm => ?_) ?_))
 ·refine Ok_block (lpP hm (fun (v, v1) => ⟨[(1, .ref 16 0), (2, .ref 32 0), (3, .ref 48 0), (4, dV v)], [bX 16 [dV n.Stops, dV n.Lines], bX 32 [.dat (.sc (.slice none 0 0)), .dat (.sc (.slice none 0 0))], bX 48 [.own 64, .own 80], aX 64 9 (([] : List ByteArray) ++ n.Stops), tX 80 170 [none, some 3, some 3] v1 80 none], 112⟩) (Wk_J G.hL ⟨[(1, []), (2, []), (3, []), (4, [])], [(16, 16, []), (32, 32, []), (48, 128, [.k, .o 80]), (64, 96, [])], [(80, 170, 3, [none, some 3, some 3])], 112⟩ (by kernel_rfl)) ?_)
  rintro ⟨v, v1⟩ r0 hb hm
  rw [zq115_L1] at hm
  refine Ok_seq (rs G (hN 3 n.Lines h0) ?_)
  refine cd hm (fun hm => ?_) (fun hm => ?_)
  ·refine X_skip (thN (Ok_seq (Ok_block ?_)))
   obtain ⟨e3, h7, hm⟩ := obind hm
   obtain ⟨e4, h8, hm⟩ := obind hm
   obtain ⟨r2, h9, hm⟩ := obind hm
   obtain ⟨e5, h10, hm⟩ := obind hm
   obtain ⟨r3, h11, hm⟩ := obind hm
   obtain ⟨u2, h12, hm⟩ := obind hm
   refine de G [(23, [416, 528]), (24, [80, 560]), (26, [48, 576])] (hD 5 h7 (hD 11 h8 (hC 14 (zq104_c h9) (hD 18 h10 (hC 21 (zq104_c h11) (hP (nodupB_ok (l := [416, 528]) rfl) (hA 24 64 h12 h0))))))) ?_
   exact ibN (thN (rh G (wL G hm)))
  ·exact Ok_exit (thE (thE (ibE (wD G hm hb))))
 rintro v2 hm s hw
 refine thN (Ok_weak hw ?_)
 refine rg G ?_
 cases hm
 exact rt [48, 64] []
noncomputable def zq87_M : MS l1Cur (Network × l1Cur) := ⟨.b, zq87, fun _ => .aggv [.own 0, .own 1], fun y => [arO 9 y.1.Stops, taO 170 [none, some 3, some 3] y.1.Lines], fun _ y => [bxO y.2]⟩
theorem zq87_c {c y} (hm : zq87 c = some y) : zq87_M.C c y := zq87_M.c c hm
theorem zq87_ok : FnOK Tryz.prog 204 zq87_M.S := by
 refine fm tt zq87_M [fo zq93_ok, fo zq103_ok, fo zq85_ok, fo zq91_ok, fo zq108_ok, fo zq115_ok] Tryz.call204 Tryz.func204 rfl Tryz.results204 Tryz.ntmps204 ?_
 rintro c y cx G hm
 have hm : zq87 c = some y := hm
 unfold zq87 at hm
 refine rg G ?_
 obtain ⟨r, h, hm⟩ := obind hm
 refine rs G (hC 1 (zq93_c h) h0) ?_
 obtain ⟨u, h1, hm⟩ := obind hm
 refine rs G (hO 2 (.fz [96] [] []) (hU 2 h1 h0)) ?_
 refine Ok_seq ?_
 obtain ⟨r1, h2, hm⟩ := obind hm
 refine rs G (hC 1 (zq93_c h2) h0) ?_
 refine tl hm (fun (v4, v5, v6, v7) => ⟨[(0, .ref 0 0), (2, .ref 32 0), (4, .ref 48 0)], [bX 0 [dV v4, dV v5, kV .u64 v6], bX 32 [.dat (.sc (.slice none 0 0)), .dat (.sc (.slice none 0 0))], bX 48 [dV ((([(str [112, 111, 114, 116]), (str [109, 105, 108, 108]), (str [112, 97, 114, 107]), (str [104, 97, 108, 108]), (str [100, 111, 99, 107]), (str [102, 97, 105, 114])] : List ByteArray).take (w64 (2 + r.1)).toNat).drop (0 : Int).toNat), .own 64], aX 64 170 v7], 96⟩) (fun vv1 hm => ?_) ?_
 ·refine Ok_block (lpP hm (fun (x, v, v1, v2, v3) => ⟨[(0, .ref 0 0), (2, .ref 32 0), (3, dV (w64 (2 + r.1))), (4, .ref 48 0), (5, dV x)], [bX 0 [dV v, dV v1, kV .u64 v2], bX 32 [.dat (.sc (.slice none 0 0)), .dat (.sc (.slice none 0 0))], bX 48 [dV ((([(str [112, 111, 114, 116]), (str [109, 105, 108, 108]), (str [112, 97, 114, 107]), (str [104, 97, 108, 108]), (str [100, 111, 99, 107]), (str [102, 97, 105, 114])] : List ByteArray).take (w64 (2 + r.1)).toNat).drop (0 : Int).toNat), .own 64], aX 64 170 v3], 96⟩) (Wk_J G.hL ⟨[(0, []), (2, []), (3, []), (4, []), (5, [])], [(0, 0, []), (32, 16, []), (48, 160, [.k, .o 64])], [(64, 170, 3, [])], 96⟩ (by kernel_rfl)) ?_)
  rintro ⟨x, v, v1, v2, v3⟩ r0 hb hm
  rw [zq87_L1] at hm
  refine Ok_seq (rg G (cd hm (fun hm => ?_) (fun hm => ?_)))
  ·refine X_skip (thN (Ok_seq (Ok_block ?_)))
   obtain ⟨r4, h7, hm⟩ := obind hm
   obtain ⟨u3, h8, hm⟩ := obind hm
   obtain ⟨r5, h9, hm⟩ := obind hm
   obtain ⟨u4, h10, hm⟩ := obind hm
   refine de G [(7, [0]), (8, []), (9, [64, 256]), (11, [48, 272])] (hC 4 (zq103_c h7) (hP (cat_p (chk_t h8)) (hC 7 (zq85_c h9) (hA 9 64 h10 h0)))) ?_
   exact ibN (thN (rh G (wL G hm)))
  ·exact Ok_exit (thE (thE (ibE (wD G hm hb))))
 rintro ⟨v4, v5, v6, v7⟩ hm s hw
 refine thN (Ok_weak hw ?_)
 refine jn hm (fun (v8, v9, v10, v11) => ⟨[(0, .ref 0 0), (2, .ref 32 0), (4, .ref 48 0)], [bX 0 [dV v8, dV v9, kV .u64 v10], bX 32 [.dat (.sc (.slice none 0 0)), .dat (.sc (.slice none 0 0))], bX 48 [dV ((([(str [112, 111, 114, 116]), (str [109, 105, 108, 108]), (str [112, 97, 114, 107]), (str [104, 97, 108, 108]), (str [100, 111, 99, 107]), (str [102, 97, 105, 114])] : List ByteArray).take (w64 (2 + r.1)).toNat).drop (0 : Int).toNat), .own 64], aX 64 170 v11], 96⟩) (fun vv hm => ?_) ?_
 ·obtain ⟨r6, h11, hm⟩ := obind hm
  refine rs G (hC 1 (zq91_c h11) h0) ?_
  refine cd hm (fun hm => ?_) (fun hm => ?_)
  ·obtain ⟨e, h12, hm⟩ := obind hm
   refine rs G (hD 2 h12 (hE 3 h12 h0)) ?_
   obtain ⟨r9, h16, hm⟩ := obind hm
   obtain ⟨r10, h17, hm⟩ := obind hm
   obtain ⟨u6, h18, hm⟩ := obind hm
   refine de G [(9, []), (10, [64, 368]), (12, [48, 384])] (hC 4 (zq108_c h16) (hC 7 (zq108_c h17) (hA 10 64 h18 h0))) ?_
   exact wJ G hm
  ·exact X_skip (wJ G hm)
 rintro ⟨v8, v9, v10, v11⟩ hm
 obtain ⟨r11, h19, hm⟩ := obind hm
 refine rs G (hO 1 (.fz [64] [] []) (hC 1 (zq115_c h19) h0)) ?_
 cases hm
 exact rt [112, 113] []
noncomputable def zq74_M : MS (l1Cur × (List Int)) (Int × l1Cur) := ⟨.x .b (.s 3), fun x => zq74 x.1 x.2, fun y => dV y.1, fun _ => [], fun x y => [bxO y.2, arO 3 x.2]⟩
theorem zq74_c {c list y} (hm : zq74 c list = some y) : zq74_M.C (c, list) y := zq74_M.c (c, list) hm
theorem zq74_ok : FnOK Tryz.prog 147 zq74_M.S := by
 refine fm tt zq74_M [fo zq93_ok] Tryz.call147 Tryz.func147 rfl Tryz.results147 Tryz.ntmps147 ?_
 rintro ⟨c, list⟩ y cx G hm
 have hm : zq74 c list = some y := hm
 unfold zq74 at hm
 refine rg G ?_
 obtain ⟨r, h, hm⟩ := obind hm
 obtain ⟨e, h1, hm⟩ := obind hm
 refine rs G (hN 3 list (hC 4 (zq93_c h) (hD 5 h1 (hE 6 h1 h0)))) ?_
 cases hm
 exact rt [] []
noncomputable def zq75_M : MS l1Cur (Network × l1Cur) := ⟨.b, zq75, fun y => .aggv [.own 0, dV y.1.Lines], fun y => [arO 9 y.1.Stops], fun _ y => [bxO y.2]⟩
theorem zq75_c {c y} (hm : zq75 c = some y) : zq75_M.C c y := zq75_M.c c hm
theorem zq75_ok : FnOK Tryz.prog 179 zq75_M.S := by
 refine fm tt zq75_M [fo zq87_ok, fo zq93_ok, fo zq90_ok, fo zq74_ok, fo zq103_ok, fo zq84_ok] Tryz.call179 Tryz.func179 rfl Tryz.results179 Tryz.ntmps179 ?_
 rintro c y cx G hm
 have hm : zq75 c = some y := hm
 unfold zq75 at hm
 refine rg G ?_
 obtain ⟨r, h, hm⟩ := obind hm
 refine rs G (hC 1 (zq87_c h) h0) ?_
 obtain ⟨r1, h1, hm⟩ := obind hm
 refine rs G (hN 3 r.1.Lines (hC 4 (zq93_c h1) h0)) ?_
 obtain ⟨e, h2, hm⟩ := obind hm
 refine rs G (hD 3 h2 (hE 4 h2 h0)) ?_
 refine jF hm (fun (v, v1, v2, v3, v4, v5, v6) => ⟨[(0, .ref 0 0), (2, .ref 32 0), (3, .ref 48 0), (4, dV r1.1), (5, .ref 64 0)], [bX 0 [dV v, dV v1, kV .u64 v2], bX 32 [.dat (.sc (.slice none 0 0)), .dat (.sc (.slice none 0 0))], bX 48 [.own 80, .own 96], bX 64 [dV v3, .row 96 96 r1.1.toNat 1, .own 112], aX 80 9 v4, tX 96 170 [none, some 3, some 3] v5 96 (some (r1.1.toNat, 2)), aX 112 3 v6], 144⟩) (fun v17 hr hm => ?_) ?_
 ·obtain ⟨r2, h3, hm⟩ := obind hm
  refine rs G (hC 1 (zq93_c h3) h0) ?_
  refine Ok_block (rg G (cd hm (fun hm => ?_) (fun hm => ?_)))
  ·obtain ⟨r4, h6, hm⟩ := obind hm
   obtain ⟨e2, h7, hm⟩ := obind hm
   refine de G [(4, [0, 416]), (6, [48])] (hC 4 (zq90_c h6) (hD 5 h7 (hS 6 h7 r4.1 h0))) ?_
   exact ibN (wFp hm (Wk.trans (Wk_S (.c 272 2) (Enc.e e) (.cons (idx_m2 (f := Enc.e) (l := r.1.Lines) (i := r1.1) h2) .nil) (by kernel_rfl)) (Wk_J G.hL ⟨[(0, []), (2, []), (3, []), (4, []), (5, [])], [(0, 0, []), (32, 16, []), (48, 64, []), (64, 272, []), (80, 48, []), (96, 49, []), (112, 480, [])], [], 144⟩ (by kernel_rfl))))
  ·refine rg G (cd hm (fun hm => ?_) (fun hm => ?_))
   ·obtain ⟨r5, h8, hm⟩ := obind hm
    refine re G (hC 2 (zq90_c h8) h0) ?_
    exact ibN (wFp hm (Wk.trans (Wk_S (.c 272 2) (Enc.e e) (.cons (idx_m2 (f := Enc.e) (l := r.1.Lines) (i := r1.1) h2) .nil) (by kernel_rfl)) (Wk_J G.hL ⟨[(0, []), (2, []), (3, []), (4, []), (5, [])], [(0, 0, []), (32, 16, []), (48, 64, []), (64, 272, []), (80, 48, []), (96, 49, []), (112, 480, [])], [], 144⟩ (by kernel_rfl))))
   ·refine rg G (cd hm (fun hm => ?_) (fun hm => ?_))
    ·obtain ⟨r8, h12, hm⟩ := obind hm
     obtain ⟨r9, h13, hm⟩ := obind hm
     obtain ⟨e4, h14, hm⟩ := obind hm
     refine de G [(6, [0]), (8, [0]), (11, [49])] (hO 5 (.dn (Enc.e e) (e.Stops.length : Int)) (hP (idx_m2 (f := Enc.e) h2) (hP (len_m Enc.e e.Stops) (hC 6 (zq93_c h12) (hC 8 (zq93_c h13) (hE 10 h2 (hP (idx_b (f := Enc.e) h14) (hO 11 (.sd2 (Enc.e e) (Enc.e e4) (List.map Enc.e (e.Stops.set r8.1.toNat (w64 (r9.1 - 1)))) (List.map Enc.e (r.1.Lines.set r1.1.toNat (⟨e.Name, (e.Stops.set r8.1.toNat (w64 (r9.1 - 1))), e.Runs⟩ : Line)))) (hP (idx_m2 (f := Enc.e) h2) (hP (idx_m2 (f := Enc.e) h14) (hP (set_m Enc.e e.Stops r8.1.toNat (w64 (r9.1 - 1))) (hP (set_m Enc.e r.1.Lines r1.1.toNat (⟨e.Name, (e.Stops.set r8.1.toNat (w64 (r9.1 - 1))), e.Runs⟩ : Line)) h0)))))))))))) ?_
     exact ibN (wFp hm (Wk.trans (Wk_S (.c 272 2) (Enc.e (⟨e.Name, (e.Stops.set r8.1.toNat (w64 (r9.1 - 1))), e.Runs⟩ : Line)) (.cons (idx_m2 (f := Enc.e) (l := (r.1.Lines.set r1.1.toNat (⟨e.Name, (e.Stops.set r8.1.toNat (w64 (r9.1 - 1))), e.Runs⟩ : Line))) (i := r1.1) (idx_set (y := (⟨e.Name, (e.Stops.set r8.1.toNat (w64 (r9.1 - 1))), e.Runs⟩ : Line)) h2)) .nil) (by kernel_rfl)) (Wk_J G.hL ⟨[(0, []), (2, []), (3, []), (4, []), (5, [])], [(0, 0, []), (32, 16, []), (48, 64, []), (64, 272, []), (80, 48, []), (96, 49, []), (112, 624, [])], [], 144⟩ (by kernel_rfl))))
    ·refine rg G (cd hm (fun hm => ?_) (fun hm => ?_))
     ·obtain ⟨r12, h18, hm⟩ := obind hm
      obtain ⟨r13, h19, hm⟩ := obind hm
      obtain ⟨e6, h20, hm⟩ := obind hm
      refine de G [(6, [0]), (9, [0, 592]), (11, [49])] (hO 5 (.dn (Enc.e e) (e.Runs.length : Int)) (hP (idx_m2 (f := Enc.e) h2) (hP (len_m Enc.e e.Runs) (hC 6 (zq93_c h18) (hC 9 (zq74_c h19) (hE 10 h2 (hP (idx_b (f := Enc.e) h20) (hO 11 (.sd2 (Enc.e e) (Enc.e e6) (List.map Enc.e (e.Runs.set r12.1.toNat r13.1)) (List.map Enc.e (r.1.Lines.set r1.1.toNat (⟨e.Name, e.Stops, (e.Runs.set r12.1.toNat r13.1)⟩ : Line)))) (hP (idx_m2 (f := Enc.e) h2) (hP (idx_m2 (f := Enc.e) h20) (hP (set_m Enc.e e.Runs r12.1.toNat r13.1) (hP (set_m Enc.e r.1.Lines r1.1.toNat (⟨e.Name, e.Stops, (e.Runs.set r12.1.toNat r13.1)⟩ : Line)) h0)))))))))))) ?_
      exact ibN (wFp hm (Wk.trans (Wk_S (.c 272 2) (Enc.e (⟨e.Name, e.Stops, (e.Runs.set r12.1.toNat r13.1)⟩ : Line)) (.cons (idx_m2 (f := Enc.e) (l := (r.1.Lines.set r1.1.toNat (⟨e.Name, e.Stops, (e.Runs.set r12.1.toNat r13.1)⟩ : Line))) (i := r1.1) (idx_set (y := (⟨e.Name, e.Stops, (e.Runs.set r12.1.toNat r13.1)⟩ : Line)) h2)) .nil) (by kernel_rfl)) (Wk_J G.hL ⟨[(0, []), (2, []), (3, []), (4, []), (5, [])], [(0, 0, []), (32, 16, []), (48, 64, []), (64, 272, []), (80, 48, []), (96, 49, []), (112, 656, [])], [], 144⟩ (by kernel_rfl))))
     ·refine rg G (cd hm (fun hm => ?_) (fun hm => ?_))
      ·obtain ⟨u, h21, hm⟩ := obind hm
       refine re G (hO 3 (.sd (Enc.e e) (List.map Enc.e (e.Runs ++ ([3] : List Int)))) (hP (idx_m2 (f := Enc.e) h2) (hP (app_p (f := Enc.e) (g := Enc.e) (l := e.Runs) (r := ([3] : List Int)) (b := 8) (chk_t h21) rfl) (hP (app_m Enc.e e.Runs ([3] : List Int)) h0)))) ?_
       exact ibN (wF G hm)
      ·refine rg G (cd hm (fun hm => ?_) (fun hm => ?_))
       ·refine rg G (rg G ?_)
        have hm := eR hm hr
        cases hm
        exact rt [48] []
       ·refine rg G (cd hm (fun hm => ?_) (fun hm => ?_))
        ·refine Ok_seq (rg G (tl hm (fun (v13, v14, v15, v16) => ⟨[(0, .ref 0 0), (2, .ref 32 0), (3, .ref 48 0)], [bX 0 [dV v13, dV v14, kV .u64 v15], bX 32 [.dat (.sc (.slice none 0 0)), .dat (.sc (.slice none 0 0))], bX 48 [.own 64, .own 80], aX 64 9 r.1.Stops, tX 80 170 [none, some 3, some 3] v16 80 none], 112⟩) (fun vv hm => ?_) ?_))
         ·refine Ok_block (lp G hm (fun (v7, v8, v9, v10, v11) => ⟨[(0, .ref 0 0), (2, .ref 32 0), (3, .ref 48 0), (6, dV v7)], [bX 0 [dV v8, dV v9, kV .u64 v10], bX 32 [.dat (.sc (.slice none 0 0)), .dat (.sc (.slice none 0 0))], bX 48 [.own 64, .own 80], aX 64 9 r.1.Stops, tX 80 170 [none, some 3, some 3] v11 80 none], 112⟩) ?_)
          rintro ⟨v7, v8, v9, v10, v11⟩ r0 hb hm
          rw [zq75_L1] at hm
          refine Ok_seq ?_
          obtain ⟨r16, h23, hm⟩ := obind hm
          refine jn hm (fun v12 => ⟨[(0, .ref 0 0), (2, .ref 32 0), (3, .ref 48 0), (6, dV v7), (85, dV v12)], [bX 0 [dV r16.2.code_, dV r16.2.at_, kV .u64 r16.2.seed_.v], bX 32 [.dat (.sc (.slice none 0 0)), .dat (.sc (.slice none 0 0))], bX 48 [.own 64, .own 80], aX 64 9 r.1.Stops, tX 80 170 [none, some 3, some 3] v11 80 none], 112⟩) (fun v12 hm => ?_) ?_
          ·rcases bf hm with ⟨hb1, hm⟩ | ⟨hb1, hm⟩
           ·refine de G [(4, [0])] (hN 2 v11 (hC 4 (zq93_c h23) (hO 7 (.b true) (hP hb1 h0)))) ?_
            exact wJ G hm
           ·refine de G [(4, [0])] (hN 2 v11 (hC 4 (zq93_c h23) (hO 7 (.b false) (hP hb1 h0)))) ?_
            exact wJ G hm
          rintro v12 hm
          refine cd hm (fun hm => ?_) (fun hm => ?_)
          ·refine X_skip (thN (Ok_seq (Ok_block ?_)))
           obtain ⟨r19, h28, hm⟩ := obind hm
           obtain ⟨u3, h29, hm⟩ := obind hm
           obtain ⟨r20, h30, hm⟩ := obind hm
           obtain ⟨u4, h31, hm⟩ := obind hm
           refine de G [(9, [0]), (10, [256, 257]), (11, [80, 272]), (13, [48, 288])] (hC 4 (zq103_c h28) (hP (cat_p (chk_t h29)) (hN 8 r.1.Stops (hC 9 (zq84_c h30) (hP (nodupB_ok (l := [256, 257]) rfl) (hA 11 64 h31 h0)))))) ?_
           exact ibN (thN (rh G (wL G hm)))
          ·exact Ok_exit (thE (thE (ibE (wD G hm hb))))
         rintro ⟨v13, v14, v15, v16⟩ hm s hw
         refine thN (Ok_weak hw ?_)
         refine rg G ?_
         have hm := eR hm hr
         cases hm
         exact rt [64] []
        ·exact X_skip (ibN (wFp hm (Wk.trans (Wk_S (.c 272 2) (Enc.e e) (.cons (idx_m2 (f := Enc.e) (l := r.1.Lines) (i := r1.1) h2) .nil) (by kernel_rfl)) (Wk_J G.hL ⟨[(0, []), (2, []), (3, []), (4, []), (5, [])], [(0, 0, []), (32, 16, []), (48, 64, []), (64, 272, []), (80, 48, []), (96, 49, []), (112, 560, [])], [], 144⟩ (by kernel_rfl)))))
 rintro ⟨v, v1, v2, v3, v4, v5, v6⟩ hm
 obtain ⟨e9, h32, hm⟩ := obind hm
 refine rs G (hD 4 h32 (hS 5 h32 (⟨v3, e9.Stops, v6⟩ : Line) (hP (Eq.refl r1.1.toNat) (hP (Eq.refl r1.1.toNat) h0)))) ?_
 refine rg G ?_
 cases hm
 exact rt [80] []
noncomputable def zq77_M : MS l1Cur (Timetable × l1Cur) := ⟨.b, zq77, fun y => .aggv [.own 0, dV y.1.Network.Lines, .own 1], fun y => [arO 9 y.1.Network.Stops, arO 45 y.1.Trips], fun _ y => [bxO y.2]⟩
theorem zq77_c {c y} (hm : zq77 c = some y) : zq77_M.C c y := zq77_M.c c hm
theorem zq77_ok : FnOK Tryz.prog 106 zq77_M.S := by
 refine fm tt zq77_M [fo zq95_ok, fo zq93_ok, fo zq73_ok, fo zq75_ok] Tryz.call106 Tryz.func106 rfl Tryz.results106 Tryz.ntmps106 ?_
 rintro c y cx G hm
 have hm : zq77 c = some y := hm
 unfold zq77 at hm
 refine rg G ?_
 obtain ⟨r, h, hm⟩ := obind hm
 refine rs G (hC 1 (zq95_c h) h0) ?_
 refine Ok_seq (rs G (hN 2 r.1.Trips h0) ?_)
 refine cd hm (fun hm => ?_) (fun hm => ?_)
 ·refine rg G ?_
  cases hm
  exact rt [48, 50] []
 ·refine X_skip (thN ?_)
  obtain ⟨r1, h1, hm⟩ := obind hm
  refine rs G (hN 3 r.1.Trips (hC 4 (zq93_c h1) h0)) ?_
  obtain ⟨e, h2, hm⟩ := obind hm
  refine rs G (hD 3 h2 (hE 4 h2 h0)) ?_
  refine jF hm (fun (v, v1, v2, v3, v4, v5, v6, v7) => ⟨[(0, .ref 0 0), (2, .ref 32 0), (3, .ref 48 0), (4, dV r1.1), (5, .ref 64 0)], [bX 0 [dV v, dV v1, kV .u64 v2], bX 32 [.dat (.sc (.slice none 0 0)), .dat (.sc (.slice none 0 0)), .dat (.sc (.slice none 0 0))], bX 48 [.own 80, dV v3, .own 96], bX 64 [dV v4, dV v5, dV v6], aX 80 9 v7, aX 96 45 r.1.Trips], 128⟩) (fun v18 hr hm => ?_) ?_
  ·obtain ⟨r2, h3, hm⟩ := obind hm
   refine rs G (hC 1 (zq93_c h3) h0) ?_
   refine Ok_block (rg G (cd hm (fun hm => ?_) (fun hm => ?_)))
   ·obtain ⟨r3, h4, hm⟩ := obind hm
    refine re G (hO 2 (.fz [448] [] []) (hC 2 (zq73_c h4) h0)) ?_
    exact ibN (wF G hm)
   ·refine rg G (cd hm (fun hm => ?_) (fun hm => ?_))
    ·obtain ⟨r4, h5, hm⟩ := obind hm
     refine re G (hC 1 (zq93_c h5) h0) ?_
     exact ibN (wF G hm)
    ·refine rg G (cd hm (fun hm => ?_) (fun hm => ?_))
     ·obtain ⟨r5, h6, hm⟩ := obind hm
      refine re G (hO 2 (.fz [512] [] []) (hC 2 (zq73_c h6) h0)) ?_
      exact ibN (wF G hm)
     ·refine rg G (cd hm (fun hm => ?_) (fun hm => ?_))
      ·obtain ⟨r6, h7, hm⟩ := obind hm
       refine re G (hC 1 (zq75_c h7) h0) ?_
       exact ibN (wF G hm)
      ·refine rg G (cd hm (fun hm => ?_) (fun hm => ?_))
       ·refine Ok_seq (rg G (tl hm (fun (v14, v15, v16, v17) => ⟨[(0, .ref 0 0), (2, .ref 32 0), (3, .ref 48 0)], [bX 0 [dV v14, dV v15, kV .u64 v16], bX 32 [.dat (.sc (.slice none 0 0)), .dat (.sc (.slice none 0 0)), .dat (.sc (.slice none 0 0))], bX 48 [.own 64, .own 80, .own 96], aX 64 9 r.1.Network.Stops, aX 80 170 r.1.Network.Lines, aX 96 45 v17], 128⟩) (fun vv hm => ?_) ?_))
        ·refine Ok_block (lp G hm (fun (v8, v9, v10, v11, v12) => ⟨[(0, .ref 0 0), (2, .ref 32 0), (3, .ref 48 0), (6, dV v8)], [bX 0 [dV v9, dV v10, kV .u64 v11], bX 32 [.dat (.sc (.slice none 0 0)), .dat (.sc (.slice none 0 0)), .dat (.sc (.slice none 0 0))], bX 48 [.own 64, .own 80, .own 96], aX 64 9 r.1.Network.Stops, aX 80 170 r.1.Network.Lines, aX 96 45 v12], 128⟩) ?_)
         rintro ⟨v8, v9, v10, v11, v12⟩ r0 hb hm
         rw [zq77_L1] at hm
         refine Ok_seq ?_
         obtain ⟨r8, h9, hm⟩ := obind hm
         refine jn hm (fun v13 => ⟨[(0, .ref 0 0), (2, .ref 32 0), (3, .ref 48 0), (6, dV v8), (61, dV v13)], [bX 0 [dV r8.2.code_, dV r8.2.at_, kV .u64 r8.2.seed_.v], bX 32 [.dat (.sc (.slice none 0 0)), .dat (.sc (.slice none 0 0)), .dat (.sc (.slice none 0 0))], bX 48 [.own 64, .own 80, .own 96], aX 64 9 r.1.Network.Stops, aX 80 170 r.1.Network.Lines, aX 96 45 v12], 128⟩) (fun v13 hm => ?_) ?_
         ·rcases bf hm with ⟨hb1, hm⟩ | ⟨hb1, hm⟩
          ·refine de G [(4, [0])] (hN 2 v12 (hC 4 (zq93_c h9) (hO 7 (.b true) (hP hb1 h0)))) ?_
           exact wJ G hm
          ·refine de G [(4, [0])] (hN 2 v12 (hC 4 (zq93_c h9) (hO 7 (.b false) (hP hb1 h0)))) ?_
           exact wJ G hm
         rintro v13 hm
         refine cd hm (fun hm => ?_) (fun hm => ?_)
         ·refine X_skip (thN (Ok_seq (Ok_block ?_)))
          obtain ⟨u, h10, hm⟩ := obind hm
          refine re G (hA 8 24 h10 h0) ?_
          exact ibN (thN (rh G (wL G hm)))
         ·exact Ok_exit (thE (thE (ibE (wD G hm hb))))
        rintro ⟨v14, v15, v16, v17⟩ hm s hw
        refine thN (Ok_weak hw ?_)
        refine rg G ?_
        have hm := eR hm hr
        cases hm
        exact rt [64, 96] []
       ·exact X_skip (ibN (wF G hm))
  rintro ⟨v, v1, v2, v3, v4, v5, v6, v7⟩ hm
  obtain ⟨e2, h11, hm⟩ := obind hm
  refine rs G (hD 4 h11 (hS 5 h11 (⟨v4, v5, v6⟩ : Trip) h0)) ?_
  refine rg G ?_
  cases hm
  exact rt [80, 96] []
noncomputable def zq102_M : MS (Int × Int) Int := ⟨.x .r .r, fun x => zq102 x.1 x.2, fun y => dV y, fun _ => [], fun _ _ => []⟩
theorem zq102_c {a b y} (hm : zq102 a b = some y) : zq102_M.C (a, b) y := zq102_M.c (a, b) hm
theorem zq102_ok : FnOK Tryz.prog 153 zq102_M.S := by
 refine fm tt zq102_M [] Tryz.call153 Tryz.func153 rfl Tryz.results153 Tryz.ntmps153 ?_
 rintro ⟨a, b⟩ y cx G hm
 have hm : zq102 a b = some y := hm
 unfold zq102 at hm
 refine rg G (Ok_seq (rg G (cd hm (fun hm => ?_) (fun hm => ?_))))
 ·refine rg G ?_
  cases hm
  exact rt [] []
 ·refine X_skip (thN (rg G ?_))
  cases hm
  exact rt [] []
noncomputable def zq97_M : MS l1Cur (Timetable × l1Cur) := ⟨.b, zq97, fun y => .aggv [.own 0, dV y.1.Network.Lines, .own 1], fun y => [arO 9 y.1.Network.Stops, arO 45 y.1.Trips], fun _ y => [bxO y.2]⟩
theorem zq97_c {c y} (hm : zq97 c = some y) : zq97_M.C c y := zq97_M.c c hm
theorem zq97_ok : FnOK Tryz.prog 141 zq97_M.S := by
 refine fm tt zq97_M [fo zq91_ok, fo zq77_ok, fo zq86_ok, fo zq93_ok, fo zq102_ok] Tryz.call141 Tryz.func141 rfl Tryz.results141 Tryz.ntmps141 ?_
 rintro c y cx G hm
 have hm : zq97 c = some y := hm
 unfold zq97 at hm
 refine rg G (Ok_seq ?_)
 obtain ⟨r, h, hm⟩ := obind hm
 refine rs G (hC 1 (zq91_c h) h0) ?_
 refine cd hm (fun hm => ?_) (fun hm => ?_)
 ·obtain ⟨r1, h1, hm⟩ := obind hm
  refine rs G (hC 1 (zq77_c h1) h0) ?_
  cases hm
  exact rt [80, 81] []
 ·refine X_skip (thN ?_)
  obtain ⟨r2, h2, hm⟩ := obind hm
  refine rs G (hC 1 (zq86_c h2) h0) ?_
  refine Ok_seq ?_
  obtain ⟨r3, h3, hm⟩ := obind hm
  refine rs G (hC 1 (zq93_c h3) h0) ?_
  refine tl hm (fun (v4, v5, v6, v7) => ⟨[(0, .ref 0 0), (2, .ref 32 0), (3, .ref 48 0)], [bX 0 [dV v4, dV v5, kV .u64 v6], bX 32 [.dat (.sc (.slice none 0 0)), .dat (.sc (.slice none 0 0)), .dat (.sc (.slice none 0 0))], bX 48 [.own 64, .own 80, .own 96], aX 64 9 r2.1.Stops, aX 80 170 r2.1.Lines, aX 96 45 v7], 128⟩) (fun vv hm => ?_) ?_
  ·refine Ok_block (lpP hm (fun (i, v, v1, v2, v3) => ⟨[(0, .ref 0 0), (2, .ref 32 0), (3, .ref 48 0), (4, dV i)], [bX 0 [dV v, dV v1, kV .u64 v2], bX 32 [.dat (.sc (.slice none 0 0)), .dat (.sc (.slice none 0 0)), .dat (.sc (.slice none 0 0))], bX 48 [.own 64, .own 80, .own 96], aX 64 9 r2.1.Stops, aX 80 170 r2.1.Lines, aX 96 45 v3], 128⟩) (Wk_J G.hL ⟨[(0, []), (2, []), (3, []), (4, [])], [(0, 0, []), (32, 16, []), (48, 112, [.k, .k, .o 96]), (64, 80, []), (80, 81, [])], [(96, 45, 3, [])], 128⟩ (by kernel_rfl)) ?_)
   rintro ⟨i, v, v1, v2, v3⟩ r0 hb hm
   rw [zq97_L1] at hm
   refine Ok_seq (rg G (cd hm (fun hm => ?_) (fun hm => ?_)))
   ·refine X_skip (thN (Ok_seq (Ok_block ?_)))
    obtain ⟨r7, h8, hm⟩ := obind hm
    obtain ⟨r8, h9, hm⟩ := obind hm
    obtain ⟨r9, h10, hm⟩ := obind hm
    obtain ⟨u1, h11, hm⟩ := obind hm
    refine de G [(11, [0]), (19, [0]), (21, [0]), (26, [96, 560]), (28, [48, 576])] (hN 4 v3 (hN 8 v3 (hC 11 (zq93_c h8) (hN 18 r2.1.Lines (hC 19 (zq93_c h9) (hC 21 (zq93_c h10) (hA 26 24 h11 h0))))))) ?_
    exact ibN (thN (rh G (wL G hm)))
   ·exact Ok_exit (thE (thE (ibE (wD G hm hb))))
  rintro ⟨v4, v5, v6, v7⟩ hm s hw
  refine thN (Ok_weak hw ?_)
  refine Ok_seq (rg G (tl hm (fun v9 => ⟨[(0, .ref 0 0), (2, .ref 32 0), (3, .ref 48 0)], [bX 0 [dV v4, dV v5, kV .u64 v6], bX 32 [.dat (.sc (.slice none 0 0)), .dat (.sc (.slice none 0 0)), .dat (.sc (.slice none 0 0))], bX 48 [.own 64, .own 80, .own 96], aX 64 9 r2.1.Stops, aX 80 170 r2.1.Lines, aX 96 45 v9], 128⟩) (fun v9 hm => ?_) ?_))
  ·refine Ok_block (lp G hm (fun (x, v8) => ⟨[(0, .ref 0 0), (2, .ref 32 0), (3, .ref 48 0), (5, dV x)], [bX 0 [dV v4, dV v5, kV .u64 v6], bX 32 [.dat (.sc (.slice none 0 0)), .dat (.sc (.slice none 0 0)), .dat (.sc (.slice none 0 0))], bX 48 [.own 64, .own 80, .own 96], aX 64 9 r2.1.Stops, aX 80 170 r2.1.Lines, aX 96 45 v8], 128⟩) ?_)
   rintro ⟨x, v8⟩ r0 hb1 hm
   rw [zq97_L2] at hm
   refine Ok_seq (rs G (hN 3 v8 h0) ?_)
   refine cd hm (fun hm => ?_) (fun hm => ?_)
   ·refine X_skip (thN (Ok_seq (Ok_block ?_)))
    obtain ⟨e, h12, hm⟩ := obind hm
    refine rs G (hD 3 h12 (hE 4 h12 h0)) ?_
    obtain ⟨e2, h15, hm⟩ := obind hm
    obtain ⟨r11, h16, hm⟩ := obind hm
    refine ds G [(12, [288])] (hD 6 h15 (hE 8 h15 (hC 10 (zq102_c h16) h0))) ?_
    obtain ⟨e3, h17, hm⟩ := obind hm
    refine re G (hD 4 h17 (hS 5 h17 (⟨r11, e.Line, e.Start⟩ : Trip) h0)) ?_
    exact ibN (thN (rh G (wL G hm)))
   ·exact Ok_exit (thE (thE (ibE (wD G hm hb1))))
  rintro v9 hm s1 hw1
  refine thN (Ok_weak hw1 ?_)
  refine rg G ?_
  cases hm
  exact rt [64, 96] []
noncomputable def zq81_M : MS (l1Cur × Network) (Fleet × l1Cur) := ⟨.x .b .r, fun x => zq81 x.1 x.2, fun y => dV y.1, fun _ => [], fun _ y => [bxO y.2]⟩
theorem zq81_c {c n y} (hm : zq81 c n = some y) : zq81_M.C (c, n) y := zq81_M.c (c, n) hm
theorem zq81_ok : FnOK Tryz.prog 142 zq81_M.S := by
 refine fm tt zq81_M [fo zq74_ok, fo zq102_ok, fo zq93_ok] Tryz.call142 Tryz.func142 rfl Tryz.results142 Tryz.ntmps142 ?_
 rintro ⟨c, n⟩ y cx G hm
 have hm : zq81 c n = some y := hm
 unfold zq81 at hm
 refine rg G ?_
 obtain ⟨r, h, hm⟩ := obind hm
 refine rs G (hC 2 (zq74_c h) h0) ?_
 refine Ok_seq (rg G (tl hm (fun (v13, v14, v15, v16) => ⟨[(0, .ref 0 0), (3, .ref 32 0), (4, .ref 48 0), (5, .ref 64 0)], [bX 0 [dV v13, dV v14, kV .u64 v15], bX 32 [dV n.Stops, dV n.Lines], bX 48 [.dat (.sc (.slice none 0 0)), kV .i64 0], bX 64 [.own 80, dV r.1], tX 80 35 [some 3] v16 80 none], 112⟩) (fun vv2 hm => ?_) ?_))
 ·refine Ok_block (lpP hm (fun (k, v, v1, v2, v3) => ⟨[(0, .ref 0 0), (3, .ref 32 0), (4, .ref 48 0), (5, .ref 64 0), (6, dV k)], [bX 0 [dV v, dV v1, kV .u64 v2], bX 32 [dV n.Stops, dV n.Lines], bX 48 [.dat (.sc (.slice none 0 0)), kV .i64 0], bX 64 [.own 80, dV r.1], tX 80 35 [some 3] v3 80 none], 112⟩) (Wk_J G.hL ⟨[(0, []), (3, []), (4, []), (5, []), (6, [])], [(0, 0, []), (32, 16, []), (48, 32, []), (64, 112, [.o 80])], [(80, 35, 1, [some 3])], 112⟩ (by kernel_rfl)) ?_)
  rintro ⟨k, v, v1, v2, v3⟩ r0 hb hm
  rw [zq81_L2] at hm
  refine Ok_seq (rs G (hN 3 n.Stops h0) ?_)
  refine cd hm (fun hm => ?_) (fun hm => ?_)
  ·refine X_skip (thN (Ok_seq (Ok_block (rg G (Ok_seq (rg G (tl hm (fun (v9, v10, v11, v12) => ⟨[(0, .ref 0 0), (3, .ref 32 0), (4, .ref 48 0), (5, .ref 64 0), (6, dV k), (7, .own 80)], [bX 0 [dV v9, dV v10, kV .u64 v11], bX 32 [dV n.Stops, dV n.Lines], bX 48 [.dat (.sc (.slice none 0 0)), kV .i64 0], bX 64 [.own 96, dV r.1], aX 80 3 v12, tX 96 35 [some 3] v3 96 none], 128⟩) (fun vv hm => ?_) ?_)))))))
   ·refine Ok_block (lp G hm (fun (v4, v5, v6, v7, v8) => ⟨[(0, .ref 0 0), (3, .ref 32 0), (4, .ref 48 0), (5, .ref 64 0), (6, dV k), (7, .own 80), (8, dV v4)], [bX 0 [dV v5, dV v6, kV .u64 v7], bX 32 [dV n.Stops, dV n.Lines], bX 48 [.dat (.sc (.slice none 0 0)), kV .i64 0], bX 64 [.own 96, dV r.1], aX 80 3 v8, tX 96 35 [some 3] v3 96 none], 128⟩) ?_)
    rintro ⟨v4, v5, v6, v7, v8⟩ r0 hb1 hm
    rw [zq81_L1] at hm
    refine Ok_seq (rs G (hN 3 n.Stops h0) ?_)
    refine cd hm (fun hm => ?_) (fun hm => ?_)
    ·refine X_skip (thN (Ok_seq (Ok_block ?_)))
     obtain ⟨r1, h1, hm⟩ := obind hm
     obtain ⟨r2, h2, hm⟩ := obind hm
     obtain ⟨u, h3, hm⟩ := obind hm
     refine re G (hC 7 (zq102_c h1) (hC 9 (zq93_c h2) (hA 13 8 h3 h0))) ?_
     exact ibN (thN (rh G (wL G hm)))
    ·exact Ok_exit (thE (thE (ibE (wD G hm hb1))))
   rintro ⟨v9, v10, v11, v12⟩ hm s hw
   refine thN (Ok_weak hw ?_)
   obtain ⟨u1, h4, hm⟩ := obind hm
   refine re G (hP (nodupB_ok (l := [80]) rfl) (hA 4 24 h4 h0)) ?_
   exact ibN (thN (rh G (wL G hm)))
  ·exact Ok_exit (thE (thE (ibE (wD G hm hb))))
 rintro ⟨v13, v14, v15, v16⟩ hm s1 hw1
 refine thN (Ok_weak hw1 ?_)
 refine jn hm (fun (v17, v18, v19, v20, v21) => ⟨[(0, .ref 0 0), (4, .ref 32 0), (5, .ref 48 0)], [bX 0 [dV v17, dV v18, kV .u64 v19], bX 32 [.dat (.sc (.slice none 0 0)), kV .i64 0], bX 48 [dV v20, dV v21]], 80⟩) (fun vv1 hm => ?_) ?_
 ·obtain ⟨r3, h5, hm⟩ := obind hm
  refine rs G (hC 1 (zq93_c h5) h0) ?_
  refine Ok_block (rg G (cd hm (fun hm => ?_) (fun hm => ?_)))
  ·obtain ⟨r4, h6, hm⟩ := obind hm
   refine re G (hC 2 (zq74_c h6) h0) ?_
   exact ibN (wJ G hm)
  ·refine rg G (cd hm (fun hm => ?_) (fun hm => ?_))
   ·obtain ⟨e, h7, hm⟩ := obind hm
    obtain ⟨e1, h8, hm⟩ := obind hm
    refine re G (hD 2 h7 (hE 3 h7 (hE 4 h7 (hP (idx_b (f := Enc.e) h8) (hO 5 (.sd2 (Enc.e e) (Enc.e e1) (List.map Enc.e (e.set (0 : Int).toNat 1)) (List.map Enc.e (v16.set (0 : Int).toNat (e.set (0 : Int).toNat 1)))) (hP (idx_m2 (f := Enc.e) h7) (hP (idx_m2 (f := Enc.e) h8) (hP (set_m Enc.e e (0 : Int).toNat 1) (hP (set_m Enc.e v16 (0 : Int).toNat (e.set (0 : Int).toNat 1)) h0))))))))) ?_
    exact ibN (wJ G hm)
   ·refine rg G (cd hm (fun hm => ?_) (fun hm => ?_))
    ·obtain ⟨e4, h12, hm⟩ := obind hm
     obtain ⟨r6, h13, hm⟩ := obind hm
     obtain ⟨e5, h14, hm⟩ := obind hm
     refine de G [(10, [0, 384]), (12, [80])] (hD 2 h12 (hE 3 h12 (hN 6 n.Stops (hC 10 (zq74_c h13) (hE 11 h12 (hP (idx_b (f := Enc.e) h14) (hO 12 (.sd2 (Enc.e e4) (Enc.e e5) (List.map Enc.e (e4.set (w64 ((n.Stops.length : Int) - 1)).toNat r6.1)) (List.map Enc.e (v16.set (0 : Int).toNat (e4.set (w64 ((n.Stops.length : Int) - 1)).toNat r6.1)))) (hP (idx_m2 (f := Enc.e) h12) (hP (idx_m2 (f := Enc.e) h14) (hP (set_m Enc.e e4 (w64 ((n.Stops.length : Int) - 1)).toNat r6.1) (hP (set_m Enc.e v16 (0 : Int).toNat (e4.set (w64 ((n.Stops.length : Int) - 1)).toNat r6.1)) h0))))))))))) ?_
     exact ibN (wJ G hm)
    ·refine rg G (cd hm (fun hm => ?_) (fun hm => ?_))
     ·obtain ⟨u2, h15, hm⟩ := obind hm
      refine re G (hO 2 (.fz [80] [] []) (hV 2 h15 h0)) ?_
      exact ibN (wJ G hm)
     ·exact X_skip (ibN (wJ G hm))
 rintro ⟨v17, v18, v19, v20, v21⟩ hm
 refine rg G ?_
 cases hm
 exact rt [] []
noncomputable def zq100_M : MS (Int × Int × Int) Bool := ⟨.x .r (.x .r .r), fun x => zq100 x.1 x.2.1 x.2.2, fun y => dV y, fun _ => [], fun _ _ => []⟩
theorem zq100_c {x a b y} (hm : zq100 x a b = some y) : zq100_M.C (x, a, b) y := zq100_M.c (x, a, b) hm
theorem zq100_ok : FnOK Tryz.prog 101 zq100_M.S := by
 refine fm tt zq100_M [] Tryz.call101 Tryz.func101 rfl Tryz.results101 Tryz.ntmps101 ?_
 rintro ⟨x, a, b⟩ y cx G hm
 have hm : zq100 x a b = some y := hm
 unfold zq100 at hm
 refine rg G (jn hm (fun v => ⟨[(6, dV v)], [], 32⟩) (fun v hm => ?_) ?_)
 ·rcases bf hm with ⟨hb, hm⟩ | ⟨hb, hm⟩
  ·refine re G (hO 3 (.b true) (hP hb h0)) ?_
   exact wJ G hm
  ·refine re G (hO 3 (.b false) (hP hb h0)) ?_
   exact wJ G hm
 rintro v hm
 cases hm
 exact rt [] []
noncomputable def zq113_M : MS ByteArray Bool := ⟨.r, zq113, fun y => dV y, fun _ => [], fun _ _ => []⟩
theorem zq113_c {s y} (hm : zq113 s = some y) : zq113_M.C s y := zq113_M.c s hm
theorem zq113_ok : FnOK Tryz.prog 212 zq113_M.S := by
 refine fm tt zq113_M [fo zq100_ok] Tryz.call212 Tryz.func212 rfl Tryz.results212 Tryz.ntmps212 ?_
 rintro s y cx G hm
 have hm : zq113 s = some y := hm
 unfold zq113 at hm
 refine rg G (Ok_seq ?_)
 obtain ⟨r, h, hm⟩ := obind hm
 refine jn hm (fun v => ⟨[(0, dV s), (17, dV v)], [], 32⟩) (fun v hm => ?_) ?_
 ·rcases bf hm with ⟨hb, hm⟩ | ⟨hb, hm⟩
  ·refine re G (hC 2 (zq100_c h) (hO 4 (.b true) (hP hb h0))) ?_
   exact wJ G hm
  ·obtain ⟨u, h1, hm⟩ := obind hm
   rcases bf hm with ⟨hb1, hm⟩ | ⟨hb1, hm⟩
   ·refine re G (hC 2 (zq100_c h) (hO 4 (.b false) (hP hb (hK h1 (hO 9 (.b true) (hP hb1 h0)))))) ?_
    exact wJ G hm
   ·obtain ⟨u1, h2, hm⟩ := obind hm
    refine re G (hC 2 (zq100_c h) (hO 4 (.b false) (hP hb (hK h1 (hO 9 (.b false) (hP hb1 (hK h2 h0))))))) ?_
    exact wJ G hm
 rintro v hm
 refine cd hm (fun hm => ?_) (fun hm => ?_)
 ·refine rg G ?_
  cases hm
  exact rt [] []
 ·refine X_skip (thN (Ok_seq (rg G (tF hm (fun _ => ⟨[], [], 32⟩) (fun v3 hr hm => ?_) ?_))))
  ·refine Ok_block (lp G hm (fun v1 => ⟨[(0, dV s), (3, dV v1)], [], 32⟩) ?_)
   rintro v1 r0 hb2 hm
   rw [zq113_L1] at hm
   refine Ok_seq (rg G (cd hm (fun hm => ?_) (fun hm => ?_)))
   ·refine X_skip (thN (Ok_seq (Ok_block ?_)))
    obtain ⟨u2, h3, hm⟩ := obind hm
    refine jn hm (fun v2 => ⟨[(0, dV s), (3, dV v1), (45, dV v2)], [], 32⟩) (fun v2 hm => ?_) ?_
    ·rcases bf hm with ⟨hb3, hm⟩ | ⟨hb3, hm⟩
     ·obtain ⟨u3, h4, hm⟩ := obind hm
      rcases bf hm with ⟨hb4, hm⟩ | ⟨hb4, hm⟩
      ·refine re G (hK h3 (hO 4 (.b true) (hP hb3 (hK h4 (hO 15 (.b true) (hP hb4 h0)))))) ?_
       exact wJ G hm
      ·obtain ⟨u4, h5, hm⟩ := obind hm
       refine re G (hK h3 (hO 4 (.b true) (hP hb3 (hK h4 (hO 15 (.b false) (hP hb4 (hK h5 h0))))))) ?_
       exact wJ G hm
     ·obtain ⟨u5, h6, hm⟩ := obind hm
      rcases bf hm with ⟨hb5, hm⟩ | ⟨hb5, hm⟩
      ·obtain ⟨u6, h7, hm⟩ := obind hm
       rcases bf hm with ⟨hb6, hm⟩ | ⟨hb6, hm⟩
       ·refine re G (hK h3 (hO 4 (.b false) (hP hb3 (hK h6 (hO 10 (.b true) (hP hb5 (hK h7 (hO 15 (.b true) (hP hb6 h0))))))))) ?_
        exact wJ G hm
       ·obtain ⟨u7, h8, hm⟩ := obind hm
        refine re G (hK h3 (hO 4 (.b false) (hP hb3 (hK h6 (hO 10 (.b true) (hP hb5 (hK h7 (hO 15 (.b false) (hP hb6 (hK h8 h0)))))))))) ?_
        exact wJ G hm
      ·refine re G (hK h3 (hO 4 (.b false) (hP hb3 (hK h6 (hO 10 (.b false) (hP hb5 h0)))))) ?_
       exact wJ G hm
    rintro v2 hm
    refine cd hm (fun hm => ?_) (fun hm => ?_)
    ·refine rg G ?_
     have hm := eL hm hb2 hr
     cases hm
     exact rt [] []
    ·exact X_skip (ibN (thN (rh G (wL G hm))))
   ·exact Ok_exit (thE (thE (ibE (wE G hm hb2))))
  rintro ⟨⟩ hm s1 hw
  refine thN (Ok_weak hw ?_)
  refine rg G ?_
  cases hm
  exact rt [] []
noncomputable def zq109_M : MS ((List ByteArray) × ByteArray) Int := ⟨.x .r .r, fun x => zq109 x.1 x.2, fun y => dV y, fun _ => [], fun _ _ => []⟩
theorem zq109_c {list name y} (hm : zq109 list name = some y) : zq109_M.C (list, name) y := zq109_M.c (list, name) hm
theorem zq109_ok : FnOK Tryz.prog 213 zq109_M.S := by
 refine fm tt zq109_M [] Tryz.call213 Tryz.func213 rfl Tryz.results213 Tryz.ntmps213 ?_
 rintro ⟨list, name⟩ y cx G hm
 have hm : zq109 list name = some y := hm
 unfold zq109 at hm
 refine rg G (Ok_seq (rg G (tF hm (fun _ => ⟨[], [], 32⟩) (fun v1 hr hm => ?_) ?_)))
 ·refine Ok_block (lp G hm (fun v => ⟨[(0, dV list), (1, dV name), (5, dV v)], [], 32⟩) ?_)
  rintro v r0 hb hm
  rw [zq109_L1] at hm
  refine Ok_seq (rs G (hN 2 list h0) ?_)
  refine cd hm (fun hm => ?_) (fun hm => ?_)
  ·refine X_skip (thN (Ok_seq (Ok_block ?_)))
   obtain ⟨e, h, hm⟩ := obind hm
   refine rs G (hD 2 h h0) ?_
   refine cd hm (fun hm => ?_) (fun hm => ?_)
   ·refine rg G ?_
    have hm := eL hm hb hr
    cases hm
    exact rt [] []
   ·exact X_skip (ibN (thN (rh G (wL G hm))))
  ·exact Ok_exit (thE (thE (ibE (wE G hm hb))))
 rintro ⟨⟩ hm s hw
 refine thN (Ok_weak hw ?_)
 refine rg G ?_
 cases hm
 exact rt [] []
noncomputable def zq111_M : MS (Line × Int) Bool := ⟨.x .r .r, fun x => zq111 x.1 x.2, fun y => dV y, fun _ => [], fun _ _ => []⟩
theorem zq111_c {x stops y} (hm : zq111 x stops = some y) : zq111_M.C (x, stops) y := zq111_M.c (x, stops) hm
theorem zq111_ok : FnOK Tryz.prog 214 zq111_M.S := by
 refine fm tt zq111_M [fo zq113_ok, fo zq100_ok, fo zq116_ok] Tryz.call214 Tryz.func214 rfl Tryz.results214 Tryz.ntmps214 ?_
 rintro ⟨x, stops⟩ y cx G hm
 have hm : zq111 x stops = some y := hm
 unfold zq111 at hm
 refine rg G (Ok_seq ?_)
 obtain ⟨r, h, hm⟩ := obind hm
 refine jn hm (fun v => ⟨[(1, dV stops), (2, .ref 16 0), (27, dV v)], [bX 16 [dV x.Name, dV x.Stops, dV x.Runs]], 48⟩) (fun v hm => ?_) ?_
 ·rcases bf hm with ⟨hb, hm⟩ | ⟨hb, hm⟩
  ·refine re G (hC 2 (zq113_c h) (hO 4 (.b true) (hP hb h0))) ?_
   exact wJ G hm
  ·obtain ⟨r1, h1, hm⟩ := obind hm
   rcases bf hm with ⟨hb1, hm⟩ | ⟨hb1, hm⟩
   ·refine re G (hC 2 (zq113_c h) (hO 4 (.b false) (hP hb (hN 7 x.Stops (hC 8 (zq100_c h1) (hO 11 (.b true) (hP hb1 h0))))))) ?_
    exact wJ G hm
   ·refine re G (hC 2 (zq113_c h) (hO 4 (.b false) (hP hb (hN 7 x.Stops (hC 8 (zq100_c h1) (hO 11 (.b false) (hP hb1 (hN 14 x.Runs (hN 17 x.Stops h0))))))))) ?_
    exact wJ G hm
 rintro v hm
 refine cd hm (fun hm => ?_) (fun hm => ?_)
 ·refine rg G ?_
  cases hm
  exact rt [] []
 ·refine X_skip (thN (Ok_seq (rg G (tF hm (fun _ => ⟨[(2, .ref 16 0)], [bX 16 [dV x.Name, dV x.Stops, dV x.Runs]], 48⟩) (fun v5 hr hm => ?_) ?_))))
  ·refine Ok_block (lp G hm (fun v1 => ⟨[(1, dV stops), (2, .ref 16 0), (5, dV v1)], [bX 16 [dV x.Name, dV x.Stops, dV x.Runs]], 48⟩) ?_)
   rintro v1 r0 hb2 hm
   rw [zq111_L1] at hm
   refine Ok_seq (rs G (hN 3 x.Stops h0) ?_)
   refine cd hm (fun hm => ?_) (fun hm => ?_)
   ·refine X_skip (thN (Ok_seq (Ok_block ?_)))
    obtain ⟨e2, h6, hm⟩ := obind hm
    obtain ⟨r4, h7, hm⟩ := obind hm
    refine jn hm (fun v2 => ⟨[(1, dV stops), (2, .ref 16 0), (5, dV v1), (54, dV v2)], [bX 16 [dV x.Name, dV x.Stops, dV x.Runs]], 48⟩) (fun v2 hm => ?_) ?_
    ·rcases bf hm with ⟨hb3, hm⟩ | ⟨hb3, hm⟩
     ·refine de G [] (hD 3 h6 (hC 7 (zq100_c h7) (hO 9 (.b true) (hP hb3 h0)))) ?_
      exact wJ G hm
     ·obtain ⟨e3, h8, hm⟩ := obind hm
      obtain ⟨r5, h9, hm⟩ := obind hm
      refine de G [] (hD 3 h6 (hC 7 (zq100_c h7) (hO 9 (.b false) (hP hb3 (hD 14 h8 (hC 16 (zq116_c h9) h0)))))) ?_
      exact wJ G hm
    rintro v2 hm
    refine cd hm (fun hm => ?_) (fun hm => ?_)
    ·refine rg G ?_
     have hm := eL hm hb2 hr
     cases hm
     exact rt [] []
    ·exact X_skip (ibN (thN (rh G (wL G hm))))
   ·exact Ok_exit (thE (thE (ibE (wE G hm hb2))))
  rintro ⟨⟩ hm s hw
  refine thN (Ok_weak hw ?_)
  refine Ok_seq (rg G (tF hm (fun _ => ⟨[], [], 32⟩) (fun v4 hr1 hm => ?_) ?_))
  ·refine Ok_block (lp G hm (fun v3 => ⟨[(2, .ref 16 0), (6, dV v3)], [bX 16 [dV x.Name, dV x.Stops, dV x.Runs]], 48⟩) ?_)
   rintro v3 r0 hb4 hm
   rw [zq111_L2] at hm
   refine Ok_seq (rs G (hN 3 x.Runs h0) ?_)
   refine cd hm (fun hm => ?_) (fun hm => ?_)
   ·refine X_skip (thN (Ok_seq (Ok_block ?_)))
    obtain ⟨e5, h10, hm⟩ := obind hm
    obtain ⟨r7, h11, hm⟩ := obind hm
    refine rs G (hD 3 h10 (hC 5 (zq100_c h11) h0)) ?_
    refine cd hm (fun hm => ?_) (fun hm => ?_)
    ·refine rg G ?_
     have hm := eL hm hb4 hr1
     cases hm
     exact rt [] []
    ·exact X_skip (ibN (thN (rh G (wL G hm))))
   ·exact Ok_exit (thE (thE (ibE (wE G hm hb4))))
  rintro ⟨⟩ hm s1 hw1
  refine thN (Ok_weak hw1 ?_)
  refine rg G ?_
  cases hm
  exact rt [] []
noncomputable def zq112_M : MS (Network × ByteArray) Int := ⟨.x .r .r, fun x => zq112 x.1 x.2, fun y => dV y, fun _ => [], fun _ _ => []⟩
theorem zq112_c {n name y} (hm : zq112 n name = some y) : zq112_M.C (n, name) y := zq112_M.c (n, name) hm
theorem zq112_ok : FnOK Tryz.prog 215 zq112_M.S := by
 refine fm tt zq112_M [] Tryz.call215 Tryz.func215 rfl Tryz.results215 Tryz.ntmps215 ?_
 rintro ⟨n, name⟩ y cx G hm
 have hm : zq112 n name = some y := hm
 unfold zq112 at hm
 refine rg G (Ok_seq (rg G (tF hm (fun _ => ⟨[], [], 32⟩) (fun v1 hr hm => ?_) ?_)))
 ·refine Ok_block (lp G hm (fun v => ⟨[(1, dV name), (2, .ref 16 0), (5, dV v)], [bX 16 [dV n.Stops, dV n.Lines]], 48⟩) ?_)
  rintro v r0 hb hm
  rw [zq112_L1] at hm
  refine Ok_seq (rs G (hN 3 n.Lines h0) ?_)
  refine cd hm (fun hm => ?_) (fun hm => ?_)
  ·refine X_skip (thN (Ok_seq (Ok_block ?_)))
   obtain ⟨e, h, hm⟩ := obind hm
   refine rs G (hD 3 h h0) ?_
   refine cd hm (fun hm => ?_) (fun hm => ?_)
   ·refine rg G ?_
    have hm := eL hm hb hr
    cases hm
    exact rt [] []
   ·exact X_skip (ibN (thN (rh G (wL G hm))))
  ·exact Ok_exit (thE (thE (ibE (wE G hm hb))))
 rintro ⟨⟩ hm s hw
 refine thN (Ok_weak hw ?_)
 refine rg G ?_
 cases hm
 exact rt [] []
noncomputable def zq110_M : MS Network Bool := ⟨.r, zq110, fun y => dV y, fun _ => [], fun _ _ => []⟩
theorem zq110_c {n y} (hm : zq110 n = some y) : zq110_M.C n y := zq110_M.c n hm
theorem zq110_ok : FnOK Tryz.prog 158 zq110_M.S := by
 refine fm tt zq110_M [fo zq100_ok, fo zq113_ok, fo zq109_ok, fo zq111_ok, fo zq112_ok] Tryz.call158 Tryz.func158 rfl Tryz.results158 Tryz.ntmps158 ?_
 rintro n y cx G hm
 have hm : zq110 n = some y := hm
 unfold zq110 at hm
 refine rg G (Ok_seq ?_)
 obtain ⟨r, h, hm⟩ := obind hm
 refine jn hm (fun v => ⟨[(1, .ref 16 0), (16, dV v)], [bX 16 [dV n.Stops, dV n.Lines]], 48⟩) (fun v hm => ?_) ?_
 ·rcases bf hm with ⟨hb, hm⟩ | ⟨hb, hm⟩
  ·refine re G (hN 2 n.Stops (hC 3 (zq100_c h) (hO 5 (.b true) (hP hb h0)))) ?_
   exact wJ G hm
  ·obtain ⟨r1, h1, hm⟩ := obind hm
   refine re G (hN 2 n.Stops (hC 3 (zq100_c h) (hO 5 (.b false) (hP hb (hN 8 n.Lines (hC 9 (zq100_c h1) h0)))))) ?_
   exact wJ G hm
 rintro v hm
 refine cd hm (fun hm => ?_) (fun hm => ?_)
 ·refine rg G ?_
  cases hm
  exact rt [] []
 ·refine X_skip (thN (Ok_seq (rg G (tF hm (fun _ => ⟨[(1, .ref 16 0)], [bX 16 [dV n.Stops, dV n.Lines]], 48⟩) (fun v5 hr hm => ?_) ?_))))
  ·refine Ok_block (lp G hm (fun i => ⟨[(1, .ref 16 0), (3, dV i)], [bX 16 [dV n.Stops, dV n.Lines]], 48⟩) ?_)
   rintro i r0 hb1 hm
   rw [zq110_L1] at hm
   refine Ok_seq (rs G (hN 3 n.Stops h0) ?_)
   refine cd hm (fun hm => ?_) (fun hm => ?_)
   ·refine X_skip (thN (Ok_seq (Ok_block ?_)))
    obtain ⟨e2, h6, hm⟩ := obind hm
    obtain ⟨r4, h7, hm⟩ := obind hm
    refine jn hm (fun v1 => ⟨[(1, .ref 16 0), (3, dV i), (42, dV v1)], [bX 16 [dV n.Stops, dV n.Lines]], 48⟩) (fun v1 hm => ?_) ?_
    ·rcases bf hm with ⟨hb2, hm⟩ | ⟨hb2, hm⟩
     ·refine de G [] (hD 3 h6 (hC 5 (zq113_c h7) (hO 7 (.b true) (hP hb2 h0)))) ?_
      exact wJ G hm
     ·obtain ⟨e3, h8, hm⟩ := obind hm
      obtain ⟨r5, h9, hm⟩ := obind hm
      refine de G [] (hD 3 h6 (hC 5 (zq113_c h7) (hO 7 (.b false) (hP hb2 (hD 13 h8 (hC 15 (zq109_c h9) h0)))))) ?_
      exact wJ G hm
    rintro v1 hm
    refine cd hm (fun hm => ?_) (fun hm => ?_)
    ·refine rg G ?_
     have hm := eL hm hb1 hr
     cases hm
     exact rt [] []
    ·exact X_skip (ibN (thN (rh G (wL G hm))))
   ·exact Ok_exit (thE (thE (ibE (wE G hm hb1))))
  rintro ⟨⟩ hm s hw
  refine thN (Ok_weak hw ?_)
  refine Ok_seq (rg G (tF hm (fun _ => ⟨[], [], 32⟩) (fun v4 hr1 hm => ?_) ?_))
  ·refine Ok_block (lp G hm (fun v2 => ⟨[(1, .ref 16 0), (4, dV v2)], [bX 16 [dV n.Stops, dV n.Lines]], 48⟩) ?_)
   rintro v2 r0 hb3 hm
   rw [zq110_L2] at hm
   refine Ok_seq (rs G (hN 3 n.Lines h0) ?_)
   refine cd hm (fun hm => ?_) (fun hm => ?_)
   ·refine X_skip (thN (Ok_seq (Ok_block ?_)))
    obtain ⟨e7, h14, hm⟩ := obind hm
    obtain ⟨r9, h15, hm⟩ := obind hm
    refine jn hm (fun v3 => ⟨[(1, .ref 16 0), (4, dV v2), (71, dV v3)], [bX 16 [dV n.Stops, dV n.Lines]], 48⟩) (fun v3 hm => ?_) ?_
    ·rcases bf hm with ⟨hb4, hm⟩ | ⟨hb4, hm⟩
     ·refine de G [] (hD 3 h14 (hN 7 n.Stops (hC 8 (zq111_c h15) (hO 10 (.b true) (hP hb4 h0))))) ?_
      exact wJ G hm
     ·obtain ⟨e8, h16, hm⟩ := obind hm
      obtain ⟨r10, h17, hm⟩ := obind hm
      refine de G [] (hD 3 h14 (hN 7 n.Stops (hC 8 (zq111_c h15) (hO 10 (.b false) (hP hb4 (hD 15 h16 (hC 18 (zq112_c h17) h0))))))) ?_
      exact wJ G hm
    rintro v3 hm
    refine cd hm (fun hm => ?_) (fun hm => ?_)
    ·refine rg G ?_
     have hm := eL hm hb3 hr1
     cases hm
     exact rt [] []
    ·exact X_skip (ibN (thN (rh G (wL G hm))))
   ·exact Ok_exit (thE (thE (ibE (wE G hm hb3))))
  rintro ⟨⟩ hm s1 hw1
  refine thN (Ok_weak hw1 ?_)
  refine rg G ?_
  cases hm
  exact rt [] []
noncomputable def zq118_M : MS Int Bool := ⟨.r, zq118, fun y => dV y, fun _ => [], fun _ _ => []⟩
theorem zq118_c {t y} (hm : zq118 t = some y) : zq118_M.C t y := zq118_M.c t hm
theorem zq118_ok : FnOK Tryz.prog 120 zq118_M.S := by
 refine fm tt zq118_M [fo zq100_ok] Tryz.call120 Tryz.func120 rfl Tryz.results120 Tryz.ntmps120 ?_
 rintro t y cx G hm
 have hm : zq118 t = some y := hm
 unfold zq118 at hm
 refine rg G ?_
 obtain ⟨r, h, hm⟩ := obind hm
 refine rs G (hC 1 (zq100_c h) h0) ?_
 cases hm
 exact rt [] []
noncomputable def zq123_M : MS (Timetable × Int) Line := ⟨.x .r .r, fun x => zq123 x.1 x.2, fun y => dV y, fun _ => [], fun _ _ => []⟩
theorem zq123_c {t i y} (hm : zq123 t i = some y) : zq123_M.C (t, i) y := zq123_M.c (t, i) hm
theorem zq123_ok : FnOK Tryz.prog 217 zq123_M.S := by
 refine fm tt zq123_M [] Tryz.call217 Tryz.func217 rfl Tryz.results217 Tryz.ntmps217 ?_
 rintro ⟨t, i⟩ y cx G hm
 have hm : zq123 t i = some y := hm
 unfold zq123 at hm
 refine rg G ?_
 obtain ⟨e2, h2, hm⟩ := obind hm
 obtain ⟨e3, h3, hm⟩ := obind hm
 refine ds G [(11, [32])] (hD 6 h2 (hD 9 h3 h0)) ?_
 cases hm
 exact rt [] []
noncomputable def zq124_M : MS (Timetable × Int) ((List Int)) := ⟨.x .r .r, fun x => zq124 x.1 x.2, fun y => dV y, fun _ => [], fun _ _ => []⟩
theorem zq124_c {t i y} (hm : zq124 t i = some y) : zq124_M.C (t, i) y := zq124_M.c (t, i) hm
theorem zq124_ok : FnOK Tryz.prog 170 zq124_M.S := by
 refine fm tt zq124_M [fo zq123_ok] Tryz.call170 Tryz.func170 rfl Tryz.results170 Tryz.ntmps170 ?_
 rintro ⟨t, i⟩ y cx G hm
 have hm : zq124 t i = some y := hm
 unfold zq124 at hm
 refine rg G ?_
 obtain ⟨r, h, hm⟩ := obind hm
 refine rs G (hC 2 (zq123_c h) h0) ?_
 cases hm
 exact rt [] []
noncomputable def zq117_M : MS (Line × Int × Int) Int := ⟨.x .r (.x .r .r), fun x => zq117 x.1 x.2.1 x.2.2, fun y => dV y, fun _ => [], fun _ _ => []⟩
theorem zq117_c {x from_ to y} (hm : zq117 x from_ to = some y) : zq117_M.C (x, from_, to) y := zq117_M.c (x, from_, to) hm
theorem zq117_ok : FnOK Tryz.prog 227 zq117_M.S := by
 refine fm tt zq117_M [] Tryz.call227 Tryz.func227 rfl Tryz.results227 Tryz.ntmps227 ?_
 rintro ⟨x, from_, to⟩ y cx G hm
 have hm : zq117 x from_ to = some y := hm
 unfold zq117 at hm
 refine rg G (rg G (Ok_seq (rg G (tl hm (fun v2 => ⟨[(7, dV v2)], [], 32⟩) (fun v2 hm => ?_) ?_))))
 ·refine Ok_block (lp G hm (fun (v, v1) => ⟨[(2, dV to), (3, .ref 16 0), (7, dV v), (8, dV v1)], [bX 16 [dV x.Name, dV x.Stops, dV x.Runs]], 48⟩) ?_)
  rintro ⟨v, v1⟩ r0 hb hm
  rw [zq117_L1] at hm
  refine Ok_seq (rg G (cd hm (fun hm => ?_) (fun hm => ?_)))
  ·refine X_skip (thN (Ok_seq (Ok_block ?_)))
   obtain ⟨e, h, hm⟩ := obind hm
   refine re G (hD 4 h h0) ?_
   exact ibN (thN (rh G (wL G hm)))
  ·exact Ok_exit (thE (thE (ibE (wD G hm hb))))
 rintro v2 hm s hw
 refine thN (Ok_weak hw ?_)
 refine rg G ?_
 cases hm
 exact rt [] []
noncomputable def zq119_M : MS (Timetable × Int × Int) Int := ⟨.x .r (.x .r .r), fun x => zq119 x.1 x.2.1 x.2.2, fun y => dV y, fun _ => [], fun _ _ => []⟩
theorem zq119_c {t i k y} (hm : zq119 t i k = some y) : zq119_M.C (t, i, k) y := zq119_M.c (t, i, k) hm
theorem zq119_ok : FnOK Tryz.prog 195 zq119_M.S := by
 refine fm tt zq119_M [fo zq123_ok, fo zq117_ok] Tryz.call195 Tryz.func195 rfl Tryz.results195 Tryz.ntmps195 ?_
 rintro ⟨t, i, k⟩ y cx G hm
 have hm : zq119 t i k = some y := hm
 unfold zq119 at hm
 refine rg G ?_
 obtain ⟨e1, h3, hm⟩ := obind hm
 obtain ⟨r2, h4, hm⟩ := obind hm
 obtain ⟨r3, h5, hm⟩ := obind hm
 refine ds G [] (hD 3 h3 (hC 8 (zq123_c h4) (hC 10 (zq117_c h5) h0))) ?_
 cases hm
 exact rt [] []
noncomputable def zq120_M : MS (Timetable × Int) Int := ⟨.x .r .r, fun x => zq120 x.1 x.2, fun y => dV y, fun _ => [], fun _ _ => []⟩
theorem zq120_c {t i y} (hm : zq120 t i = some y) : zq120_M.C (t, i) y := zq120_M.c (t, i) hm
theorem zq120_ok : FnOK Tryz.prog 121 zq120_M.S := by
 refine fm tt zq120_M [fo zq124_ok, fo zq119_ok] Tryz.call121 Tryz.func121 rfl Tryz.results121 Tryz.ntmps121 ?_
 rintro ⟨t, i⟩ y cx G hm
 have hm : zq120 t i = some y := hm
 unfold zq120 at hm
 refine rg G ?_
 obtain ⟨r2, h2, hm⟩ := obind hm
 obtain ⟨r3, h3, hm⟩ := obind hm
 refine ds G [] (hC 4 (zq124_c h2) (hN 5 r2 (hC 7 (zq119_c h3) h0))) ?_
 cases hm
 exact rt [] []
noncomputable def zq122_M : MS Timetable Bool := ⟨.r, zq122, fun y => dV y, fun _ => [], fun _ _ => []⟩
theorem zq122_c {t y} (hm : zq122 t = some y) : zq122_M.C t y := zq122_M.c t hm
theorem zq122_ok : FnOK Tryz.prog 79 zq122_M.S := by
 refine fm tt zq122_M [fo zq110_ok, fo zq100_ok, fo zq118_ok, fo zq120_ok] Tryz.call79 Tryz.func79 rfl Tryz.results79 Tryz.ntmps79 ?_
 rintro t y cx G hm
 have hm : zq122 t = some y := hm
 unfold zq122 at hm
 refine rg G (Ok_seq ?_)
 obtain ⟨r, h, hm⟩ := obind hm
 refine jn hm (fun v => ⟨[(1, .ref 16 0), (14, dV v)], [bX 16 [dV t.Network.Stops, dV t.Network.Lines, dV t.Trips]], 48⟩) (fun v hm => ?_) ?_
 ·rcases bf hm with ⟨hb, hm⟩ | ⟨hb, hm⟩
  ·refine re G (hC 2 (zq110_c h) (hO 4 (.b true) (hP hb h0))) ?_
   exact wJ G hm
  ·refine re G (hC 2 (zq110_c h) (hO 4 (.b false) (hP hb (hN 7 t.Trips h0)))) ?_
   exact wJ G hm
 rintro v hm
 refine cd hm (fun hm => ?_) (fun hm => ?_)
 ·refine rg G ?_
  cases hm
  exact rt [] []
 ·refine X_skip (thN (Ok_seq (rg G (tF hm (fun _ => ⟨[], [], 32⟩) (fun v2 hr hm => ?_) ?_))))
  ·refine Ok_block (lp G hm (fun x => ⟨[(1, .ref 16 0), (3, dV x)], [bX 16 [dV t.Network.Stops, dV t.Network.Lines, dV t.Trips]], 48⟩) ?_)
   rintro x r0 hb1 hm
   rw [zq122_L1] at hm
   refine Ok_seq (rs G (hN 3 t.Trips h0) ?_)
   refine cd hm (fun hm => ?_) (fun hm => ?_)
   ·refine X_skip (thN (Ok_seq (Ok_block ?_)))
    obtain ⟨e, h1, hm⟩ := obind hm
    refine rs G (hD 3 h1 h0) ?_
    obtain ⟨r6, h8, hm⟩ := obind hm
    refine jn hm (fun v1 => ⟨[(1, .ref 16 0), (3, dV x), (70, dV v1)], [bX 16 [dV t.Network.Stops, dV t.Network.Lines, dV t.Trips]], 48⟩) (fun v1 hm => ?_) ?_
    ·rcases bf hm with ⟨hb2, hm⟩ | ⟨hb2, hm⟩
     ·refine de G [] (hC 2 (zq100_c h8) (hO 4 (.b true) (hP hb2 h0))) ?_
      exact wJ G hm
     ·obtain ⟨r7, h9, hm⟩ := obind hm
      rcases bf hm with ⟨hb3, hm⟩ | ⟨hb3, hm⟩
      ·refine de G [] (hC 2 (zq100_c h8) (hO 4 (.b false) (hP hb2 (hN 10 t.Network.Lines (hC 12 (zq100_c h9) (hO 15 (.b true) (hP hb3 h0))))))) ?_
       exact wJ G hm
      ·obtain ⟨r8, h10, hm⟩ := obind hm
       rcases bf hm with ⟨hb4, hm⟩ | ⟨hb4, hm⟩
       ·refine de G [] (hC 2 (zq100_c h8) (hO 4 (.b false) (hP hb2 (hN 10 t.Network.Lines (hC 12 (zq100_c h9) (hO 15 (.b false) (hP hb3 (hC 18 (zq118_c h10) (hO 21 (.b true) (hP hb4 h0)))))))))) ?_
        exact wJ G hm
       ·obtain ⟨r9, h11, hm⟩ := obind hm
        obtain ⟨r10, h12, hm⟩ := obind hm
        rcases bf hm with ⟨hb5, hm⟩ | ⟨hb5, hm⟩
        ·refine de G [] (hC 2 (zq100_c h8) (hO 4 (.b false) (hP hb2 (hN 10 t.Network.Lines (hC 12 (zq100_c h9) (hO 15 (.b false) (hP hb3 (hC 18 (zq118_c h10) (hO 21 (.b false) (hP hb4 (hC 24 (zq120_c h11) (hC 25 (zq118_c h12) (hO 28 (.b true) (hP hb5 h0)))))))))))))) ?_
         exact wJ G hm
        ·rcases bf hm with ⟨hb6, hm⟩ | ⟨hb6, hm⟩
         ·obtain ⟨e2, h13, hm⟩ := obind hm
          refine de G [] (hC 2 (zq100_c h8) (hO 4 (.b false) (hP hb2 (hN 10 t.Network.Lines (hC 12 (zq100_c h9) (hO 15 (.b false) (hP hb3 (hC 18 (zq118_c h10) (hO 21 (.b false) (hP hb4 (hC 24 (zq120_c h11) (hC 25 (zq118_c h12) (hO 28 (.b false) (hP hb5 (hO 31 (.b true) (hP hb6 (hD 36 h13 h0))))))))))))))))) ?_
          exact wJ G hm
         ·refine de G [] (hC 2 (zq100_c h8) (hO 4 (.b false) (hP hb2 (hN 10 t.Network.Lines (hC 12 (zq100_c h9) (hO 15 (.b false) (hP hb3 (hC 18 (zq118_c h10) (hO 21 (.b false) (hP hb4 (hC 24 (zq120_c h11) (hC 25 (zq118_c h12) (hO 28 (.b false) (hP hb5 (hO 31 (.b false) (hP hb6 h0)))))))))))))))) ?_
          exact wJ G hm
    rintro v1 hm
    refine cd hm (fun hm => ?_) (fun hm => ?_)
    ·refine rg G ?_
     have hm := eL hm hb1 hr
     cases hm
     exact rt [] []
    ·exact X_skip (ibN (thN (rh G (wL G hm))))
   ·exact Ok_exit (thE (thE (ibE (wE G hm hb1))))
  rintro ⟨⟩ hm s hw
  refine thN (Ok_weak hw ?_)
  refine rg G ?_
  cases hm
  exact rt [] []
noncomputable def zq53_M : MS (Network × Fleet) Bool := ⟨.x .r .r, fun x => zq53 x.1 x.2, fun y => dV y, fun _ => [], fun _ _ => []⟩
theorem zq53_c {n f y} (hm : zq53 n f = some y) : zq53_M.C (n, f) y := zq53_M.c (n, f) hm
theorem zq53_ok : FnOK Tryz.prog 168 zq53_M.S := by
 refine fm tt zq53_M [fo zq110_ok, fo zq100_ok] Tryz.call168 Tryz.func168 rfl Tryz.results168 Tryz.ntmps168 ?_
 rintro ⟨n, f⟩ y cx G hm
 have hm : zq53 n f = some y := hm
 unfold zq53 at hm
 refine rg G (Ok_seq ?_)
 obtain ⟨r, h, hm⟩ := obind hm
 refine jn hm (fun v => ⟨[(2, .ref 16 0), (3, .ref 32 0), (24, dV v)], [bX 16 [dV n.Stops, dV n.Lines], bX 32 [dV f.Dead, dV f.Turn]], 64⟩) (fun v hm => ?_) ?_
 ·rcases bf hm with ⟨hb, hm⟩ | ⟨hb, hm⟩
  ·refine re G (hC 1 (zq110_c h) (hO 3 (.b true) (hP hb h0))) ?_
   exact wJ G hm
  ·rcases bf hm with ⟨hb1, hm⟩ | ⟨hb1, hm⟩
   ·refine re G (hC 1 (zq110_c h) (hO 3 (.b false) (hP hb (hN 6 f.Dead (hN 9 n.Stops (hO 12 (.b true) (hP hb1 h0))))))) ?_
    exact wJ G hm
   ·obtain ⟨r1, h1, hm⟩ := obind hm
    refine re G (hC 1 (zq110_c h) (hO 3 (.b false) (hP hb (hN 6 f.Dead (hN 9 n.Stops (hO 12 (.b false) (hP hb1 (hC 15 (zq100_c h1) h0)))))))) ?_
    exact wJ G hm
 rintro v hm
 refine cd hm (fun hm => ?_) (fun hm => ?_)
 ·refine rg G ?_
  cases hm
  exact rt [] []
 ·refine X_skip (thN (Ok_seq (rg G (tF hm (fun _ => ⟨[], [], 32⟩) (fun v5 hr hm => ?_) ?_))))
  ·refine Ok_block (lp G hm (fun v1 => ⟨[(2, .ref 16 0), (3, .ref 32 0), (5, dV v1)], [bX 16 [dV n.Stops, dV n.Lines], bX 32 [dV f.Dead, dV f.Turn]], 64⟩) ?_)
   rintro v1 r0 hb2 hm
   rw [zq53_L2] at hm
   refine Ok_seq (rs G (hN 3 f.Dead h0) ?_)
   refine cd hm (fun hm => ?_) (fun hm => ?_)
   ·refine X_skip (thN (Ok_seq (Ok_block (Ok_seq ?_))))
    obtain ⟨e3, h5, hm⟩ := obind hm
    refine jn hm (fun v2 => ⟨[(2, .ref 16 0), (3, .ref 32 0), (5, dV v1), (52, dV v2)], [bX 16 [dV n.Stops, dV n.Lines], bX 32 [dV f.Dead, dV f.Turn]], 64⟩) (fun v2 hm => ?_) ?_
    ·rcases bf hm with ⟨hb3, hm⟩ | ⟨hb3, hm⟩
     ·refine de G [] (hD 3 h5 (hN 5 e3 (hN 8 n.Stops (hO 10 (.b true) (hP hb3 h0))))) ?_
      exact wJ G hm
     ·obtain ⟨e4, h6, hm⟩ := obind hm
      obtain ⟨e5, h7, hm⟩ := obind hm
      refine de G [] (hD 3 h5 (hN 5 e3 (hN 8 n.Stops (hO 10 (.b false) (hP hb3 (hD 14 h6 (hD 17 h7 h0))))))) ?_
      exact wJ G hm
    rintro v2 hm
    refine cd hm (fun hm => ?_) (fun hm => ?_)
    ·refine rg G ?_
     have hm := eL hm hb2 hr
     cases hm
     exact rt [] []
    ·refine X_skip (thN (rg G (tF hm (fun _ => ⟨[(2, .ref 16 0), (3, .ref 32 0), (5, dV v1)], [bX 16 [dV n.Stops, dV n.Lines], bX 32 [dV f.Dead, dV f.Turn]], 64⟩) (fun v4 hr1 hm => ?_) ?_)))
     ·refine Ok_block (lp G hm (fun v3 => ⟨[(2, .ref 16 0), (3, .ref 32 0), (5, dV v1), (6, dV v3)], [bX 16 [dV n.Stops, dV n.Lines], bX 32 [dV f.Dead, dV f.Turn]], 64⟩) ?_)
      rintro v3 r0 hb4 hm
      rw [zq53_L1] at hm
      refine Ok_seq ?_
      obtain ⟨e7, h8, hm⟩ := obind hm
      refine rs G (hD 4 h8 (hN 6 e7 h0)) ?_
      refine cd hm (fun hm => ?_) (fun hm => ?_)
      ·refine X_skip (thN (Ok_seq (Ok_block ?_)))
       obtain ⟨e8, h9, hm⟩ := obind hm
       obtain ⟨e9, h10, hm⟩ := obind hm
       obtain ⟨r3, h11, hm⟩ := obind hm
       refine rs G (hD 3 h9 (hD 6 h10 (hC 8 (zq100_c h11) h0))) ?_
       refine cd hm (fun hm => ?_) (fun hm => ?_)
       ·refine rg G ?_
        have hm := eL hm hb4 hr1
        have hm := eL hm hb2 hr
        cases hm
        exact rt [] []
       ·exact X_skip (ibN (thN (rh G (wL G hm))))
      ·exact Ok_exit (thE (thE (ibE (wE G hm hb4))))
     rintro ⟨⟩ hm s hw
     refine ibN (thN (Ok_weak hw ?_))
     exact rh G (wL G hm)
   ·exact Ok_exit (thE (thE (ibE (wE G hm hb2))))
  rintro ⟨⟩ hm s1 hw1
  refine thN (Ok_weak hw1 ?_)
  refine rg G ?_
  cases hm
  exact rt [] []
noncomputable def zq46_M : MS (Timetable × Fleet) Bool := ⟨.x .r .r, fun x => zq46 x.1 x.2, fun y => dV y, fun _ => [], fun _ _ => []⟩
theorem zq46_c {t f y} (hm : zq46 t f = some y) : zq46_M.C (t, f) y := zq46_M.c (t, f) hm
theorem zq46_ok : FnOK Tryz.prog 90 zq46_M.S := by
 refine fm tt zq46_M [fo zq122_ok, fo zq53_ok] Tryz.call90 Tryz.func90 rfl Tryz.results90 Tryz.ntmps90 ?_
 rintro ⟨t, f⟩ y cx G hm
 have hm : zq46 t f = some y := hm
 unfold zq46 at hm
 refine rg G ?_
 obtain ⟨r, h, hm⟩ := obind hm
 refine jn hm (fun v => ⟨[(4, dV v)], [], 32⟩) (fun v hm => ?_) ?_
 ·rcases bf hm with ⟨hb, hm⟩ | ⟨hb, hm⟩
  ·obtain ⟨r1, h1, hm⟩ := obind hm
   refine re G (hC 1 (zq122_c h) (hO 2 (.b true) (hP hb (hC 6 (zq53_c h1) h0)))) ?_
   exact wJ G hm
  ·refine re G (hC 1 (zq122_c h) (hO 2 (.b false) (hP hb h0))) ?_
   exact wJ G hm
 rintro v hm
 cases hm
 exact rt [] []
noncomputable def zq52_M : MS (Timetable × Fleet × Int × Int) Int := ⟨.x .r (.x .r (.x .r .r)), fun x => zq52 x.1 x.2.1 x.2.2.1 x.2.2.2, fun y => dV y, fun _ => [], fun _ _ => []⟩
theorem zq52_c {t f a b y} (hm : zq52 t f a b = some y) : zq52_M.C (t, f, a, b) y := zq52_M.c (t, f, a, b) hm
theorem zq52_ok : FnOK Tryz.prog 154 zq52_M.S := by
 refine fm tt zq52_M [fo zq124_ok] Tryz.call154 Tryz.func154 rfl Tryz.results154 Tryz.ntmps154 ?_
 rintro ⟨t, f, a, b⟩ y cx G hm
 have hm : zq52 t f a b = some y := hm
 unfold zq52 at hm
 refine rg G ?_
 obtain ⟨r2, h2, hm⟩ := obind hm
 obtain ⟨r3, h3, hm⟩ := obind hm
 refine ds G [] (hC 2 (zq124_c h2) (hC 5 (zq124_c h3) h0)) ?_
 obtain ⟨e4, h8, hm⟩ := obind hm
 obtain ⟨e5, h9, hm⟩ := obind hm
 obtain ⟨e6, h10, hm⟩ := obind hm
 obtain ⟨e7, h11, hm⟩ := obind hm
 refine ds G [] (hN 4 r2 (hD 6 h8 (hD 8 h9 (hD 11 h10 (hD 13 h11 h0))))) ?_
 cases hm
 exact rt [] []
noncomputable def zq54_M : MS (Timetable × Fleet × Int × Int) Bool := ⟨.x .r (.x .r (.x .r .r)), fun x => zq54 x.1 x.2.1 x.2.2.1 x.2.2.2, fun y => dV y, fun _ => [], fun _ _ => []⟩
theorem zq54_c {t f a b y} (hm : zq54 t f a b = some y) : zq54_M.C (t, f, a, b) y := zq54_M.c (t, f, a, b) hm
theorem zq54_ok : FnOK Tryz.prog 169 zq54_M.S := by
 refine fm tt zq54_M [fo zq120_ok, fo zq52_ok] Tryz.call169 Tryz.func169 rfl Tryz.results169 Tryz.ntmps169 ?_
 rintro ⟨t, f, a, b⟩ y cx G hm
 have hm : zq54 t f a b = some y := hm
 unfold zq54 at hm
 refine rg G (jn hm (fun v => ⟨[(8, dV v)], [], 32⟩) (fun v hm => ?_) ?_)
 ·rcases bf hm with ⟨hb, hm⟩ | ⟨hb, hm⟩
  ·obtain ⟨e1, h3, hm⟩ := obind hm
   obtain ⟨r2, h4, hm⟩ := obind hm
   obtain ⟨r3, h5, hm⟩ := obind hm
   refine de G [] (hO 3 (.b true) (hP hb (hD 7 h3 (hC 12 (zq120_c h4) (hC 20 (zq52_c h5) h0))))) ?_
   exact wJ G hm
  ·refine de G [] (hO 3 (.b false) (hP hb h0)) ?_
   exact wJ G hm
 rintro v hm
 cases hm
 exact rt [] []
noncomputable def zq101_M : MS (Int × Int) Int := ⟨.x .r .r, fun x => zq101 x.1 x.2, fun y => dV y, fun _ => [], fun _ _ => []⟩
theorem zq101_c {a b y} (hm : zq101 a b = some y) : zq101_M.C (a, b) y := zq101_M.c (a, b) hm
theorem zq101_ok : FnOK Tryz.prog 232 zq101_M.S := by
 refine fm tt zq101_M [] Tryz.call232 Tryz.func232 rfl Tryz.results232 Tryz.ntmps232 ?_
 rintro ⟨a, b⟩ y cx G hm
 have hm : zq101 a b = some y := hm
 unfold zq101 at hm
 refine rg G (Ok_seq (rg G (cd hm (fun hm => ?_) (fun hm => ?_))))
 ·refine rg G ?_
  cases hm
  exact rt [] []
 ·refine X_skip (thN (rg G ?_))
  cases hm
  exact rt [] []
noncomputable def zq55_MR (rec_ : l11Plan → Int → Int → Option (Int × (List (List Int)))) : MS (l11Plan × Int × Int) (Int × (List (List Int))) := ⟨⟨[.bo 1, .rd, .rd], fun x => [.sc undef, Enc.e x.2.1, Enc.e x.2.2], fun x => [.box [dV x.1.t_.Network.Stops, dV x.1.t_.Network.Lines, dV x.1.t_.Trips, dV x.1.f_.Dead, dV x.1.f_.Turn, .own 1], taO 35 [some 3] x.1.known_], 2, 2, fun _ => rfl, fun _ => rfl, rfl, (by
  rintro ⟨a0, a1, a2⟩ ⟨b0, b1, b2⟩ h hO
  have q0 : a0 = b0 := Enc.inj _ _ (congrArg D.agg (cons_eq (congrArg (fun l => obC l 0 0) hO) (cons_eq (congrArg (fun l => obC l 0 1) hO) (cons_eq (congrArg (fun l => obC l 0 2) hO) (cons_eq (congrArg (fun l => obC l 0 3) hO) (cons_eq (congrArg (fun l => obC l 0 4) hO) (cons_eq (congrArg (fun l => D.sl 1 (obL l 1)) hO) rfl)))))))
  have q1 : a1 = b1 := qI 1 h
  have q2 : a2 = b2 := qI 2 h
  subst q0; subst q1; subst q2; rfl)⟩, fun x => rec_ x.1 x.2.1 x.2.2, fun y => dV y.1, fun _ => [], fun x y => [.box [dV x.1.t_.Network.Stops, dV x.1.t_.Network.Lines, dV x.1.t_.Trips, dV x.1.f_.Dead, dV x.1.f_.Turn, .own 1], taO 35 [some 3] y.2]⟩
noncomputable def zq55_M : MS (l11Plan × Int × Int) (Int × (List (List Int))) := zq55_MR zq55
theorem zq55_c {x i used y} (hm : zq55 x i used = some y) : zq55_M.C (x, i, used) y := zq55_M.c (x, i, used) hm
theorem zq55_cR {rec_ : l11Plan → Int → Int → Option (Int × (List (List Int)))} {x i used y} (hm : rec_ x i used = some y) : (zq55_MR rec_).C (x, i, used) y := (zq55_MR rec_).c (x, i, used) hm
theorem zq55_okF {rec_ : l11Plan → Int → Int → Option (Int × (List (List Int)))} (hrec : FnOK Tryz.prog 205 (zq55_MR rec_).S) : FnOK Tryz.prog 205 (zq55_MR (zq55_F rec_)).S := by
 refine fm tt (zq55_MR (zq55_F rec_)) [fo hrec, fo zq54_ok, fo zq52_ok, fo zq101_ok] Tryz.call205 Tryz.func205 rfl Tryz.results205 Tryz.ntmps205 ?_
 rintro ⟨x, i, used⟩ y cx G hm
 have hm : zq55_F rec_ x i used = some y := hm
 unfold zq55_F at hm
 refine rg G (rs G (hN 5 x.t_.Trips h0) ?_)
 refine Ok_seq (rg G (cd hm (fun hm => ?_) (fun hm => ?_)))
 ·refine rg G ?_
  cases hm
  exact rt [] []
 ·refine X_skip (thN (Ok_seq ?_))
  obtain ⟨e, h, hm⟩ := obind hm
  obtain ⟨e1, h1, hm⟩ := obind hm
  refine rs G (hD 5 h (hE 6 h (hE 8 h (hP (idx_b (f := Enc.e) h1) (hO 9 (.d2 (Enc.e e) (Enc.e e1)) (hP (idx_m2 (f := Enc.e) h) (hP (idx_m2 (f := Enc.e) h1) h0))))))) ?_
  refine cd hm (fun hm => ?_) (fun hm => ?_)
  ·obtain ⟨e2, h2, hm⟩ := obind hm
   obtain ⟨e3, h3, hm⟩ := obind hm
   refine rs G (hD 5 h2 (hE 6 h (hE 8 h (hP (idx_b (f := Enc.e) h3) (hO 9 (.d2 (Enc.e e) (Enc.e e3)) (hP (idx_m2 (f := Enc.e) h) (hP (idx_m2 (f := Enc.e) h3) h0))))))) ?_
   cases hm
   exact rt [] []
  ·refine X_skip (thN ?_)
   obtain ⟨r, h4, hm⟩ := obind hm
   refine rs G (hC 4 (zq55_cR h4) h0) ?_
   refine Ok_seq (rg G (tl hm (fun (v6, v7) => ⟨[(0, .ref 0 0), (1, dV i), (2, dV used), (8, dV v6)], [bX 0 [dV x.t_.Network.Stops, dV x.t_.Network.Lines, dV x.t_.Trips, dV x.f_.Dead, dV x.f_.Turn, .own 1], tX 1 35 [some 3] v7 1 none], 48⟩) (fun vv1 hm => ?_) ?_))
   ·refine Ok_block (lp G hm (fun (v, v1, v2) => ⟨[(0, .ref 0 0), (1, dV i), (2, dV used), (7, dV (x.t_.Trips.length : Int)), (8, dV v), (9, dV v1)], [bX 0 [dV x.t_.Network.Stops, dV x.t_.Network.Lines, dV x.t_.Trips, dV x.f_.Dead, dV x.f_.Turn, .own 1], tX 1 35 [some 3] v2 1 none], 48⟩) ?_)
    rintro ⟨v, v1, v2⟩ r0 hb hm
    rw [zq55_L1] at hm
    refine Ok_seq (rg G (cd hm (fun hm => ?_) (fun hm => ?_)))
    ·refine X_skip (thN (jn hm (fun (v3, v4) => ⟨[(0, .ref 0 0), (1, dV i), (2, dV used), (7, dV (x.t_.Trips.length : Int)), (8, dV v3), (9, dV v1)], [bX 0 [dV x.t_.Network.Stops, dV x.t_.Network.Lines, dV x.t_.Trips, dV x.f_.Dead, dV x.f_.Turn, .own 1], tX 1 35 [some 3] v4 1 none], 48⟩) (fun vv hm => ?_) ?_))
     ·refine Ok_block ?_
      obtain ⟨u1, h7, hm⟩ := obind hm
      refine jn hm (fun v5 => ⟨[(0, .ref 0 0), (1, dV i), (2, dV used), (7, dV (x.t_.Trips.length : Int)), (8, dV v), (9, dV v1), (69, dV v5)], [bX 0 [dV x.t_.Network.Stops, dV x.t_.Network.Lines, dV x.t_.Trips, dV x.f_.Dead, dV x.f_.Turn, .own 1], tX 1 35 [some 3] v2 1 none], 48⟩) (fun v5 hm => ?_) ?_
      ·rcases bf hm with ⟨hb1, hm⟩ | ⟨hb1, hm⟩
       ·obtain ⟨r2, h8, hm⟩ := obind hm
        refine de G [] (hK h7 (hO 6 (.b true) (hP hb1 (hC 17 (zq54_c h8) h0)))) ?_
        exact wJ G hm
       ·refine de G [] (hK h7 (hO 6 (.b false) (hP hb1 h0))) ?_
        exact wJ G hm
      rintro v5 hm
      refine cd hm (fun hm => ?_) (fun hm => ?_)
      ·obtain ⟨r6, h13, hm⟩ := obind hm
       obtain ⟨u3, h14, hm⟩ := obind hm
       obtain ⟨r7, h15, hm⟩ := obind hm
       obtain ⟨r8, h16, hm⟩ := obind hm
       refine de G [(20, [0, 1])] (hC 11 (zq52_c h13) (hK h14 (hC 20 (zq55_cR h15) (hC 22 (zq101_c h16) h0)))) ?_
       exact ibN (wJ G hm)
      ·exact X_skip (ibN (wJ G hm))
     rintro ⟨v3, v4⟩ hm
     exact rh G (wL G hm)
    ·exact Ok_exit (thE (thE (ibE (wD G hm hb))))
   rintro ⟨v6, v7⟩ hm s hw
   refine thN (Ok_weak hw ?_)
   obtain ⟨e4, h17, hm⟩ := obind hm
   obtain ⟨e5, h18, hm⟩ := obind hm
   refine rs G (hD 5 h17 (hE 6 h17 (hE 9 h17 (hP (idx_b (f := Enc.e) h18) (hO 10 (.sd2 (Enc.e e4) (Enc.e e5) (List.map Enc.e (e4.set used.toNat v6)) (List.map Enc.e (v7.set i.toNat (e4.set used.toNat v6)))) (hP (idx_m2 (f := Enc.e) h17) (hP (idx_m2 (f := Enc.e) h18) (hP (set_m Enc.e e4 used.toNat v6) (hP (set_m Enc.e v7 i.toNat (e4.set used.toNat v6)) h0))))))))) ?_
   refine rg G ?_
   cases hm
   exact rt [] []
theorem zq55_okn : ∀ k, FnOK Tryz.prog 205 (zq55_MR (zq55_k k)).S
 | 0 => ⟨fun args w => Tryz.call205 args w, fun vs w F ds obs κ hp => by obtain ⟨x, y, _, _, h⟩ := hp; cases h⟩
 | k + 1 => zq55_okF (zq55_okn k)
theorem zq55_ok : FnOK Tryz.prog 205 zq55_M.S := zq55_okn 4294967296
noncomputable def zq47_M : MS (Timetable × Fleet) ((List Int)) := ⟨.x .r .r, fun x => zq47 x.1 x.2, fun _ => .own 0, fun y => [arO 3 y], fun _ _ => []⟩
theorem zq47_c {t f y} (hm : zq47 t f = some y) : zq47_M.C (t, f) y := zq47_M.c (t, f) hm
theorem zq47_ok : FnOK Tryz.prog 144 zq47_M.S := by
 refine fm tt zq47_M [fo zq55_ok, fo zq54_ok, fo zq52_ok] Tryz.call144 Tryz.func144 rfl Tryz.results144 Tryz.ntmps144 ?_
 rintro ⟨t, f⟩ y cx G hm
 have hm : zq47 t f = some y := hm
 unfold zq47 at hm
 refine rg G (rs G (hN 2 t.Trips h0) ?_)
 refine rg G (Ok_seq (rg G (tl hm (fun v1 => ⟨[(2, .ref 16 0), (3, .ref 32 0), (5, dV (t.Trips.length : Int)), (6, .ref 48 0)], [bX 16 [dV t.Network.Stops, dV t.Network.Lines, dV t.Trips], bX 32 [dV f.Dead, dV f.Turn], bX 48 [dV t.Network.Stops, dV t.Network.Lines, dV t.Trips, dV f.Dead, dV f.Turn, .own 64], tX 64 35 [some 3] v1 64 none], 96⟩) (fun v1 hm => ?_) ?_)))
 ·refine Ok_block (lpP hm (fun (k, v) => ⟨[(2, .ref 16 0), (3, .ref 32 0), (5, dV (t.Trips.length : Int)), (6, .ref 48 0), (7, dV k)], [bX 16 [dV t.Network.Stops, dV t.Network.Lines, dV t.Trips], bX 32 [dV f.Dead, dV f.Turn], bX 48 [dV t.Network.Stops, dV t.Network.Lines, dV t.Trips, dV f.Dead, dV f.Turn, .own 64], tX 64 35 [some 3] v 64 none], 96⟩) (Wk_J G.hL ⟨[(2, []), (3, []), (5, []), (6, []), (7, [])], [(16, 16, []), (32, 32, []), (48, 176, [.k, .k, .k, .k, .k, .o 64])], [(64, 35, 1, [some 3])], 96⟩ (by kernel_rfl)) ?_)
  rintro ⟨k, v⟩ r0 hb hm
  rw [zq47_L2] at hm
  refine Ok_seq (rg G (cd hm (fun hm => ?_) (fun hm => ?_)))
  ·refine X_skip (thN (Ok_seq (Ok_block ?_)))
   obtain ⟨u, h, hm⟩ := obind hm
   obtain ⟨u1, h1, hm⟩ := obind hm
   refine rs G (hK h (hO 3 (.l (List.map Enc.e (List.replicate (w64 (1 * 2 ^ (min ((IntKind.u64.wrap ((t.Trips.length : Int))) : Int).toNat (IntKind.i64).bits))).toNat (0 : Int)))) (hP (mk_p (b := 8) (chk_t h1) rfl) (hP (rep_m Enc.e (w64 (1 * 2 ^ (min ((IntKind.u64.wrap ((t.Trips.length : Int))) : Int).toNat (IntKind.i64).bits))).toNat (0 : Int)) h0)))) ?_
   refine Ok_seq (rg G (tl hm (fun out1 => ⟨[(2, .ref 16 0), (3, .ref 32 0), (5, dV (t.Trips.length : Int)), (6, .ref 48 0), (7, dV k), (8, .own 64)], [bX 16 [dV t.Network.Stops, dV t.Network.Lines, dV t.Trips], bX 32 [dV f.Dead, dV f.Turn], bX 48 [dV t.Network.Stops, dV t.Network.Lines, dV t.Trips, dV f.Dead, dV f.Turn, .own 80], aX 64 3 out1, tX 80 35 [some 3] v 80 none], 112⟩) (fun out1 hm => ?_) ?_))
   ·refine Ok_block (lp G hm (fun (used, out) => ⟨[(2, .ref 16 0), (3, .ref 32 0), (5, dV (t.Trips.length : Int)), (6, .ref 48 0), (7, dV k), (8, .own 64), (9, dV used)], [bX 16 [dV t.Network.Stops, dV t.Network.Lines, dV t.Trips], bX 32 [dV f.Dead, dV f.Turn], bX 48 [dV t.Network.Stops, dV t.Network.Lines, dV t.Trips, dV f.Dead, dV f.Turn, .own 80], aX 64 3 out, tX 80 35 [some 3] v 80 none], 112⟩) ?_)
    rintro ⟨used, out⟩ r0 hb1 hm
    rw [zq47_L1] at hm
    refine Ok_seq (rs G (hN 2 out h0) ?_)
    refine cd hm (fun hm => ?_) (fun hm => ?_)
    ·refine X_skip (thN (Ok_seq (Ok_block ?_)))
     obtain ⟨e, h2, hm⟩ := obind hm
     refine re G (hD 2 h2 (hS 3 h2 (-1) h0)) ?_
     exact ibN (thN (rh G (wL G hm)))
    ·exact Ok_exit (thE (thE (ibE (wD G hm hb1))))
   rintro out1 hm s hw
   refine thN (Ok_weak hw ?_)
   obtain ⟨u2, h3, hm⟩ := obind hm
   refine re G (hP (nodupB_ok (l := [64]) rfl) (hA 7 24 h3 h0)) ?_
   exact ibN (thN (rh G (wL G hm)))
  ·exact Ok_exit (thE (thE (ibE (wD G hm hb))))
 rintro v1 hm s1 hw1
 refine thN (Ok_weak hw1 ?_)
 refine rg G (rg G (Ok_seq (rg G (tl hm (fun i1 => ⟨[(10, .own 16)], [aX 16 3 i1], 48⟩) (fun i1 hm => ?_) ?_))))
 ·refine Ok_block (lp G hm (fun (want, before, i, v2) => ⟨[(2, .ref 16 0), (3, .ref 32 0), (5, dV (t.Trips.length : Int)), (6, .ref 48 0), (10, .own 64), (11, dV want), (12, dV before)], [bX 16 [dV t.Network.Stops, dV t.Network.Lines, dV t.Trips], bX 32 [dV f.Dead, dV f.Turn], bX 48 [dV t.Network.Stops, dV t.Network.Lines, dV t.Trips, dV f.Dead, dV f.Turn, .own 80], aX 64 3 i, tX 80 35 [some 3] v2 80 none], 112⟩) ?_)
  rintro ⟨want, before, i, v2⟩ r0 hb2 hm
  rw [zq47_L4] at hm
  refine Ok_seq (rg G (cd hm (fun hm => ?_) (fun hm => ?_)))
  ·refine X_skip (thN (Ok_seq (Ok_block ?_)))
   obtain ⟨r, h4, hm⟩ := obind hm
   refine rs G (hC 3 (zq55_c h4) h0) ?_
   refine rg G (jn hm (fun (want1, v3, v4) => ⟨[(2, .ref 16 0), (3, .ref 32 0), (5, dV (t.Trips.length : Int)), (6, .ref 48 0), (10, .own 64), (11, dV want1), (12, dV before), (14, dV v3)], [bX 16 [dV t.Network.Stops, dV t.Network.Lines, dV t.Trips], bX 32 [dV f.Dead, dV f.Turn], bX 48 [dV t.Network.Stops, dV t.Network.Lines, dV t.Trips, dV f.Dead, dV f.Turn, .own 80], aX 64 3 i, tX 80 35 [some 3] v4 80 none], 112⟩) (fun vv3 hm => ?_) ?_)
   ·obtain ⟨r1, h5, hm⟩ := obind hm
    refine rs G (hC 4 (zq55_c h5) h0) ?_
    refine cd hm (fun hm => ?_) (fun hm => ?_)
    ·refine Ok_seq (rg G (tl hm (fun (v13, v14) => ⟨[(2, .ref 16 0), (3, .ref 32 0), (5, dV (t.Trips.length : Int)), (6, .ref 48 0), (10, .own 64), (11, dV want), (12, dV before), (14, dV v13)], [bX 16 [dV t.Network.Stops, dV t.Network.Lines, dV t.Trips], bX 32 [dV f.Dead, dV f.Turn], bX 48 [dV t.Network.Stops, dV t.Network.Lines, dV t.Trips, dV f.Dead, dV f.Turn, .own 80], aX 64 3 i, tX 80 35 [some 3] v14 80 none], 112⟩) (fun vv2 hm => ?_) ?_))
     ·refine Ok_block (lp G hm (fun (v5, v6, v7) => ⟨[(2, .ref 16 0), (3, .ref 32 0), (5, dV (t.Trips.length : Int)), (6, .ref 48 0), (10, .own 64), (11, dV want), (12, dV before), (13, dV r.1), (14, dV v5), (15, dV v6)], [bX 16 [dV t.Network.Stops, dV t.Network.Lines, dV t.Trips], bX 32 [dV f.Dead, dV f.Turn], bX 48 [dV t.Network.Stops, dV t.Network.Lines, dV t.Trips, dV f.Dead, dV f.Turn, .own 80], aX 64 3 i, tX 80 35 [some 3] v7 80 none], 112⟩) ?_)
      rintro ⟨v5, v6, v7⟩ r0 hb3 hm
      rw [zq47_L3] at hm
      refine Ok_seq (jn hm (fun v8 => ⟨[(2, .ref 16 0), (3, .ref 32 0), (5, dV (t.Trips.length : Int)), (6, .ref 48 0), (10, .own 64), (11, dV want), (12, dV before), (13, dV r.1), (14, dV v5), (15, dV v6), (75, dV v8)], [bX 16 [dV t.Network.Stops, dV t.Network.Lines, dV t.Trips], bX 32 [dV f.Dead, dV f.Turn], bX 48 [dV t.Network.Stops, dV t.Network.Lines, dV t.Trips, dV f.Dead, dV f.Turn, .own 80], aX 64 3 i, tX 80 35 [some 3] v7 80 none], 112⟩) (fun v8 hm => ?_) ?_)
      ·rcases bf hm with ⟨hb4, hm⟩ | ⟨hb4, hm⟩
       ·refine re G (hO 3 (.b true) (hP hb4 h0)) ?_
        exact wJ G hm
       ·refine re G (hO 3 (.b false) (hP hb4 h0)) ?_
        exact wJ G hm
      rintro v8 hm
      refine cd hm (fun hm => ?_) (fun hm => ?_)
      ·refine X_skip (thN (jn hm (fun (v9, v10) => ⟨[(2, .ref 16 0), (3, .ref 32 0), (5, dV (t.Trips.length : Int)), (6, .ref 48 0), (10, .own 64), (11, dV want), (12, dV before), (13, dV r.1), (14, dV v9), (15, dV v6)], [bX 16 [dV t.Network.Stops, dV t.Network.Lines, dV t.Trips], bX 32 [dV f.Dead, dV f.Turn], bX 48 [dV t.Network.Stops, dV t.Network.Lines, dV t.Trips, dV f.Dead, dV f.Turn, .own 80], aX 64 3 i, tX 80 35 [some 3] v10 80 none], 112⟩) (fun vv1 hm => ?_) ?_))
       ·refine Ok_block ?_
        obtain ⟨u3, h6, hm⟩ := obind hm
        refine jn hm (fun (v11, v12) => ⟨[(2, .ref 16 0), (3, .ref 32 0), (5, dV (t.Trips.length : Int)), (6, .ref 48 0), (10, .own 64), (11, dV want), (12, dV before), (13, dV r.1), (14, dV v5), (15, dV v6), (109, dV v11)], [bX 16 [dV t.Network.Stops, dV t.Network.Lines, dV t.Trips], bX 32 [dV f.Dead, dV f.Turn], bX 48 [dV t.Network.Stops, dV t.Network.Lines, dV t.Trips, dV f.Dead, dV f.Turn, .own 80], aX 64 3 i, tX 80 35 [some 3] v12 80 none], 112⟩) (fun vv hm => ?_) ?_
        ·rcases bf hm with ⟨hb5, hm⟩ | ⟨hb5, hm⟩
         ·obtain ⟨r2, h7, hm⟩ := obind hm
          rcases bf hm with ⟨hb6, hm⟩ | ⟨hb6, hm⟩
          ·obtain ⟨r3, h8, hm⟩ := obind hm
           obtain ⟨u4, h9, hm⟩ := obind hm
           obtain ⟨r4, h10, hm⟩ := obind hm
           refine re G (hK h6 (hO 6 (.b true) (hP hb5 (hC 11 (zq54_c h7) (hO 13 (.b true) (hP hb6 (hC 18 (zq52_c h8) (hK h9 (hC 27 (zq55_c h10) h0))))))))) ?_
           exact wJ G hm
          ·refine re G (hK h6 (hO 6 (.b true) (hP hb5 (hC 11 (zq54_c h7) (hO 13 (.b false) (hP hb6 h0)))))) ?_
           exact wJ G hm
         ·refine re G (hK h6 (hO 6 (.b false) (hP hb5 h0))) ?_
          exact wJ G hm
        rintro ⟨v11, v12⟩ hm
        refine cd hm (fun hm => ?_) (fun hm => ?_)
        ·exact rh G (ibN (wJ G hm))
        ·exact X_skip (ibN (wJ G hm))
       rintro ⟨v9, v10⟩ hm
       exact rh G (wL G hm)
      ·exact Ok_exit (thE (thE (ibE (wD G hm hb3))))
     rintro ⟨v13, v14⟩ hm s2 hw2
     refine thN (Ok_weak hw2 ?_)
     obtain ⟨u5, h11, hm⟩ := obind hm
     refine re G (hK h11 h0) ?_
     exact wJ G hm
    ·exact X_skip (wJ G hm)
   rintro ⟨want1, v3, v4⟩ hm
   obtain ⟨u6, h12, hm⟩ := obind hm
   refine re G (hA 3 8 h12 h0) ?_
   exact ibN (thN (rh G (wL G hm)))
  ·exact Ok_exit (thE (thE (ibE (wD G hm hb2))))
 rintro i1 hm s3 hw3
 refine thN (Ok_weak hw3 ?_)
 refine rg G ?_
 cases hm
 exact rt [16] []
noncomputable def zq83_M : MS (l1Cur × Timetable) (Int × l1Cur) := ⟨.x .b .r, fun x => zq83 x.1 x.2, fun y => dV y.1, fun _ => [], fun _ y => [bxO y.2]⟩
theorem zq83_c {c t y} (hm : zq83 c t = some y) : zq83_M.C (c, t) y := zq83_M.c (c, t) hm
theorem zq83_ok : FnOK Tryz.prog 133 zq83_M.S := by
 refine fm tt zq83_M [fo zq91_ok, fo zq93_ok] Tryz.call133 Tryz.func133 rfl Tryz.results133 Tryz.ntmps133 ?_
 rintro ⟨c, t⟩ y cx G hm
 have hm : zq83 c t = some y := hm
 unfold zq83 at hm
 refine rg G (Ok_seq (jn hm (fun (v, v1, v2, v3) => ⟨[(0, .ref 0 0), (3, .ref 32 0), (12, dV v)], [bX 0 [dV v1, dV v2, kV .u64 v3], bX 32 [dV t.Network.Stops, dV t.Network.Lines, dV t.Trips]], 64⟩) (fun vv hm => ?_) ?_))
 ·rcases bf hm with ⟨hb, hm⟩ | ⟨hb, hm⟩
  ·refine re G (hN 2 t.Trips (hO 4 (.b true) (hP hb h0))) ?_
   exact wJ G hm
  ·obtain ⟨r, h, hm⟩ := obind hm
   refine re G (hN 2 t.Trips (hO 4 (.b false) (hP hb (hC 6 (zq91_c h) h0)))) ?_
   exact wJ G hm
 rintro ⟨v, v1, v2, v3⟩ hm
 refine cd hm (fun hm => ?_) (fun hm => ?_)
 ·obtain ⟨r1, h1, hm⟩ := obind hm
  refine rs G (hC 1 (zq93_c h1) h0) ?_
  cases hm
  exact rt [] []
 ·refine X_skip (thN ?_)
  obtain ⟨r3, h4, hm⟩ := obind hm
  obtain ⟨e1, h5, hm⟩ := obind hm
  refine ds G [(6, [0])] (hN 5 t.Trips (hC 6 (zq93_c h4) (hD 7 h5 h0))) ?_
  cases hm
  exact rt [] []
noncomputable def zq50_M : MS (Timetable × (List Int)) ((List (List Int))) := ⟨.x .r .r, fun x => zq50 x.1 x.2, fun _ => .own 0, fun y => [taO 35 [some 3] y], fun _ _ => []⟩
theorem zq50_c {t before y} (hm : zq50 t before = some y) : zq50_M.C (t, before) y := zq50_M.c (t, before) hm
theorem zq50_ok : FnOK Tryz.prog 143 zq50_M.S := by
 refine fm tt zq50_M [] Tryz.call143 Tryz.func143 rfl Tryz.results143 Tryz.ntmps143 ?_
 rintro ⟨t, before⟩ y cx G hm
 have hm : zq50 t before = some y := hm
 unfold zq50 at hm
 refine rg G (rg G (Ok_seq (rg G (tl hm (fun block2 => ⟨[(5, .own 16)], [tX 16 35 [some 3] block2 16 none], 48⟩) (fun block2 hm => ?_) ?_))))
 ·refine Ok_block (lpP hm (fun (at_, block) => ⟨[(1, dV before), (2, .ref 16 0), (5, .own 32), (6, dV at_)], [bX 16 [dV t.Network.Stops, dV t.Network.Lines, dV t.Trips], tX 32 35 [some 3] block 32 none], 64⟩) (Wk_J G.hL ⟨[(1, []), (2, []), (5, []), (6, [])], [(16, 16, []), (32, 48, [.t [some 3]])], [], 64⟩ (by kernel_rfl)) ?_)
  rintro ⟨at_, block⟩ r0 hb hm
  rw [zq50_L3] at hm
  refine Ok_seq (rs G (hN 2 before h0) ?_)
  refine cd hm (fun hm => ?_) (fun hm => ?_)
  ·refine X_skip (thN (jn hm (fun block1 => ⟨[(1, dV before), (2, .ref 16 0), (5, .own 32), (6, dV at_)], [bX 16 [dV t.Network.Stops, dV t.Network.Lines, dV t.Trips], tX 32 35 [some 3] block1 32 none], 64⟩) (fun block1 hm => ?_) ?_))
   ·refine Ok_block (Ok_seq ?_)
    obtain ⟨e, h, hm⟩ := obind hm
    refine rs G (hD 2 h h0) ?_
    refine cd hm (fun hm => ?_) (fun hm => ?_)
    ·exact Ok_exit (thE (ibE (wJ G hm)))
    ·refine X_skip (thN (rg G (Ok_seq (rg G (tl hm (fun next1 => ⟨[(1, dV before), (2, .ref 16 0), (5, .own 32), (6, dV at_), (7, .own 48)], [bX 16 [dV t.Network.Stops, dV t.Network.Lines, dV t.Trips], tX 32 35 [some 3] block 32 none, aX 48 3 next1], 80⟩) (fun next1 hm => ?_) ?_)))))
     ·refine Ok_block (lp G hm (fun (k, next) => ⟨[(1, dV before), (2, .ref 16 0), (5, .own 32), (6, dV at_), (7, .own 48), (8, dV k)], [bX 16 [dV t.Network.Stops, dV t.Network.Lines, dV t.Trips], tX 32 35 [some 3] block 32 none, aX 48 3 next], 80⟩) ?_)
      rintro ⟨k, next⟩ r0 hb1 hm
      rw [zq50_L2] at hm
      refine Ok_seq (rg G (cd hm (fun hm => ?_) (fun hm => ?_)))
      ·refine X_skip (thN (Ok_block ?_))
       obtain ⟨e1, h1, hm⟩ := obind hm
       obtain ⟨u, h2, hm⟩ := obind hm
       refine rs G (hD 4 h1 (hA 8 8 h2 h0)) ?_
       refine rg G (Ok_seq (rg G (tl hm (fun v3 => ⟨[(1, dV before), (2, .ref 16 0), (5, .own 32), (6, dV at_), (7, .own 48), (9, dV v3)], [bX 16 [dV t.Network.Stops, dV t.Network.Lines, dV t.Trips], tX 32 35 [some 3] block 32 none, aX 48 3 (next ++ ([e1.Id] : List Int))], 80⟩) (fun v3 hm => ?_) ?_)))
       ·refine Ok_block (lp G hm (fun (v, v1) => ⟨[(1, dV before), (2, .ref 16 0), (5, .own 32), (6, dV at_), (7, .own 48), (8, dV k), (9, dV v), (10, dV v1)], [bX 16 [dV t.Network.Stops, dV t.Network.Lines, dV t.Trips], tX 32 35 [some 3] block 32 none, aX 48 3 (next ++ ([e1.Id] : List Int))], 80⟩) ?_)
        rintro ⟨v, v1⟩ r0 hb2 hm
        rw [zq50_L1] at hm
        refine Ok_seq (rs G (hN 2 before h0) ?_)
        refine cd hm (fun hm => ?_) (fun hm => ?_)
        ·refine X_skip (thN (jn hm (fun v2 => ⟨[(1, dV before), (2, .ref 16 0), (5, .own 32), (6, dV at_), (7, .own 48), (8, dV k), (9, dV v2), (10, dV v1)], [bX 16 [dV t.Network.Stops, dV t.Network.Lines, dV t.Trips], tX 32 35 [some 3] block 32 none, aX 48 3 (next ++ ([e1.Id] : List Int))], 80⟩) (fun v2 hm => ?_) ?_))
         ·refine Ok_block ?_
          obtain ⟨e2, h3, hm⟩ := obind hm
          refine rs G (hD 2 h3 h0) ?_
          refine cd hm (fun hm => ?_) (fun hm => ?_)
          ·exact rh G (ibN (wJ G hm))
          ·exact X_skip (ibN (wJ G hm))
         rintro v2 hm
         exact rh G (wL G hm)
        ·exact Ok_exit (thE (thE (ibE (wD G hm hb2))))
       rintro v3 hm s hw
       refine thN (Ok_weak hw ?_)
       exact rh G (ibN (wL G hm))
      ·exact Ok_exit (thE (thE (ibE (wD G hm hb1))))
     rintro next1 hm s1 hw1
     refine thN (Ok_weak hw1 ?_)
     obtain ⟨u1, h4, hm⟩ := obind hm
     refine re G (hP (nodupB_ok (l := [48]) rfl) (hA 3 24 h4 h0)) ?_
     exact ibN (wJ G hm)
   rintro block1 hm
   exact rh G (wL G hm)
  ·exact Ok_exit (thE (thE (ibE (wD G hm hb))))
 rintro block2 hm s2 hw2
 refine thN (Ok_weak hw2 ?_)
 refine rg G ?_
 cases hm
 exact rt [16] []
noncomputable def zq94_M : MS l1Cur (Timetable × Fleet × (List (List Int)) × l1Cur) := ⟨.b, zq94, fun y => .tup [dV y.1, dV y.2.1, .own 0], fun y => [arO 35 y.2.2.1], fun _ y => [bxO y.2.2.2]⟩
theorem zq94_c {c y} (hm : zq94 c = some y) : zq94_M.C c y := zq94_M.c c hm
theorem zq94_ok : FnOK Tryz.prog 63 zq94_M.S := by
 refine fm tt zq94_M [fo zq97_ok, fo zq81_ok, fo zq46_ok, fo zq47_ok, fo zq50_ok, fo zq91_ok, fo zq93_ok, fo zq83_ok] Tryz.call63 Tryz.func63 rfl Tryz.results63 Tryz.ntmps63 ?_
 rintro c y cx G hm
 have hm : zq94 c = some y := hm
 unfold zq94 at hm
 refine rg G ?_
 obtain ⟨r, h, hm⟩ := obind hm
 refine rs G (hC 1 (zq97_c h) h0) ?_
 obtain ⟨r1, h1, hm⟩ := obind hm
 refine rs G (hO 3 (.fz [80] [] []) (hC 3 (zq81_c h1) h0)) ?_
 refine Ok_seq ?_
 obtain ⟨r2, h2, hm⟩ := obind hm
 refine jn hm (fun v => ⟨[(0, .ref 0 0), (2, .ref 32 0), (3, .ref 48 0), (5, .ref 64 0), (6, .ref 80 0), (24, dV v)], [bX 0 [dV r1.2.code_, dV r1.2.at_, kV .u64 r1.2.seed_.v], bX 32 [.dat (.sc (.slice none 0 0)), .dat (.sc (.slice none 0 0)), .dat (.sc (.slice none 0 0))], bX 48 [.dat (.sc (.slice none 0 0)), kV .i64 0], bX 64 [dV r.1.Network.Stops, dV r.1.Network.Lines, .own 96], bX 80 [dV r1.1.Dead, dV r1.1.Turn], aX 96 45 r.1.Trips], 128⟩) (fun v hm => ?_) ?_
 ·rcases bf hm with ⟨hb, hm⟩ | ⟨hb, hm⟩
  ·refine re G (hC 2 (zq46_c h2) (hO 4 (.b true) (hP hb h0))) ?_
   exact wJ G hm
  ·refine re G (hC 2 (zq46_c h2) (hO 4 (.b false) (hP hb (hN 7 r.1.Trips h0)))) ?_
   exact wJ G hm
 rintro v hm
 refine cd hm (fun hm => ?_) (fun hm => ?_)
 ·refine ds G [(2, []), (3, [32, 96]), (4, [48])] h0 ?_
  cases hm
  exact rt [160] []
 ·refine X_skip (thN ?_)
  obtain ⟨r5, h5, hm⟩ := obind hm
  obtain ⟨r6, h6, hm⟩ := obind hm
  refine ds G [] (hF 3 (zq47_c h5) ⟨(flat_cons flat_arr flat_nil), flat_nil⟩ (hF 4 (zq50_c h6) ⟨(flat_cons flat_rows flat_nil), flat_nil⟩ h0)) ?_
  refine jn hm (fun (v1, v2, v3, i) => ⟨[(0, .ref 0 0), (2, .ref 32 0), (3, .ref 48 0), (5, .ref 64 0), (6, .ref 80 0), (7, .own 96)], [bX 0 [dV v1, dV v2, kV .u64 v3], bX 32 [.dat (.sc (.slice none 0 0)), .dat (.sc (.slice none 0 0)), .dat (.sc (.slice none 0 0))], bX 48 [.dat (.sc (.slice none 0 0)), kV .i64 0], bX 64 [dV r.1.Network.Stops, dV r.1.Network.Lines, dV r.1.Trips], bX 80 [dV r1.1.Dead, dV r1.1.Turn], aX 96 35 i], 128⟩) (fun vv1 hm => ?_) ?_
  ·refine jn hm (fun (v4, v5, v6, v7) => ⟨[(0, .ref 0 0), (2, .ref 32 0), (3, .ref 48 0), (5, .ref 64 0), (6, .ref 80 0), (7, .own 96), (39, dV v4)], [bX 0 [dV v5, dV v6, kV .u64 v7], bX 32 [.dat (.sc (.slice none 0 0)), .dat (.sc (.slice none 0 0)), .dat (.sc (.slice none 0 0))], bX 48 [.dat (.sc (.slice none 0 0)), kV .i64 0], bX 64 [dV r.1.Network.Stops, dV r.1.Network.Lines, .own 112], bX 80 [dV r1.1.Dead, dV r1.1.Turn], tX 96 35 [some 3] r6 96 none, aX 112 45 r.1.Trips], 144⟩) (fun vv hm => ?_) ?_
   ·rcases bf hm with ⟨hb1, hm⟩ | ⟨hb1, hm⟩
    ·obtain ⟨r7, h7, hm⟩ := obind hm
     refine re G (hN 1 r6 (hO 3 (.b true) (hP hb1 (hC 5 (zq91_c h7) h0)))) ?_
     exact wJ G hm
    ·refine re G (hN 1 r6 (hO 3 (.b false) (hP hb1 h0))) ?_
     exact wJ G hm
   rintro ⟨v4, v5, v6, v7⟩ hm
   refine cd hm (fun hm => ?_) (fun hm => ?_)
   ·obtain ⟨r8, h8, hm⟩ := obind hm
    refine rs G (hN 2 r6 (hC 3 (zq93_c h8) h0)) ?_
    obtain ⟨r9, h9, hm⟩ := obind hm
    refine rs G (hC 1 (zq93_c h9) h0) ?_
    refine Ok_block (rg G (cd hm (fun hm => ?_) (fun hm => ?_)))
    ·refine Ok_weak (Wk_J (x' := (⟨[(0, .ref 0 0), (2, .ref 32 0), (3, .ref 48 0), (5, .ref 64 0), (6, .ref 80 0), (7, .own 96), (8, dV r8.1)], [bX 0 [dV r9.2.code_, dV r9.2.at_, kV .u64 r9.2.seed_.v], bX 32 [.dat (.sc (.slice none 0 0)), .dat (.sc (.slice none 0 0)), .dat (.sc (.slice none 0 0))], bX 48 [.dat (.sc (.slice none 0 0)), kV .i64 0], bX 64 [dV r.1.Network.Stops, dV r.1.Network.Lines, dV r.1.Trips], bX 80 [dV r1.1.Dead, dV r1.1.Turn], tX 96 35 [some 3] r6 96 none], 128⟩ : X)) G.hL ⟨[(0, []), (2, []), (3, []), (5, []), (6, []), (7, []), (8, [])], [(0, 0, []), (32, 32, []), (48, 48, []), (64, 64, []), (80, 80, []), (96, 96, [])], [], 128⟩ (by kernel_rfl)) ?_
     obtain ⟨e2, h14, hm⟩ := obind hm
     obtain ⟨r11, h15, hm⟩ := obind hm
     obtain ⟨u1, h16, hm⟩ := obind hm
     obtain ⟨e3, h17, hm⟩ := obind hm
     refine de G [(8, [0]), (10, [96, 272]), (12, [96, 288])] (hD 4 h14 (hE 5 h14 (hC 8 (zq83_c h15) (hO 10 (.sd (Enc.e e2) (List.map Enc.e (e2 ++ ([r11.1] : List Int)))) (hP (idx_m2 (f := Enc.e) h14) (hP (app_p (f := Enc.e) (g := Enc.e) (l := e2) (r := ([r11.1] : List Int)) (b := 8) (chk_t h16) rfl) (hP (app_m Enc.e e2 ([r11.1] : List Int)) (hD 11 h17 (hS 12 h14 (e2 ++ ([r11.1] : List Int)) (hP (Eq.refl r8.1.toNat) h0)))))))))) ?_
     exact ibN (wJp hm (Wk_J G.hL ⟨[(0, []), (2, []), (3, []), (5, []), (6, []), (7, [])], [(0, 0, []), (32, 32, []), (48, 48, []), (64, 64, []), (80, 80, []), (96, 96, [.f])], [], 128⟩ (by kernel_rfl)))
    ·refine rg G (cd hm (fun hm => ?_) (fun hm => ?_))
     ·obtain ⟨e4, h18, hm⟩ := obind hm
      obtain ⟨u2, h19, hm⟩ := obind hm
      obtain ⟨e5, h20, hm⟩ := obind hm
      refine re G (hD 4 h18 (hO 5 (.fz [] [] [(96, [.f])]) (hE 5 h18 (hV 6 h19 (hD 7 h20 (hS 8 h20 (e4.drop (1 : Int).toNat) h0)))))) ?_
      exact ibN (wJ G hm)
     ·obtain ⟨e6, h21, hm⟩ := obind hm
      obtain ⟨u3, h22, hm⟩ := obind hm
      refine re G (hD 3 h21 (hO 4 (.fz [] [] [(96, [.f])]) (hE 4 h21 (hA 6 24 h22 h0)))) ?_
      exact ibN (wJ G hm)
   ·exact X_skip (wJp hm (Wk_J G.hL ⟨[(0, []), (2, []), (3, []), (5, []), (6, []), (7, [])], [(0, 0, []), (32, 32, []), (48, 48, []), (64, 64, []), (80, 80, []), (96, 96, [.f])], [], 128⟩ (by kernel_rfl)))
  rintro ⟨v1, v2, v3, i⟩ hm
  refine ds G [(3, [32]), (4, [48])] h0 ?_
  cases hm
  exact rt [96] []
noncomputable def zq80_M : MS (l1Cur × Timetable) ((List Delay) × l1Cur) := ⟨.x .b .r, fun x => zq80 x.1 x.2, fun _ => .own 0, fun y => [arO 126 y.1], fun _ y => [bxO y.2]⟩
theorem zq80_c {c t y} (hm : zq80 c t = some y) : zq80_M.C (c, t) y := zq80_M.c (c, t) hm
theorem zq80_ok : FnOK Tryz.prog 64 zq80_M.S := by
 refine fm tt zq80_M [fo zq91_ok, fo zq74_ok, fo zq83_ok] Tryz.call64 Tryz.func64 rfl Tryz.results64 Tryz.ntmps64 ?_
 rintro ⟨c, t⟩ y cx G hm
 have hm : zq80 c t = some y := hm
 unfold zq80 at hm
 refine rg G (rg G (Ok_seq (rg G (tl hm (fun (v9, v10, v11, v12) => ⟨[(0, .ref 0 0), (3, .ref 32 0), (5, .own 48)], [bX 0 [dV v9, dV v10, kV .u64 v11], bX 32 [dV t.Network.Stops, dV t.Network.Lines, dV t.Trips], aX 48 126 v12], 80⟩) (fun vv2 hm => ?_) ?_))))
 ·refine Ok_block (lp G hm (fun (v, v1, v2, v3, v4) => ⟨[(0, .ref 0 0), (3, .ref 32 0), (5, .own 48), (6, dV v)], [bX 0 [dV v1, dV v2, kV .u64 v3], bX 32 [dV t.Network.Stops, dV t.Network.Lines, dV t.Trips], aX 48 126 v4], 80⟩) ?_)
  rintro ⟨v, v1, v2, v3, v4⟩ r0 hb hm
  rw [zq80_L1] at hm
  refine Ok_seq (rs G (hN 3 t.Trips h0) ?_)
  refine cd hm (fun hm => ?_) (fun hm => ?_)
  ·refine X_skip (thN (jn hm (fun (v5, v6, v7, v8) => ⟨[(0, .ref 0 0), (3, .ref 32 0), (5, .own 48), (6, dV v)], [bX 0 [dV v5, dV v6, kV .u64 v7], bX 32 [dV t.Network.Stops, dV t.Network.Lines, dV t.Trips], aX 48 126 v8], 80⟩) (fun vv hm => ?_) ?_))
   ·refine Ok_block ?_
    obtain ⟨r, h, hm⟩ := obind hm
    refine rs G (hC 1 (zq91_c h) h0) ?_
    refine cd hm (fun hm => ?_) (fun hm => ?_)
    ·obtain ⟨e1, h4, hm⟩ := obind hm
     obtain ⟨r2, h5, hm⟩ := obind hm
     obtain ⟨u1, h6, hm⟩ := obind hm
     refine de G [(9, [0, 320]), (12, [48, 368])] (hD 4 h4 (hC 9 (zq74_c h5) (hA 12 16 h6 h0))) ?_
     exact ibN (wJ G hm)
    ·exact X_skip (ibN (wJ G hm))
   rintro ⟨v5, v6, v7, v8⟩ hm
   exact rh G (wL G hm)
  ·exact Ok_exit (thE (thE (ibE (wD G hm hb))))
 rintro ⟨v9, v10, v11, v12⟩ hm s hw
 refine thN (Ok_weak hw ?_)
 refine jn hm (fun (v13, v14, v15, v16) => ⟨[(0, .ref 0 0), (5, .own 32)], [bX 0 [dV v13, dV v14, kV .u64 v15], aX 32 126 v16], 64⟩) (fun vv1 hm => ?_) ?_
 ·obtain ⟨r3, h7, hm⟩ := obind hm
  refine rs G (hC 1 (zq91_c h7) h0) ?_
  refine cd hm (fun hm => ?_) (fun hm => ?_)
  ·obtain ⟨r4, h8, hm⟩ := obind hm
   obtain ⟨r5, h9, hm⟩ := obind hm
   obtain ⟨u2, h10, hm⟩ := obind hm
   refine re G (hC 3 (zq83_c h8) (hC 6 (zq74_c h9) (hA 9 16 h10 h0))) ?_
   exact wJ G hm
  ·exact X_skip (wJ G hm)
 rintro ⟨v13, v14, v15, v16⟩ hm
 refine rg G ?_
 cases hm
 exact rt [32] []
noncomputable def zq92_M : MS l1Cur (Int × l1Cur) := ⟨.b, zq92, fun y => dV y.1, fun _ => [], fun _ y => [bxO y.2]⟩
theorem zq92_c {c y} (hm : zq92 c = some y) : zq92_M.C c y := zq92_M.c c hm
theorem zq92_ok : FnOK Tryz.prog 95 zq92_M.S := by
 refine fm tt zq92_M [fo zq73_ok] Tryz.call95 Tryz.func95 rfl Tryz.results95 Tryz.ntmps95 ?_
 rintro c y cx G hm
 have hm : zq92 c = some y := hm
 unfold zq92 at hm
 refine rg G ?_
 obtain ⟨r, h, hm⟩ := obind hm
 refine rs G (hO 2 (.fz [48] [] []) (hC 2 (zq73_c h) h0)) ?_
 cases hm
 exact rt [] []
noncomputable def zq79_M : MS (l1Cur × Timetable) ((List Int) × l1Cur) := ⟨.x .b .r, fun x => zq79 x.1 x.2, fun _ => .own 0, fun y => [arO 3 y.1], fun _ y => [bxO y.2]⟩
theorem zq79_c {c t y} (hm : zq79 c t = some y) : zq79_M.C (c, t) y := zq79_M.c (c, t) hm
theorem zq79_ok : FnOK Tryz.prog 65 zq79_M.S := by
 refine fm tt zq79_M [fo zq91_ok, fo zq83_ok] Tryz.call65 Tryz.func65 rfl Tryz.results65 Tryz.ntmps65 ?_
 rintro ⟨c, t⟩ y cx G hm
 have hm : zq79 c t = some y := hm
 unfold zq79 at hm
 refine rg G (rg G (Ok_seq (rg G (tl hm (fun (v9, v10, v11, v12) => ⟨[(0, .ref 0 0), (3, .ref 32 0), (5, .own 48)], [bX 0 [dV v9, dV v10, kV .u64 v11], bX 32 [dV t.Network.Stops, dV t.Network.Lines, dV t.Trips], aX 48 3 v12], 80⟩) (fun vv2 hm => ?_) ?_))))
 ·refine Ok_block (lp G hm (fun (v, v1, v2, v3, v4) => ⟨[(0, .ref 0 0), (3, .ref 32 0), (5, .own 48), (6, dV v)], [bX 0 [dV v1, dV v2, kV .u64 v3], bX 32 [dV t.Network.Stops, dV t.Network.Lines, dV t.Trips], aX 48 3 v4], 80⟩) ?_)
  rintro ⟨v, v1, v2, v3, v4⟩ r0 hb hm
  rw [zq79_L1] at hm
  refine Ok_seq (rs G (hN 3 t.Trips h0) ?_)
  refine cd hm (fun hm => ?_) (fun hm => ?_)
  ·refine X_skip (thN (jn hm (fun (v5, v6, v7, v8) => ⟨[(0, .ref 0 0), (3, .ref 32 0), (5, .own 48), (6, dV v)], [bX 0 [dV v5, dV v6, kV .u64 v7], bX 32 [dV t.Network.Stops, dV t.Network.Lines, dV t.Trips], aX 48 3 v8], 80⟩) (fun vv hm => ?_) ?_))
   ·refine Ok_block ?_
    obtain ⟨r, h, hm⟩ := obind hm
    refine rs G (hC 1 (zq91_c h) h0) ?_
    refine cd hm (fun hm => ?_) (fun hm => ?_)
    ·obtain ⟨e, h1, hm⟩ := obind hm
     obtain ⟨u, h2, hm⟩ := obind hm
     refine re G (hD 4 h1 (hA 8 8 h2 h0)) ?_
     exact ibN (wJ G hm)
    ·exact X_skip (ibN (wJ G hm))
   rintro ⟨v5, v6, v7, v8⟩ hm
   exact rh G (wL G hm)
  ·exact Ok_exit (thE (thE (ibE (wD G hm hb))))
 rintro ⟨v9, v10, v11, v12⟩ hm s hw
 refine thN (Ok_weak hw ?_)
 refine jn hm (fun (v13, v14, v15, v16) => ⟨[(0, .ref 0 0), (5, .own 32)], [bX 0 [dV v13, dV v14, kV .u64 v15], aX 32 3 v16], 64⟩) (fun vv1 hm => ?_) ?_
 ·obtain ⟨r1, h3, hm⟩ := obind hm
  refine rs G (hC 1 (zq91_c h3) h0) ?_
  refine cd hm (fun hm => ?_) (fun hm => ?_)
  ·obtain ⟨r2, h4, hm⟩ := obind hm
   obtain ⟨u1, h5, hm⟩ := obind hm
   refine re G (hC 3 (zq83_c h4) (hA 5 8 h5 h0)) ?_
   exact wJ G hm
  ·exact X_skip (wJ G hm)
 rintro ⟨v13, v14, v15, v16⟩ hm
 refine rg G ?_
 cases hm
 exact rt [32] []
noncomputable def zq45_M : MS ((List UInt8)) (Timetable × Fleet × (List (List Int)) × (List Delay) × Int × (List Int)) := ⟨.r, zq45, fun y => .tup [dV y.1, dV y.2.1, .own 0, .own 1, dV y.2.2.2.2.1, .own 2], fun y => [arO 35 y.2.2.1, arO 126 y.2.2.2.1, arO 3 y.2.2.2.2.2], fun _ _ => []⟩
theorem zq45_c {code y} (hm : zq45 code = some y) : zq45_M.C code y := zq45_M.c code hm
theorem zq45_ok : FnOK Tryz.prog 30 zq45_M.S := by
 refine fm tt zq45_M [fo zq94_ok, fo zq80_ok, fo zq92_ok, fo zq79_ok] Tryz.call30 Tryz.func30 rfl Tryz.results30 Tryz.ntmps30 ?_
 rintro code y cx G hm
 have hm : zq45 code = some y := hm
 unfold zq45 at hm
 refine rg G (rg G ?_)
 obtain ⟨r, h, hm⟩ := obind hm
 refine rs G (hC 1 (zq94_c h) h0) ?_
 obtain ⟨r4, h4, hm⟩ := obind hm
 obtain ⟨r5, h5, hm⟩ := obind hm
 obtain ⟨r6, h6, hm⟩ := obind hm
 refine ds G [(5, [144]), (7, [144]), (10, [144]), (11, [16]), (12, [32])] (hC 5 (zq80_c h4) (hC 7 (zq92_c h5) (hC 10 (zq79_c h6) h0))) ?_
 cases hm
 exact rt [192, 432, 512] []
noncomputable def zq42_M : MS (Int × Int × Int) Bool := ⟨.x .r (.x .r .r), fun x => zq42 x.1 x.2.1 x.2.2, fun y => dV y, fun _ => [], fun _ _ => []⟩
theorem zq42_c {n lo hi y} (hm : zq42 n lo hi = some y) : zq42_M.C (n, lo, hi) y := zq42_M.c (n, lo, hi) hm
theorem zq42_ok : FnOK Tryz.prog 72 zq42_M.S := by
 refine fm tt zq42_M [] Tryz.call72 Tryz.func72 rfl Tryz.results72 Tryz.ntmps72 ?_
 rintro ⟨n, lo, hi⟩ y cx G hm
 have hm : zq42 n lo hi = some y := hm
 unfold zq42 at hm
 refine rg G (jn hm (fun v => ⟨[(6, dV v)], [], 32⟩) (fun v hm => ?_) ?_)
 ·rcases bf hm with ⟨hb, hm⟩ | ⟨hb, hm⟩
  ·refine re G (hO 3 (.b true) (hP hb h0)) ?_
   exact wJ G hm
  ·refine re G (hO 3 (.b false) (hP hb h0)) ?_
   exact wJ G hm
 rintro v hm
 cases hm
 exact rt [] []
noncomputable def zq26_M : MS ByteArray Bool := ⟨.r, zq26, fun y => dV y, fun _ => [], fun _ _ => []⟩
theorem zq26_c {s y} (hm : zq26 s = some y) : zq26_M.C s y := zq26_M.c s hm
theorem zq26_ok : FnOK Tryz.prog 233 zq26_M.S := by
 refine fm tt zq26_M [] Tryz.call233 Tryz.func233 rfl Tryz.results233 Tryz.ntmps233 ?_
 rintro s y cx G hm
 have hm : zq26 s = some y := hm
 unfold zq26 at hm
 refine rg G (Ok_seq (jn hm (fun v => ⟨[(0, dV s), (12, dV v)], [], 32⟩) (fun v hm => ?_) ?_))
 ·rcases bf hm with ⟨hb, hm⟩ | ⟨hb, hm⟩
  ·refine re G (hO 3 (.b true) (hP hb h0)) ?_
   exact wJ G hm
  ·refine re G (hO 3 (.b false) (hP hb h0)) ?_
   exact wJ G hm
 rintro v hm
 refine cd hm (fun hm => ?_) (fun hm => ?_)
 ·refine rg G ?_
  cases hm
  exact rt [] []
 ·refine X_skip (thN (Ok_seq (rg G (tF hm (fun _ => ⟨[], [], 32⟩) (fun v4 hr hm => ?_) ?_))))
  ·refine Ok_block (lp G hm (fun v1 => ⟨[(0, dV s), (14, dV (s.size : Int)), (15, dV v1)], [], 32⟩) ?_)
   rintro v1 r0 hb1 hm
   rw [zq26_L1] at hm
   refine rg G (Ok_seq (cd hm (fun hm => ?_) (fun hm => ?_)))
   ·refine X_skip (thN (Ok_seq (Ok_block (rg G ?_))))
    obtain ⟨u, h, hm⟩ := obind hm
    refine jn hm (fun v2 => ⟨[(0, dV s), (3, dV v1), (4, dV v2), (14, dV (s.size : Int)), (15, dV v1)], [], 32⟩) (fun v2 hm => ?_) ?_
    ·rcases bf hm with ⟨hb2, hm⟩ | ⟨hb2, hm⟩
     ·obtain ⟨u1, h1, hm⟩ := obind hm
      refine re G (hK h (hO 4 (.b true) (hP hb2 (hK h1 h0)))) ?_
      exact wJ G hm
     ·refine re G (hK h (hO 4 (.b false) (hP hb2 h0))) ?_
      exact wJ G hm
    rintro v2 hm
    refine jn hm (fun v3 => ⟨[(0, dV s), (14, dV (s.size : Int)), (15, dV v1), (45, dV v3)], [], 32⟩) (fun v3 hm => ?_) ?_
    ·rcases bf hm with ⟨hb3, hm⟩ | ⟨hb3, hm⟩
     ·rcases bf hm with ⟨hb4, hm⟩ | ⟨hb4, hm⟩
      ·refine re G (hO 2 (.b true) (hP hb3 (hO 5 (.b true) (hP hb4 h0)))) ?_
       exact wJ G hm
      ·obtain ⟨u2, h2, hm⟩ := obind hm
       rcases bf hm with ⟨hb5, hm⟩ | ⟨hb5, hm⟩
       ·refine re G (hO 2 (.b true) (hP hb3 (hO 5 (.b false) (hP hb4 (hK h2 (hO 11 (.b true) (hP hb5 h0))))))) ?_
        exact wJ G hm
       ·obtain ⟨u3, h3, hm⟩ := obind hm
        refine re G (hO 2 (.b true) (hP hb3 (hO 5 (.b false) (hP hb4 (hK h2 (hO 11 (.b false) (hP hb5 (hK h3 h0)))))))) ?_
        exact wJ G hm
     ·refine re G (hO 2 (.b false) (hP hb3 h0)) ?_
      exact wJ G hm
    rintro v3 hm
    refine cd hm (fun hm => ?_) (fun hm => ?_)
    ·refine rg G ?_
     have hm := eL hm hb1 hr
     cases hm
     exact rt [] []
    ·exact X_skip (ibN (thN (rh G (wL G hm))))
   ·exact Ok_exit (thE (thE (ibE (wE G hm hb1))))
  rintro ⟨⟩ hm s1 hw
  refine thN (Ok_weak hw ?_)
  refine rg G ?_
  cases hm
  exact rt [] []
noncomputable def zq130_M : MS ((List ByteArray) × ByteArray) Int := ⟨.x .r .r, fun x => zq130 x.1 x.2, fun y => dV y, fun _ => [], fun _ _ => []⟩
theorem zq130_c {s v y} (hm : zq130 s v = some y) : zq130_M.C (s, v) y := zq130_M.c (s, v) hm
theorem zq130_ok : FnOK Tryz.prog 234 zq130_M.S := by
 refine fm tt zq130_M [] Tryz.call234 Tryz.func234 rfl Tryz.results234 Tryz.ntmps234 ?_
 rintro ⟨s, v⟩ y cx G hm
 have hm : zq130 s v = some y := hm
 unfold zq130 at hm
 refine rg G (Ok_seq (rs G (hN 1 s h0) ?_))
 refine tF hm (fun _ => ⟨[], [], 32⟩) (fun v2 hr hm => ?_) ?_
 ·refine Ok_block (lp G hm (fun v1 => ⟨[(0, dV s), (1, dV v), (7, dV (s.length : Int)), (8, dV v1)], [], 32⟩) ?_)
  rintro v1 r0 hb hm
  rw [zq130_L1] at hm
  refine rg G (Ok_seq (cd hm (fun hm => ?_) (fun hm => ?_)))
  ·refine X_skip (thN (Ok_seq (Ok_block (rg G ?_))))
   obtain ⟨e, h, hm⟩ := obind hm
   refine rs G (hD 3 h h0) ?_
   refine cd hm (fun hm => ?_) (fun hm => ?_)
   ·refine rg G ?_
    have hm := eL hm hb hr
    cases hm
    exact rt [] []
   ·exact X_skip (ibN (thN (rh G (wL G hm))))
  ·exact Ok_exit (thE (thE (ibE (wE G hm hb))))
 rintro ⟨⟩ hm s1 hw
 refine thN (Ok_weak hw ?_)
 refine rg G ?_
 cases hm
 exact rt [] []
noncomputable def zq15_M : MS ((List ByteArray)) Bool := ⟨.r, zq15, fun y => dV y, fun _ => [], fun _ _ => []⟩
theorem zq15_c {names y} (hm : zq15 names = some y) : zq15_M.C names y := zq15_M.c names hm
theorem zq15_ok : FnOK Tryz.prog 208 zq15_M.S := by
 refine fm tt zq15_M [fo zq26_ok, fo zq130_ok] Tryz.call208 Tryz.func208 rfl Tryz.results208 Tryz.ntmps208 ?_
 rintro names y cx G hm
 have hm : zq15 names = some y := hm
 unfold zq15 at hm
 refine rg G (Ok_seq (rs G (hN 1 names h0) ?_))
 refine tF hm (fun _ => ⟨[], [], 32⟩) (fun v2 hr hm => ?_) ?_
 ·refine Ok_block (lp G hm (fun v => ⟨[(0, dV names), (5, dV names), (6, dV (names.length : Int)), (7, dV v)], [], 32⟩) ?_)
  rintro v r0 hb hm
  rw [zq15_L1] at hm
  refine rg G (Ok_seq (cd hm (fun hm => ?_) (fun hm => ?_)))
  ·refine X_skip (thN (Ok_seq (Ok_block ?_)))
   obtain ⟨e, h, hm⟩ := obind hm
   refine rs G (hD 1 h h0) ?_
   obtain ⟨r, h1, hm⟩ := obind hm
   refine jn hm (fun v1 => ⟨[(0, dV names), (5, dV names), (6, dV (names.length : Int)), (7, dV v), (21, dV v1)], [], 32⟩) (fun v1 hm => ?_) ?_
   ·rcases bf hm with ⟨hb1, hm⟩ | ⟨hb1, hm⟩
    ·refine re G (hC 1 (zq26_c h1) (hO 3 (.b true) (hP hb1 h0))) ?_
     exact wJ G hm
    ·obtain ⟨r1, h2, hm⟩ := obind hm
     refine re G (hC 1 (zq26_c h1) (hO 3 (.b false) (hP hb1 (hC 6 (zq130_c h2) h0)))) ?_
     exact wJ G hm
   rintro v1 hm
   refine cd hm (fun hm => ?_) (fun hm => ?_)
   ·refine rg G ?_
    have hm := eL hm hb hr
    cases hm
    exact rt [] []
   ·exact X_skip (ibN (thN (rh G (wL G hm))))
  ·exact Ok_exit (thE (thE (ibE (wE G hm hb))))
 rintro ⟨⟩ hm s hw
 refine thN (Ok_weak hw ?_)
 refine rg G ?_
 cases hm
 exact rt [] []
noncomputable def zq34_M : MS Network ((List ByteArray)) := ⟨.r, zq34, fun _ => .own 0, fun y => [arO 9 y], fun _ _ => []⟩
theorem zq34_c {n y} (hm : zq34 n = some y) : zq34_M.C n y := zq34_M.c n hm
theorem zq34_ok : FnOK Tryz.prog 209 zq34_M.S := by
 refine fm tt zq34_M [] Tryz.call209 Tryz.func209 rfl Tryz.results209 Tryz.ntmps209 ?_
 rintro n y cx G hm
 have hm : zq34 n = some y := hm
 unfold zq34 at hm
 refine rg G ?_
 obtain ⟨u, h, hm⟩ := obind hm
 refine rs G (hN 2 n.Lines (hO 3 (.l (List.map Enc.e (List.replicate (n.Lines.length : Int).toNat (ByteArray.empty : ByteArray)))) (hP (mk_p (b := 16) (chk_t h) rfl) (hP (rep_m Enc.e (n.Lines.length : Int).toNat (ByteArray.empty : ByteArray)) h0)))) ?_
 refine Ok_seq (rs G (hN 2 n.Lines h0) ?_)
 refine tl hm (fun i1 => ⟨[(3, .own 16)], [aX 16 9 i1], 48⟩) (fun i1 hm => ?_) ?_
 ·refine Ok_block (lp G hm (fun (v, i) => ⟨[(3, .own 16), (11, dV n.Lines), (12, dV (n.Lines.length : Int)), (13, dV v)], [aX 16 9 i], 48⟩) ?_)
  rintro ⟨v, i⟩ r0 hb hm
  rw [zq34_L1] at hm
  refine rg G (Ok_seq (cd hm (fun hm => ?_) (fun hm => ?_)))
  ·refine X_skip (thN (Ok_seq (Ok_block ?_)))
   obtain ⟨e, h1, hm⟩ := obind hm
   refine rs G (hD 1 h1 h0) ?_
   obtain ⟨e1, h2, hm⟩ := obind hm
   refine re G (hD 4 h2 (hS 5 h2 e.Name h0)) ?_
   exact ibN (thN (rh G (wL G hm)))
  ·exact Ok_exit (thE (thE (ibE (wD G hm hb))))
 rintro i1 hm s hw
 refine thN (Ok_weak hw ?_)
 refine rg G ?_
 cases hm
 exact rt [16] []
noncomputable def zq30_M : MS (Network × Int) Bool := ⟨.x .r .r, fun x => zq30 x.1 x.2, fun y => dV y, fun _ => [], fun _ _ => []⟩
theorem zq30_c {n stop y} (hm : zq30 n stop = some y) : zq30_M.C (n, stop) y := zq30_M.c (n, stop) hm
theorem zq30_ok : FnOK Tryz.prog 235 zq30_M.S := by
 refine fm tt zq30_M [] Tryz.call235 Tryz.func235 rfl Tryz.results235 Tryz.ntmps235 ?_
 rintro ⟨n, stop⟩ y cx G hm
 have hm : zq30 n stop = some y := hm
 unfold zq30 at hm
 refine rg G (jn hm (fun v => ⟨[(4, dV v)], [], 32⟩) (fun v hm => ?_) ?_)
 ·rcases bf hm with ⟨hb, hm⟩ | ⟨hb, hm⟩
  ·refine re G (hO 2 (.b true) (hP hb (hN 6 n.Stops h0))) ?_
   exact wJ G hm
  ·refine re G (hO 2 (.b false) (hP hb h0)) ?_
   exact wJ G hm
 rintro v hm
 cases hm
 exact rt [] []
noncomputable def zq129_M : MS ((List Int) × Int) Int := ⟨.x .r .r, fun x => zq129 x.1 x.2, fun y => dV y, fun _ => [], fun _ _ => []⟩
theorem zq129_c {s v y} (hm : zq129 s v = some y) : zq129_M.C (s, v) y := zq129_M.c (s, v) hm
theorem zq129_ok : FnOK Tryz.prog 164 zq129_M.S := by
 refine fm tt zq129_M [] Tryz.call164 Tryz.func164 rfl Tryz.results164 Tryz.ntmps164 ?_
 rintro ⟨s, v⟩ y cx G hm
 have hm : zq129 s v = some y := hm
 unfold zq129 at hm
 refine rg G (Ok_seq (rs G (hN 1 s h0) ?_))
 refine tF hm (fun _ => ⟨[], [], 32⟩) (fun v2 hr hm => ?_) ?_
 ·refine Ok_block (lp G hm (fun v1 => ⟨[(0, dV s), (1, dV v), (7, dV (s.length : Int)), (8, dV v1)], [], 32⟩) ?_)
  rintro v1 r0 hb hm
  rw [zq129_L1] at hm
  refine rg G (Ok_seq (cd hm (fun hm => ?_) (fun hm => ?_)))
  ·refine X_skip (thN (Ok_seq (Ok_block (rg G ?_))))
   obtain ⟨e, h, hm⟩ := obind hm
   refine rs G (hD 3 h h0) ?_
   refine cd hm (fun hm => ?_) (fun hm => ?_)
   ·refine rg G ?_
    have hm := eL hm hb hr
    cases hm
    exact rt [] []
   ·exact X_skip (ibN (thN (rh G (wL G hm))))
  ·exact Ok_exit (thE (thE (ibE (wE G hm hb))))
 rintro ⟨⟩ hm s1 hw
 refine thN (Ok_weak hw ?_)
 refine rg G ?_
 cases hm
 exact rt [] []
noncomputable def zq31_M : MS (Network × Line) Bool := ⟨.x .r .r, fun x => zq31 x.1 x.2, fun y => dV y, fun _ => [], fun _ _ => []⟩
theorem zq31_c {n l y} (hm : zq31 n l = some y) : zq31_M.C (n, l) y := zq31_M.c (n, l) hm
theorem zq31_ok : FnOK Tryz.prog 210 zq31_M.S := by
 refine fm tt zq31_M [fo zq42_ok, fo zq30_ok, fo zq129_ok] Tryz.call210 Tryz.func210 rfl Tryz.results210 Tryz.ntmps210 ?_
 rintro ⟨n, l⟩ y cx G hm
 have hm : zq31 n l = some y := hm
 unfold zq31 at hm
 refine rg G (Ok_seq ?_)
 obtain ⟨r, h, hm⟩ := obind hm
 refine jn hm (fun v => ⟨[(2, .ref 16 0), (3, .ref 32 0), (23, dV v)], [bX 16 [dV n.Stops, dV n.Lines], bX 32 [dV l.Name, dV l.Stops, dV l.Runs]], 64⟩) (fun v hm => ?_) ?_
 ·rcases bf hm with ⟨hb, hm⟩ | ⟨hb, hm⟩
  ·refine re G (hN 2 l.Stops (hC 3 (zq42_c h) (hO 5 (.b true) (hP hb h0)))) ?_
   exact wJ G hm
  ·refine re G (hN 2 l.Stops (hC 3 (zq42_c h) (hO 5 (.b false) (hP hb (hN 8 l.Runs (hN 11 l.Stops h0)))))) ?_
   exact wJ G hm
 rintro v hm
 refine cd hm (fun hm => ?_) (fun hm => ?_)
 ·refine rg G ?_
  cases hm
  exact rt [] []
 ·refine X_skip (thN (Ok_seq (rs G (hN 2 l.Stops h0) ?_)))
  refine tF hm (fun _ => ⟨[(3, .ref 16 0)], [bX 16 [dV l.Name, dV l.Stops, dV l.Runs]], 48⟩) (fun v5 hr hm => ?_) ?_
  ·refine Ok_block (lp G hm (fun v1 => ⟨[(2, .ref 16 0), (3, .ref 32 0), (25, dV l.Stops), (26, dV (l.Stops.length : Int)), (27, dV v1)], [bX 16 [dV n.Stops, dV n.Lines], bX 32 [dV l.Name, dV l.Stops, dV l.Runs]], 64⟩) ?_)
   rintro v1 r0 hb1 hm
   rw [zq31_L1] at hm
   refine rg G (Ok_seq (cd hm (fun hm => ?_) (fun hm => ?_)))
   ·refine X_skip (thN (Ok_seq (Ok_block ?_)))
    obtain ⟨e, h1, hm⟩ := obind hm
    refine rs G (hD 1 h1 h0) ?_
    obtain ⟨r1, h2, hm⟩ := obind hm
    refine jn hm (fun v2 => ⟨[(2, .ref 16 0), (3, .ref 32 0), (25, dV l.Stops), (26, dV (l.Stops.length : Int)), (27, dV v1), (43, dV v2)], [bX 16 [dV n.Stops, dV n.Lines], bX 32 [dV l.Name, dV l.Stops, dV l.Runs]], 64⟩) (fun v2 hm => ?_) ?_
    ·rcases bf hm with ⟨hb2, hm⟩ | ⟨hb2, hm⟩
     ·refine re G (hC 2 (zq30_c h2) (hO 4 (.b true) (hP hb2 h0))) ?_
      exact wJ G hm
     ·obtain ⟨r2, h3, hm⟩ := obind hm
      refine re G (hC 2 (zq30_c h2) (hO 4 (.b false) (hP hb2 (hC 8 (zq129_c h3) h0)))) ?_
      exact wJ G hm
    rintro v2 hm
    refine cd hm (fun hm => ?_) (fun hm => ?_)
    ·refine rg G ?_
     have hm := eL hm hb1 hr
     cases hm
     exact rt [] []
    ·exact X_skip (ibN (thN (rh G (wL G hm))))
   ·exact Ok_exit (thE (thE (ibE (wE G hm hb1))))
  rintro ⟨⟩ hm s hw
  refine thN (Ok_weak hw ?_)
  refine Ok_seq (rs G (hN 2 l.Runs h0) ?_)
  refine tF hm (fun _ => ⟨[], [], 32⟩) (fun v4 hr1 hm => ?_) ?_
  ·refine Ok_block (lp G hm (fun v3 => ⟨[(46, dV l.Runs), (47, dV (l.Runs.length : Int)), (48, dV v3)], [], 32⟩) ?_)
   rintro v3 r0 hb3 hm
   rw [zq31_L2] at hm
   refine rg G (Ok_seq (cd hm (fun hm => ?_) (fun hm => ?_)))
   ·refine X_skip (thN (Ok_seq (Ok_block ?_)))
    obtain ⟨e2, h4, hm⟩ := obind hm
    refine rs G (hD 0 h4 h0) ?_
    obtain ⟨r4, h5, hm⟩ := obind hm
    refine rs G (hC 1 (zq42_c h5) h0) ?_
    refine cd hm (fun hm => ?_) (fun hm => ?_)
    ·refine rg G ?_
     have hm := eL hm hb3 hr1
     cases hm
     exact rt [] []
    ·exact X_skip (ibN (thN (rh G (wL G hm))))
   ·exact Ok_exit (thE (thE (ibE (wE G hm hb3))))
  rintro ⟨⟩ hm s1 hw1
  refine thN (Ok_weak hw1 ?_)
  refine rg G ?_
  cases hm
  exact rt [] []
noncomputable def zq7_M : MS Network Bool := ⟨.r, zq7, fun y => dV y, fun _ => [], fun _ _ => []⟩
theorem zq7_c {n y} (hm : zq7 n = some y) : zq7_M.C n y := zq7_M.c n hm
theorem zq7_ok : FnOK Tryz.prog 156 zq7_M.S := by
 refine fm tt zq7_M [fo zq42_ok, fo zq15_ok, fo zq34_ok, fo zq31_ok] Tryz.call156 Tryz.func156 rfl Tryz.results156 Tryz.ntmps156 ?_
 rintro n y cx G hm
 have hm : zq7 n = some y := hm
 unfold zq7 at hm
 refine rg G (Ok_seq ?_)
 obtain ⟨r, h, hm⟩ := obind hm
 refine jn hm (fun v => ⟨[(1, .ref 16 0), (28, dV v)], [bX 16 [dV n.Stops, dV n.Lines]], 48⟩) (fun v hm => ?_) ?_
 ·rcases bf hm with ⟨hb, hm⟩ | ⟨hb, hm⟩
  ·refine re G (hN 2 n.Stops (hC 3 (zq42_c h) (hO 5 (.b true) (hP hb h0)))) ?_
   exact wJ G hm
  ·obtain ⟨r1, h1, hm⟩ := obind hm
   rcases bf hm with ⟨hb1, hm⟩ | ⟨hb1, hm⟩
   ·refine re G (hN 2 n.Stops (hC 3 (zq42_c h) (hO 5 (.b false) (hP hb (hN 8 n.Lines (hC 9 (zq42_c h1) (hO 12 (.b true) (hP hb1 h0)))))))) ?_
    exact wJ G hm
   ·obtain ⟨r2, h2, hm⟩ := obind hm
    rcases bf hm with ⟨hb2, hm⟩ | ⟨hb2, hm⟩
    ·refine re G (hN 2 n.Stops (hC 3 (zq42_c h) (hO 5 (.b false) (hP hb (hN 8 n.Lines (hC 9 (zq42_c h1) (hO 12 (.b false) (hP hb1 (hC 15 (zq15_c h2) (hO 18 (.b true) (hP hb2 h0))))))))))) ?_
     exact wJ G hm
    ·obtain ⟨r3, h3, hm⟩ := obind hm
     obtain ⟨r4, h4, hm⟩ := obind hm
     refine re G (hN 2 n.Stops (hC 3 (zq42_c h) (hO 5 (.b false) (hP hb (hN 8 n.Lines (hC 9 (zq42_c h1) (hO 12 (.b false) (hP hb1 (hC 15 (zq15_c h2) (hO 18 (.b false) (hP hb2 (hC 20 (zq34_c h3) (hC 21 (zq15_c h4) h0))))))))))))) ?_
     exact wJ G hm
 rintro v hm
 refine cd hm (fun hm => ?_) (fun hm => ?_)
 ·refine rg G ?_
  cases hm
  exact rt [] []
 ·refine X_skip (thN (Ok_seq (rs G (hN 2 n.Lines h0) ?_)))
  refine tF hm (fun _ => ⟨[], [], 32⟩) (fun v2 hr hm => ?_) ?_
  ·refine Ok_block (lp G hm (fun v1 => ⟨[(1, .ref 16 0), (30, dV n.Lines), (31, dV (n.Lines.length : Int)), (32, dV v1)], [bX 16 [dV n.Stops, dV n.Lines]], 48⟩) ?_)
   rintro v1 r0 hb3 hm
   rw [zq7_L1] at hm
   refine rg G (Ok_seq (cd hm (fun hm => ?_) (fun hm => ?_)))
   ·refine X_skip (thN (Ok_seq (Ok_block ?_)))
    obtain ⟨e, h5, hm⟩ := obind hm
    refine rs G (hD 0 h5 h0) ?_
    obtain ⟨r5, h6, hm⟩ := obind hm
    refine rs G (hC 2 (zq31_c h6) h0) ?_
    refine cd hm (fun hm => ?_) (fun hm => ?_)
    ·refine rg G ?_
     have hm := eL hm hb3 hr
     cases hm
     exact rt [] []
    ·exact X_skip (ibN (thN (rh G (wL G hm))))
   ·exact Ok_exit (thE (thE (ibE (wE G hm hb3))))
  rintro ⟨⟩ hm s hw
  refine thN (Ok_weak hw ?_)
  refine rg G ?_
  cases hm
  exact rt [] []
noncomputable def zq25_M : MS (Network × Int) Bool := ⟨.x .r .r, fun x => zq25 x.1 x.2, fun y => dV y, fun _ => [], fun _ _ => []⟩
theorem zq25_c {n line y} (hm : zq25 n line = some y) : zq25_M.C (n, line) y := zq25_M.c (n, line) hm
theorem zq25_ok : FnOK Tryz.prog 211 zq25_M.S := by
 refine fm tt zq25_M [] Tryz.call211 Tryz.func211 rfl Tryz.results211 Tryz.ntmps211 ?_
 rintro ⟨n, line⟩ y cx G hm
 have hm : zq25 n line = some y := hm
 unfold zq25 at hm
 refine rg G (jn hm (fun v => ⟨[(4, dV v)], [], 32⟩) (fun v hm => ?_) ?_)
 ·rcases bf hm with ⟨hb, hm⟩ | ⟨hb, hm⟩
  ·refine re G (hO 2 (.b true) (hP hb (hN 6 n.Lines h0))) ?_
   exact wJ G hm
  ·refine re G (hO 2 (.b false) (hP hb h0)) ?_
   exact wJ G hm
 rintro v hm
 cases hm
 exact rt [] []
noncomputable def zq8_M : MS Int Bool := ⟨.r, zq8, fun y => dV y, fun _ => [], fun _ _ => []⟩
theorem zq8_c {t y} (hm : zq8 t = some y) : zq8_M.C t y := zq8_M.c t hm
theorem zq8_ok : FnOK Tryz.prog 118 zq8_M.S := by
 refine fm tt zq8_M [fo zq42_ok] Tryz.call118 Tryz.func118 rfl Tryz.results118 Tryz.ntmps118 ?_
 rintro t y cx G hm
 have hm : zq8 t = some y := hm
 unfold zq8 at hm
 refine rg G ?_
 obtain ⟨r, h, hm⟩ := obind hm
 refine rs G (hC 1 (zq42_c h) h0) ?_
 cases hm
 exact rt [] []
noncomputable def zq37_M : MS ((List Int)) Int := ⟨.r, zq37, fun y => dV y, fun _ => [], fun _ _ => []⟩
theorem zq37_c {list y} (hm : zq37 list = some y) : zq37_M.C list y := zq37_M.c list hm
theorem zq37_ok : FnOK Tryz.prog 165 zq37_M.S := by
 refine fm tt zq37_M [] Tryz.call165 Tryz.func165 rfl Tryz.results165 Tryz.ntmps165 ?_
 rintro list y cx G hm
 have hm : zq37 list = some y := hm
 unfold zq37 at hm
 refine rg G (rg G (Ok_seq (rs G (hN 1 list h0) ?_)))
 refine tl hm (fun v2 => ⟨[(3, dV v2)], [], 32⟩) (fun v2 hm => ?_) ?_
 ·refine Ok_block (lp G hm (fun (v, v1) => ⟨[(3, dV v), (6, dV list), (7, dV (list.length : Int)), (8, dV v1)], [], 32⟩) ?_)
  rintro ⟨v, v1⟩ r0 hb hm
  rw [zq37_L1] at hm
  refine rg G (Ok_seq (cd hm (fun hm => ?_) (fun hm => ?_)))
  ·refine X_skip (thN (Ok_seq (Ok_block ?_)))
   obtain ⟨e, h, hm⟩ := obind hm
   refine rs G (hD 0 h h0) ?_
   exact rh G (ibN (thN (rh G (wL G hm))))
  ·exact Ok_exit (thE (thE (ibE (wD G hm hb))))
 rintro v2 hm s hw
 refine thN (Ok_weak hw ?_)
 refine rg G ?_
 cases hm
 exact rt [] []
noncomputable def zq22_M : MS (Timetable × Trip) Int := ⟨.x .r .r, fun x => zq22 x.1 x.2, fun y => dV y, fun _ => [], fun _ _ => []⟩
theorem zq22_c {t x y} (hm : zq22 t x = some y) : zq22_M.C (t, x) y := zq22_M.c (t, x) hm
theorem zq22_ok : FnOK Tryz.prog 87 zq22_M.S := by
 refine fm tt zq22_M [fo zq37_ok] Tryz.call87 Tryz.func87 rfl Tryz.results87 Tryz.ntmps87 ?_
 rintro ⟨t, x⟩ y cx G hm
 have hm : zq22 t x = some y := hm
 unfold zq22 at hm
 refine rg G ?_
 obtain ⟨e1, h2, hm⟩ := obind hm
 obtain ⟨r1, h3, hm⟩ := obind hm
 refine ds G [] (hD 7 h2 (hC 10 (zq37_c h3) h0)) ?_
 cases hm
 exact rt [] []
noncomputable def zq16_M : MS Timetable Bool := ⟨.r, zq16, fun y => dV y, fun _ => [], fun _ _ => []⟩
theorem zq16_c {t y} (hm : zq16 t = some y) : zq16_M.C t y := zq16_M.c t hm
theorem zq16_ok : FnOK Tryz.prog 157 zq16_M.S := by
 refine fm tt zq16_M [fo zq25_ok, fo zq8_ok, fo zq22_ok] Tryz.call157 Tryz.func157 rfl Tryz.results157 Tryz.ntmps157 ?_
 rintro t y cx G hm
 have hm : zq16 t = some y := hm
 unfold zq16 at hm
 refine rg G (Ok_seq (rs G (hN 2 t.Trips h0) ?_))
 refine cd hm (fun hm => ?_) (fun hm => ?_)
 ·refine rg G ?_
  cases hm
  exact rt [] []
 ·refine X_skip (thN (rg G (Ok_seq (rs G (hN 2 t.Trips h0) ?_))))
  refine tF hm (fun _ => ⟨[], [], 32⟩) (fun v3 hr hm => ?_) ?_
  ·refine Ok_block (lp G hm (fun (v, v1) => ⟨[(1, .ref 16 0), (3, dV v), (11, dV t.Trips), (12, dV (t.Trips.length : Int)), (13, dV v1)], [bX 16 [dV t.Network.Stops, dV t.Network.Lines, dV t.Trips]], 48⟩) ?_)
   rintro ⟨v, v1⟩ r0 hb hm
   rw [zq16_L1] at hm
   refine rg G (Ok_seq (cd hm (fun hm => ?_) (fun hm => ?_)))
   ·refine X_skip (thN (Ok_seq (Ok_block ?_)))
    obtain ⟨e, h, hm⟩ := obind hm
    refine rs G (hD 0 h h0) ?_
    refine Ok_seq (jn hm (fun v2 => ⟨[(1, .ref 16 0), (5, .ref 32 0), (11, dV t.Trips), (12, dV (t.Trips.length : Int)), (13, dV v1), (46, dV v2)], [bX 16 [dV t.Network.Stops, dV t.Network.Lines, dV t.Trips], bX 32 [dV e.Id, dV e.Line, dV e.Start]], 64⟩) (fun v2 hm => ?_) ?_)
    ·rcases bf hm with ⟨hb1, hm⟩ | ⟨hb1, hm⟩
     ·refine re G (hO 4 (.b true) (hP hb1 h0)) ?_
      exact wJ G hm
     ·rcases bf hm with ⟨hb2, hm⟩ | ⟨hb2, hm⟩
      ·refine re G (hO 4 (.b false) (hP hb1 (hO 9 (.b true) (hP hb2 h0)))) ?_
       exact wJ G hm
      ·obtain ⟨r, h1, hm⟩ := obind hm
       rcases bf hm with ⟨hb3, hm⟩ | ⟨hb3, hm⟩
       ·refine re G (hO 4 (.b false) (hP hb1 (hO 9 (.b false) (hP hb2 (hC 14 (zq25_c h1) (hO 17 (.b true) (hP hb3 h0))))))) ?_
        exact wJ G hm
       ·obtain ⟨r1, h2, hm⟩ := obind hm
        rcases bf hm with ⟨hb4, hm⟩ | ⟨hb4, hm⟩
        ·refine re G (hO 4 (.b false) (hP hb1 (hO 9 (.b false) (hP hb2 (hC 14 (zq25_c h1) (hO 17 (.b false) (hP hb3 (hC 20 (zq8_c h2) (hO 23 (.b true) (hP hb4 h0)))))))))) ?_
         exact wJ G hm
        ·obtain ⟨r2, h3, hm⟩ := obind hm
         obtain ⟨r3, h4, hm⟩ := obind hm
         refine re G (hO 4 (.b false) (hP hb1 (hO 9 (.b false) (hP hb2 (hC 14 (zq25_c h1) (hO 17 (.b false) (hP hb3 (hC 20 (zq8_c h2) (hO 23 (.b false) (hP hb4 (hC 26 (zq22_c h3) (hC 27 (zq8_c h4) h0)))))))))))) ?_
         exact wJ G hm
    rintro v2 hm
    refine cd hm (fun hm => ?_) (fun hm => ?_)
    ·refine rg G ?_
     have hm := eL hm hb hr
     cases hm
     exact rt [] []
    ·exact X_skip (thN (rh G (ibN (thN (rh G (wL G hm))))))
   ·exact Ok_exit (thE (thE (ibE (wE G hm hb))))
  rintro ⟨⟩ hm s hw
  refine thN (Ok_weak hw ?_)
  refine rg G ?_
  cases hm
  exact rt [] []
noncomputable def zq9_M : MS Timetable Bool := ⟨.r, zq9, fun y => dV y, fun _ => [], fun _ _ => []⟩
theorem zq9_c {t y} (hm : zq9 t = some y) : zq9_M.C t y := zq9_M.c t hm
theorem zq9_ok : FnOK Tryz.prog 78 zq9_M.S := by
 refine fm tt zq9_M [fo zq7_ok, fo zq16_ok] Tryz.call78 Tryz.func78 rfl Tryz.results78 Tryz.ntmps78 ?_
 rintro t y cx G hm
 have hm : zq9 t = some y := hm
 unfold zq9 at hm
 refine rg G ?_
 obtain ⟨r, h, hm⟩ := obind hm
 refine jn hm (fun v => ⟨[(2, dV v)], [], 32⟩) (fun v hm => ?_) ?_
 ·rcases bf hm with ⟨hb, hm⟩ | ⟨hb, hm⟩
  ·obtain ⟨r1, h1, hm⟩ := obind hm
   refine re G (hC 2 (zq7_c h) (hO 3 (.b true) (hP hb (hC 5 (zq16_c h1) h0)))) ?_
   exact wJ G hm
  ·refine re G (hC 2 (zq7_c h) (hO 3 (.b false) (hP hb h0))) ?_
   exact wJ G hm
 rintro v hm
 cases hm
 exact rt [] []
noncomputable def zq24_M : MS (Network × Fleet) Bool := ⟨.x .r .r, fun x => zq24 x.1 x.2, fun y => dV y, fun _ => [], fun _ _ => []⟩
theorem zq24_c {n f y} (hm : zq24 n f = some y) : zq24_M.C (n, f) y := zq24_M.c (n, f) hm
theorem zq24_ok : FnOK Tryz.prog 216 zq24_M.S := by
 refine fm tt zq24_M [fo zq42_ok] Tryz.call216 Tryz.func216 rfl Tryz.results216 Tryz.ntmps216 ?_
 rintro ⟨n, f⟩ y cx G hm
 have hm : zq24 n f = some y := hm
 unfold zq24 at hm
 refine rg G (Ok_seq (jn hm (fun v => ⟨[(2, .ref 16 0), (3, .ref 32 0), (21, dV v)], [bX 16 [dV n.Stops, dV n.Lines], bX 32 [dV f.Dead, dV f.Turn]], 64⟩) (fun v hm => ?_) ?_))
 ·rcases bf hm with ⟨hb, hm⟩ | ⟨hb, hm⟩
  ·refine re G (hN 2 f.Dead (hN 5 n.Stops (hO 7 (.b true) (hP hb h0)))) ?_
   exact wJ G hm
  ·obtain ⟨r, h, hm⟩ := obind hm
   refine re G (hN 2 f.Dead (hN 5 n.Stops (hO 7 (.b false) (hP hb (hC 10 (zq42_c h) h0))))) ?_
   exact wJ G hm
 rintro v hm
 refine cd hm (fun hm => ?_) (fun hm => ?_)
 ·refine rg G ?_
  cases hm
  exact rt [] []
 ·refine X_skip (thN (Ok_seq (rs G (hN 2 f.Dead h0) ?_)))
  refine tF hm (fun _ => ⟨[], [], 32⟩) (fun v5 hr hm => ?_) ?_
  ·refine Ok_block (lp G hm (fun v1 => ⟨[(2, .ref 16 0), (23, dV f.Dead), (24, dV (f.Dead.length : Int)), (25, dV v1)], [bX 16 [dV n.Stops, dV n.Lines]], 48⟩) ?_)
   rintro v1 r0 hb1 hm
   rw [zq24_L2] at hm
   refine rg G (Ok_seq (cd hm (fun hm => ?_) (fun hm => ?_)))
   ·refine X_skip (thN (Ok_seq (Ok_block ?_)))
    obtain ⟨e, h1, hm⟩ := obind hm
    refine rs G (hD 1 h1 h0) ?_
    refine Ok_seq (jn hm (fun v2 => ⟨[(2, .ref 16 0), (6, dV e), (23, dV f.Dead), (24, dV (f.Dead.length : Int)), (25, dV v1), (42, dV v2)], [bX 16 [dV n.Stops, dV n.Lines]], 48⟩) (fun v2 hm => ?_) ?_)
    ·rcases bf hm with ⟨hb2, hm⟩ | ⟨hb2, hm⟩
     ·refine re G (hN 1 e (hN 4 n.Stops (hO 6 (.b true) (hP hb2 h0)))) ?_
      exact wJ G hm
     ·obtain ⟨e1, h2, hm⟩ := obind hm
      refine re G (hN 1 e (hN 4 n.Stops (hO 6 (.b false) (hP hb2 (hD 9 h2 h0))))) ?_
      exact wJ G hm
    rintro v2 hm
    refine cd hm (fun hm => ?_) (fun hm => ?_)
    ·refine rg G ?_
     have hm := eL hm hb1 hr
     cases hm
     exact rt [] []
    ·refine X_skip (thN (rs G (hN 1 e h0) ?_))
     refine tF hm (fun _ => ⟨[(2, .ref 16 0), (23, dV f.Dead), (24, dV (f.Dead.length : Int)), (25, dV v1)], [bX 16 [dV n.Stops, dV n.Lines]], 48⟩) (fun v4 hr1 hm => ?_) ?_
     ·refine Ok_block (lp G hm (fun v3 => ⟨[(2, .ref 16 0), (23, dV f.Dead), (24, dV (f.Dead.length : Int)), (25, dV v1), (43, dV e), (44, dV (e.length : Int)), (45, dV v3)], [bX 16 [dV n.Stops, dV n.Lines]], 48⟩) ?_)
      rintro v3 r0 hb3 hm
      rw [zq24_L1] at hm
      refine rg G (Ok_seq (cd hm (fun hm => ?_) (fun hm => ?_)))
      ·refine X_skip (thN (Ok_seq (Ok_block ?_)))
       obtain ⟨e3, h3, hm⟩ := obind hm
       refine rs G (hD 0 h3 h0) ?_
       obtain ⟨r2, h4, hm⟩ := obind hm
       refine rs G (hC 1 (zq42_c h4) h0) ?_
       refine cd hm (fun hm => ?_) (fun hm => ?_)
       ·refine rg G ?_
        have hm := eL hm hb3 hr1
        have hm := eL hm hb1 hr
        cases hm
        exact rt [] []
       ·exact X_skip (ibN (thN (rh G (wL G hm))))
      ·exact Ok_exit (thE (thE (ibE (wE G hm hb3))))
     rintro ⟨⟩ hm s hw
     refine ibN (thN (Ok_weak hw ?_))
     exact rh G (wL G hm)
   ·exact Ok_exit (thE (thE (ibE (wE G hm hb1))))
  rintro ⟨⟩ hm s1 hw1
  refine thN (Ok_weak hw1 ?_)
  refine rg G ?_
  cases hm
  exact rt [] []
noncomputable def zq29_M : MS (Timetable × Fleet) Bool := ⟨.x .r .r, fun x => zq29 x.1 x.2, fun y => dV y, fun _ => [], fun _ _ => []⟩
theorem zq29_c {t f y} (hm : zq29 t f = some y) : zq29_M.C (t, f) y := zq29_M.c (t, f) hm
theorem zq29_ok : FnOK Tryz.prog 162 zq29_M.S := by
 refine fm tt zq29_M [fo zq9_ok, fo zq24_ok] Tryz.call162 Tryz.func162 rfl Tryz.results162 Tryz.ntmps162 ?_
 rintro ⟨t, f⟩ y cx G hm
 have hm : zq29 t f = some y := hm
 unfold zq29 at hm
 refine rg G ?_
 obtain ⟨r, h, hm⟩ := obind hm
 refine jn hm (fun v => ⟨[(4, dV v)], [], 32⟩) (fun v hm => ?_) ?_
 ·rcases bf hm with ⟨hb, hm⟩ | ⟨hb, hm⟩
  ·obtain ⟨r1, h1, hm⟩ := obind hm
   refine re G (hC 1 (zq9_c h) (hO 2 (.b true) (hP hb (hC 6 (zq24_c h1) h0)))) ?_
   exact wJ G hm
  ·refine re G (hC 1 (zq9_c h) (hO 2 (.b false) (hP hb h0))) ?_
   exact wJ G hm
 rintro v hm
 cases hm
 exact rt [] []
noncomputable def zq40_M : MS (Trip × Int) Bool := ⟨.x .r .b, fun x => zq40 x.1 x.2, fun y => dV y, fun _ => [], fun x _ => [bxO x.2]⟩
theorem zq40_c {x c1 y} (hm : zq40 x c1 = some y) : zq40_M.C (x, c1) y := zq40_M.c (x, c1) hm
theorem zq40_ok : FnOK Tryz.prog 160 zq40_M.S := by
 refine fm tt zq40_M [] Tryz.call160 Tryz.func160 rfl Tryz.results160 Tryz.ntmps160 ?_
 rintro ⟨x, c1⟩ y cx G hm
 have hm : zq40 x c1 = some y := hm
 unfold zq40 at hm
 refine rg G (rg G ?_)
 cases hm
 exact rt [] []
noncomputable def zq128_M : MS ((List Trip) × Int) Int := ⟨⟨[.rd, .fn 160 [.bx]], fun x => [Enc.e x.1, .agg [.sc undef]], fun x => [bxO x.2], 1, 1, fun _ => rfl, fun _ => rfl, rfl, (by
  rintro ⟨a0, a1⟩ ⟨b0, b1⟩ h hO
  have q0 : a0 = b0 := qI 0 h
  have q1 : a1 = b1 := Enc.inj _ _ (congrArg (fun l => (obD l 0).getD 0 (.sc undef)) hO)
  subst q0; subst q1; rfl)⟩, fun x => zq128 x.1 x.2, fun y => dV y, fun _ => [], fun x _ => [bxO x.2]⟩
theorem zq128_c {s c1 y} (hm : zq128 s c1 = some y) : zq128_M.C (s, c1) y := zq128_M.c (s, c1) hm
theorem zq128_ok : FnOK Tryz.prog 159 zq128_M.S := by
 refine fm tt zq128_M [fo zq40_ok] Tryz.call159 Tryz.func159 rfl Tryz.results159 Tryz.ntmps159 ?_
 rintro ⟨s, c1⟩ y cx G hm
 have hm : zq128 s c1 = some y := hm
 obtain ⟨f, hf_f⟩ : ∃ q, (fun (z0 : Trip) => zq40 z0 c1) = q := ⟨_, rfl⟩
 have hm : zq127 s f = some y := by rw [← hf_f]; exact hm
 unfold zq127 at hm
 refine rg G (Ok_seq (rs G (hN 1 s h0) ?_))
 refine tF hm (fun _ => ⟨[(1, .fn 160 [.ref 0 0])], [bX 0 [dV c1]], 48⟩) (fun v1 hr hm => ?_) ?_
 ·refine Ok_block (lp G hm (fun v => ⟨[(0, dV s), (1, .fn 160 [.ref 0 0]), (7, dV (s.length : Int)), (8, dV v)], [bX 0 [dV c1]], 48⟩) ?_)
  rintro v r0 hb hm
  rw [zq127_L1] at hm
  refine rg G (Ok_seq (cd hm (fun hm => ?_) (fun hm => ?_)))
  ·refine X_skip (thN (Ok_seq (Ok_block (rg G ?_))))
   obtain ⟨e, h, hm⟩ := obind hm
   obtain ⟨r, h1, hm⟩ := obind hm
   have h1 : zq40 e c1 = some r := by rw [← hf_f] at h1; exact h1
   refine rs G (hD 3 h (hC 5 (zq40_c h1) h0)) ?_
   refine cd hm (fun hm => ?_) (fun hm => ?_)
   ·refine rg G ?_
    have hm := eL hm hb hr
    cases hm
    exact rt [] []
   ·exact X_skip (ibN (thN (rh G (wL G hm))))
  ·exact Ok_exit (thE (thE (ibE (wE G hm hb))))
 rintro ⟨⟩ hm s1 hw
 refine thN (Ok_weak hw ?_)
 refine rg G ?_
 cases hm
 exact rt [] []
noncomputable def zq39_M : MS (Timetable × Int) Int := ⟨.x .r .r, fun x => zq39 x.1 x.2, fun y => dV y, fun _ => [], fun _ _ => []⟩
theorem zq39_c {t id y} (hm : zq39 t id = some y) : zq39_M.C (t, id) y := zq39_M.c (t, id) hm
theorem zq39_ok : FnOK Tryz.prog 81 zq39_M.S := by
 refine fm tt zq39_M [fo zq128_ok] Tryz.call81 Tryz.func81 rfl Tryz.results81 Tryz.ntmps81 ?_
 rintro ⟨t, id⟩ y cx G hm
 have hm : zq39 t id = some y := hm
 unfold zq39 at hm
 refine rg G ?_
 obtain ⟨r, h, hm⟩ := obind hm
 refine rs G (hC 3 (zq128_c h) h0) ?_
 cases hm
 exact rt [] []
noncomputable def zq41_M : MS (Timetable × Int) Trip := ⟨.x .r .r, fun x => zq41 x.1 x.2, fun y => dV y, fun _ => [], fun _ _ => []⟩
theorem zq41_c {t id y} (hm : zq41 t id = some y) : zq41_M.C (t, id) y := zq41_M.c (t, id) hm
theorem zq41_ok : FnOK Tryz.prog 86 zq41_M.S := by
 refine fm tt zq41_M [fo zq39_ok] Tryz.call86 Tryz.func86 rfl Tryz.results86 Tryz.ntmps86 ?_
 rintro ⟨t, id⟩ y cx G hm
 have hm : zq41 t id = some y := hm
 unfold zq41 at hm
 refine rg G ?_
 obtain ⟨r1, h2, hm⟩ := obind hm
 obtain ⟨e1, h3, hm⟩ := obind hm
 refine ds G [(7, [32])] (hC 4 (zq39_c h2) (hD 5 h3 h0)) ?_
 cases hm
 exact rt [] []
noncomputable def zq35_M : MS (Timetable × Trip) Line := ⟨.x .r .r, fun x => zq35 x.1 x.2, fun y => dV y, fun _ => [], fun _ _ => []⟩
theorem zq35_c {t x y} (hm : zq35 t x = some y) : zq35_M.C (t, x) y := zq35_M.c (t, x) hm
theorem zq35_ok : FnOK Tryz.prog 161 zq35_M.S := by
 refine fm tt zq35_M [] Tryz.call161 Tryz.func161 rfl Tryz.results161 Tryz.ntmps161 ?_
 rintro ⟨t, x⟩ y cx G hm
 have hm : zq35 t x = some y := hm
 unfold zq35 at hm
 refine rg G ?_
 obtain ⟨e, h, hm⟩ := obind hm
 refine rs G (hD 5 h h0) ?_
 cases hm
 exact rt [] []
noncomputable def zq33_M : MS (Timetable × Trip) Int := ⟨.x .r .r, fun x => zq33 x.1 x.2, fun y => dV y, fun _ => [], fun _ _ => []⟩
theorem zq33_c {t x y} (hm : zq33 t x = some y) : zq33_M.C (t, x) y := zq33_M.c (t, x) hm
theorem zq33_ok : FnOK Tryz.prog 166 zq33_M.S := by
 refine fm tt zq33_M [fo zq35_ok] Tryz.call166 Tryz.func166 rfl Tryz.results166 Tryz.ntmps166 ?_
 rintro ⟨t, x⟩ y cx G hm
 have hm : zq33 t x = some y := hm
 unfold zq33 at hm
 refine rg G ?_
 obtain ⟨r, h, hm⟩ := obind hm
 refine rs G (hC 2 (zq35_c h) h0) ?_
 obtain ⟨e, h1, hm⟩ := obind hm
 refine rs G (hN 2 r.Stops (hD 4 h1 h0)) ?_
 cases hm
 exact rt [] []
noncomputable def zq23_M : MS (Timetable × Trip) Int := ⟨.x .r .r, fun x => zq23 x.1 x.2, fun y => dV y, fun _ => [], fun _ _ => []⟩
theorem zq23_c {t x y} (hm : zq23 t x = some y) : zq23_M.C (t, x) y := zq23_M.c (t, x) hm
theorem zq23_ok : FnOK Tryz.prog 167 zq23_M.S := by
 refine fm tt zq23_M [fo zq35_ok] Tryz.call167 Tryz.func167 rfl Tryz.results167 Tryz.ntmps167 ?_
 rintro ⟨t, x⟩ y cx G hm
 have hm : zq23 t x = some y := hm
 unfold zq23 at hm
 refine rg G ?_
 obtain ⟨r, h, hm⟩ := obind hm
 obtain ⟨e, h1, hm⟩ := obind hm
 refine rs G (hC 2 (zq35_c h) (hD 4 h1 h0)) ?_
 cases hm
 exact rt [] []
noncomputable def zq20_M : MS (Timetable × Fleet × Trip × Trip) Int := ⟨.x .r (.x .r (.x .r .r)), fun x => zq20 x.1 x.2.1 x.2.2.1 x.2.2.2, fun y => dV y, fun _ => [], fun _ _ => []⟩
theorem zq20_c {t f a b y} (hm : zq20 t f a b = some y) : zq20_M.C (t, f, a, b) y := zq20_M.c (t, f, a, b) hm
theorem zq20_ok : FnOK Tryz.prog 88 zq20_M.S := by
 refine fm tt zq20_M [fo zq33_ok, fo zq23_ok] Tryz.call88 Tryz.func88 rfl Tryz.results88 Tryz.ntmps88 ?_
 rintro ⟨t, f, a, b⟩ y cx G hm
 have hm : zq20 t f a b = some y := hm
 unfold zq20 at hm
 refine rg G ?_
 obtain ⟨r2, h4, hm⟩ := obind hm
 obtain ⟨e2, h5, hm⟩ := obind hm
 obtain ⟨r3, h6, hm⟩ := obind hm
 obtain ⟨e3, h7, hm⟩ := obind hm
 refine ds G [] (hC 4 (zq33_c h4) (hD 5 h5 (hC 9 (zq23_c h6) (hD 10 h7 h0)))) ?_
 cases hm
 exact rt [] []
noncomputable def zq17_M : MS (Timetable × Fleet × Trip × Trip) Bool := ⟨.x .r (.x .r (.x .r .r)), fun x => zq17 x.1 x.2.1 x.2.2.1 x.2.2.2, fun y => dV y, fun _ => [], fun _ _ => []⟩
theorem zq17_c {t f a b y} (hm : zq17 t f a b = some y) : zq17_M.C (t, f, a, b) y := zq17_M.c (t, f, a, b) hm
theorem zq17_ok : FnOK Tryz.prog 171 zq17_M.S := by
 refine fm tt zq17_M [fo zq22_ok, fo zq20_ok] Tryz.call171 Tryz.func171 rfl Tryz.results171 Tryz.ntmps171 ?_
 rintro ⟨t, f, a, b⟩ y cx G hm
 have hm : zq17 t f a b = some y := hm
 unfold zq17 at hm
 refine rg G ?_
 obtain ⟨r2, h2, hm⟩ := obind hm
 obtain ⟨r3, h3, hm⟩ := obind hm
 refine ds G [] (hC 4 (zq22_c h2) (hC 12 (zq20_c h3) h0)) ?_
 cases hm
 exact rt [] []
noncomputable def zq11_M : MS (Timetable × Fleet × (List (List Int))) Bool := ⟨.x .r (.x .r .r), fun x => zq11 x.1 x.2.1 x.2.2, fun y => dV y, fun _ => [], fun _ _ => []⟩
theorem zq11_c {t f blocks y} (hm : zq11 t f blocks = some y) : zq11_M.C (t, f, blocks) y := zq11_M.c (t, f, blocks) hm
theorem zq11_ok : FnOK Tryz.prog 163 zq11_M.S := by
 refine fm tt zq11_M [fo zq39_ok, fo zq41_ok, fo zq17_ok] Tryz.call163 Tryz.func163 rfl Tryz.results163 Tryz.ntmps163 ?_
 rintro ⟨t, f, blocks⟩ y cx G hm
 have hm : zq11 t f blocks = some y := hm
 unfold zq11 at hm
 refine rg G (rg G (rg G (Ok_seq (rs G (hN 1 blocks h0) ?_))))
 refine tF hm (fun block3 => ⟨[(3, .ref 16 0), (8, dV block3)], [bX 16 [dV t.Network.Stops, dV t.Network.Lines, dV t.Trips]], 48⟩) (fun v8 hr hm => ?_) ?_
 ·refine Ok_block (lp G hm (fun (block, k, v, v1) => ⟨[(3, .ref 16 0), (4, .ref 32 0), (7, .eref 48 1 0 0), (8, dV block), (9, dV k), (15, dV blocks), (16, dV (blocks.length : Int)), (17, dV v)], [bX 16 [dV t.Network.Stops, dV t.Network.Lines, dV t.Trips], bX 32 [dV f.Dead, dV f.Turn], aX 48 4 v1], 80⟩) ?_)
  rintro ⟨block, k, v, v1⟩ r0 hb hm
  rw [zq11_L2] at hm
  refine rg G (Ok_seq (cd hm (fun hm => ?_) (fun hm => ?_)))
  ·refine X_skip (thN (Ok_seq (Ok_block ?_)))
   obtain ⟨e, h, hm⟩ := obind hm
   refine rs G (hD 0 h h0) ?_
   refine Ok_seq (jn hm (fun v2 => ⟨[(3, .ref 16 0), (4, .ref 32 0), (7, .eref 48 1 0 0), (8, dV block), (11, dV e), (15, dV blocks), (16, dV (blocks.length : Int)), (17, dV v), (30, dV v2)], [bX 16 [dV t.Network.Stops, dV t.Network.Lines, dV t.Trips], bX 32 [dV f.Dead, dV f.Turn], aX 48 4 v1], 80⟩) (fun v2 hm => ?_) ?_)
   ·rcases bf hm with ⟨hb1, hm⟩ | ⟨hb1, hm⟩
    ·refine re G (hN 1 e (hO 3 (.b true) (hP hb1 h0))) ?_
     exact wJ G hm
    ·obtain ⟨e1, h1, hm⟩ := obind hm
     refine re G (hN 1 e (hO 3 (.b false) (hP hb1 (hD 5 h1 h0)))) ?_
     exact wJ G hm
   rintro v2 hm
   refine cd hm (fun hm => ?_) (fun hm => ?_)
   ·refine rg G ?_
    have hm := eL hm hb hr
    cases hm
    exact rt [] []
   ·refine X_skip (thN ?_)
    obtain ⟨e3, h2, hm⟩ := obind hm
    refine rs G (hD 1 h2 h0) ?_
    refine rs G (hN 1 e h0) ?_
    refine tF hm (fun (block2, v6) => ⟨[(3, .ref 16 0), (4, .ref 32 0), (7, .eref 48 1 0 0), (8, dV block2), (9, dV e3), (15, dV blocks), (16, dV (blocks.length : Int)), (17, dV v)], [bX 16 [dV t.Network.Stops, dV t.Network.Lines, dV t.Trips], bX 32 [dV f.Dead, dV f.Turn], aX 48 4 v6], 80⟩) (fun v7 hr1 hm => ?_) ?_
    ·refine Ok_block (lp G hm (fun (block1, v3, v4) => ⟨[(3, .ref 16 0), (4, .ref 32 0), (7, .eref 48 1 0 0), (8, dV block1), (9, dV e3), (11, dV e), (15, dV blocks), (16, dV (blocks.length : Int)), (17, dV v), (34, dV e), (35, dV (e.length : Int)), (36, dV v3)], [bX 16 [dV t.Network.Stops, dV t.Network.Lines, dV t.Trips], bX 32 [dV f.Dead, dV f.Turn], aX 48 4 v4], 80⟩) ?_)
     rintro ⟨block1, v3, v4⟩ r0 hb2 hm
     rw [zq11_L1] at hm
     refine rg G (Ok_seq (cd hm (fun hm => ?_) (fun hm => ?_)))
     ·refine X_skip (thN (Ok_seq (Ok_block ?_)))
      obtain ⟨e4, h3, hm⟩ := obind hm
      refine rs G (hD 1 h3 h0) ?_
      obtain ⟨r1, h4, hm⟩ := obind hm
      refine rs G (hC 2 (zq39_c h4) h0) ?_
      refine Ok_seq (jn hm (fun v5 => ⟨[(3, .ref 16 0), (4, .ref 32 0), (7, .eref 48 1 0 0), (8, dV block1), (9, dV e3), (11, dV e), (14, dV r1), (15, dV blocks), (16, dV (blocks.length : Int)), (17, dV v), (34, dV e), (35, dV (e.length : Int)), (36, dV v3), (72, dV v5)], [bX 16 [dV t.Network.Stops, dV t.Network.Lines, dV t.Trips], bX 32 [dV f.Dead, dV f.Turn], aX 48 4 v4], 80⟩) (fun v5 hm => ?_) ?_)
      ·rcases bf hm with ⟨hb3, hm⟩ | ⟨hb3, hm⟩
       ·refine de G [] (hO 2 (.b true) (hP hb3 h0)) ?_
        exact wJ G hm
       ·obtain ⟨u1, h12, hm⟩ := obind hm
        obtain ⟨e8, h11, hm⟩ := obind hm
        rcases bf hm with ⟨hb4, hm⟩ | ⟨hb4, hm⟩
        ·refine de G [] (hO 2 (.b false) (hP hb3 (hK h12 (hE 5 h11 (hO 7 (.b true) (hP hb4 h0)))))) ?_
         exact wJ G hm
        ·rcases bf hm with ⟨hb5, hm⟩ | ⟨hb5, hm⟩
         ·obtain ⟨e9, h13, hm⟩ := obind hm
          obtain ⟨r4, h14, hm⟩ := obind hm
          obtain ⟨e10, h15, hm⟩ := obind hm
          obtain ⟨r5, h16, hm⟩ := obind hm
          refine de G [] (hO 2 (.b false) (hP hb3 (hK h12 (hE 5 h11 (hO 7 (.b false) (hP hb4 (hO 10 (.b true) (hP hb5 (hD 17 h13 (hC 19 (zq41_c h14) (hD 23 h15 (hC 25 (zq17_c h16) h0)))))))))))) ?_
          exact wJ G hm
         ·refine de G [] (hO 2 (.b false) (hP hb3 (hK h12 (hE 5 h11 (hO 7 (.b false) (hP hb4 (hO 10 (.b false) (hP hb5 h0)))))))) ?_
          exact wJ G hm
      rintro v5 hm
      refine cd hm (fun hm => ?_) (fun hm => ?_)
      ·refine rg G ?_
       have hm := eL hm hb2 hr1
       have hm := eL hm hb hr
       cases hm
       exact rt [] []
      ·refine X_skip (thN ?_)
       obtain ⟨u2, h18, hm⟩ := obind hm
       obtain ⟨e13, h17, hm⟩ := obind hm
       refine rs G (hK h18 (hS 2 h17 true h0)) ?_
       exact rh G (ibN (thN (rh G (wL G hm))))
     ·exact Ok_exit (thE (thE (ibE (wE G hm hb2))))
    rintro ⟨block2, v6⟩ hm s hw
    refine ibN (thN (Ok_weak hw ?_))
    exact rh G (wL G hm)
  ·exact Ok_exit (thE (thE (ibE (wE G hm hb))))
 rintro block3 hm s1 hw1
 refine thN (Ok_weak hw1 ?_)
 refine rs G (hN 3 t.Trips h0) ?_
 cases hm
 exact rt [] []
noncomputable def zq6_M : MS (Timetable × Fleet × (List (List Int))) Bool := ⟨.x .r (.x .r .r), fun x => zq6 x.1 x.2.1 x.2.2, fun y => dV y, fun _ => [], fun _ _ => []⟩
theorem zq6_c {t f blocks y} (hm : zq6 t f blocks = some y) : zq6_M.C (t, f, blocks) y := zq6_M.c (t, f, blocks) hm
theorem zq6_ok : FnOK Tryz.prog 84 zq6_M.S := by
 refine fm tt zq6_M [fo zq29_ok, fo zq11_ok] Tryz.call84 Tryz.func84 rfl Tryz.results84 Tryz.ntmps84 ?_
 rintro ⟨t, f, blocks⟩ y cx G hm
 have hm : zq6 t f blocks = some y := hm
 unfold zq6 at hm
 refine rg G ?_
 obtain ⟨r, h, hm⟩ := obind hm
 refine jn hm (fun v => ⟨[(6, dV v)], [], 32⟩) (fun v hm => ?_) ?_
 ·rcases bf hm with ⟨hb, hm⟩ | ⟨hb, hm⟩
  ·obtain ⟨r1, h1, hm⟩ := obind hm
   refine re G (hC 2 (zq29_c h) (hO 3 (.b true) (hP hb (hC 7 (zq11_c h1) h0)))) ?_
   exact wJ G hm
  ·refine re G (hC 2 (zq29_c h) (hO 3 (.b false) (hP hb h0))) ?_
   exact wJ G hm
 rintro v hm
 cases hm
 exact rt [] []
noncomputable def zq13_M : MS (Timetable × (List Delay)) Bool := ⟨.x .r .r, fun x => zq13 x.1 x.2, fun y => dV y, fun _ => [], fun _ _ => []⟩
theorem zq13_c {t list y} (hm : zq13 t list = some y) : zq13_M.C (t, list) y := zq13_M.c (t, list) hm
theorem zq13_ok : FnOK Tryz.prog 66 zq13_M.S := by
 refine fm tt zq13_M [fo zq39_ok, fo zq42_ok] Tryz.call66 Tryz.func66 rfl Tryz.results66 Tryz.ntmps66 ?_
 rintro ⟨t, list⟩ y cx G hm
 have hm : zq13 t list = some y := hm
 unfold zq13 at hm
 refine rg G (rg G (Ok_seq (rs G (hN 1 list h0) ?_)))
 refine tF hm (fun _ => ⟨[], [], 32⟩) (fun v2 hr hm => ?_) ?_
 ·refine Ok_block (lp G hm (fun (d, v) => ⟨[(2, .ref 16 0), (5, dV d), (8, dV list), (9, dV (list.length : Int)), (10, dV v)], [bX 16 [dV t.Network.Stops, dV t.Network.Lines, dV t.Trips]], 48⟩) ?_)
  rintro ⟨d, v⟩ r0 hb hm
  rw [zq13_L1] at hm
  refine rg G (Ok_seq (cd hm (fun hm => ?_) (fun hm => ?_)))
  ·refine X_skip (thN (Ok_seq (Ok_block ?_)))
   obtain ⟨e, h, hm⟩ := obind hm
   refine rs G (hD 0 h h0) ?_
   refine Ok_seq (jn hm (fun v1 => ⟨[(2, .ref 16 0), (7, .ref 32 0), (8, dV list), (9, dV (list.length : Int)), (10, dV v), (30, dV v1)], [bX 16 [dV t.Network.Stops, dV t.Network.Lines, dV t.Trips], bX 32 [dV e.Trip, dV e.Minutes]], 64⟩) (fun v1 hm => ?_) ?_)
   ·rcases bf hm with ⟨hb1, hm⟩ | ⟨hb1, hm⟩
    ·refine re G (hO 4 (.b true) (hP hb1 h0)) ?_
     exact wJ G hm
    ·obtain ⟨r, h1, hm⟩ := obind hm
     rcases bf hm with ⟨hb2, hm⟩ | ⟨hb2, hm⟩
     ·refine re G (hO 4 (.b false) (hP hb1 (hC 8 (zq39_c h1) (hO 11 (.b true) (hP hb2 h0))))) ?_
      exact wJ G hm
     ·obtain ⟨r1, h2, hm⟩ := obind hm
      refine re G (hO 4 (.b false) (hP hb1 (hC 8 (zq39_c h1) (hO 11 (.b false) (hP hb2 (hC 14 (zq42_c h2) h0)))))) ?_
      exact wJ G hm
   rintro v1 hm
   refine cd hm (fun hm => ?_) (fun hm => ?_)
   ·refine rg G ?_
    have hm := eL hm hb hr
    cases hm
    exact rt [] []
   ·exact X_skip (thN (rh G (ibN (thN (rh G (wL G hm))))))
  ·exact Ok_exit (thE (thE (ibE (wE G hm hb))))
 rintro ⟨⟩ hm s hw
 refine thN (Ok_weak hw ?_)
 refine rg G ?_
 cases hm
 exact rt [] []
noncomputable def zq14_M : MS (Timetable × Fleet × (List (List Int)) × (List Delay)) Bool := ⟨.x .r (.x .r (.x .r .r)), fun x => zq14 x.1 x.2.1 x.2.2.1 x.2.2.2, fun y => dV y, fun _ => [], fun _ _ => []⟩
theorem zq14_c {t f blocks list y} (hm : zq14 t f blocks list = some y) : zq14_M.C (t, f, blocks, list) y := zq14_M.c (t, f, blocks, list) hm
theorem zq14_ok : FnOK Tryz.prog 74 zq14_M.S := by
 refine fm tt zq14_M [fo zq6_ok, fo zq13_ok] Tryz.call74 Tryz.func74 rfl Tryz.results74 Tryz.ntmps74 ?_
 rintro ⟨t, f, blocks, list⟩ y cx G hm
 have hm : zq14 t f blocks list = some y := hm
 unfold zq14 at hm
 refine rg G ?_
 obtain ⟨r, h, hm⟩ := obind hm
 refine jn hm (fun v => ⟨[(8, dV v)], [], 32⟩) (fun v hm => ?_) ?_
 ·rcases bf hm with ⟨hb, hm⟩ | ⟨hb, hm⟩
  ·obtain ⟨r1, h1, hm⟩ := obind hm
   refine re G (hC 3 (zq6_c h) (hO 4 (.b true) (hP hb (hC 7 (zq13_c h1) h0)))) ?_
   exact wJ G hm
  ·refine re G (hC 3 (zq6_c h) (hO 4 (.b false) (hP hb h0))) ?_
   exact wJ G hm
 rintro v hm
 cases hm
 exact rt [] []
noncomputable def zq27_M : MS Int Bool := ⟨.r, zq27, fun y => dV y, fun _ => [], fun _ _ => []⟩
theorem zq27_c {penalty y} (hm : zq27 penalty = some y) : zq27_M.C penalty y := zq27_M.c penalty hm
theorem zq27_ok : FnOK Tryz.prog 71 zq27_M.S := by
 refine fm tt zq27_M [fo zq42_ok] Tryz.call71 Tryz.func71 rfl Tryz.results71 Tryz.ntmps71 ?_
 rintro penalty y cx G hm
 have hm : zq27 penalty = some y := hm
 unfold zq27 at hm
 refine rg G ?_
 obtain ⟨r, h, hm⟩ := obind hm
 refine rs G (hC 1 (zq42_c h) h0) ?_
 cases hm
 exact rt [] []
noncomputable def zq126_M : MS ((List Int) × Int) Bool := ⟨.x .r .r, fun x => zq126 x.1 x.2, fun y => dV y, fun _ => [], fun _ _ => []⟩
theorem zq126_c {s v y} (hm : zq126 s v = some y) : zq126_M.C (s, v) y := zq126_M.c (s, v) hm
theorem zq126_ok : FnOK Tryz.prog 151 zq126_M.S := by
 refine fm tt zq126_M [fo zq129_ok] Tryz.call151 Tryz.func151 rfl Tryz.results151 Tryz.ntmps151 ?_
 rintro ⟨s, v⟩ y cx G hm
 have hm : zq126 s v = some y := hm
 unfold zq126 at hm
 refine rg G ?_
 obtain ⟨r, h, hm⟩ := obind hm
 refine rs G (hC 2 (zq129_c h) h0) ?_
 cases hm
 exact rt [] []
noncomputable def zq32_M : MS ((List (List Int)) × (List Int)) ((List (List Int))) := ⟨.x .r .r, fun x => zq32 x.1 x.2, fun _ => .own 0, fun y => [taO 35 [some 3] y], fun _ _ => []⟩
theorem zq32_c {blocks cancelled y} (hm : zq32 blocks cancelled = some y) : zq32_M.C (blocks, cancelled) y := zq32_M.c (blocks, cancelled) hm
theorem zq32_ok : FnOK Tryz.prog 70 zq32_M.S := by
 refine fm tt zq32_M [fo zq126_ok] Tryz.call70 Tryz.func70 rfl Tryz.results70 Tryz.ntmps70 ?_
 rintro ⟨blocks, cancelled⟩ y cx G hm
 have hm : zq32 blocks cancelled = some y := hm
 unfold zq32 at hm
 refine rg G ?_
 obtain ⟨u, h, hm⟩ := obind hm
 refine rs G (hN 1 blocks (hO 2 (.l (List.map Enc.e (List.replicate (blocks.length : Int).toNat (([] : List Int) : List Int)))) (hP (mk_p (b := 24) (chk_t h) rfl) (hP (rep_m Enc.e (blocks.length : Int).toNat (([] : List Int) : List Int)) h0)))) ?_
 refine Ok_seq (rs G (hN 1 blocks h0) ?_)
 refine tl hm (fun block4 => ⟨[(5, .own 16)], [tX 16 35 [some 3] block4 16 none], 48⟩) (fun block4 hm => ?_) ?_
 ·refine Ok_block (lp G hm (fun (v, block) => ⟨[(1, dV cancelled), (5, .own 16), (13, dV blocks), (14, dV (blocks.length : Int)), (15, dV v)], [tX 16 35 [some 3] block 16 none], 48⟩) ?_)
  rintro ⟨v, block⟩ r0 hb hm
  rw [zq32_L2] at hm
  refine rg G (Ok_seq (cd hm (fun hm => ?_) (fun hm => ?_)))
  ·refine X_skip (thN (Ok_seq (Ok_block ?_)))
   obtain ⟨e, h1, hm⟩ := obind hm
   refine rs G (hD 1 h1 h0) ?_
   refine rs G (hN 1 e h0) ?_
   refine tl hm (fun block3 => ⟨[(1, dV cancelled), (5, .own 16), (13, dV blocks), (14, dV (blocks.length : Int)), (15, dV v)], [tX 16 35 [some 3] block3 16 none], 48⟩) (fun block3 hm => ?_) ?_
   ·refine Ok_block (lp G hm (fun (v1, block1) => ⟨[(1, dV cancelled), (5, .own 16), (6, dV v), (13, dV blocks), (14, dV (blocks.length : Int)), (15, dV v), (20, dV e), (21, dV (e.length : Int)), (22, dV v1)], [tX 16 35 [some 3] block1 16 none], 48⟩) ?_)
    rintro ⟨v1, block1⟩ r0 hb1 hm
    rw [zq32_L1] at hm
    refine rg G (Ok_seq (cd hm (fun hm => ?_) (fun hm => ?_)))
    ·refine X_skip (thN (jn hm (fun block2 => ⟨[(1, dV cancelled), (5, .own 16), (6, dV v), (13, dV blocks), (14, dV (blocks.length : Int)), (15, dV v), (20, dV e), (21, dV (e.length : Int)), (22, dV v1)], [tX 16 35 [some 3] block2 16 none], 48⟩) (fun block2 hm => ?_) ?_))
     ·refine Ok_block ?_
      obtain ⟨e1, h2, hm⟩ := obind hm
      refine rs G (hD 0 h2 h0) ?_
      obtain ⟨r, h3, hm⟩ := obind hm
      refine rs G (hC 2 (zq126_c h3) h0) ?_
      refine cd hm (fun hm => ?_) (fun hm => ?_)
      ·obtain ⟨e2, h4, hm⟩ := obind hm
       obtain ⟨u1, h5, hm⟩ := obind hm
       obtain ⟨e3, h6, hm⟩ := obind hm
       refine re G (hD 4 h4 (hE 5 h4 (hO 8 (.sd (Enc.e e2) (List.map Enc.e (e2 ++ ([e1] : List Int)))) (hP (idx_m2 (f := Enc.e) h4) (hP (app_p (f := Enc.e) (g := Enc.e) (l := e2) (r := ([e1] : List Int)) (b := 8) (chk_t h5) rfl) (hP (app_m Enc.e e2 ([e1] : List Int)) (hD 9 h6 (hS 10 h4 (e2 ++ ([e1] : List Int)) (hP (Eq.refl v.toNat) h0))))))))) ?_
       exact ibN (wJ G hm)
      ·exact X_skip (ibN (wJ G hm))
     rintro block2 hm
     exact rh G (wL G hm)
    ·exact Ok_exit (thE (thE (ibE (wD G hm hb1))))
   rintro block3 hm s hw
   refine ibN (thN (Ok_weak hw ?_))
   exact rh G (wL G hm)
  ·exact Ok_exit (thE (thE (ibE (wD G hm hb))))
 rintro block4 hm s1 hw1
 refine thN (Ok_weak hw1 ?_)
 refine rg G ?_
 cases hm
 exact rt [16] []
noncomputable def zq28_M : MS (Timetable × Fleet × (List (List Int)) × (List Int)) Bool := ⟨.x .r (.x .r (.x .r .r)), fun x => zq28 x.1 x.2.1 x.2.2.1 x.2.2.2, fun y => dV y, fun _ => [], fun _ _ => []⟩
theorem zq28_c {t f blocks cancelled y} (hm : zq28 t f blocks cancelled = some y) : zq28_M.C (t, f, blocks, cancelled) y := zq28_M.c (t, f, blocks, cancelled) hm
theorem zq28_ok : FnOK Tryz.prog 96 zq28_M.S := by
 refine fm tt zq28_M [fo zq32_ok, fo zq41_ok, fo zq17_ok] Tryz.call96 Tryz.func96 rfl Tryz.results96 Tryz.ntmps96 ?_
 rintro ⟨t, f, blocks, cancelled⟩ y cx G hm
 have hm : zq28 t f blocks cancelled = some y := hm
 unfold zq28 at hm
 refine rg G (Ok_seq ?_)
 obtain ⟨r, h, hm⟩ := obind hm
 refine rs G (hC 2 (zq32_c h) (hN 3 r h0)) ?_
 refine tF hm (fun _ => ⟨[], [], 32⟩) (fun v3 hr hm => ?_) ?_
 ·refine Ok_block (lp G hm (fun v => ⟨[(4, .ref 16 0), (5, .ref 32 0), (14, .own 48), (15, dV (r.length : Int)), (16, dV v)], [bX 16 [dV t.Network.Stops, dV t.Network.Lines, dV t.Trips], bX 32 [dV f.Dead, dV f.Turn], tX 48 35 [some 3] r 48 none], 80⟩) ?_)
  rintro v r0 hb hm
  rw [zq28_L2] at hm
  refine rg G (Ok_seq (cd hm (fun hm => ?_) (fun hm => ?_)))
  ·refine X_skip (thN (Ok_seq (Ok_block ?_)))
   obtain ⟨e, h1, hm⟩ := obind hm
   refine rs G (hD 0 h1 (hE 1 h1 h0)) ?_
   refine rg G (tF hm (fun _ => ⟨[(4, .ref 16 0), (5, .ref 32 0), (14, .own 48), (15, dV (r.length : Int)), (16, dV v)], [bX 16 [dV t.Network.Stops, dV t.Network.Lines, dV t.Trips], bX 32 [dV f.Dead, dV f.Turn], tX 48 35 [some 3] r 48 none], 80⟩) (fun v2 hr1 hm => ?_) ?_)
   ·refine Ok_block (lp G hm (fun v1 => ⟨[(4, .ref 16 0), (5, .ref 32 0), (10, .row 48 48 v.toNat 0), (11, dV v1), (14, .own 48), (15, dV (r.length : Int)), (16, dV v)], [bX 16 [dV t.Network.Stops, dV t.Network.Lines, dV t.Trips], bX 32 [dV f.Dead, dV f.Turn], tX 48 35 [some 3] r 48 none], 80⟩) ?_)
    rintro v1 r0 hb1 hm
    rw [zq28_L1] at hm
    refine Ok_seq ?_
    obtain ⟨e1, h2, hm⟩ := obind hm
    refine rs G (hO 2 (.dn (Enc.e e1) (e1.length : Int)) (hP (idx_m2 (f := Enc.e) h2) (hP (len_m Enc.e e1) h0))) ?_
    refine cd hm (fun hm => ?_) (fun hm => ?_)
    ·refine X_skip (thN (Ok_seq (Ok_block ?_)))
     obtain ⟨e4, h8, hm⟩ := obind hm
     obtain ⟨r4, h9, hm⟩ := obind hm
     obtain ⟨e5, h10, hm⟩ := obind hm
     obtain ⟨r5, h11, hm⟩ := obind hm
     obtain ⟨r6, h12, hm⟩ := obind hm
     refine ds G [] (hE 6 h2 (hP (idx_b (f := Enc.e) h8) (hO 7 (.d2 (Enc.e e1) (Enc.e e4)) (hP (idx_m2 (f := Enc.e) h2) (hP (idx_m2 (f := Enc.e) h8) (hC 8 (zq41_c h9) (hE 12 h2 (hP (idx_b (f := Enc.e) h10) (hO 13 (.d2 (Enc.e e1) (Enc.e e5)) (hP (idx_m2 (f := Enc.e) h2) (hP (idx_m2 (f := Enc.e) h10) (hC 14 (zq41_c h11) (hC 15 (zq17_c h12) h0))))))))))))) ?_
     refine cd hm (fun hm => ?_) (fun hm => ?_)
     ·refine rg G ?_
      have hm := eL hm hb1 hr1
      have hm := eL hm hb hr
      cases hm
      exact rt [] []
     ·exact X_skip (ibN (thN (rh G (wL G hm))))
    ·exact Ok_exit (thE (thE (ibE (wE G hm hb1))))
   rintro ⟨⟩ hm s hw
   refine ibN (thN (Ok_weak hw ?_))
   exact rh G (wL G hm)
  ·exact Ok_exit (thE (thE (ibE (wE G hm hb))))
 rintro ⟨⟩ hm s1 hw1
 refine thN (Ok_weak hw1 ?_)
 refine rg G ?_
 cases hm
 exact rt [] []
noncomputable def zq36_M : MS ((List Delay) × Int) Int := ⟨.x .r .r, fun x => zq36 x.1 x.2, fun y => dV y, fun _ => [], fun _ _ => []⟩
theorem zq36_c {list id y} (hm : zq36 list id = some y) : zq36_M.C (list, id) y := zq36_M.c (list, id) hm
theorem zq36_ok : FnOK Tryz.prog 82 zq36_M.S := by
 refine fm tt zq36_M [] Tryz.call82 Tryz.func82 rfl Tryz.results82 Tryz.ntmps82 ?_
 rintro ⟨list, id⟩ y cx G hm
 have hm : zq36 list id = some y := hm
 unfold zq36 at hm
 refine rg G (Ok_seq (rs G (hN 1 list h0) ?_))
 refine tF hm (fun _ => ⟨[], [], 32⟩) (fun v1 hr hm => ?_) ?_
 ·refine Ok_block (lp G hm (fun v => ⟨[(1, dV id), (7, dV list), (8, dV (list.length : Int)), (9, dV v)], [], 32⟩) ?_)
  rintro v r0 hb hm
  rw [zq36_L1] at hm
  refine rg G (Ok_seq (cd hm (fun hm => ?_) (fun hm => ?_)))
  ·refine X_skip (thN (Ok_seq (Ok_block ?_)))
   obtain ⟨e, h, hm⟩ := obind hm
   refine rs G (hD 0 h h0) ?_
   refine rg G (cd hm (fun hm => ?_) (fun hm => ?_))
   ·refine rg G ?_
    have hm := eL hm hb hr
    cases hm
    exact rt [] []
   ·exact X_skip (ibN (thN (rh G (wL G hm))))
  ·exact Ok_exit (thE (thE (ibE (wE G hm hb))))
 rintro ⟨⟩ hm s hw
 refine thN (Ok_weak hw ?_)
 refine rg G ?_
 cases hm
 exact rt [] []
noncomputable def zq21_M : MS (Timetable × Fleet × (List (List Int)) × (List Delay)) ((List Int)) := ⟨.x .r (.x .r (.x .r .r)), fun x => zq21 x.1 x.2.1 x.2.2.1 x.2.2.2, fun _ => .own 0, fun y => [arO 3 y], fun _ _ => []⟩
theorem zq21_c {t f blocks list y} (hm : zq21 t f blocks list = some y) : zq21_M.C (t, f, blocks, list) y := zq21_M.c (t, f, blocks, list) hm
theorem zq21_ok : FnOK Tryz.prog 75 zq21_M.S := by
 refine fm tt zq21_M [fo zq39_ok, fo zq22_ok, fo zq20_ok, fo zq36_ok] Tryz.call75 Tryz.func75 rfl Tryz.results75 Tryz.ntmps75 ?_
 rintro ⟨t, f, blocks, list⟩ y cx G hm
 have hm : zq21 t f blocks list = some y := hm
 unfold zq21 at hm
 refine rg G ?_
 obtain ⟨u, h, hm⟩ := obind hm
 refine rs G (hN 2 t.Trips (hO 3 (.l (List.map Enc.e (List.replicate (t.Trips.length : Int).toNat (0 : Int)))) (hP (mk_p (b := 8) (chk_t h) rfl) (hP (rep_m Enc.e (t.Trips.length : Int).toNat (0 : Int)) h0)))) ?_
 refine Ok_seq (rs G (hN 1 blocks h0) ?_)
 refine tl hm (fun id3 => ⟨[(9, .own 16)], [aX 16 3 id3], 48⟩) (fun id3 hm => ?_) ?_
 ·refine Ok_block (lp G hm (fun (v, id) => ⟨[(3, dV list), (4, .ref 16 0), (5, .ref 32 0), (9, .own 48), (22, dV blocks), (23, dV (blocks.length : Int)), (24, dV v)], [bX 16 [dV t.Network.Stops, dV t.Network.Lines, dV t.Trips], bX 32 [dV f.Dead, dV f.Turn], aX 48 3 id], 80⟩) ?_)
  rintro ⟨v, id⟩ r0 hb hm
  rw [zq21_L2] at hm
  refine rg G (Ok_seq (cd hm (fun hm => ?_) (fun hm => ?_)))
  ·refine X_skip (thN (Ok_seq (Ok_block ?_)))
   obtain ⟨e, h1, hm⟩ := obind hm
   refine rs G (hD 0 h1 h0) ?_
   refine rs G (hN 1 e h0) ?_
   refine tl hm (fun id2 => ⟨[(3, dV list), (4, .ref 16 0), (5, .ref 32 0), (9, .own 48), (22, dV blocks), (23, dV (blocks.length : Int)), (24, dV v)], [bX 16 [dV t.Network.Stops, dV t.Network.Lines, dV t.Trips], bX 32 [dV f.Dead, dV f.Turn], aX 48 3 id2], 80⟩) (fun id2 hm => ?_) ?_
   ·refine Ok_block (lp G hm (fun (v1, id1) => ⟨[(3, dV list), (4, .ref 16 0), (5, .ref 32 0), (9, .own 48), (11, dV e), (22, dV blocks), (23, dV (blocks.length : Int)), (24, dV v), (28, dV e), (29, dV (e.length : Int)), (30, dV v1)], [bX 16 [dV t.Network.Stops, dV t.Network.Lines, dV t.Trips], bX 32 [dV f.Dead, dV f.Turn], aX 48 3 id1], 80⟩) ?_)
    rintro ⟨v1, id1⟩ r0 hb1 hm
    rw [zq21_L1] at hm
    refine rg G (Ok_seq (cd hm (fun hm => ?_) (fun hm => ?_)))
    ·refine X_skip (thN (Ok_seq (Ok_block ?_)))
     obtain ⟨e1, h2, hm⟩ := obind hm
     refine rs G (hD 1 h2 h0) ?_
     obtain ⟨r, h3, hm⟩ := obind hm
     refine rs G (hC 2 (zq39_c h3) h0) ?_
     obtain ⟨e2, h4, hm⟩ := obind hm
     refine rs G (hD 3 h4 h0) ?_
     refine rg G (jn hm (fun v2 => ⟨[(3, dV list), (4, .ref 16 0), (5, .ref 32 0), (9, .own 48), (11, dV e), (13, dV e1), (14, dV r), (15, .ref 64 0), (16, dV v2), (22, dV blocks), (23, dV (blocks.length : Int)), (24, dV v), (28, dV e), (29, dV (e.length : Int)), (30, dV v1)], [bX 16 [dV t.Network.Stops, dV t.Network.Lines, dV t.Trips], bX 32 [dV f.Dead, dV f.Turn], aX 48 3 id1, bX 64 [dV e2.Id, dV e2.Line, dV e2.Start]], 96⟩) (fun v2 hm => ?_) ?_)
     ·refine rg G (cd hm (fun hm => ?_) (fun hm => ?_))
      ·obtain ⟨e4, h7, hm⟩ := obind hm
       obtain ⟨r2, h8, hm⟩ := obind hm
       refine ds G [] (hD 4 h7 (hC 6 (zq39_c h8) h0)) ?_
       obtain ⟨e8, h14, hm⟩ := obind hm
       obtain ⟨r5, h15, hm⟩ := obind hm
       obtain ⟨e9, h16, hm⟩ := obind hm
       obtain ⟨e10, h17, hm⟩ := obind hm
       obtain ⟨r6, h18, hm⟩ := obind hm
       refine de G [] (hD 5 h14 (hC 7 (zq22_c h15) (hD 10 h16 (hE 11 h16 (hD 21 h17 (hC 24 (zq20_c h18) h0)))))) ?_
       exact wJ G hm
      ·exact X_skip (wJ G hm)
     rintro v2 hm
     obtain ⟨r8, h21, hm⟩ := obind hm
     obtain ⟨e12, h22, hm⟩ := obind hm
     refine de G [(11, [48])] (hC 5 (zq36_c h21) (hD 10 h22 (hS 11 h22 (w64 ((w64 (v2 + r8)) - e2.Start)) h0))) ?_
     exact ibN (thN (rh G (wL G hm)))
    ·exact Ok_exit (thE (thE (ibE (wD G hm hb1))))
   rintro id2 hm s hw
   refine ibN (thN (Ok_weak hw ?_))
   exact rh G (wL G hm)
  ·exact Ok_exit (thE (thE (ibE (wD G hm hb))))
 rintro id3 hm s1 hw1
 refine thN (Ok_weak hw1 ?_)
 refine rg G ?_
 cases hm
 exact rt [16] []
noncomputable def zq19_M : MS (Timetable × Fleet × (List (List Int)) × (List Delay) × (List Int)) ((List Int)) := ⟨.x .r (.x .r (.x .r (.x .r .r))), fun x => zq19 x.1 x.2.1 x.2.2.1 x.2.2.2.1 x.2.2.2.2, fun _ => .own 0, fun y => [arO 3 y], fun _ _ => []⟩
theorem zq19_c {t f blocks list cancelled y} (hm : zq19 t f blocks list cancelled = some y) : zq19_M.C (t, f, blocks, list, cancelled) y := zq19_M.c (t, f, blocks, list, cancelled) hm
theorem zq19_ok : FnOK Tryz.prog 67 zq19_M.S := by
 refine fm tt zq19_M [fo zq32_ok, fo zq21_ok, fo zq39_ok] Tryz.call67 Tryz.func67 rfl Tryz.results67 Tryz.ntmps67 ?_
 rintro ⟨t, f, blocks, list, cancelled⟩ y cx G hm
 have hm : zq19 t f blocks list cancelled = some y := hm
 unfold zq19 at hm
 refine rg G ?_
 obtain ⟨r2, h2, hm⟩ := obind hm
 obtain ⟨r3, h3, hm⟩ := obind hm
 refine ds G [] (hC 4 (zq32_c h2) (hF 6 (zq21_c h3) ⟨(flat_cons flat_arr flat_nil), flat_nil⟩ h0)) ?_
 refine Ok_seq (rs G (hN 1 cancelled h0) ?_)
 refine tl hm (fun v2 => ⟨[(11, .own 16)], [aX 16 3 v2], 48⟩) (fun v2 hm => ?_) ?_
 ·refine Ok_block (lp G hm (fun (v, v1) => ⟨[(5, .ref 16 0), (11, .own 32), (21, dV cancelled), (22, dV (cancelled.length : Int)), (23, dV v)], [bX 16 [dV t.Network.Stops, dV t.Network.Lines, dV t.Trips], aX 32 3 v1], 64⟩) ?_)
  rintro ⟨v, v1⟩ r0 hb hm
  rw [zq19_L1] at hm
  refine rg G (Ok_seq (cd hm (fun hm => ?_) (fun hm => ?_)))
  ·refine X_skip (thN (Ok_seq (Ok_block ?_)))
   obtain ⟨e, h4, hm⟩ := obind hm
   refine rs G (hD 0 h4 h0) ?_
   obtain ⟨r4, h5, hm⟩ := obind hm
   obtain ⟨e1, h6, hm⟩ := obind hm
   refine re G (hC 3 (zq39_c h5) (hD 4 h6 (hS 5 h6 (-1) h0))) ?_
   exact ibN (thN (rh G (wL G hm)))
  ·exact Ok_exit (thE (thE (ibE (wD G hm hb))))
 rintro v2 hm s hw
 refine thN (Ok_weak hw ?_)
 refine rg G ?_
 cases hm
 exact rt [16] []
end Go.Proofs.YtaegkodcjpgndaaGreat
