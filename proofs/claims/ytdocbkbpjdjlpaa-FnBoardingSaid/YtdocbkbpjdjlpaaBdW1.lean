/- Each function computes what its model says. Made by program (dec.py). -/
import Derived.Test.YtdocbkbpjdjlpaaTy
import Derived.Test.YtdocbkbpjdjlpaaAbC
import Derived.Test.YtdocbkbpjdjlpaaBdM
namespace Go.Proofs.Ytdocbkbpjdjlpaa
open Go Go.Ab
set_option maxRecDepth 100000
set_option maxHeartbeats 4000000
set_option linter.unusedVariables false
set_option linter.unusedSimpArgs false
theorem tt : TT Try.prog ty := ⟨by kernel_rfl, ty_ok⟩
abbrev tJ : Inv := .none
noncomputable def zq89_M : MS ((List UInt8)) Bool := ⟨.r, zq89, fun y => dV y, fun _ => [], fun _ _ => []⟩
theorem zq89_c {code y} (hm : zq89 code = some y) : zq89_M.C code y := zq89_M.c code hm
theorem zq89_ok : FnOK Try.prog tJ 18 zq89_M.S := by
 refine fm tt zq89_M [] Try.call18 Try.func18 rfl Try.results18 Try.ntmps18 ?_
 rintro code y cx G hm
 have hm : zq89 code = some y := hm
 unfold zq89 at hm
 refine rg G (rs G (hN 1 code h0) ?_)
 cases hm
 exact rt [] []
noncomputable def zq42_M : MS l1Cur (Int × l1Cur) := ⟨.b 129, zq42, fun y => dV y.1, fun _ => [], fun _ y => [bxO 129 y.2]⟩
theorem zq42_c {c y} (hm : zq42 c = some y) : zq42_M.C c y := zq42_M.c c hm
theorem zq42_ok : FnOK Try.prog tJ 155 zq42_M.S := by
 refine fm tt zq42_M [] Try.call155 Try.func155 rfl Try.results155 Try.ntmps155 ?_
 rintro c y cx G hm
 have hm : zq42 c = some y := hm
 unfold zq42 at hm
 refine rg G (rg G (jn hm (fun v => ⟨[(0, .ref 0 0), (3, dV v)], [bX 0 129 [dV c.code_, dV c.at_, kV .u64 c.seed_.v]], 48⟩) (fun v hm => ?_) ?_))
 ·refine ds G [] (hN 8 c.code_ h0) ?_
  refine cd hm (fun hm => ?_) (fun hm => ?_)
  ·obtain ⟨e1, h1, hm⟩ := obind hm
   refine de G [] (hD 8 h1 h0) ?_
   exact wJ G hm
  ·exact X_skip (wJ G hm)
 rintro v hm
 refine rg G (rg G (Ok_seq (ds G [] (hN 8 c.code_ h0) ?_)))
 refine cd hm (fun hm => ?_) (fun hm => ?_)
 ·refine rg G ?_
  cases hm
  exact rt [] []
 ·refine X_skip (thN ?_)
  obtain ⟨u, h2, hm⟩ := obind hm
  refine rs G (hK h2 h0) ?_
  cases hm
  exact rt [] []
noncomputable def zq46_M : MS (l1Cur × Int) (Int × l1Cur) := ⟨.x (.b 129) .r, fun x => zq46 x.1 x.2, fun y => dV y.1, fun _ => [], fun _ y => [bxO 129 y.2]⟩
theorem zq46_c {c n y} (hm : zq46 c n = some y) : zq46_M.C (c, n) y := zq46_M.c (c, n) hm
theorem zq46_ok : FnOK Try.prog tJ 77 zq46_M.S := by
 refine fm tt zq46_M [fo zq42_ok] Try.call77 Try.func77 rfl Try.results77 Try.ntmps77 ?_
 rintro ⟨c, n⟩ y cx G hm
 have hm : zq46 c n = some y := hm
 unfold zq46 at hm
 refine rg G (Ok_seq (rg G (cd hm (fun hm => ?_) (fun hm => ?_))))
 ·refine rg G ?_
  cases hm
  exact rt [] []
 ·refine X_skip (thN ?_)
  obtain ⟨r, h, hm⟩ := obind hm
  refine rs G (hC 1 (zq42_c h) h0) ?_
  refine jn hm (fun (v, v1, v2, v3) => ⟨[(0, .ref 0 0), (1, dV n), (5, dV v)], [bX 0 129 [dV v1, dV v2, kV .u64 v3]], 48⟩) (fun vv hm => ?_) ?_
  ·refine rg G (cd hm (fun hm => ?_) (fun hm => ?_))
   ·obtain ⟨r1, h1, hm⟩ := obind hm
    refine re G (hC 3 (zq42_c h1) h0) ?_
    exact wJ G hm
   ·exact X_skip (wJ G hm)
  rintro ⟨v, v1, v2, v3⟩ hm
  obtain ⟨u, h2, hm⟩ := obind hm
  refine rs G (hK h2 h0) ?_
  cases hm
  exact rt [] []
noncomputable def zq51_MR (rec_ : Int → Option (ByteArray)) : MS Int ByteArray := ⟨.r, rec_, fun y => dV y, fun _ => [], fun _ _ => []⟩
noncomputable def zq51_M : MS Int ByteArray := zq51_MR zq51
theorem zq51_c {n y} (hm : zq51 n = some y) : zq51_M.C n y := zq51_M.c n hm
theorem zq51_cR {rec_ : Int → Option (ByteArray)} {n y} (hm : rec_ n = some y) : (zq51_MR rec_).C n y := (zq51_MR rec_).c n hm
theorem zq51_okF {rec_ : Int → Option (ByteArray)} (hrec : FnOK Try.prog tJ 213 (zq51_MR rec_).S) : FnOK Try.prog tJ 213 (zq51_MR (zq51_F rec_)).S := by
 refine fm tt (zq51_MR (zq51_F rec_)) [fo hrec] Try.call213 Try.func213 rfl Try.results213 Try.ntmps213 ?_
 rintro n y cx G hm
 have hm : zq51_F rec_ n = some y := hm
 unfold zq51_F at hm
 refine rg G (Ok_seq (rg G (cd hm (fun hm => ?_) (fun hm => ?_))))
 ·obtain ⟨r, h, hm⟩ := obind hm
  obtain ⟨u, h1, hm⟩ := obind hm
  refine rs G (hC 2 (zq51_cR h) (hP (cat_p (chk_t h1)) h0)) ?_
  cases hm
  exact rt [] []
 ·refine X_skip (thN (Ok_seq (rg G (cd hm (fun hm => ?_) (fun hm => ?_)))))
  ·obtain ⟨u1, h2, hm⟩ := obind hm
   refine rs G (hK h2 h0) ?_
   cases hm
   exact rt [] []
  ·refine X_skip (thN ?_)
   obtain ⟨u7, h9, hm⟩ := obind hm
   obtain ⟨r2, h10, hm⟩ := obind hm
   obtain ⟨u8, h11, hm⟩ := obind hm
   obtain ⟨u9, h12, hm⟩ := obind hm
   obtain ⟨u10, h13, hm⟩ := obind hm
   obtain ⟨u11, h14, hm⟩ := obind hm
   refine ds G [] (hK h9 (hC 2 (zq51_cR h10) (hK h11 (hK h12 (hK h13 (hP (cat_p (chk_t h14)) h0)))))) ?_
   cases hm
   exact rt [] []
theorem zq51_okn : ∀ k, FnOK Try.prog tJ 213 (zq51_MR (zq51_k k)).S
 | 0 => ⟨fun args w => Try.call213 args w, fun vs w F ds obs κ hp => by obtain ⟨x, y, _, _, h⟩ := hp; cases h⟩
 | k + 1 => zq51_okF (zq51_okn k)
theorem zq51_ok : FnOK Try.prog tJ 213 zq51_M.S := zq51_okn 4294967296
noncomputable def zq69_M : MS (Line × Int) Int := ⟨.x .r .r, fun x => zq69 x.1 x.2, fun y => dV y, fun _ => [], fun _ _ => []⟩
theorem zq69_c {x stop y} (hm : zq69 x stop = some y) : zq69_M.C (x, stop) y := zq69_M.c (x, stop) hm
theorem zq69_ok : FnOK Try.prog tJ 95 zq69_M.S := by
 refine fm tt zq69_M [] Try.call95 Try.func95 rfl Try.results95 Try.ntmps95 ?_
 rintro ⟨x, stop⟩ y cx G hm
 have hm : zq69 x stop = some y := hm
 unfold zq69 at hm
 refine rg G (Ok_seq (rg G (tF hm (fun _ => ⟨[], [], 32⟩) (fun v1 hr hm => ?_) ?_)))
 ·refine Ok_block (lp G hm (fun v => ⟨[(1, dV stop), (2, .ref 16 0), (5, dV v)], [bX 16 146 [dV x.Name, dV x.Stops, dV x.Runs]], 48⟩) ?_)
  rintro v r0 hb hm
  rw [zq69_L1] at hm
  refine Ok_seq (rs G (hN 3 x.Stops h0) ?_)
  refine cd hm (fun hm => ?_) (fun hm => ?_)
  ·refine X_skip (thN (Ok_seq (Ok_block ?_)))
   obtain ⟨e, h, hm⟩ := obind hm
   refine rs G (hD 3 h h0) ?_
   refine cd hm (fun hm => ?_) (fun hm => ?_)
   ·refine rg G ?_
    have hm := eL hm hb hr
    cases hm
    exact rt [] []
   ·exact X_skip (ibN (thN (rh G (wL G hm))))
  ·exact Ok_exit (thE (thE (ibE (wE G hm hb))))
 rintro ⟨⟩ hm s hw
 refine thN (Ok_weak hw ?_)
 refine rg G ?_
 cases hm
 exact rt [] []
noncomputable def zq38_M : MS (l1Cur × ByteArray × Int) (Line × l1Cur) := ⟨.x (.b 129) (.x .r .r), fun x => zq38 x.1 x.2.1 x.2.2, fun y => .aggv [dV y.1.Name, .own 0, .own 1], fun y => [arO 3 y.1.Stops, arO 3 y.1.Runs], fun _ y => [bxO 129 y.2]⟩
theorem zq38_c {c name stops y} (hm : zq38 c name stops = some y) : zq38_M.C (c, name, stops) y := zq38_M.c (c, name, stops) hm
theorem zq38_ok : FnOK Try.prog tJ 212 zq38_M.S := by
 refine fm tt zq38_M [fo zq46_ok, fo zq69_ok] Try.call212 Try.func212 rfl Try.results212 Try.ntmps212 ?_
 rintro ⟨c, name, stops⟩ y cx G hm
 have hm : zq38 c name stops = some y := hm
 unfold zq38 at hm
 refine rg G (rg G ?_)
 obtain ⟨r, h, hm⟩ := obind hm
 refine rs G (hC 2 (zq46_c h) h0) ?_
 refine Ok_seq ?_
 obtain ⟨r1, h1, hm⟩ := obind hm
 refine rs G (hC 1 (zq46_c h1) h0) ?_
 refine tl hm (fun (v7, v8, v9, v10) => ⟨[(0, .ref 0 0), (2, dV stops), (6, .ref 32 0), (7, .ref 48 0)], [bX 0 129 [dV v7, dV v8, kV .u64 v9], bX 32 146 [dV ByteArray.empty, .dat (.sc (.slice none 0 0)), .dat (.sc (.slice none 0 0))], bX 48 146 [dV name, .own 64, .dat (.sc (.slice none 0 0))], aX 64 3 v10], 96⟩) (fun vv1 hm => ?_) ?_
 ·refine Ok_block (lpP hm (fun (v, v1, v2, v3, v4, v5) => ⟨[(0, .ref 0 0), (2, dV stops), (6, .ref 32 0), (7, .ref 48 0), (8, dV v), (9, dV v1)], [bX 0 129 [dV v2, dV v3, kV .u64 v4], bX 32 146 [dV ByteArray.empty, .dat (.sc (.slice none 0 0)), .dat (.sc (.slice none 0 0))], bX 48 146 [dV name, .own 64, .dat (.sc (.slice none 0 0))], aX 64 3 v5], 96⟩) (Wk_J G.hL ⟨[(0, []), (2, []), (6, []), (7, []), (8, []), (9, [])], [(0, 0, []), (32, 16, []), (48, 64, [.k, .o 64])], [(64, 3, 1, [])], 96⟩ (by kernel_rfl)) ?_)
  rintro ⟨v, v1, v2, v3, v4, v5⟩ r0 hb hm
  rw [zq38_L1] at hm
  refine Ok_seq (rg G (cd hm (fun hm => ?_) (fun hm => ?_)))
  ·refine X_skip (thN (Ok_seq (Ok_block (jn hm (fun v6 => ⟨[(0, .ref 0 0), (2, dV stops), (6, .ref 32 0), (7, .ref 48 0), (8, dV v), (9, dV v1)], [bX 0 129 [dV v2, dV v3, kV .u64 v4], bX 32 146 [dV ByteArray.empty, .dat (.sc (.slice none 0 0)), .dat (.sc (.slice none 0 0))], bX 48 146 [dV name, .own 64, .dat (.sc (.slice none 0 0))], aX 64 3 v6], 96⟩) (fun v6 hm => ?_) ?_))))
   ·obtain ⟨r2, h2, hm⟩ := obind hm
    refine rs G (hC 2 (zq69_c h2) h0) ?_
    refine cd hm (fun hm => ?_) (fun hm => ?_)
    ·obtain ⟨u, h3, hm⟩ := obind hm
     refine re G (hA 4 8 h3 h0) ?_
     exact wJ G hm
    ·exact X_skip (wJ G hm)
   rintro v6 hm
   obtain ⟨r3, h4, hm⟩ := obind hm
   obtain ⟨u1, h5, hm⟩ := obind hm
   refine re G (hC 3 (zq46_c h4) (hK h5 h0)) ?_
   exact ibN (thN (rh G (wL G hm)))
  ·exact Ok_exit (thE (thE (ibE (wD G hm hb))))
 rintro ⟨v7, v8, v9, v10⟩ hm s hw
 refine thN (Ok_weak hw ?_)
 refine jn hm (fun v11 => ⟨[(0, .ref 0 0), (6, .ref 32 0), (7, .ref 48 0)], [bX 0 129 [dV v7, dV v8, kV .u64 v9], bX 32 146 [dV ByteArray.empty, .dat (.sc (.slice none 0 0)), .dat (.sc (.slice none 0 0))], bX 48 146 [dV name, .own 64, .dat (.sc (.slice none 0 0))], aX 64 3 v11], 96⟩) (fun v11 hm => ?_) ?_
 ·refine rs G (hN 2 v10 h0) ?_
  refine cd hm (fun hm => ?_) (fun hm => ?_)
  ·obtain ⟨e1, h9, hm⟩ := obind hm
   obtain ⟨u4, h10, hm⟩ := obind hm
   obtain ⟨u5, h11, hm⟩ := obind hm
   refine de G [(10, [64, 304]), (12, [48, 320])] (hD 4 h9 (hE 5 h9 (hK h10 (hA 10 8 h11 h0)))) ?_
   exact wJ G hm
  ·exact X_skip (wJ G hm)
 rintro v11 hm
 refine Ok_seq (rg G (tl hm (fun (v17, v18, v19, v20) => ⟨[(0, .ref 0 0), (6, .ref 32 0), (7, .ref 48 0)], [bX 0 129 [dV v17, dV v18, kV .u64 v19], bX 32 146 [dV ByteArray.empty, .dat (.sc (.slice none 0 0)), .dat (.sc (.slice none 0 0))], bX 48 146 [dV name, .own 64, .own 80], aX 64 3 v11, aX 80 3 v20], 112⟩) (fun vv hm => ?_) ?_))
 ·refine Ok_block (lpP hm (fun (v12, v13, v14, v15, v16) => ⟨[(0, .ref 0 0), (6, .ref 32 0), (7, .ref 48 0), (10, dV v12)], [bX 0 129 [dV v13, dV v14, kV .u64 v15], bX 32 146 [dV ByteArray.empty, .dat (.sc (.slice none 0 0)), .dat (.sc (.slice none 0 0))], bX 48 146 [dV name, .own 64, .own 80], aX 64 3 v11, aX 80 3 v16], 112⟩) (Wk_J G.hL ⟨[(0, []), (6, []), (7, []), (10, [])], [(0, 0, []), (32, 32, []), (48, 48, [.k, .k, .o 80]), (64, 64, [])], [(80, 3, 1, [])], 112⟩ (by kernel_rfl)) ?_)
  rintro ⟨v12, v13, v14, v15, v16⟩ r0 hb1 hm
  rw [zq38_L2] at hm
  refine Ok_seq (rs G (hN 3 v11 h0) ?_)
  refine cd hm (fun hm => ?_) (fun hm => ?_)
  ·refine X_skip (thN (Ok_seq (Ok_block ?_)))
   obtain ⟨r5, h14, hm⟩ := obind hm
   obtain ⟨u7, h15, hm⟩ := obind hm
   refine de G [(3, [0]), (6, [80, 272]), (8, [48, 288])] (hC 3 (zq46_c h14) (hA 6 8 h15 h0)) ?_
   exact ibN (thN (rh G (wL G hm)))
  ·exact Ok_exit (thE (thE (ibE (wD G hm hb1))))
 rintro ⟨v17, v18, v19, v20⟩ hm s1 hw1
 refine thN (Ok_weak hw1 ?_)
 refine rg G ?_
 cases hm
 exact rt [64, 80] []
noncomputable def zq39_M : MS (l1Cur × ByteArray × Int) (Line × l1Cur) := ⟨.x (.b 129) (.x .r .r), fun x => zq39 x.1 x.2.1 x.2.2, fun y => dV y.1, fun _ => [], fun _ y => [bxO 129 y.2]⟩
theorem zq39_c {c name stops y} (hm : zq39 c name stops = some y) : zq39_M.C (c, name, stops) y := zq39_M.c (c, name, stops) hm
theorem zq39_ok : FnOK Try.prog tJ 212 zq39_M.S := by
 refine fm tt zq39_M [fo zq46_ok, fo zq69_ok] Try.call212 Try.func212 rfl Try.results212 Try.ntmps212 ?_
 rintro ⟨c, name, stops⟩ y cx G hm
 have hm : zq39 c name stops = some y := hm
 unfold zq39 at hm
 refine rg G (rg G ?_)
 obtain ⟨r, h, hm⟩ := obind hm
 refine rs G (hC 2 (zq46_c h) h0) ?_
 refine Ok_seq ?_
 obtain ⟨r1, h1, hm⟩ := obind hm
 refine rs G (hC 1 (zq46_c h1) h0) ?_
 refine tl hm (fun (v7, v8, v9, v10) => ⟨[(0, .ref 0 0), (2, dV stops), (6, .ref 32 0), (7, .ref 48 0)], [bX 0 129 [dV v7, dV v8, kV .u64 v9], bX 32 146 [dV ByteArray.empty, .dat (.sc (.slice none 0 0)), .dat (.sc (.slice none 0 0))], bX 48 146 [dV name, .own 64, .dat (.sc (.slice none 0 0))], aX 64 3 v10], 96⟩) (fun vv1 hm => ?_) ?_
 ·refine Ok_block (lpP hm (fun (v, v1, v2, v3, v4, v5) => ⟨[(0, .ref 0 0), (2, dV stops), (6, .ref 32 0), (7, .ref 48 0), (8, dV v), (9, dV v1)], [bX 0 129 [dV v2, dV v3, kV .u64 v4], bX 32 146 [dV ByteArray.empty, .dat (.sc (.slice none 0 0)), .dat (.sc (.slice none 0 0))], bX 48 146 [dV name, .own 64, .dat (.sc (.slice none 0 0))], aX 64 3 v5], 96⟩) (Wk_J G.hL ⟨[(0, []), (2, []), (6, []), (7, []), (8, []), (9, [])], [(0, 0, []), (32, 16, []), (48, 64, [.k, .o 64])], [(64, 3, 1, [])], 96⟩ (by kernel_rfl)) ?_)
  rintro ⟨v, v1, v2, v3, v4, v5⟩ r0 hb hm
  rw [zq39_L1] at hm
  refine Ok_seq (rg G (cd hm (fun hm => ?_) (fun hm => ?_)))
  ·refine X_skip (thN (Ok_seq (Ok_block (jn hm (fun v6 => ⟨[(0, .ref 0 0), (2, dV stops), (6, .ref 32 0), (7, .ref 48 0), (8, dV v), (9, dV v1)], [bX 0 129 [dV v2, dV v3, kV .u64 v4], bX 32 146 [dV ByteArray.empty, .dat (.sc (.slice none 0 0)), .dat (.sc (.slice none 0 0))], bX 48 146 [dV name, .own 64, .dat (.sc (.slice none 0 0))], aX 64 3 v6], 96⟩) (fun v6 hm => ?_) ?_))))
   ·obtain ⟨r2, h2, hm⟩ := obind hm
    refine rs G (hC 2 (zq69_c h2) h0) ?_
    refine cd hm (fun hm => ?_) (fun hm => ?_)
    ·obtain ⟨u, h3, hm⟩ := obind hm
     refine re G (hA 4 8 h3 h0) ?_
     exact wJ G hm
    ·exact X_skip (wJ G hm)
   rintro v6 hm
   obtain ⟨r3, h4, hm⟩ := obind hm
   obtain ⟨u1, h5, hm⟩ := obind hm
   refine re G (hC 3 (zq46_c h4) (hK h5 h0)) ?_
   exact ibN (thN (rh G (wL G hm)))
  ·exact Ok_exit (thE (thE (ibE (wD G hm hb))))
 rintro ⟨v7, v8, v9, v10⟩ hm s hw
 refine thN (Ok_weak hw ?_)
 refine jn hm (fun v11 => ⟨[(0, .ref 0 0), (6, .ref 32 0), (7, .ref 48 0)], [bX 0 129 [dV v7, dV v8, kV .u64 v9], bX 32 146 [dV ByteArray.empty, .dat (.sc (.slice none 0 0)), .dat (.sc (.slice none 0 0))], bX 48 146 [dV name, .own 64, .dat (.sc (.slice none 0 0))], aX 64 3 v11], 96⟩) (fun v11 hm => ?_) ?_
 ·refine rs G (hN 2 v10 h0) ?_
  refine cd hm (fun hm => ?_) (fun hm => ?_)
  ·obtain ⟨e1, h9, hm⟩ := obind hm
   obtain ⟨u4, h10, hm⟩ := obind hm
   obtain ⟨u5, h11, hm⟩ := obind hm
   refine de G [(10, [64, 304]), (12, [48, 320])] (hD 4 h9 (hE 5 h9 (hK h10 (hA 10 8 h11 h0)))) ?_
   exact wJ G hm
  ·exact X_skip (wJ G hm)
 rintro v11 hm
 refine Ok_seq (rg G (tl hm (fun (v17, v18, v19, v20) => ⟨[(0, .ref 0 0), (6, .ref 32 0), (7, .ref 48 0)], [bX 0 129 [dV v17, dV v18, kV .u64 v19], bX 32 146 [dV ByteArray.empty, .dat (.sc (.slice none 0 0)), .dat (.sc (.slice none 0 0))], bX 48 146 [dV name, .own 64, .own 80], aX 64 3 v11, aX 80 3 v20], 112⟩) (fun vv hm => ?_) ?_))
 ·refine Ok_block (lpP hm (fun (v12, v13, v14, v15, v16) => ⟨[(0, .ref 0 0), (6, .ref 32 0), (7, .ref 48 0), (10, dV v12)], [bX 0 129 [dV v13, dV v14, kV .u64 v15], bX 32 146 [dV ByteArray.empty, .dat (.sc (.slice none 0 0)), .dat (.sc (.slice none 0 0))], bX 48 146 [dV name, .own 64, .own 80], aX 64 3 v11, aX 80 3 v16], 112⟩) (Wk_J G.hL ⟨[(0, []), (6, []), (7, []), (10, [])], [(0, 0, []), (32, 32, []), (48, 48, [.k, .k, .o 80]), (64, 64, [])], [(80, 3, 1, [])], 112⟩ (by kernel_rfl)) ?_)
  rintro ⟨v12, v13, v14, v15, v16⟩ r0 hb1 hm
  rw [zq39_L2] at hm
  refine Ok_seq (rs G (hN 3 v11 h0) ?_)
  refine cd hm (fun hm => ?_) (fun hm => ?_)
  ·refine X_skip (thN (Ok_seq (Ok_block ?_)))
   obtain ⟨r5, h14, hm⟩ := obind hm
   obtain ⟨u7, h15, hm⟩ := obind hm
   refine de G [(3, [0]), (6, [80, 272]), (8, [48, 288])] (hC 3 (zq46_c h14) (hA 6 8 h15 h0)) ?_
   exact ibN (thN (rh G (wL G hm)))
  ·exact Ok_exit (thE (thE (ibE (wD G hm hb1))))
 rintro ⟨v17, v18, v19, v20⟩ hm s1 hw1
 refine thN (Ok_weak hw1 ?_)
 refine rg G ?_
 cases hm
 exact rt [] []
noncomputable def zq45_M : MS (l1Cur × Int) (Bool × l1Cur) := ⟨.x (.b 129) .r, fun x => zq45 x.1 x.2, fun y => dV y.1, fun _ => [], fun _ y => [bxO 129 y.2]⟩
theorem zq45_c {c n y} (hm : zq45 c n = some y) : zq45_M.C (c, n) y := zq45_M.c (c, n) hm
theorem zq45_ok : FnOK Try.prog tJ 156 zq45_M.S := by
 refine fm tt zq45_M [fo zq46_ok] Try.call156 Try.func156 rfl Try.results156 Try.ntmps156 ?_
 rintro ⟨c, n⟩ y cx G hm
 have hm : zq45 c n = some y := hm
 unfold zq45 at hm
 refine rg G ?_
 obtain ⟨r, h, hm⟩ := obind hm
 refine rs G (hC 2 (zq46_c h) h0) ?_
 cases hm
 exact rt [] []
noncomputable def zq61_M : MS ((List Int)) ((List Int)) := ⟨.r, zq61, fun y => dV y, fun _ => [], fun _ _ => []⟩
theorem zq61_c {list y} (hm : zq61 list = some y) : zq61_M.C list y := zq61_M.c list hm
theorem zq61_ok : FnOK Try.prog tJ 228 zq61_M.S := by
 refine fm tt zq61_M [] Try.call228 Try.func228 rfl Try.results228 Try.ntmps228 ?_
 rintro list y cx G hm
 have hm : zq61 list = some y := hm
 unfold zq61 at hm
 refine rg G (rg G (Ok_seq (rs G (hN 1 list h0) ?_)))
 refine tl hm (fun i1 => ⟨[(3, .own 16)], [aX 16 3 i1], 48⟩) (fun i1 hm => ?_) ?_
 ·refine Ok_block (lp G hm (fun (v, i) => ⟨[(0, dV list), (3, .own 16), (4, dV v)], [aX 16 3 i], 48⟩) ?_)
  rintro ⟨v, i⟩ r0 hb hm
  rw [zq61_L1] at hm
  refine Ok_seq (rg G (cd hm (fun hm => ?_) (fun hm => ?_)))
  ·refine X_skip (thN (Ok_seq (Ok_block ?_)))
   obtain ⟨e, h, hm⟩ := obind hm
   obtain ⟨u, h1, hm⟩ := obind hm
   refine re G (hD 3 h (hA 6 8 h1 h0)) ?_
   exact ibN (thN (rh G (wL G hm)))
  ·exact Ok_exit (thE (thE (ibE (wD G hm hb))))
 rintro i1 hm s hw
 refine thN (Ok_weak hw ?_)
 refine rg G ?_
 cases hm
 exact rt [] []
noncomputable def zq52_M : MS ((List Int)) ((List Int)) := ⟨.r, zq52, fun _ => .own 0, fun y => [arO 3 y], fun _ _ => []⟩
theorem zq52_c {l y} (hm : zq52 l = some y) : zq52_M.C l y := zq52_M.c l hm
theorem zq52_ok : FnOK Try.prog tJ 197 zq52_M.S := by
 refine fm tt zq52_M [] Try.call197 Try.func197 rfl Try.results197 Try.ntmps197 ?_
 rintro l y cx G hm
 have hm : zq52 l = some y := hm
 unfold zq52 at hm
 refine rg G ?_
 obtain ⟨u, h, hm⟩ := obind hm
 refine rs G (hA 2 8 h h0) ?_
 cases hm
 exact rt [64] []
noncomputable def zq53_M : MS ((List Int)) ((List Int)) := ⟨.r, zq53, fun y => dV y, fun _ => [], fun _ _ => []⟩
theorem zq53_c {l y} (hm : zq53 l = some y) : zq53_M.C l y := zq53_M.c l hm
theorem zq53_ok : FnOK Try.prog tJ 197 zq53_M.S := by
 refine fm tt zq53_M [] Try.call197 Try.func197 rfl Try.results197 Try.ntmps197 ?_
 rintro l y cx G hm
 have hm : zq53 l = some y := hm
 unfold zq53 at hm
 refine rg G ?_
 obtain ⟨u, h, hm⟩ := obind hm
 refine rs G (hA 2 8 h h0) ?_
 cases hm
 exact rt [] []
noncomputable def zq67_M : MS Network Network := ⟨.r, zq67, fun _ => .aggv [.own 0, .own 1], fun y => [arO 9 y.Stops, arO 146 y.Lines], fun _ _ => []⟩
theorem zq67_c {n y} (hm : zq67 n = some y) : zq67_M.C n y := zq67_M.c n hm
theorem zq67_ok : FnOK Try.prog tJ 139 zq67_M.S := by
 refine fm tt zq67_M [fo zq53_ok] Try.call139 Try.func139 rfl Try.results139 Try.ntmps139 ?_
 rintro n y cx G hm
 have hm : zq67 n = some y := hm
 unfold zq67 at hm
 refine rg G ?_
 obtain ⟨u, h, hm⟩ := obind hm
 refine rs G (hA 3 16 h h0) ?_
 refine Ok_seq (rg G (tl hm (fun v2 => ⟨[(2, .ref 16 0), (3, .ref 32 0)], [bX 16 32 [.dat (.sc (.slice none 0 0)), .dat (.sc (.slice none 0 0))], bX 32 32 [.own 48, .own 64], aX 48 9 (([] : List ByteArray) ++ n.Stops), aX 64 146 v2], 96⟩) (fun v2 hm => ?_) ?_))
 ·refine Ok_block (lpP hm (fun (v, v1) => ⟨[(1, .ref 16 0), (2, .ref 32 0), (3, .ref 48 0), (4, dV v)], [bX 16 32 [dV n.Stops, dV n.Lines], bX 32 32 [.dat (.sc (.slice none 0 0)), .dat (.sc (.slice none 0 0))], bX 48 32 [.own 64, .own 80], aX 64 9 (([] : List ByteArray) ++ n.Stops), aX 80 146 v1], 112⟩) (Wk_J G.hL ⟨[(1, []), (2, []), (3, []), (4, [])], [(16, 16, []), (32, 32, []), (48, 128, [.k, .o 80]), (64, 96, [])], [(80, 146, 3, [])], 112⟩ (by kernel_rfl)) ?_)
  rintro ⟨v, v1⟩ r0 hb hm
  rw [zq67_L1] at hm
  refine Ok_seq (rs G (hN 3 n.Lines h0) ?_)
  refine cd hm (fun hm => ?_) (fun hm => ?_)
  ·refine X_skip (thN (Ok_seq (Ok_block ?_)))
   obtain ⟨e3, h7, hm⟩ := obind hm
   obtain ⟨e4, h8, hm⟩ := obind hm
   obtain ⟨r2, h9, hm⟩ := obind hm
   obtain ⟨e5, h10, hm⟩ := obind hm
   obtain ⟨r3, h11, hm⟩ := obind hm
   obtain ⟨u2, h12, hm⟩ := obind hm
   refine de G [(23, []), (24, [80, 560]), (26, [48, 576])] (hD 5 h7 (hD 11 h8 (hC 14 (zq53_c h9) (hD 18 h10 (hC 21 (zq53_c h11) (hA 24 64 h12 h0)))))) ?_
   exact ibN (thN (rh G (wL G hm)))
  ·exact Ok_exit (thE (thE (ibE (wD G hm hb))))
 rintro v2 hm s hw
 refine thN (Ok_weak hw ?_)
 refine rg G ?_
 cases hm
 exact rt [48, 64] []
noncomputable def zq40_M : MS l1Cur (Network × l1Cur) := ⟨.b 129, zq40, fun _ => .aggv [.own 0, .own 1], fun y => [arO 9 y.1.Stops, arO 146 y.1.Lines], fun _ y => [bxO 129 y.2]⟩
theorem zq40_c {c y} (hm : zq40 c = some y) : zq40_M.C c y := zq40_M.c c hm
theorem zq40_ok : FnOK Try.prog tJ 210 zq40_M.S := by
 refine fm tt zq40_M [fo zq46_ok, fo zq51_ok, fo zq39_ok, fo zq45_ok, fo zq61_ok, fo zq67_ok] Try.call210 Try.func210 rfl Try.results210 Try.ntmps210 ?_
 rintro c y cx G hm
 have hm : zq40 c = some y := hm
 unfold zq40 at hm
 refine rg G ?_
 obtain ⟨r, h, hm⟩ := obind hm
 refine rs G (hC 1 (zq46_c h) h0) ?_
 obtain ⟨u, h1, hm⟩ := obind hm
 refine rs G (hO 2 (.fz [96] [] []) (hU 2 h1 h0)) ?_
 refine Ok_seq ?_
 obtain ⟨r1, h2, hm⟩ := obind hm
 refine rs G (hC 1 (zq46_c h2) h0) ?_
 refine tl hm (fun (v4, v5, v6, v7) => ⟨[(0, .ref 0 0), (2, .ref 32 0), (4, .ref 48 0)], [bX 0 129 [dV v4, dV v5, kV .u64 v6], bX 32 32 [.dat (.sc (.slice none 0 0)), .dat (.sc (.slice none 0 0))], bX 48 32 [dV ((([(str [112, 111, 114, 116]), (str [109, 105, 108, 108]), (str [112, 97, 114, 107]), (str [104, 97, 108, 108]), (str [100, 111, 99, 107]), (str [102, 97, 105, 114])] : List ByteArray).take (w64 (2 + r.1)).toNat).drop (0 : Int).toNat), .own 64], aX 64 146 v7], 96⟩) (fun vv1 hm => ?_) ?_
 ·refine Ok_block (lpP hm (fun (x, v, v1, v2, v3) => ⟨[(0, .ref 0 0), (2, .ref 32 0), (3, dV (w64 (2 + r.1))), (4, .ref 48 0), (5, dV x)], [bX 0 129 [dV v, dV v1, kV .u64 v2], bX 32 32 [.dat (.sc (.slice none 0 0)), .dat (.sc (.slice none 0 0))], bX 48 32 [dV ((([(str [112, 111, 114, 116]), (str [109, 105, 108, 108]), (str [112, 97, 114, 107]), (str [104, 97, 108, 108]), (str [100, 111, 99, 107]), (str [102, 97, 105, 114])] : List ByteArray).take (w64 (2 + r.1)).toNat).drop (0 : Int).toNat), .own 64], aX 64 146 v3], 96⟩) (Wk_J G.hL ⟨[(0, []), (2, []), (3, []), (4, []), (5, [])], [(0, 0, []), (32, 16, []), (48, 160, [.k, .o 64])], [(64, 146, 3, [])], 96⟩ (by kernel_rfl)) ?_)
  rintro ⟨x, v, v1, v2, v3⟩ r0 hb hm
  rw [zq40_L1] at hm
  refine Ok_seq (rg G (cd hm (fun hm => ?_) (fun hm => ?_)))
  ·refine X_skip (thN (Ok_seq (Ok_block ?_)))
   obtain ⟨r4, h7, hm⟩ := obind hm
   obtain ⟨u3, h8, hm⟩ := obind hm
   obtain ⟨r5, h9, hm⟩ := obind hm
   obtain ⟨u4, h10, hm⟩ := obind hm
   refine de G [(7, [0]), (8, []), (9, [64, 256]), (11, [48, 272])] (hC 4 (zq51_c h7) (hP (cat_p (chk_t h8)) (hC 7 (zq39_c h9) (hA 9 64 h10 h0)))) ?_
   exact ibN (thN (rh G (wL G hm)))
  ·exact Ok_exit (thE (thE (ibE (wD G hm hb))))
 rintro ⟨v4, v5, v6, v7⟩ hm s hw
 refine thN (Ok_weak hw ?_)
 refine jn hm (fun (v8, v9, v10, v11) => ⟨[(0, .ref 0 0), (2, .ref 32 0), (4, .ref 48 0)], [bX 0 129 [dV v8, dV v9, kV .u64 v10], bX 32 32 [.dat (.sc (.slice none 0 0)), .dat (.sc (.slice none 0 0))], bX 48 32 [dV ((([(str [112, 111, 114, 116]), (str [109, 105, 108, 108]), (str [112, 97, 114, 107]), (str [104, 97, 108, 108]), (str [100, 111, 99, 107]), (str [102, 97, 105, 114])] : List ByteArray).take (w64 (2 + r.1)).toNat).drop (0 : Int).toNat), .own 64], aX 64 146 v11], 96⟩) (fun vv hm => ?_) ?_
 ·obtain ⟨r6, h11, hm⟩ := obind hm
  refine rs G (hC 1 (zq45_c h11) h0) ?_
  refine cd hm (fun hm => ?_) (fun hm => ?_)
  ·obtain ⟨e, h12, hm⟩ := obind hm
   refine rs G (hD 2 h12 (hE 3 h12 h0)) ?_
   obtain ⟨r9, h16, hm⟩ := obind hm
   obtain ⟨r10, h17, hm⟩ := obind hm
   obtain ⟨u6, h18, hm⟩ := obind hm
   refine de G [(9, []), (10, [64, 368]), (12, [48, 384])] (hC 4 (zq61_c h16) (hC 7 (zq61_c h17) (hA 10 64 h18 h0))) ?_
   exact wJ G hm
  ·exact X_skip (wJ G hm)
 rintro ⟨v8, v9, v10, v11⟩ hm
 obtain ⟨r11, h19, hm⟩ := obind hm
 refine rs G (hO 1 (.fz [64] [] []) (hC 1 (zq67_c h19) h0)) ?_
 cases hm
 exact rt [112, 113] []
noncomputable def zq47_M : MS l1Cur (Timetable × l1Cur) := ⟨.b 129, zq47, fun _ => .aggv [.own 0, .own 1, .own 2], fun y => [arO 9 y.1.Network.Stops, arO 146 y.1.Network.Lines, arO 167 y.1.Trips], fun _ y => [bxO 129 y.2]⟩
theorem zq47_c {c y} (hm : zq47 c = some y) : zq47_M.C c y := zq47_M.c c hm
theorem zq47_ok : FnOK Try.prog tJ 163 zq47_M.S := by
 refine fm tt zq47_M [fo zq40_ok, fo zq46_ok] Try.call163 Try.func163 rfl Try.results163 Try.ntmps163 ?_
 rintro c y cx G hm
 have hm : zq47 c = some y := hm
 unfold zq47 at hm
 refine rg G ?_
 obtain ⟨r, h, hm⟩ := obind hm
 refine rs G (hC 1 (zq40_c h) h0) ?_
 refine rg G (Ok_seq ?_)
 obtain ⟨r1, h1, hm⟩ := obind hm
 refine rs G (hC 1 (zq46_c h1) h0) ?_
 refine tl hm (fun (v5, v6, v7, v8) => ⟨[(0, .ref 0 0), (2, .ref 32 0), (3, .ref 48 0)], [bX 0 129 [dV v5, dV v6, kV .u64 v7], bX 32 35 [.dat (.sc (.slice none 0 0)), .dat (.sc (.slice none 0 0)), .dat (.sc (.slice none 0 0))], bX 48 35 [.own 64, .own 80, .own 96], aX 64 9 r.1.Stops, aX 80 146 r.1.Lines, aX 96 167 v8], 128⟩) (fun vv hm => ?_) ?_
 ·refine Ok_block (lpP hm (fun (n, v, v1, v2, v3, v4) => ⟨[(0, .ref 0 0), (2, .ref 32 0), (3, .ref 48 0), (4, dV n), (5, dV v)], [bX 0 129 [dV v1, dV v2, kV .u64 v3], bX 32 35 [.dat (.sc (.slice none 0 0)), .dat (.sc (.slice none 0 0)), .dat (.sc (.slice none 0 0))], bX 48 35 [.own 64, .own 80, .own 96], aX 64 9 r.1.Stops, aX 80 146 r.1.Lines, aX 96 167 v4], 128⟩) (Wk_J G.hL ⟨[(0, []), (2, []), (3, []), (4, []), (5, [])], [(0, 0, []), (32, 16, []), (48, 80, [.k, .k, .o 96]), (64, 48, []), (80, 49, [])], [(96, 167, 3, [])], 128⟩ (by kernel_rfl)) ?_)
  rintro ⟨n, v, v1, v2, v3, v4⟩ r0 hb hm
  rw [zq47_L1] at hm
  refine Ok_seq (rg G (cd hm (fun hm => ?_) (fun hm => ?_)))
  ·refine X_skip (thN (Ok_seq (Ok_block ?_)))
   obtain ⟨r2, h2, hm⟩ := obind hm
   refine rs G (hC 3 (zq46_c h2) h0) ?_
   obtain ⟨r5, h6, hm⟩ := obind hm
   obtain ⟨r6, h7, hm⟩ := obind hm
   obtain ⟨u1, h8, hm⟩ := obind hm
   refine de G [(8, [0]), (10, [0]), (15, [96, 480]), (17, [48, 496])] (hN 7 r.1.Lines (hC 8 (zq46_c h6) (hC 10 (zq46_c h7) (hA 15 24 h8 h0)))) ?_
   exact ibN (thN (rh G (wL G hm)))
  ·exact Ok_exit (thE (thE (ibE (wD G hm hb))))
 rintro ⟨v5, v6, v7, v8⟩ hm s hw
 refine thN (Ok_weak hw ?_)
 refine rg G ?_
 cases hm
 exact rt [64, 80, 96] []
noncomputable def zq31_M : MS (l1Cur × (List Int)) (Int × l1Cur) := ⟨.x (.b 129) .r, fun x => zq31 x.1 x.2, fun y => dV y.1, fun _ => [], fun _ y => [bxO 129 y.2]⟩
theorem zq31_c {c list y} (hm : zq31 c list = some y) : zq31_M.C (c, list) y := zq31_M.c (c, list) hm
theorem zq31_ok : FnOK Try.prog tJ 89 zq31_M.S := by
 refine fm tt zq31_M [fo zq46_ok] Try.call89 Try.func89 rfl Try.results89 Try.ntmps89 ?_
 rintro ⟨c, list⟩ y cx G hm
 have hm : zq31 c list = some y := hm
 unfold zq31 at hm
 refine rg G ?_
 obtain ⟨r, h, hm⟩ := obind hm
 obtain ⟨e, h1, hm⟩ := obind hm
 refine rs G (hN 3 list (hC 4 (zq46_c h) (hD 5 h1 h0))) ?_
 cases hm
 exact rt [] []
noncomputable def zq44_M : MS (l1Cur × (List ByteArray)) (ByteArray × l1Cur) := ⟨.x (.b 129) (.s 9), fun x => zq44 x.1 x.2, fun y => dV y.1, fun _ => [], fun x y => [bxO 129 y.2, arO 9 x.2]⟩
theorem zq44_c {c list y} (hm : zq44 c list = some y) : zq44_M.C (c, list) y := zq44_M.c (c, list) hm
theorem zq44_ok : FnOK Try.prog tJ 211 zq44_M.S := by
 refine fm tt zq44_M [fo zq46_ok] Try.call211 Try.func211 rfl Try.results211 Try.ntmps211 ?_
 rintro ⟨c, list⟩ y cx G hm
 have hm : zq44 c list = some y := hm
 unfold zq44 at hm
 refine rg G ?_
 obtain ⟨r, h, hm⟩ := obind hm
 obtain ⟨e, h1, hm⟩ := obind hm
 refine rs G (hN 3 list (hC 4 (zq46_c h) (hD 5 h1 (hE 6 h1 h0)))) ?_
 cases hm
 exact rt [] []
noncomputable def zq68_M : MS Network Network := ⟨.r, zq68, fun _ => .aggv [.own 0, .own 1], fun y => [arO 9 y.Stops, taO 146 [none, some 3, some 3] y.Lines], fun _ _ => []⟩
theorem zq68_c {n y} (hm : zq68 n = some y) : zq68_M.C n y := zq68_M.c n hm
theorem zq68_ok : FnOK Try.prog tJ 139 zq68_M.S := by
 refine fm tt zq68_M [fo zq52_ok] Try.call139 Try.func139 rfl Try.results139 Try.ntmps139 ?_
 rintro n y cx G hm
 have hm : zq68 n = some y := hm
 unfold zq68 at hm
 refine rg G ?_
 obtain ⟨u, h, hm⟩ := obind hm
 refine rs G (hA 3 16 h h0) ?_
 refine Ok_seq (rg G (tl hm (fun v2 => ⟨[(2, .ref 16 0), (3, .ref 32 0)], [bX 16 32 [.dat (.sc (.slice none 0 0)), .dat (.sc (.slice none 0 0))], bX 32 32 [.own 48, .own 64], aX 48 9 (([] : List ByteArray) ++ n.Stops), tX 64 146 [none, some 3, some 3] v2 64 none], 96⟩) (fun v2 hm => ?_) ?_))
 ·refine Ok_block (lpP hm (fun (v, v1) => ⟨[(1, .ref 16 0), (2, .ref 32 0), (3, .ref 48 0), (4, dV v)], [bX 16 32 [dV n.Stops, dV n.Lines], bX 32 32 [.dat (.sc (.slice none 0 0)), .dat (.sc (.slice none 0 0))], bX 48 32 [.own 64, .own 80], aX 64 9 (([] : List ByteArray) ++ n.Stops), tX 80 146 [none, some 3, some 3] v1 80 none], 112⟩) (Wk_J G.hL ⟨[(1, []), (2, []), (3, []), (4, [])], [(16, 16, []), (32, 32, []), (48, 128, [.k, .o 80]), (64, 96, [])], [(80, 146, 3, [none, some 3, some 3])], 112⟩ (by kernel_rfl)) ?_)
  rintro ⟨v, v1⟩ r0 hb hm
  rw [zq68_L1] at hm
  refine Ok_seq (rs G (hN 3 n.Lines h0) ?_)
  refine cd hm (fun hm => ?_) (fun hm => ?_)
  ·refine X_skip (thN (Ok_seq (Ok_block ?_)))
   obtain ⟨e3, h7, hm⟩ := obind hm
   obtain ⟨e4, h8, hm⟩ := obind hm
   obtain ⟨r2, h9, hm⟩ := obind hm
   obtain ⟨e5, h10, hm⟩ := obind hm
   obtain ⟨r3, h11, hm⟩ := obind hm
   obtain ⟨u2, h12, hm⟩ := obind hm
   refine de G [(23, [416, 528]), (24, [80, 560]), (26, [48, 576])] (hD 5 h7 (hD 11 h8 (hC 14 (zq52_c h9) (hD 18 h10 (hC 21 (zq52_c h11) (hP (nodupB_ok (l := [416, 528]) rfl) (hA 24 64 h12 h0))))))) ?_
   exact ibN (thN (rh G (wL G hm)))
  ·exact Ok_exit (thE (thE (ibE (wD G hm hb))))
 rintro v2 hm s hw
 refine thN (Ok_weak hw ?_)
 refine rg G ?_
 cases hm
 exact rt [48, 64] []
noncomputable def zq41_M : MS l1Cur (Network × l1Cur) := ⟨.b 129, zq41, fun _ => .aggv [.own 0, .own 1], fun y => [arO 9 y.1.Stops, taO 146 [none, some 3, some 3] y.1.Lines], fun _ y => [bxO 129 y.2]⟩
theorem zq41_c {c y} (hm : zq41 c = some y) : zq41_M.C c y := zq41_M.c c hm
theorem zq41_ok : FnOK Try.prog tJ 210 zq41_M.S := by
 refine fm tt zq41_M [fo zq46_ok, fo zq51_ok, fo zq39_ok, fo zq45_ok, fo zq61_ok, fo zq68_ok] Try.call210 Try.func210 rfl Try.results210 Try.ntmps210 ?_
 rintro c y cx G hm
 have hm : zq41 c = some y := hm
 unfold zq41 at hm
 refine rg G ?_
 obtain ⟨r, h, hm⟩ := obind hm
 refine rs G (hC 1 (zq46_c h) h0) ?_
 obtain ⟨u, h1, hm⟩ := obind hm
 refine rs G (hO 2 (.fz [96] [] []) (hU 2 h1 h0)) ?_
 refine Ok_seq ?_
 obtain ⟨r1, h2, hm⟩ := obind hm
 refine rs G (hC 1 (zq46_c h2) h0) ?_
 refine tl hm (fun (v4, v5, v6, v7) => ⟨[(0, .ref 0 0), (2, .ref 32 0), (4, .ref 48 0)], [bX 0 129 [dV v4, dV v5, kV .u64 v6], bX 32 32 [.dat (.sc (.slice none 0 0)), .dat (.sc (.slice none 0 0))], bX 48 32 [dV ((([(str [112, 111, 114, 116]), (str [109, 105, 108, 108]), (str [112, 97, 114, 107]), (str [104, 97, 108, 108]), (str [100, 111, 99, 107]), (str [102, 97, 105, 114])] : List ByteArray).take (w64 (2 + r.1)).toNat).drop (0 : Int).toNat), .own 64], aX 64 146 v7], 96⟩) (fun vv1 hm => ?_) ?_
 ·refine Ok_block (lpP hm (fun (x, v, v1, v2, v3) => ⟨[(0, .ref 0 0), (2, .ref 32 0), (3, dV (w64 (2 + r.1))), (4, .ref 48 0), (5, dV x)], [bX 0 129 [dV v, dV v1, kV .u64 v2], bX 32 32 [.dat (.sc (.slice none 0 0)), .dat (.sc (.slice none 0 0))], bX 48 32 [dV ((([(str [112, 111, 114, 116]), (str [109, 105, 108, 108]), (str [112, 97, 114, 107]), (str [104, 97, 108, 108]), (str [100, 111, 99, 107]), (str [102, 97, 105, 114])] : List ByteArray).take (w64 (2 + r.1)).toNat).drop (0 : Int).toNat), .own 64], aX 64 146 v3], 96⟩) (Wk_J G.hL ⟨[(0, []), (2, []), (3, []), (4, []), (5, [])], [(0, 0, []), (32, 16, []), (48, 160, [.k, .o 64])], [(64, 146, 3, [])], 96⟩ (by kernel_rfl)) ?_)
  rintro ⟨x, v, v1, v2, v3⟩ r0 hb hm
  rw [zq41_L1] at hm
  refine Ok_seq (rg G (cd hm (fun hm => ?_) (fun hm => ?_)))
  ·refine X_skip (thN (Ok_seq (Ok_block ?_)))
   obtain ⟨r4, h7, hm⟩ := obind hm
   obtain ⟨u3, h8, hm⟩ := obind hm
   obtain ⟨r5, h9, hm⟩ := obind hm
   obtain ⟨u4, h10, hm⟩ := obind hm
   refine de G [(7, [0]), (8, []), (9, [64, 256]), (11, [48, 272])] (hC 4 (zq51_c h7) (hP (cat_p (chk_t h8)) (hC 7 (zq39_c h9) (hA 9 64 h10 h0)))) ?_
   exact ibN (thN (rh G (wL G hm)))
  ·exact Ok_exit (thE (thE (ibE (wD G hm hb))))
 rintro ⟨v4, v5, v6, v7⟩ hm s hw
 refine thN (Ok_weak hw ?_)
 refine jn hm (fun (v8, v9, v10, v11) => ⟨[(0, .ref 0 0), (2, .ref 32 0), (4, .ref 48 0)], [bX 0 129 [dV v8, dV v9, kV .u64 v10], bX 32 32 [.dat (.sc (.slice none 0 0)), .dat (.sc (.slice none 0 0))], bX 48 32 [dV ((([(str [112, 111, 114, 116]), (str [109, 105, 108, 108]), (str [112, 97, 114, 107]), (str [104, 97, 108, 108]), (str [100, 111, 99, 107]), (str [102, 97, 105, 114])] : List ByteArray).take (w64 (2 + r.1)).toNat).drop (0 : Int).toNat), .own 64], aX 64 146 v11], 96⟩) (fun vv hm => ?_) ?_
 ·obtain ⟨r6, h11, hm⟩ := obind hm
  refine rs G (hC 1 (zq45_c h11) h0) ?_
  refine cd hm (fun hm => ?_) (fun hm => ?_)
  ·obtain ⟨e, h12, hm⟩ := obind hm
   refine rs G (hD 2 h12 (hE 3 h12 h0)) ?_
   obtain ⟨r9, h16, hm⟩ := obind hm
   obtain ⟨r10, h17, hm⟩ := obind hm
   obtain ⟨u6, h18, hm⟩ := obind hm
   refine de G [(9, []), (10, [64, 368]), (12, [48, 384])] (hC 4 (zq61_c h16) (hC 7 (zq61_c h17) (hA 10 64 h18 h0))) ?_
   exact wJ G hm
  ·exact X_skip (wJ G hm)
 rintro ⟨v8, v9, v10, v11⟩ hm
 obtain ⟨r11, h19, hm⟩ := obind hm
 refine rs G (hO 1 (.fz [64] [] []) (hC 1 (zq68_c h19) h0)) ?_
 cases hm
 exact rt [112, 113] []
noncomputable def zq32_M : MS (l1Cur × (List Int)) (Int × l1Cur) := ⟨.x (.b 129) (.s 3), fun x => zq32 x.1 x.2, fun y => dV y.1, fun _ => [], fun x y => [bxO 129 y.2, arO 3 x.2]⟩
theorem zq32_c {c list y} (hm : zq32 c list = some y) : zq32_M.C (c, list) y := zq32_M.c (c, list) hm
theorem zq32_ok : FnOK Try.prog tJ 89 zq32_M.S := by
 refine fm tt zq32_M [fo zq46_ok] Try.call89 Try.func89 rfl Try.results89 Try.ntmps89 ?_
 rintro ⟨c, list⟩ y cx G hm
 have hm : zq32 c list = some y := hm
 unfold zq32 at hm
 refine rg G ?_
 obtain ⟨r, h, hm⟩ := obind hm
 obtain ⟨e, h1, hm⟩ := obind hm
 refine rs G (hN 3 list (hC 4 (zq46_c h) (hD 5 h1 (hE 6 h1 h0)))) ?_
 cases hm
 exact rt [] []
noncomputable def zq33_M : MS l1Cur (Network × l1Cur) := ⟨.b 129, zq33, fun y => .aggv [.own 0, dV y.1.Lines], fun y => [arO 9 y.1.Stops], fun _ y => [bxO 129 y.2]⟩
theorem zq33_c {c y} (hm : zq33 c = some y) : zq33_M.C c y := zq33_M.c c hm
theorem zq33_ok : FnOK Try.prog tJ 154 zq33_M.S := by
 refine fm tt zq33_M [fo zq41_ok, fo zq46_ok, fo zq44_ok, fo zq32_ok, fo zq51_ok, fo zq38_ok] Try.call154 Try.func154 rfl Try.results154 Try.ntmps154 ?_
 rintro c y cx G hm
 have hm : zq33 c = some y := hm
 unfold zq33 at hm
 refine rg G ?_
 obtain ⟨r, h, hm⟩ := obind hm
 refine rs G (hC 1 (zq41_c h) h0) ?_
 obtain ⟨r1, h1, hm⟩ := obind hm
 refine rs G (hN 3 r.1.Lines (hC 4 (zq46_c h1) h0)) ?_
 obtain ⟨e, h2, hm⟩ := obind hm
 refine rs G (hD 3 h2 (hE 4 h2 h0)) ?_
 refine jF hm (fun (v, v1, v2, v3, v4, v5, v6) => ⟨[(0, .ref 0 0), (2, .ref 32 0), (3, .ref 48 0), (4, dV r1.1), (5, .ref 64 0)], [bX 0 129 [dV v, dV v1, kV .u64 v2], bX 32 32 [.dat (.sc (.slice none 0 0)), .dat (.sc (.slice none 0 0))], bX 48 32 [.own 80, .own 96], bX 64 146 [dV v3, .row 96 96 r1.1.toNat 1, .own 112], aX 80 9 v4, tX 96 146 [none, some 3, some 3] v5 96 (some (r1.1.toNat, 2)), aX 112 3 v6], 144⟩) (fun v17 hr hm => ?_) ?_
 ·obtain ⟨r2, h3, hm⟩ := obind hm
  refine rs G (hC 1 (zq46_c h3) h0) ?_
  refine Ok_block (rg G (cd hm (fun hm => ?_) (fun hm => ?_)))
  ·obtain ⟨r4, h6, hm⟩ := obind hm
   obtain ⟨e2, h7, hm⟩ := obind hm
   refine de G [(4, [0, 416]), (6, [48])] (hC 4 (zq44_c h6) (hD 5 h7 (hS 6 h7 r4.1 h0))) ?_
   exact ibN (wFp hm (Wk.trans (Wk_S (.c 272 2) (Enc.e e) (.cons (idx_m2 (f := Enc.e) (l := r.1.Lines) (i := r1.1) h2) .nil) (by kernel_rfl)) (Wk_J G.hL ⟨[(0, []), (2, []), (3, []), (4, []), (5, [])], [(0, 0, []), (32, 16, []), (48, 64, []), (64, 272, []), (80, 48, []), (96, 49, []), (112, 480, [])], [], 144⟩ (by kernel_rfl))))
  ·refine rg G (cd hm (fun hm => ?_) (fun hm => ?_))
   ·obtain ⟨r5, h8, hm⟩ := obind hm
    refine re G (hC 2 (zq44_c h8) h0) ?_
    exact ibN (wFp hm (Wk.trans (Wk_S (.c 272 2) (Enc.e e) (.cons (idx_m2 (f := Enc.e) (l := r.1.Lines) (i := r1.1) h2) .nil) (by kernel_rfl)) (Wk_J G.hL ⟨[(0, []), (2, []), (3, []), (4, []), (5, [])], [(0, 0, []), (32, 16, []), (48, 64, []), (64, 272, []), (80, 48, []), (96, 49, []), (112, 480, [])], [], 144⟩ (by kernel_rfl))))
   ·refine rg G (cd hm (fun hm => ?_) (fun hm => ?_))
    ·obtain ⟨r8, h12, hm⟩ := obind hm
     obtain ⟨r9, h13, hm⟩ := obind hm
     obtain ⟨e4, h14, hm⟩ := obind hm
     refine de G [(6, [0]), (8, [0]), (11, [49])] (hO 5 (.dn (Enc.e e) (e.Stops.length : Int)) (hP (idx_m2 (f := Enc.e) h2) (hP (len_m Enc.e e.Stops) (hC 6 (zq46_c h12) (hC 8 (zq46_c h13) (hE 10 h2 (hP (idx_b (f := Enc.e) h14) (hO 11 (.sd2 (Enc.e e) (Enc.e e4) (List.map Enc.e (e.Stops.set r8.1.toNat (w64 (r9.1 - 1)))) (List.map Enc.e (r.1.Lines.set r1.1.toNat (⟨e.Name, (e.Stops.set r8.1.toNat (w64 (r9.1 - 1))), e.Runs⟩ : Line)))) (hP (idx_m2 (f := Enc.e) h2) (hP (idx_m2 (f := Enc.e) h14) (hP (set_m Enc.e e.Stops r8.1.toNat (w64 (r9.1 - 1))) (hP (set_m Enc.e r.1.Lines r1.1.toNat (⟨e.Name, (e.Stops.set r8.1.toNat (w64 (r9.1 - 1))), e.Runs⟩ : Line)) h0)))))))))))) ?_
     exact ibN (wFp hm (Wk.trans (Wk_S (.c 272 2) (Enc.e (⟨e.Name, (e.Stops.set r8.1.toNat (w64 (r9.1 - 1))), e.Runs⟩ : Line)) (.cons (idx_m2 (f := Enc.e) (l := (r.1.Lines.set r1.1.toNat (⟨e.Name, (e.Stops.set r8.1.toNat (w64 (r9.1 - 1))), e.Runs⟩ : Line))) (i := r1.1) (idx_set (y := (⟨e.Name, (e.Stops.set r8.1.toNat (w64 (r9.1 - 1))), e.Runs⟩ : Line)) h2)) .nil) (by kernel_rfl)) (Wk_J G.hL ⟨[(0, []), (2, []), (3, []), (4, []), (5, [])], [(0, 0, []), (32, 16, []), (48, 64, []), (64, 272, []), (80, 48, []), (96, 49, []), (112, 624, [])], [], 144⟩ (by kernel_rfl))))
    ·refine rg G (cd hm (fun hm => ?_) (fun hm => ?_))
     ·obtain ⟨r12, h18, hm⟩ := obind hm
      obtain ⟨r13, h19, hm⟩ := obind hm
      obtain ⟨e6, h20, hm⟩ := obind hm
      refine de G [(6, [0]), (9, [0, 592]), (11, [49])] (hO 5 (.dn (Enc.e e) (e.Runs.length : Int)) (hP (idx_m2 (f := Enc.e) h2) (hP (len_m Enc.e e.Runs) (hC 6 (zq46_c h18) (hC 9 (zq32_c h19) (hE 10 h2 (hP (idx_b (f := Enc.e) h20) (hO 11 (.sd2 (Enc.e e) (Enc.e e6) (List.map Enc.e (e.Runs.set r12.1.toNat r13.1)) (List.map Enc.e (r.1.Lines.set r1.1.toNat (⟨e.Name, e.Stops, (e.Runs.set r12.1.toNat r13.1)⟩ : Line)))) (hP (idx_m2 (f := Enc.e) h2) (hP (idx_m2 (f := Enc.e) h20) (hP (set_m Enc.e e.Runs r12.1.toNat r13.1) (hP (set_m Enc.e r.1.Lines r1.1.toNat (⟨e.Name, e.Stops, (e.Runs.set r12.1.toNat r13.1)⟩ : Line)) h0)))))))))))) ?_
      exact ibN (wFp hm (Wk.trans (Wk_S (.c 272 2) (Enc.e (⟨e.Name, e.Stops, (e.Runs.set r12.1.toNat r13.1)⟩ : Line)) (.cons (idx_m2 (f := Enc.e) (l := (r.1.Lines.set r1.1.toNat (⟨e.Name, e.Stops, (e.Runs.set r12.1.toNat r13.1)⟩ : Line))) (i := r1.1) (idx_set (y := (⟨e.Name, e.Stops, (e.Runs.set r12.1.toNat r13.1)⟩ : Line)) h2)) .nil) (by kernel_rfl)) (Wk_J G.hL ⟨[(0, []), (2, []), (3, []), (4, []), (5, [])], [(0, 0, []), (32, 16, []), (48, 64, []), (64, 272, []), (80, 48, []), (96, 49, []), (112, 656, [])], [], 144⟩ (by kernel_rfl))))
     ·refine rg G (cd hm (fun hm => ?_) (fun hm => ?_))
      ·obtain ⟨u, h21, hm⟩ := obind hm
       refine re G (hO 3 (.sd (Enc.e e) (List.map Enc.e (e.Runs ++ ([3] : List Int)))) (hP (idx_m2 (f := Enc.e) h2) (hP (app_p (f := Enc.e) (g := Enc.e) (l := e.Runs) (r := ([3] : List Int)) (b := 8) (chk_t h21) rfl) (hP (app_m Enc.e e.Runs ([3] : List Int)) h0)))) ?_
       exact ibN (wF G hm)
      ·refine rg G (cd hm (fun hm => ?_) (fun hm => ?_))
       ·refine rg G (rg G ?_)
        have hm := eR hm hr
        cases hm
        exact rt [48] []
       ·refine rg G (cd hm (fun hm => ?_) (fun hm => ?_))
        ·refine Ok_seq (rg G (tl hm (fun (v13, v14, v15, v16) => ⟨[(0, .ref 0 0), (2, .ref 32 0), (3, .ref 48 0)], [bX 0 129 [dV v13, dV v14, kV .u64 v15], bX 32 32 [.dat (.sc (.slice none 0 0)), .dat (.sc (.slice none 0 0))], bX 48 32 [.own 64, .own 80], aX 64 9 r.1.Stops, tX 80 146 [none, some 3, some 3] v16 80 none], 112⟩) (fun vv hm => ?_) ?_))
         ·refine Ok_block (lp G hm (fun (v7, v8, v9, v10, v11) => ⟨[(0, .ref 0 0), (2, .ref 32 0), (3, .ref 48 0), (6, dV v7)], [bX 0 129 [dV v8, dV v9, kV .u64 v10], bX 32 32 [.dat (.sc (.slice none 0 0)), .dat (.sc (.slice none 0 0))], bX 48 32 [.own 64, .own 80], aX 64 9 r.1.Stops, tX 80 146 [none, some 3, some 3] v11 80 none], 112⟩) ?_)
          rintro ⟨v7, v8, v9, v10, v11⟩ r0 hb hm
          rw [zq33_L1] at hm
          refine Ok_seq ?_
          obtain ⟨r16, h23, hm⟩ := obind hm
          refine jn hm (fun v12 => ⟨[(0, .ref 0 0), (2, .ref 32 0), (3, .ref 48 0), (6, dV v7), (85, dV v12)], [bX 0 129 [dV r16.2.code_, dV r16.2.at_, kV .u64 r16.2.seed_.v], bX 32 32 [.dat (.sc (.slice none 0 0)), .dat (.sc (.slice none 0 0))], bX 48 32 [.own 64, .own 80], aX 64 9 r.1.Stops, tX 80 146 [none, some 3, some 3] v11 80 none], 112⟩) (fun v12 hm => ?_) ?_
          ·rcases bf hm with ⟨hb1, hm⟩ | ⟨hb1, hm⟩
           ·refine de G [(4, [0])] (hN 2 v11 (hC 4 (zq46_c h23) (hO 7 (.b true) (hP hb1 h0)))) ?_
            exact wJ G hm
           ·refine de G [(4, [0])] (hN 2 v11 (hC 4 (zq46_c h23) (hO 7 (.b false) (hP hb1 h0)))) ?_
            exact wJ G hm
          rintro v12 hm
          refine cd hm (fun hm => ?_) (fun hm => ?_)
          ·refine X_skip (thN (Ok_seq (Ok_block ?_)))
           obtain ⟨r19, h28, hm⟩ := obind hm
           obtain ⟨u3, h29, hm⟩ := obind hm
           obtain ⟨r20, h30, hm⟩ := obind hm
           obtain ⟨u4, h31, hm⟩ := obind hm
           refine de G [(9, [0]), (10, [256, 257]), (11, [80, 272]), (13, [48, 288])] (hC 4 (zq51_c h28) (hP (cat_p (chk_t h29)) (hN 8 r.1.Stops (hC 9 (zq38_c h30) (hP (nodupB_ok (l := [256, 257]) rfl) (hA 11 64 h31 h0)))))) ?_
           exact ibN (thN (rh G (wL G hm)))
          ·exact Ok_exit (thE (thE (ibE (wD G hm hb))))
         rintro ⟨v13, v14, v15, v16⟩ hm s hw
         refine thN (Ok_weak hw ?_)
         refine rg G ?_
         have hm := eR hm hr
         cases hm
         exact rt [64] []
        ·exact X_skip (ibN (wFp hm (Wk.trans (Wk_S (.c 272 2) (Enc.e e) (.cons (idx_m2 (f := Enc.e) (l := r.1.Lines) (i := r1.1) h2) .nil) (by kernel_rfl)) (Wk_J G.hL ⟨[(0, []), (2, []), (3, []), (4, []), (5, [])], [(0, 0, []), (32, 16, []), (48, 64, []), (64, 272, []), (80, 48, []), (96, 49, []), (112, 560, [])], [], 144⟩ (by kernel_rfl)))))
 rintro ⟨v, v1, v2, v3, v4, v5, v6⟩ hm
 obtain ⟨e9, h32, hm⟩ := obind hm
 refine rs G (hD 4 h32 (hS 5 h32 (⟨v3, e9.Stops, v6⟩ : Line) (hP (Eq.refl r1.1.toNat) (hP (Eq.refl r1.1.toNat) h0)))) ?_
 refine rg G ?_
 cases hm
 exact rt [80] []
noncomputable def zq34_M : MS l1Cur (Timetable × l1Cur) := ⟨.b 129, zq34, fun y => .aggv [.own 0, dV y.1.Network.Lines, .own 1], fun y => [arO 9 y.1.Network.Stops, arO 167 y.1.Trips], fun _ y => [bxO 129 y.2]⟩
theorem zq34_c {c y} (hm : zq34 c = some y) : zq34_M.C c y := zq34_M.c c hm
theorem zq34_ok : FnOK Try.prog tJ 100 zq34_M.S := by
 refine fm tt zq34_M [fo zq47_ok, fo zq46_ok, fo zq31_ok, fo zq33_ok] Try.call100 Try.func100 rfl Try.results100 Try.ntmps100 ?_
 rintro c y cx G hm
 have hm : zq34 c = some y := hm
 unfold zq34 at hm
 refine rg G ?_
 obtain ⟨r, h, hm⟩ := obind hm
 refine rs G (hC 1 (zq47_c h) h0) ?_
 refine Ok_seq (rs G (hN 2 r.1.Trips h0) ?_)
 refine cd hm (fun hm => ?_) (fun hm => ?_)
 ·refine rg G ?_
  cases hm
  exact rt [48, 50] []
 ·refine X_skip (thN ?_)
  obtain ⟨r1, h1, hm⟩ := obind hm
  refine rs G (hN 3 r.1.Trips (hC 4 (zq46_c h1) h0)) ?_
  obtain ⟨e, h2, hm⟩ := obind hm
  refine rs G (hD 3 h2 (hE 4 h2 h0)) ?_
  refine jF hm (fun (v, v1, v2, v3, v4, v5, v6, v7) => ⟨[(0, .ref 0 0), (2, .ref 32 0), (3, .ref 48 0), (4, dV r1.1), (5, .ref 64 0)], [bX 0 129 [dV v, dV v1, kV .u64 v2], bX 32 35 [.dat (.sc (.slice none 0 0)), .dat (.sc (.slice none 0 0)), .dat (.sc (.slice none 0 0))], bX 48 35 [.own 80, dV v3, .own 96], bX 64 167 [dV v4, dV v5, dV v6], aX 80 9 v7, aX 96 167 r.1.Trips], 128⟩) (fun v18 hr hm => ?_) ?_
  ·obtain ⟨r2, h3, hm⟩ := obind hm
   refine rs G (hC 1 (zq46_c h3) h0) ?_
   refine Ok_block (rg G (cd hm (fun hm => ?_) (fun hm => ?_)))
   ·obtain ⟨r3, h4, hm⟩ := obind hm
    refine re G (hO 2 (.fz [448] [] []) (hC 2 (zq31_c h4) h0)) ?_
    exact ibN (wF G hm)
   ·refine rg G (cd hm (fun hm => ?_) (fun hm => ?_))
    ·obtain ⟨r4, h5, hm⟩ := obind hm
     refine re G (hC 1 (zq46_c h5) h0) ?_
     exact ibN (wF G hm)
    ·refine rg G (cd hm (fun hm => ?_) (fun hm => ?_))
     ·obtain ⟨r5, h6, hm⟩ := obind hm
      refine re G (hO 2 (.fz [512] [] []) (hC 2 (zq31_c h6) h0)) ?_
      exact ibN (wF G hm)
     ·refine rg G (cd hm (fun hm => ?_) (fun hm => ?_))
      ·obtain ⟨r6, h7, hm⟩ := obind hm
       refine re G (hC 1 (zq33_c h7) h0) ?_
       exact ibN (wF G hm)
      ·refine rg G (cd hm (fun hm => ?_) (fun hm => ?_))
       ·refine Ok_seq (rg G (tl hm (fun (v14, v15, v16, v17) => ⟨[(0, .ref 0 0), (2, .ref 32 0), (3, .ref 48 0)], [bX 0 129 [dV v14, dV v15, kV .u64 v16], bX 32 35 [.dat (.sc (.slice none 0 0)), .dat (.sc (.slice none 0 0)), .dat (.sc (.slice none 0 0))], bX 48 35 [.own 64, .own 80, .own 96], aX 64 9 r.1.Network.Stops, aX 80 146 r.1.Network.Lines, aX 96 167 v17], 128⟩) (fun vv hm => ?_) ?_))
        ·refine Ok_block (lp G hm (fun (v8, v9, v10, v11, v12) => ⟨[(0, .ref 0 0), (2, .ref 32 0), (3, .ref 48 0), (6, dV v8)], [bX 0 129 [dV v9, dV v10, kV .u64 v11], bX 32 35 [.dat (.sc (.slice none 0 0)), .dat (.sc (.slice none 0 0)), .dat (.sc (.slice none 0 0))], bX 48 35 [.own 64, .own 80, .own 96], aX 64 9 r.1.Network.Stops, aX 80 146 r.1.Network.Lines, aX 96 167 v12], 128⟩) ?_)
         rintro ⟨v8, v9, v10, v11, v12⟩ r0 hb hm
         rw [zq34_L1] at hm
         refine Ok_seq ?_
         obtain ⟨r8, h9, hm⟩ := obind hm
         refine jn hm (fun v13 => ⟨[(0, .ref 0 0), (2, .ref 32 0), (3, .ref 48 0), (6, dV v8), (61, dV v13)], [bX 0 129 [dV r8.2.code_, dV r8.2.at_, kV .u64 r8.2.seed_.v], bX 32 35 [.dat (.sc (.slice none 0 0)), .dat (.sc (.slice none 0 0)), .dat (.sc (.slice none 0 0))], bX 48 35 [.own 64, .own 80, .own 96], aX 64 9 r.1.Network.Stops, aX 80 146 r.1.Network.Lines, aX 96 167 v12], 128⟩) (fun v13 hm => ?_) ?_
         ·rcases bf hm with ⟨hb1, hm⟩ | ⟨hb1, hm⟩
          ·refine de G [(4, [0])] (hN 2 v12 (hC 4 (zq46_c h9) (hO 7 (.b true) (hP hb1 h0)))) ?_
           exact wJ G hm
          ·refine de G [(4, [0])] (hN 2 v12 (hC 4 (zq46_c h9) (hO 7 (.b false) (hP hb1 h0)))) ?_
           exact wJ G hm
         rintro v13 hm
         refine cd hm (fun hm => ?_) (fun hm => ?_)
         ·refine X_skip (thN (Ok_seq (Ok_block ?_)))
          obtain ⟨u, h10, hm⟩ := obind hm
          refine re G (hA 8 24 h10 h0) ?_
          exact ibN (thN (rh G (wL G hm)))
         ·exact Ok_exit (thE (thE (ibE (wD G hm hb))))
        rintro ⟨v14, v15, v16, v17⟩ hm s hw
        refine thN (Ok_weak hw ?_)
        refine rg G ?_
        have hm := eR hm hr
        cases hm
        exact rt [64, 96] []
       ·exact X_skip (ibN (wF G hm))
  rintro ⟨v, v1, v2, v3, v4, v5, v6, v7⟩ hm
  obtain ⟨e2, h11, hm⟩ := obind hm
  refine rs G (hD 4 h11 (hS 5 h11 (⟨v4, v5, v6⟩ : Trip) h0)) ?_
  refine rg G ?_
  cases hm
  exact rt [80, 96] []
noncomputable def zq50_M : MS (Int × Int) Int := ⟨.x .r .r, fun x => zq50 x.1 x.2, fun y => dV y, fun _ => [], fun _ _ => []⟩
theorem zq50_c {a b y} (hm : zq50 a b = some y) : zq50_M.C (a, b) y := zq50_M.c (a, b) hm
theorem zq50_ok : FnOK Try.prog tJ 88 zq50_M.S := by
 refine fm tt zq50_M [] Try.call88 Try.func88 rfl Try.results88 Try.ntmps88 ?_
 rintro ⟨a, b⟩ y cx G hm
 have hm : zq50 a b = some y := hm
 unfold zq50 at hm
 refine rg G (Ok_seq (rg G (cd hm (fun hm => ?_) (fun hm => ?_))))
 ·refine rg G ?_
  cases hm
  exact rt [] []
 ·refine X_skip (thN (rg G ?_))
  cases hm
  exact rt [] []
noncomputable def zq49_M : MS (Int × Int) Int := ⟨.x .r .r, fun x => zq49 x.1 x.2, fun y => dV y, fun _ => [], fun _ _ => []⟩
theorem zq49_c {a b y} (hm : zq49 a b = some y) : zq49_M.C (a, b) y := zq49_M.c (a, b) hm
theorem zq49_ok : FnOK Try.prog tJ 164 zq49_M.S := by
 refine fm tt zq49_M [] Try.call164 Try.func164 rfl Try.results164 Try.ntmps164 ?_
 rintro ⟨a, b⟩ y cx G hm
 have hm : zq49 a b = some y := hm
 unfold zq49 at hm
 refine rg G (Ok_seq (rg G (cd hm (fun hm => ?_) (fun hm => ?_))))
 ·refine rg G ?_
  cases hm
  exact rt [] []
 ·refine X_skip (thN (rg G ?_))
  cases hm
  exact rt [] []
noncomputable def zq48_M : MS (Int × Int × Int) Bool := ⟨.x .r (.x .r .r), fun x => zq48 x.1 x.2.1 x.2.2, fun y => dV y, fun _ => [], fun _ _ => []⟩
theorem zq48_c {x a b y} (hm : zq48 x a b = some y) : zq48_M.C (x, a, b) y := zq48_M.c (x, a, b) hm
theorem zq48_ok : FnOK Try.prog tJ 94 zq48_M.S := by
 refine fm tt zq48_M [] Try.call94 Try.func94 rfl Try.results94 Try.ntmps94 ?_
 rintro ⟨x, a, b⟩ y cx G hm
 have hm : zq48 x a b = some y := hm
 unfold zq48 at hm
 refine rg G (jn hm (fun v => ⟨[(6, dV v)], [], 32⟩) (fun v hm => ?_) ?_)
 ·rcases bf hm with ⟨hb, hm⟩ | ⟨hb, hm⟩
  ·refine re G (hO 3 (.b true) (hP hb h0)) ?_
   exact wJ G hm
  ·refine re G (hO 3 (.b false) (hP hb h0)) ?_
   exact wJ G hm
 rintro v hm
 cases hm
 exact rt [] []
noncomputable def zq66_M : MS ByteArray Bool := ⟨.r, zq66, fun y => dV y, fun _ => [], fun _ _ => []⟩
theorem zq66_c {s y} (hm : zq66 s = some y) : zq66_M.C s y := zq66_M.c s hm
theorem zq66_ok : FnOK Try.prog tJ 193 zq66_M.S := by
 refine fm tt zq66_M [fo zq48_ok] Try.call193 Try.func193 rfl Try.results193 Try.ntmps193 ?_
 rintro s y cx G hm
 have hm : zq66 s = some y := hm
 unfold zq66 at hm
 refine rg G (Ok_seq ?_)
 obtain ⟨r, h, hm⟩ := obind hm
 refine jn hm (fun v => ⟨[(0, dV s), (17, dV v)], [], 32⟩) (fun v hm => ?_) ?_
 ·rcases bf hm with ⟨hb, hm⟩ | ⟨hb, hm⟩
  ·refine re G (hC 2 (zq48_c h) (hO 4 (.b true) (hP hb h0))) ?_
   exact wJ G hm
  ·obtain ⟨u, h1, hm⟩ := obind hm
   rcases bf hm with ⟨hb1, hm⟩ | ⟨hb1, hm⟩
   ·refine re G (hC 2 (zq48_c h) (hO 4 (.b false) (hP hb (hK h1 (hO 9 (.b true) (hP hb1 h0)))))) ?_
    exact wJ G hm
   ·obtain ⟨u1, h2, hm⟩ := obind hm
    refine re G (hC 2 (zq48_c h) (hO 4 (.b false) (hP hb (hK h1 (hO 9 (.b false) (hP hb1 (hK h2 h0))))))) ?_
    exact wJ G hm
 rintro v hm
 refine cd hm (fun hm => ?_) (fun hm => ?_)
 ·refine rg G ?_
  cases hm
  exact rt [] []
 ·refine X_skip (thN (Ok_seq (rg G (tF hm (fun _ => ⟨[], [], 32⟩) (fun v3 hr hm => ?_) ?_))))
  ·refine Ok_block (lp G hm (fun v1 => ⟨[(0, dV s), (3, dV v1)], [], 32⟩) ?_)
   rintro v1 r0 hb2 hm
   rw [zq66_L1] at hm
   refine Ok_seq (rg G (cd hm (fun hm => ?_) (fun hm => ?_)))
   ·refine X_skip (thN (Ok_seq (Ok_block ?_)))
    obtain ⟨u2, h3, hm⟩ := obind hm
    refine jn hm (fun v2 => ⟨[(0, dV s), (3, dV v1), (45, dV v2)], [], 32⟩) (fun v2 hm => ?_) ?_
    ·rcases bf hm with ⟨hb3, hm⟩ | ⟨hb3, hm⟩
     ·obtain ⟨u3, h4, hm⟩ := obind hm
      rcases bf hm with ⟨hb4, hm⟩ | ⟨hb4, hm⟩
      ·refine re G (hK h3 (hO 4 (.b true) (hP hb3 (hK h4 (hO 15 (.b true) (hP hb4 h0)))))) ?_
       exact wJ G hm
      ·obtain ⟨u4, h5, hm⟩ := obind hm
       refine re G (hK h3 (hO 4 (.b true) (hP hb3 (hK h4 (hO 15 (.b false) (hP hb4 (hK h5 h0))))))) ?_
       exact wJ G hm
     ·obtain ⟨u5, h6, hm⟩ := obind hm
      rcases bf hm with ⟨hb5, hm⟩ | ⟨hb5, hm⟩
      ·obtain ⟨u6, h7, hm⟩ := obind hm
       rcases bf hm with ⟨hb6, hm⟩ | ⟨hb6, hm⟩
       ·refine re G (hK h3 (hO 4 (.b false) (hP hb3 (hK h6 (hO 10 (.b true) (hP hb5 (hK h7 (hO 15 (.b true) (hP hb6 h0))))))))) ?_
        exact wJ G hm
       ·obtain ⟨u7, h8, hm⟩ := obind hm
        refine re G (hK h3 (hO 4 (.b false) (hP hb3 (hK h6 (hO 10 (.b true) (hP hb5 (hK h7 (hO 15 (.b false) (hP hb6 (hK h8 h0)))))))))) ?_
        exact wJ G hm
      ·refine re G (hK h3 (hO 4 (.b false) (hP hb3 (hK h6 (hO 10 (.b false) (hP hb5 h0)))))) ?_
       exact wJ G hm
    rintro v2 hm
    refine cd hm (fun hm => ?_) (fun hm => ?_)
    ·refine rg G ?_
     have hm := eL hm hb2 hr
     cases hm
     exact rt [] []
    ·exact X_skip (ibN (thN (rh G (wL G hm))))
   ·exact Ok_exit (thE (thE (ibE (wE G hm hb2))))
  rintro ⟨⟩ hm s1 hw
  refine thN (Ok_weak hw ?_)
  refine rg G ?_
  cases hm
  exact rt [] []
noncomputable def zq62_M : MS ((List ByteArray) × ByteArray) Int := ⟨.x .r .r, fun x => zq62 x.1 x.2, fun y => dV y, fun _ => [], fun _ _ => []⟩
theorem zq62_c {list name y} (hm : zq62 list name = some y) : zq62_M.C (list, name) y := zq62_M.c (list, name) hm
theorem zq62_ok : FnOK Try.prog tJ 194 zq62_M.S := by
 refine fm tt zq62_M [] Try.call194 Try.func194 rfl Try.results194 Try.ntmps194 ?_
 rintro ⟨list, name⟩ y cx G hm
 have hm : zq62 list name = some y := hm
 unfold zq62 at hm
 refine rg G (Ok_seq (rg G (tF hm (fun _ => ⟨[], [], 32⟩) (fun v1 hr hm => ?_) ?_)))
 ·refine Ok_block (lp G hm (fun v => ⟨[(0, dV list), (1, dV name), (5, dV v)], [], 32⟩) ?_)
  rintro v r0 hb hm
  rw [zq62_L1] at hm
  refine Ok_seq (rs G (hN 2 list h0) ?_)
  refine cd hm (fun hm => ?_) (fun hm => ?_)
  ·refine X_skip (thN (Ok_seq (Ok_block ?_)))
   obtain ⟨e, h, hm⟩ := obind hm
   refine rs G (hD 2 h h0) ?_
   refine cd hm (fun hm => ?_) (fun hm => ?_)
   ·refine rg G ?_
    have hm := eL hm hb hr
    cases hm
    exact rt [] []
   ·exact X_skip (ibN (thN (rh G (wL G hm))))
  ·exact Ok_exit (thE (thE (ibE (wE G hm hb))))
 rintro ⟨⟩ hm s hw
 refine thN (Ok_weak hw ?_)
 refine rg G ?_
 cases hm
 exact rt [] []
noncomputable def zq64_M : MS (Line × Int) Bool := ⟨.x .r .r, fun x => zq64 x.1 x.2, fun y => dV y, fun _ => [], fun _ _ => []⟩
theorem zq64_c {x stops y} (hm : zq64 x stops = some y) : zq64_M.C (x, stops) y := zq64_M.c (x, stops) hm
theorem zq64_ok : FnOK Try.prog tJ 195 zq64_M.S := by
 refine fm tt zq64_M [fo zq66_ok, fo zq48_ok, fo zq69_ok] Try.call195 Try.func195 rfl Try.results195 Try.ntmps195 ?_
 rintro ⟨x, stops⟩ y cx G hm
 have hm : zq64 x stops = some y := hm
 unfold zq64 at hm
 refine rg G (Ok_seq ?_)
 obtain ⟨r, h, hm⟩ := obind hm
 refine jn hm (fun v => ⟨[(1, dV stops), (2, .ref 16 0), (27, dV v)], [bX 16 146 [dV x.Name, dV x.Stops, dV x.Runs]], 48⟩) (fun v hm => ?_) ?_
 ·rcases bf hm with ⟨hb, hm⟩ | ⟨hb, hm⟩
  ·refine re G (hC 2 (zq66_c h) (hO 4 (.b true) (hP hb h0))) ?_
   exact wJ G hm
  ·obtain ⟨r1, h1, hm⟩ := obind hm
   rcases bf hm with ⟨hb1, hm⟩ | ⟨hb1, hm⟩
   ·refine re G (hC 2 (zq66_c h) (hO 4 (.b false) (hP hb (hN 7 x.Stops (hC 8 (zq48_c h1) (hO 11 (.b true) (hP hb1 h0))))))) ?_
    exact wJ G hm
   ·refine re G (hC 2 (zq66_c h) (hO 4 (.b false) (hP hb (hN 7 x.Stops (hC 8 (zq48_c h1) (hO 11 (.b false) (hP hb1 (hN 14 x.Runs (hN 17 x.Stops h0))))))))) ?_
    exact wJ G hm
 rintro v hm
 refine cd hm (fun hm => ?_) (fun hm => ?_)
 ·refine rg G ?_
  cases hm
  exact rt [] []
 ·refine X_skip (thN (Ok_seq (rg G (tF hm (fun _ => ⟨[(2, .ref 16 0)], [bX 16 146 [dV x.Name, dV x.Stops, dV x.Runs]], 48⟩) (fun v5 hr hm => ?_) ?_))))
  ·refine Ok_block (lp G hm (fun v1 => ⟨[(1, dV stops), (2, .ref 16 0), (5, dV v1)], [bX 16 146 [dV x.Name, dV x.Stops, dV x.Runs]], 48⟩) ?_)
   rintro v1 r0 hb2 hm
   rw [zq64_L1] at hm
   refine Ok_seq (rs G (hN 3 x.Stops h0) ?_)
   refine cd hm (fun hm => ?_) (fun hm => ?_)
   ·refine X_skip (thN (Ok_seq (Ok_block ?_)))
    obtain ⟨e2, h6, hm⟩ := obind hm
    obtain ⟨r4, h7, hm⟩ := obind hm
    refine jn hm (fun v2 => ⟨[(1, dV stops), (2, .ref 16 0), (5, dV v1), (54, dV v2)], [bX 16 146 [dV x.Name, dV x.Stops, dV x.Runs]], 48⟩) (fun v2 hm => ?_) ?_
    ·rcases bf hm with ⟨hb3, hm⟩ | ⟨hb3, hm⟩
     ·refine de G [] (hD 3 h6 (hC 7 (zq48_c h7) (hO 9 (.b true) (hP hb3 h0)))) ?_
      exact wJ G hm
     ·obtain ⟨e3, h8, hm⟩ := obind hm
      obtain ⟨r5, h9, hm⟩ := obind hm
      refine de G [] (hD 3 h6 (hC 7 (zq48_c h7) (hO 9 (.b false) (hP hb3 (hD 14 h8 (hC 16 (zq69_c h9) h0)))))) ?_
      exact wJ G hm
    rintro v2 hm
    refine cd hm (fun hm => ?_) (fun hm => ?_)
    ·refine rg G ?_
     have hm := eL hm hb2 hr
     cases hm
     exact rt [] []
    ·exact X_skip (ibN (thN (rh G (wL G hm))))
   ·exact Ok_exit (thE (thE (ibE (wE G hm hb2))))
  rintro ⟨⟩ hm s hw
  refine thN (Ok_weak hw ?_)
  refine Ok_seq (rg G (tF hm (fun _ => ⟨[], [], 32⟩) (fun v4 hr1 hm => ?_) ?_))
  ·refine Ok_block (lp G hm (fun v3 => ⟨[(2, .ref 16 0), (6, dV v3)], [bX 16 146 [dV x.Name, dV x.Stops, dV x.Runs]], 48⟩) ?_)
   rintro v3 r0 hb4 hm
   rw [zq64_L2] at hm
   refine Ok_seq (rs G (hN 3 x.Runs h0) ?_)
   refine cd hm (fun hm => ?_) (fun hm => ?_)
   ·refine X_skip (thN (Ok_seq (Ok_block ?_)))
    obtain ⟨e5, h10, hm⟩ := obind hm
    obtain ⟨r7, h11, hm⟩ := obind hm
    refine rs G (hD 3 h10 (hC 5 (zq48_c h11) h0)) ?_
    refine cd hm (fun hm => ?_) (fun hm => ?_)
    ·refine rg G ?_
     have hm := eL hm hb4 hr1
     cases hm
     exact rt [] []
    ·exact X_skip (ibN (thN (rh G (wL G hm))))
   ·exact Ok_exit (thE (thE (ibE (wE G hm hb4))))
  rintro ⟨⟩ hm s1 hw1
  refine thN (Ok_weak hw1 ?_)
  refine rg G ?_
  cases hm
  exact rt [] []
noncomputable def zq65_M : MS (Network × ByteArray) Int := ⟨.x .r .r, fun x => zq65 x.1 x.2, fun y => dV y, fun _ => [], fun _ _ => []⟩
theorem zq65_c {n name y} (hm : zq65 n name = some y) : zq65_M.C (n, name) y := zq65_M.c (n, name) hm
theorem zq65_ok : FnOK Try.prog tJ 196 zq65_M.S := by
 refine fm tt zq65_M [] Try.call196 Try.func196 rfl Try.results196 Try.ntmps196 ?_
 rintro ⟨n, name⟩ y cx G hm
 have hm : zq65 n name = some y := hm
 unfold zq65 at hm
 refine rg G (Ok_seq (rg G (tF hm (fun _ => ⟨[], [], 32⟩) (fun v1 hr hm => ?_) ?_)))
 ·refine Ok_block (lp G hm (fun v => ⟨[(1, dV name), (2, .ref 16 0), (5, dV v)], [bX 16 32 [dV n.Stops, dV n.Lines]], 48⟩) ?_)
  rintro v r0 hb hm
  rw [zq65_L1] at hm
  refine Ok_seq (rs G (hN 3 n.Lines h0) ?_)
  refine cd hm (fun hm => ?_) (fun hm => ?_)
  ·refine X_skip (thN (Ok_seq (Ok_block ?_)))
   obtain ⟨e, h, hm⟩ := obind hm
   refine rs G (hD 3 h h0) ?_
   refine cd hm (fun hm => ?_) (fun hm => ?_)
   ·refine rg G ?_
    have hm := eL hm hb hr
    cases hm
    exact rt [] []
   ·exact X_skip (ibN (thN (rh G (wL G hm))))
  ·exact Ok_exit (thE (thE (ibE (wE G hm hb))))
 rintro ⟨⟩ hm s hw
 refine thN (Ok_weak hw ?_)
 refine rg G ?_
 cases hm
 exact rt [] []
noncomputable def zq63_M : MS Network Bool := ⟨.r, zq63, fun y => dV y, fun _ => [], fun _ _ => []⟩
theorem zq63_c {n y} (hm : zq63 n = some y) : zq63_M.C n y := zq63_M.c n hm
theorem zq63_ok : FnOK Try.prog tJ 136 zq63_M.S := by
 refine fm tt zq63_M [fo zq48_ok, fo zq66_ok, fo zq62_ok, fo zq64_ok, fo zq65_ok] Try.call136 Try.func136 rfl Try.results136 Try.ntmps136 ?_
 rintro n y cx G hm
 have hm : zq63 n = some y := hm
 unfold zq63 at hm
 refine rg G (Ok_seq ?_)
 obtain ⟨r, h, hm⟩ := obind hm
 refine jn hm (fun v => ⟨[(1, .ref 16 0), (16, dV v)], [bX 16 32 [dV n.Stops, dV n.Lines]], 48⟩) (fun v hm => ?_) ?_
 ·rcases bf hm with ⟨hb, hm⟩ | ⟨hb, hm⟩
  ·refine re G (hN 2 n.Stops (hC 3 (zq48_c h) (hO 5 (.b true) (hP hb h0)))) ?_
   exact wJ G hm
  ·obtain ⟨r1, h1, hm⟩ := obind hm
   refine re G (hN 2 n.Stops (hC 3 (zq48_c h) (hO 5 (.b false) (hP hb (hN 8 n.Lines (hC 9 (zq48_c h1) h0)))))) ?_
   exact wJ G hm
 rintro v hm
 refine cd hm (fun hm => ?_) (fun hm => ?_)
 ·refine rg G ?_
  cases hm
  exact rt [] []
 ·refine X_skip (thN (Ok_seq (rg G (tF hm (fun _ => ⟨[(1, .ref 16 0)], [bX 16 32 [dV n.Stops, dV n.Lines]], 48⟩) (fun v5 hr hm => ?_) ?_))))
  ·refine Ok_block (lp G hm (fun i => ⟨[(1, .ref 16 0), (3, dV i)], [bX 16 32 [dV n.Stops, dV n.Lines]], 48⟩) ?_)
   rintro i r0 hb1 hm
   rw [zq63_L1] at hm
   refine Ok_seq (rs G (hN 3 n.Stops h0) ?_)
   refine cd hm (fun hm => ?_) (fun hm => ?_)
   ·refine X_skip (thN (Ok_seq (Ok_block ?_)))
    obtain ⟨e2, h6, hm⟩ := obind hm
    obtain ⟨r4, h7, hm⟩ := obind hm
    refine jn hm (fun v1 => ⟨[(1, .ref 16 0), (3, dV i), (42, dV v1)], [bX 16 32 [dV n.Stops, dV n.Lines]], 48⟩) (fun v1 hm => ?_) ?_
    ·rcases bf hm with ⟨hb2, hm⟩ | ⟨hb2, hm⟩
     ·refine de G [] (hD 3 h6 (hC 5 (zq66_c h7) (hO 7 (.b true) (hP hb2 h0)))) ?_
      exact wJ G hm
     ·obtain ⟨e3, h8, hm⟩ := obind hm
      obtain ⟨r5, h9, hm⟩ := obind hm
      refine de G [] (hD 3 h6 (hC 5 (zq66_c h7) (hO 7 (.b false) (hP hb2 (hD 13 h8 (hC 15 (zq62_c h9) h0)))))) ?_
      exact wJ G hm
    rintro v1 hm
    refine cd hm (fun hm => ?_) (fun hm => ?_)
    ·refine rg G ?_
     have hm := eL hm hb1 hr
     cases hm
     exact rt [] []
    ·exact X_skip (ibN (thN (rh G (wL G hm))))
   ·exact Ok_exit (thE (thE (ibE (wE G hm hb1))))
  rintro ⟨⟩ hm s hw
  refine thN (Ok_weak hw ?_)
  refine Ok_seq (rg G (tF hm (fun _ => ⟨[], [], 32⟩) (fun v4 hr1 hm => ?_) ?_))
  ·refine Ok_block (lp G hm (fun v2 => ⟨[(1, .ref 16 0), (4, dV v2)], [bX 16 32 [dV n.Stops, dV n.Lines]], 48⟩) ?_)
   rintro v2 r0 hb3 hm
   rw [zq63_L2] at hm
   refine Ok_seq (rs G (hN 3 n.Lines h0) ?_)
   refine cd hm (fun hm => ?_) (fun hm => ?_)
   ·refine X_skip (thN (Ok_seq (Ok_block ?_)))
    obtain ⟨e7, h14, hm⟩ := obind hm
    obtain ⟨r9, h15, hm⟩ := obind hm
    refine jn hm (fun v3 => ⟨[(1, .ref 16 0), (4, dV v2), (71, dV v3)], [bX 16 32 [dV n.Stops, dV n.Lines]], 48⟩) (fun v3 hm => ?_) ?_
    ·rcases bf hm with ⟨hb4, hm⟩ | ⟨hb4, hm⟩
     ·refine de G [] (hD 3 h14 (hN 7 n.Stops (hC 8 (zq64_c h15) (hO 10 (.b true) (hP hb4 h0))))) ?_
      exact wJ G hm
     ·obtain ⟨e8, h16, hm⟩ := obind hm
      obtain ⟨r10, h17, hm⟩ := obind hm
      refine de G [] (hD 3 h14 (hN 7 n.Stops (hC 8 (zq64_c h15) (hO 10 (.b false) (hP hb4 (hD 15 h16 (hC 18 (zq65_c h17) h0))))))) ?_
      exact wJ G hm
    rintro v3 hm
    refine cd hm (fun hm => ?_) (fun hm => ?_)
    ·refine rg G ?_
     have hm := eL hm hb3 hr1
     cases hm
     exact rt [] []
    ·exact X_skip (ibN (thN (rh G (wL G hm))))
   ·exact Ok_exit (thE (thE (ibE (wE G hm hb3))))
  rintro ⟨⟩ hm s1 hw1
  refine thN (Ok_weak hw1 ?_)
  refine rg G ?_
  cases hm
  exact rt [] []
noncomputable def zq71_M : MS Int Bool := ⟨.r, zq71, fun y => dV y, fun _ => [], fun _ _ => []⟩
theorem zq71_c {t y} (hm : zq71 t = some y) : zq71_M.C t y := zq71_M.c t hm
theorem zq71_ok : FnOK Try.prog tJ 137 zq71_M.S := by
 refine fm tt zq71_M [fo zq48_ok] Try.call137 Try.func137 rfl Try.results137 Try.ntmps137 ?_
 rintro t y cx G hm
 have hm : zq71 t = some y := hm
 unfold zq71 at hm
 refine rg G ?_
 obtain ⟨r, h, hm⟩ := obind hm
 refine rs G (hC 1 (zq48_c h) h0) ?_
 cases hm
 exact rt [] []
noncomputable def zq75_M : MS (Timetable × Int) Line := ⟨.x .r .r, fun x => zq75 x.1 x.2, fun y => dV y, fun _ => [], fun _ _ => []⟩
theorem zq75_c {t i y} (hm : zq75 t i = some y) : zq75_M.C (t, i) y := zq75_M.c (t, i) hm
theorem zq75_ok : FnOK Try.prog tJ 216 zq75_M.S := by
 refine fm tt zq75_M [] Try.call216 Try.func216 rfl Try.results216 Try.ntmps216 ?_
 rintro ⟨t, i⟩ y cx G hm
 have hm : zq75 t i = some y := hm
 unfold zq75 at hm
 refine rg G ?_
 obtain ⟨e2, h2, hm⟩ := obind hm
 obtain ⟨e3, h3, hm⟩ := obind hm
 refine ds G [(11, [32])] (hD 6 h2 (hD 9 h3 h0)) ?_
 cases hm
 exact rt [] []
noncomputable def zq76_M : MS (Timetable × Int) ((List Int)) := ⟨.x .r .r, fun x => zq76 x.1 x.2, fun y => dV y, fun _ => [], fun _ _ => []⟩
theorem zq76_c {t i y} (hm : zq76 t i = some y) : zq76_M.C (t, i) y := zq76_M.c (t, i) hm
theorem zq76_ok : FnOK Try.prog tJ 167 zq76_M.S := by
 refine fm tt zq76_M [fo zq75_ok] Try.call167 Try.func167 rfl Try.results167 Try.ntmps167 ?_
 rintro ⟨t, i⟩ y cx G hm
 have hm : zq76 t i = some y := hm
 unfold zq76 at hm
 refine rg G ?_
 obtain ⟨r, h, hm⟩ := obind hm
 refine rs G (hC 2 (zq75_c h) h0) ?_
 cases hm
 exact rt [] []
noncomputable def zq70_M : MS (Line × Int × Int) Int := ⟨.x .r (.x .r .r), fun x => zq70 x.1 x.2.1 x.2.2, fun y => dV y, fun _ => [], fun _ _ => []⟩
theorem zq70_c {x from_ to_ y} (hm : zq70 x from_ to_ = some y) : zq70_M.C (x, from_, to_) y := zq70_M.c (x, from_, to_) hm
theorem zq70_ok : FnOK Try.prog tJ 161 zq70_M.S := by
 refine fm tt zq70_M [] Try.call161 Try.func161 rfl Try.results161 Try.ntmps161 ?_
 rintro ⟨x, from_, to_⟩ y cx G hm
 have hm : zq70 x from_ to_ = some y := hm
 unfold zq70 at hm
 refine rg G (rg G (Ok_seq (rg G (tl hm (fun v2 => ⟨[(7, dV v2)], [], 32⟩) (fun v2 hm => ?_) ?_))))
 ·refine Ok_block (lp G hm (fun (v, v1) => ⟨[(2, dV to_), (3, .ref 16 0), (7, dV v), (8, dV v1)], [bX 16 146 [dV x.Name, dV x.Stops, dV x.Runs]], 48⟩) ?_)
  rintro ⟨v, v1⟩ r0 hb hm
  rw [zq70_L1] at hm
  refine Ok_seq (rg G (cd hm (fun hm => ?_) (fun hm => ?_)))
  ·refine X_skip (thN (Ok_seq (Ok_block ?_)))
   obtain ⟨e, h, hm⟩ := obind hm
   refine re G (hD 4 h h0) ?_
   exact ibN (thN (rh G (wL G hm)))
  ·exact Ok_exit (thE (thE (ibE (wD G hm hb))))
 rintro v2 hm s hw
 refine thN (Ok_weak hw ?_)
 refine rg G ?_
 cases hm
 exact rt [] []
noncomputable def zq72_M : MS (Timetable × Int × Int) Int := ⟨.x .r (.x .r .r), fun x => zq72 x.1 x.2.1 x.2.2, fun y => dV y, fun _ => [], fun _ _ => []⟩
theorem zq72_c {t i k y} (hm : zq72 t i k = some y) : zq72_M.C (t, i, k) y := zq72_M.c (t, i, k) hm
theorem zq72_ok : FnOK Try.prog tJ 169 zq72_M.S := by
 refine fm tt zq72_M [fo zq75_ok, fo zq70_ok] Try.call169 Try.func169 rfl Try.results169 Try.ntmps169 ?_
 rintro ⟨t, i, k⟩ y cx G hm
 have hm : zq72 t i k = some y := hm
 unfold zq72 at hm
 refine rg G ?_
 obtain ⟨e1, h3, hm⟩ := obind hm
 obtain ⟨r2, h4, hm⟩ := obind hm
 obtain ⟨r3, h5, hm⟩ := obind hm
 refine ds G [] (hD 3 h3 (hC 8 (zq75_c h4) (hC 10 (zq70_c h5) h0))) ?_
 cases hm
 exact rt [] []
noncomputable def zq73_M : MS (Timetable × Int) Int := ⟨.x .r .r, fun x => zq73 x.1 x.2, fun y => dV y, fun _ => [], fun _ _ => []⟩
theorem zq73_c {t i y} (hm : zq73 t i = some y) : zq73_M.C (t, i) y := zq73_M.c (t, i) hm
theorem zq73_ok : FnOK Try.prog tJ 138 zq73_M.S := by
 refine fm tt zq73_M [fo zq76_ok, fo zq72_ok] Try.call138 Try.func138 rfl Try.results138 Try.ntmps138 ?_
 rintro ⟨t, i⟩ y cx G hm
 have hm : zq73 t i = some y := hm
 unfold zq73 at hm
 refine rg G ?_
 obtain ⟨r2, h2, hm⟩ := obind hm
 obtain ⟨r3, h3, hm⟩ := obind hm
 refine ds G [] (hC 4 (zq76_c h2) (hN 5 r2 (hC 7 (zq72_c h3) h0))) ?_
 cases hm
 exact rt [] []
noncomputable def zq74_M : MS Timetable Bool := ⟨.r, zq74, fun y => dV y, fun _ => [], fun _ _ => []⟩
theorem zq74_c {t y} (hm : zq74 t = some y) : zq74_M.C t y := zq74_M.c t hm
theorem zq74_ok : FnOK Try.prog tJ 64 zq74_M.S := by
 refine fm tt zq74_M [fo zq63_ok, fo zq48_ok, fo zq71_ok, fo zq73_ok] Try.call64 Try.func64 rfl Try.results64 Try.ntmps64 ?_
 rintro t y cx G hm
 have hm : zq74 t = some y := hm
 unfold zq74 at hm
 refine rg G (Ok_seq ?_)
 obtain ⟨r, h, hm⟩ := obind hm
 refine jn hm (fun v => ⟨[(1, .ref 16 0), (14, dV v)], [bX 16 35 [dV t.Network.Stops, dV t.Network.Lines, dV t.Trips]], 48⟩) (fun v hm => ?_) ?_
 ·rcases bf hm with ⟨hb, hm⟩ | ⟨hb, hm⟩
  ·refine re G (hC 2 (zq63_c h) (hO 4 (.b true) (hP hb h0))) ?_
   exact wJ G hm
  ·refine re G (hC 2 (zq63_c h) (hO 4 (.b false) (hP hb (hN 7 t.Trips h0)))) ?_
   exact wJ G hm
 rintro v hm
 refine cd hm (fun hm => ?_) (fun hm => ?_)
 ·refine rg G ?_
  cases hm
  exact rt [] []
 ·refine X_skip (thN (Ok_seq (rg G (tF hm (fun _ => ⟨[], [], 32⟩) (fun v2 hr hm => ?_) ?_))))
  ·refine Ok_block (lp G hm (fun x => ⟨[(1, .ref 16 0), (3, dV x)], [bX 16 35 [dV t.Network.Stops, dV t.Network.Lines, dV t.Trips]], 48⟩) ?_)
   rintro x r0 hb1 hm
   rw [zq74_L1] at hm
   refine Ok_seq (rs G (hN 3 t.Trips h0) ?_)
   refine cd hm (fun hm => ?_) (fun hm => ?_)
   ·refine X_skip (thN (Ok_seq (Ok_block ?_)))
    obtain ⟨e, h1, hm⟩ := obind hm
    refine rs G (hD 3 h1 h0) ?_
    obtain ⟨r6, h8, hm⟩ := obind hm
    refine jn hm (fun v1 => ⟨[(1, .ref 16 0), (3, dV x), (70, dV v1)], [bX 16 35 [dV t.Network.Stops, dV t.Network.Lines, dV t.Trips]], 48⟩) (fun v1 hm => ?_) ?_
    ·rcases bf hm with ⟨hb2, hm⟩ | ⟨hb2, hm⟩
     ·refine de G [] (hC 2 (zq48_c h8) (hO 4 (.b true) (hP hb2 h0))) ?_
      exact wJ G hm
     ·obtain ⟨r7, h9, hm⟩ := obind hm
      rcases bf hm with ⟨hb3, hm⟩ | ⟨hb3, hm⟩
      ·refine de G [] (hC 2 (zq48_c h8) (hO 4 (.b false) (hP hb2 (hN 10 t.Network.Lines (hC 12 (zq48_c h9) (hO 15 (.b true) (hP hb3 h0))))))) ?_
       exact wJ G hm
      ·obtain ⟨r8, h10, hm⟩ := obind hm
       rcases bf hm with ⟨hb4, hm⟩ | ⟨hb4, hm⟩
       ·refine de G [] (hC 2 (zq48_c h8) (hO 4 (.b false) (hP hb2 (hN 10 t.Network.Lines (hC 12 (zq48_c h9) (hO 15 (.b false) (hP hb3 (hC 18 (zq71_c h10) (hO 21 (.b true) (hP hb4 h0)))))))))) ?_
        exact wJ G hm
       ·obtain ⟨r9, h11, hm⟩ := obind hm
        obtain ⟨r10, h12, hm⟩ := obind hm
        rcases bf hm with ⟨hb5, hm⟩ | ⟨hb5, hm⟩
        ·refine de G [] (hC 2 (zq48_c h8) (hO 4 (.b false) (hP hb2 (hN 10 t.Network.Lines (hC 12 (zq48_c h9) (hO 15 (.b false) (hP hb3 (hC 18 (zq71_c h10) (hO 21 (.b false) (hP hb4 (hC 24 (zq73_c h11) (hC 25 (zq71_c h12) (hO 28 (.b true) (hP hb5 h0)))))))))))))) ?_
         exact wJ G hm
        ·rcases bf hm with ⟨hb6, hm⟩ | ⟨hb6, hm⟩
         ·obtain ⟨e2, h13, hm⟩ := obind hm
          refine de G [] (hC 2 (zq48_c h8) (hO 4 (.b false) (hP hb2 (hN 10 t.Network.Lines (hC 12 (zq48_c h9) (hO 15 (.b false) (hP hb3 (hC 18 (zq71_c h10) (hO 21 (.b false) (hP hb4 (hC 24 (zq73_c h11) (hC 25 (zq71_c h12) (hO 28 (.b false) (hP hb5 (hO 31 (.b true) (hP hb6 (hD 36 h13 h0))))))))))))))))) ?_
          exact wJ G hm
         ·refine de G [] (hC 2 (zq48_c h8) (hO 4 (.b false) (hP hb2 (hN 10 t.Network.Lines (hC 12 (zq48_c h9) (hO 15 (.b false) (hP hb3 (hC 18 (zq71_c h10) (hO 21 (.b false) (hP hb4 (hC 24 (zq73_c h11) (hC 25 (zq71_c h12) (hO 28 (.b false) (hP hb5 (hO 31 (.b false) (hP hb6 h0)))))))))))))))) ?_
          exact wJ G hm
    rintro v1 hm
    refine cd hm (fun hm => ?_) (fun hm => ?_)
    ·refine rg G ?_
     have hm := eL hm hb1 hr
     cases hm
     exact rt [] []
    ·exact X_skip (ibN (thN (rh G (wL G hm))))
   ·exact Ok_exit (thE (thE (ibE (wE G hm hb1))))
  rintro ⟨⟩ hm s hw
  refine thN (Ok_weak hw ?_)
  refine rg G ?_
  cases hm
  exact rt [] []
noncomputable def zq36_M : MS (l1Cur × Timetable × Int) (Flow × l1Cur) := ⟨.x (.b 129) (.x .r .r), fun x => zq36 x.1 x.2.1 x.2.2, fun y => dV y.1, fun _ => [], fun _ y => [bxO 129 y.2]⟩
theorem zq36_c {c t from_ y} (hm : zq36 c t from_ = some y) : zq36_M.C (c, t, from_) y := zq36_M.c (c, t, from_) hm
theorem zq36_ok : FnOK Try.prog tJ 115 zq36_M.S := by
 refine fm tt zq36_M [fo zq46_ok, fo zq31_ok, fo zq50_ok, fo zq74_ok, fo zq45_ok, fo zq76_ok] Try.call115 Try.func115 rfl Try.results115 Try.ntmps115 ?_
 rintro ⟨c, t, from_⟩ y cx G hm
 have hm : zq36 c t from_ = some y := hm
 unfold zq36 at hm
 refine rg G ?_
 obtain ⟨r, h, hm⟩ := obind hm
 obtain ⟨r1, h1, hm⟩ := obind hm
 refine rs G (hN 4 t.Network.Stops (hC 5 (zq46_c h) (hO 9 (.fz [176] [] []) (hC 9 (zq31_c h1) h0)))) ?_
 obtain ⟨r4, h5, hm⟩ := obind hm
 obtain ⟨r5, h6, hm⟩ := obind hm
 obtain ⟨u1, h7, hm⟩ := obind hm
 refine ds G [(10, [0]), (18, [224])] (hN 7 t.Network.Stops (hC 9 (zq50_c h5) (hC 10 (zq46_c h6) (hN 15 t.Network.Stops (hK h7 h0))))) ?_
 refine jn hm (fun (v, v1, v2, v3, v4) => ⟨[(0, .ref 0 0), (6, .ref 32 0), (7, .ref 48 0)], [bX 0 129 [dV v, dV v1, kV .u64 v2], bX 32 82 [kV .i64 0, kV .i64 0, kV .i64 0, kV .i64 0], bX 48 82 [dV v3, dV v4, dV from_, dV r1.1]], 80⟩) (fun vv1 hm => ?_) ?_
 ·refine jn hm (fun (v5, v6, v7, v8) => ⟨[(0, .ref 0 0), (4, .ref 32 0), (6, .ref 48 0), (7, .ref 64 0), (51, dV v5)], [bX 0 129 [dV v6, dV v7, kV .u64 v8], bX 32 35 [dV t.Network.Stops, dV t.Network.Lines, dV t.Trips], bX 48 82 [kV .i64 0, kV .i64 0, kV .i64 0, kV .i64 0], bX 64 82 [dV r.1, dV ((w64 ((w64 (r.1 + 1)) + r5.1)).tmod (t.Network.Stops.length : Int)), dV from_, dV r1.1]], 96⟩) (fun vv hm => ?_) ?_
  ·rcases bf hm with ⟨hb, hm⟩ | ⟨hb, hm⟩
   ·obtain ⟨r6, h8, hm⟩ := obind hm
    rcases bf hm with ⟨hb1, hm⟩ | ⟨hb1, hm⟩
    ·obtain ⟨r7, h9, hm⟩ := obind hm
     refine re G (hN 2 t.Trips (hO 4 (.b true) (hP hb (hC 6 (zq74_c h8) (hO 8 (.b true) (hP hb1 (hC 10 (zq45_c h9) h0))))))) ?_
     exact wJ G hm
    ·refine re G (hN 2 t.Trips (hO 4 (.b true) (hP hb (hC 6 (zq74_c h8) (hO 8 (.b false) (hP hb1 h0)))))) ?_
     exact wJ G hm
   ·refine re G (hN 2 t.Trips (hO 4 (.b false) (hP hb h0))) ?_
    exact wJ G hm
  rintro ⟨v5, v6, v7, v8⟩ hm
  refine cd hm (fun hm => ?_) (fun hm => ?_)
  ·obtain ⟨r10, h12, hm⟩ := obind hm
   obtain ⟨r11, h13, hm⟩ := obind hm
   refine ds G [(5, [0])] (hN 4 t.Trips (hC 5 (zq46_c h12) (hC 6 (zq76_c h13) h0))) ?_
   obtain ⟨r12, h14, hm⟩ := obind hm
   refine rs G (hN 2 r11 (hC 4 (zq46_c h14) h0)) ?_
   obtain ⟨e, h15, hm⟩ := obind hm
   refine rs G (hD 2 h15 h0) ?_
   obtain ⟨r13, h16, hm⟩ := obind hm
   obtain ⟨e1, h17, hm⟩ := obind hm
   refine re G (hN 5 r11 (hC 9 (zq46_c h16) (hD 11 h17 h0))) ?_
   exact wJ G hm
  ·exact X_skip (wJ G hm)
 rintro ⟨v, v1, v2, v3, v4⟩ hm
 refine rg G ?_
 cases hm
 exact rt [] []
noncomputable def zq37_M : MS (l1Cur × Timetable) ((List Flow) × l1Cur) := ⟨.x (.b 129) .r, fun x => zq37 x.1 x.2, fun _ => .own 0, fun y => [arO 82 y.1], fun _ y => [bxO 129 y.2]⟩
theorem zq37_c {c t y} (hm : zq37 c t = some y) : zq37_M.C (c, t) y := zq37_M.c (c, t) hm
theorem zq37_ok : FnOK Try.prog tJ 101 zq37_M.S := by
 refine fm tt zq37_M [fo zq46_ok, fo zq50_ok, fo zq49_ok, fo zq36_ok, fo zq31_ok, fo zq45_ok] Try.call101 Try.func101 rfl Try.results101 Try.ntmps101 ?_
 rintro ⟨c, t⟩ y cx G hm
 have hm : zq37 c t = some y := hm
 unfold zq37 at hm
 refine rg G (rg G (rg G (jn hm (fun (k, v, v1, v2) => ⟨[(0, .ref 0 0), (3, .ref 32 0), (5, .own 48), (6, dV k)], [bX 0 129 [dV v, dV v1, kV .u64 v2], bX 32 35 [dV t.Network.Stops, dV t.Network.Lines, dV t.Trips], aX 48 82 ([] : List Flow)], 80⟩) (fun vv3 hm => ?_) ?_)))
 ·refine rs G (hN 2 t.Trips h0) ?_
  refine cd hm (fun hm => ?_) (fun hm => ?_)
  ·obtain ⟨e1, h4, hm⟩ := obind hm
   obtain ⟨r3, h5, hm⟩ := obind hm
   obtain ⟨r4, h6, hm⟩ := obind hm
   obtain ⟨r5, h7, hm⟩ := obind hm
   refine de G [(6, [0])] (hD 2 h4 (hC 6 (zq46_c h5) (hC 8 (zq50_c h6) (hC 9 (zq49_c h7) h0)))) ?_
   exact wJ G hm
  ·exact X_skip (wJ G hm)
 rintro ⟨k, v, v1, v2⟩ hm
 refine Ok_seq ?_
 obtain ⟨r6, h8, hm⟩ := obind hm
 refine rs G (hC 1 (zq46_c h8) h0) ?_
 refine tl hm (fun (v6, v7, v8, n1) => ⟨[(0, .ref 0 0), (5, .own 32)], [bX 0 129 [dV v6, dV v7, kV .u64 v8], aX 32 82 n1], 64⟩) (fun vv2 hm => ?_) ?_
 ·refine Ok_block (lp G hm (fun (k1, x, v3, v4, v5, n) => ⟨[(0, .ref 0 0), (3, .ref 32 0), (5, .own 48), (6, dV k1), (7, dV x)], [bX 0 129 [dV v3, dV v4, kV .u64 v5], bX 32 35 [dV t.Network.Stops, dV t.Network.Lines, dV t.Trips], aX 48 82 n], 80⟩) ?_)
  rintro ⟨k1, x, v3, v4, v5, n⟩ r0 hb hm
  rw [zq37_L1] at hm
  refine Ok_seq (rg G (cd hm (fun hm => ?_) (fun hm => ?_)))
  ·refine X_skip (thN (Ok_seq (Ok_block ?_)))
   obtain ⟨r7, h9, hm⟩ := obind hm
   obtain ⟨u, h10, hm⟩ := obind hm
   refine rs G (hC 4 (zq36_c h9) (hA 6 32 h10 h0)) ?_
   obtain ⟨r8, h11, hm⟩ := obind hm
   obtain ⟨r9, h12, hm⟩ := obind hm
   refine re G (hO 3 (.fz [272] [] []) (hC 3 (zq31_c h11) (hC 5 (zq49_c h12) h0))) ?_
   exact ibN (thN (rh G (wL G hm)))
  ·exact Ok_exit (thE (thE (ibE (wD G hm hb))))
 rintro ⟨v6, v7, v8, n1⟩ hm s hw
 refine thN (Ok_weak hw ?_)
 refine Ok_seq (rs G (hN 1 n1 h0) ?_)
 refine cd hm (fun hm => ?_) (fun hm => ?_)
 ·refine rg G ?_
  cases hm
  exact rt [32] []
 ·refine X_skip (thN ?_)
  obtain ⟨r10, h13, hm⟩ := obind hm
  refine rs G (hN 2 n1 (hC 3 (zq46_c h13) h0)) ?_
  obtain ⟨e2, h14, hm⟩ := obind hm
  refine rs G (hD 2 h14 (hE 3 h14 h0)) ?_
  refine jn hm (fun (v9, v10, v11, v12, v13, v14) => ⟨[(0, .ref 0 0), (5, .own 32), (8, dV r10.1), (9, .ref 48 0)], [bX 0 129 [dV v9, dV v10, kV .u64 v11], aX 32 82 n1, bX 48 82 [dV e2.From, dV v12, dV v13, dV v14]], 80⟩) (fun vv1 hm => ?_) ?_
  ·obtain ⟨r11, h15, hm⟩ := obind hm
   refine rs G (hC 1 (zq46_c h15) h0) ?_
   refine Ok_block (rg G (cd hm (fun hm => ?_) (fun hm => ?_)))
   ·obtain ⟨r12, h16, hm⟩ := obind hm
    refine re G (hO 2 (.fz [368] [] []) (hC 2 (zq31_c h16) h0)) ?_
    exact ibN (wJ G hm)
   ·refine rg G (cd hm (fun hm => ?_) (fun hm => ?_))
    ·obtain ⟨r13, h17, hm⟩ := obind hm
     refine re G (hO 4 (.fz [432] [] []) (hC 4 (zq31_c h17) h0)) ?_
     exact ibN (wJ G hm)
    ·refine rg G (cd hm (fun hm => ?_) (fun hm => ?_))
     ·obtain ⟨r14, h18, hm⟩ := obind hm
      refine re G (hO 2 (.fz [432] [] []) (hC 2 (zq31_c h18) h0)) ?_
      exact ibN (wJ G hm)
     ·exact X_skip (ibN (wJ G hm))
  rintro ⟨v9, v10, v11, v12, v13, v14⟩ hm
  obtain ⟨e3, h19, hm⟩ := obind hm
  refine rs G (hD 3 h19 (hS 4 h19 (⟨e2.From, v12, v13, v14⟩ : Flow) h0)) ?_
  refine jn hm (fun (v15, v16, v17, n2) => ⟨[(0, .ref 0 0), (5, .own 32)], [bX 0 129 [dV v15, dV v16, kV .u64 v17], aX 32 82 n2], 64⟩) (fun vv hm => ?_) ?_
  ·obtain ⟨r15, h20, hm⟩ := obind hm
   refine jn hm (fun v18 => ⟨[(0, .ref 0 0), (5, .own 32), (88, dV v18)], [bX 0 129 [dV r15.2.code_, dV r15.2.at_, kV .u64 r15.2.seed_.v], aX 32 82 (n1.set r10.1.toNat (⟨e2.From, v12, v13, v14⟩ : Flow))], 64⟩) (fun v18 hm => ?_) ?_
   ·rcases bf hm with ⟨hb1, hm⟩ | ⟨hb1, hm⟩
    ·refine re G (hC 1 (zq45_c h20) (hO 2 (.b true) (hP hb1 (hN 4 (n1.set r10.1.toNat (⟨e2.From, v12, v13, v14⟩ : Flow)) h0)))) ?_
     exact wJ G hm
    ·refine re G (hC 1 (zq45_c h20) (hO 2 (.b false) (hP hb1 h0))) ?_
     exact wJ G hm
   rintro v18 hm
   refine cd hm (fun hm => ?_) (fun hm => ?_)
   ·obtain ⟨e4, h21, hm⟩ := obind hm
    obtain ⟨u1, h22, hm⟩ := obind hm
    refine re G (hN 3 (n1.set r10.1.toNat (⟨e2.From, v12, v13, v14⟩ : Flow)) (hD 5 h21 (hE 6 h21 (hA 8 32 h22 h0)))) ?_
    exact wJ G hm
   ·exact X_skip (wJ G hm)
  rintro ⟨v15, v16, v17, n2⟩ hm
  refine rg G ?_
  cases hm
  exact rt [32] []
noncomputable def zq35_M : MS l1Cur (Int × l1Cur) := ⟨.b 129, zq35, fun y => dV y.1, fun _ => [], fun _ y => [bxO 129 y.2]⟩
theorem zq35_c {c y} (hm : zq35 c = some y) : zq35_M.C c y := zq35_M.c c hm
theorem zq35_ok : FnOK Try.prog tJ 102 zq35_M.S := by
 refine fm tt zq35_M [fo zq46_ok, fo zq31_ok] Try.call102 Try.func102 rfl Try.results102 Try.ntmps102 ?_
 rintro c y cx G hm
 have hm : zq35 c = some y := hm
 unfold zq35 at hm
 refine rg G ?_
 obtain ⟨r, h, hm⟩ := obind hm
 obtain ⟨u, h1, hm⟩ := obind hm
 obtain ⟨u1, h2, hm⟩ := obind hm
 obtain ⟨r1, h3, hm⟩ := obind hm
 refine rs G (hC 3 (zq46_c h) (hK h1 (hO 6 (.fz [48] [] []) (hU 6 h2 (hC 7 (zq31_c h3) h0))))) ?_
 cases hm
 exact rt [] []
noncomputable def zq30_M : MS ((List UInt8)) (Timetable × (List Flow) × Int) := ⟨.r, zq30, fun y => .tup [dV y.1, .own 0, dV y.2.2], fun y => [arO 82 y.2.1], fun _ _ => []⟩
theorem zq30_c {code y} (hm : zq30 code = some y) : zq30_M.C code y := zq30_M.c code hm
theorem zq30_ok : FnOK Try.prog tJ 33 zq30_M.S := by
 refine fm tt zq30_M [fo zq34_ok, fo zq37_ok, fo zq35_ok] Try.call33 Try.func33 rfl Try.results33 Try.ntmps33 ?_
 rintro code y cx G hm
 have hm : zq30 code = some y := hm
 unfold zq30 at hm
 refine rg G (rg G ?_)
 obtain ⟨r, h, hm⟩ := obind hm
 refine rs G (hC 1 (zq34_c h) h0) ?_
 obtain ⟨r1, h1, hm⟩ := obind hm
 refine rs G (hO 2 (.fz [144, 145] [] []) (hC 2 (zq37_c h1) h0)) ?_
 obtain ⟨r3, h3, hm⟩ := obind hm
 refine ds G [(3, [96]), (4, [16])] (hC 3 (zq35_c h3) h0) ?_
 cases hm
 exact rt [224] []
noncomputable def zq28_M : MS (Int × Int × Int) Bool := ⟨.x .r (.x .r .r), fun x => zq28 x.1 x.2.1 x.2.2, fun y => dV y, fun _ => [], fun _ _ => []⟩
theorem zq28_c {n lo hi y} (hm : zq28 n lo hi = some y) : zq28_M.C (n, lo, hi) y := zq28_M.c (n, lo, hi) hm
theorem zq28_ok : FnOK Try.prog tJ 91 zq28_M.S := by
 refine fm tt zq28_M [] Try.call91 Try.func91 rfl Try.results91 Try.ntmps91 ?_
 rintro ⟨n, lo, hi⟩ y cx G hm
 have hm : zq28 n lo hi = some y := hm
 unfold zq28 at hm
 refine rg G (jn hm (fun v => ⟨[(6, dV v)], [], 32⟩) (fun v hm => ?_) ?_)
 ·rcases bf hm with ⟨hb, hm⟩ | ⟨hb, hm⟩
  ·refine re G (hO 3 (.b true) (hP hb h0)) ?_
   exact wJ G hm
  ·refine re G (hO 3 (.b false) (hP hb h0)) ?_
   exact wJ G hm
 rintro v hm
 cases hm
 exact rt [] []
noncomputable def zq19_M : MS ByteArray Bool := ⟨.r, zq19, fun y => dV y, fun _ => [], fun _ _ => []⟩
theorem zq19_c {s y} (hm : zq19 s = some y) : zq19_M.C s y := zq19_M.c s hm
theorem zq19_ok : FnOK Try.prog tJ 231 zq19_M.S := by
 refine fm tt zq19_M [] Try.call231 Try.func231 rfl Try.results231 Try.ntmps231 ?_
 rintro s y cx G hm
 have hm : zq19 s = some y := hm
 unfold zq19 at hm
 refine rg G (Ok_seq (jn hm (fun v => ⟨[(0, dV s), (12, dV v)], [], 32⟩) (fun v hm => ?_) ?_))
 ·rcases bf hm with ⟨hb, hm⟩ | ⟨hb, hm⟩
  ·refine re G (hO 3 (.b true) (hP hb h0)) ?_
   exact wJ G hm
  ·refine re G (hO 3 (.b false) (hP hb h0)) ?_
   exact wJ G hm
 rintro v hm
 refine cd hm (fun hm => ?_) (fun hm => ?_)
 ·refine rg G ?_
  cases hm
  exact rt [] []
 ·refine X_skip (thN (Ok_seq (rg G (tF hm (fun _ => ⟨[], [], 32⟩) (fun v4 hr hm => ?_) ?_))))
  ·refine Ok_block (lp G hm (fun v1 => ⟨[(0, dV s), (14, dV (s.size : Int)), (15, dV v1)], [], 32⟩) ?_)
   rintro v1 r0 hb1 hm
   rw [zq19_L1] at hm
   refine rg G (Ok_seq (cd hm (fun hm => ?_) (fun hm => ?_)))
   ·refine X_skip (thN (Ok_seq (Ok_block (rg G ?_))))
    obtain ⟨u, h, hm⟩ := obind hm
    refine jn hm (fun v2 => ⟨[(0, dV s), (3, dV v1), (4, dV v2), (14, dV (s.size : Int)), (15, dV v1)], [], 32⟩) (fun v2 hm => ?_) ?_
    ·rcases bf hm with ⟨hb2, hm⟩ | ⟨hb2, hm⟩
     ·obtain ⟨u1, h1, hm⟩ := obind hm
      refine re G (hK h (hO 4 (.b true) (hP hb2 (hK h1 h0)))) ?_
      exact wJ G hm
     ·refine re G (hK h (hO 4 (.b false) (hP hb2 h0))) ?_
      exact wJ G hm
    rintro v2 hm
    refine jn hm (fun v3 => ⟨[(0, dV s), (14, dV (s.size : Int)), (15, dV v1), (45, dV v3)], [], 32⟩) (fun v3 hm => ?_) ?_
    ·rcases bf hm with ⟨hb3, hm⟩ | ⟨hb3, hm⟩
     ·rcases bf hm with ⟨hb4, hm⟩ | ⟨hb4, hm⟩
      ·refine re G (hO 2 (.b true) (hP hb3 (hO 5 (.b true) (hP hb4 h0)))) ?_
       exact wJ G hm
      ·obtain ⟨u2, h2, hm⟩ := obind hm
       rcases bf hm with ⟨hb5, hm⟩ | ⟨hb5, hm⟩
       ·refine re G (hO 2 (.b true) (hP hb3 (hO 5 (.b false) (hP hb4 (hK h2 (hO 11 (.b true) (hP hb5 h0))))))) ?_
        exact wJ G hm
       ·obtain ⟨u3, h3, hm⟩ := obind hm
        refine re G (hO 2 (.b true) (hP hb3 (hO 5 (.b false) (hP hb4 (hK h2 (hO 11 (.b false) (hP hb5 (hK h3 h0)))))))) ?_
        exact wJ G hm
     ·refine re G (hO 2 (.b false) (hP hb3 h0)) ?_
      exact wJ G hm
    rintro v3 hm
    refine cd hm (fun hm => ?_) (fun hm => ?_)
    ·refine rg G ?_
     have hm := eL hm hb1 hr
     cases hm
     exact rt [] []
    ·exact X_skip (ibN (thN (rh G (wL G hm))))
   ·exact Ok_exit (thE (thE (ibE (wE G hm hb1))))
  rintro ⟨⟩ hm s1 hw
  refine thN (Ok_weak hw ?_)
  refine rg G ?_
  cases hm
  exact rt [] []
noncomputable def zq78_M : MS ((List ByteArray) × ByteArray) Int := ⟨.x .r .r, fun x => zq78 x.1 x.2, fun y => dV y, fun _ => [], fun _ _ => []⟩
theorem zq78_c {s v y} (hm : zq78 s v = some y) : zq78_M.C (s, v) y := zq78_M.c (s, v) hm
theorem zq78_ok : FnOK Try.prog tJ 232 zq78_M.S := by
 refine fm tt zq78_M [] Try.call232 Try.func232 rfl Try.results232 Try.ntmps232 ?_
 rintro ⟨s, v⟩ y cx G hm
 have hm : zq78 s v = some y := hm
 unfold zq78 at hm
 refine rg G (Ok_seq (rs G (hN 1 s h0) ?_))
 refine tF hm (fun _ => ⟨[], [], 32⟩) (fun v2 hr hm => ?_) ?_
 ·refine Ok_block (lp G hm (fun v1 => ⟨[(0, dV s), (1, dV v), (7, dV (s.length : Int)), (8, dV v1)], [], 32⟩) ?_)
  rintro v1 r0 hb hm
  rw [zq78_L1] at hm
  refine rg G (Ok_seq (cd hm (fun hm => ?_) (fun hm => ?_)))
  ·refine X_skip (thN (Ok_seq (Ok_block (rg G ?_))))
   obtain ⟨e, h, hm⟩ := obind hm
   refine rs G (hD 3 h h0) ?_
   refine cd hm (fun hm => ?_) (fun hm => ?_)
   ·refine rg G ?_
    have hm := eL hm hb hr
    cases hm
    exact rt [] []
   ·exact X_skip (ibN (thN (rh G (wL G hm))))
  ·exact Ok_exit (thE (thE (ibE (wE G hm hb))))
 rintro ⟨⟩ hm s1 hw
 refine thN (Ok_weak hw ?_)
 refine rg G ?_
 cases hm
 exact rt [] []
noncomputable def zq13_M : MS ((List ByteArray)) Bool := ⟨.r, zq13, fun y => dV y, fun _ => [], fun _ _ => []⟩
theorem zq13_c {names y} (hm : zq13 names = some y) : zq13_M.C names y := zq13_M.c names hm
theorem zq13_ok : FnOK Try.prog tJ 199 zq13_M.S := by
 refine fm tt zq13_M [fo zq19_ok, fo zq78_ok] Try.call199 Try.func199 rfl Try.results199 Try.ntmps199 ?_
 rintro names y cx G hm
 have hm : zq13 names = some y := hm
 unfold zq13 at hm
 refine rg G (Ok_seq (rs G (hN 1 names h0) ?_))
 refine tF hm (fun _ => ⟨[], [], 32⟩) (fun v2 hr hm => ?_) ?_
 ·refine Ok_block (lp G hm (fun v => ⟨[(0, dV names), (5, dV names), (6, dV (names.length : Int)), (7, dV v)], [], 32⟩) ?_)
  rintro v r0 hb hm
  rw [zq13_L1] at hm
  refine rg G (Ok_seq (cd hm (fun hm => ?_) (fun hm => ?_)))
  ·refine X_skip (thN (Ok_seq (Ok_block ?_)))
   obtain ⟨e, h, hm⟩ := obind hm
   refine rs G (hD 1 h h0) ?_
   obtain ⟨r, h1, hm⟩ := obind hm
   refine jn hm (fun v1 => ⟨[(0, dV names), (5, dV names), (6, dV (names.length : Int)), (7, dV v), (21, dV v1)], [], 32⟩) (fun v1 hm => ?_) ?_
   ·rcases bf hm with ⟨hb1, hm⟩ | ⟨hb1, hm⟩
    ·refine re G (hC 1 (zq19_c h1) (hO 3 (.b true) (hP hb1 h0))) ?_
     exact wJ G hm
    ·obtain ⟨r1, h2, hm⟩ := obind hm
     refine re G (hC 1 (zq19_c h1) (hO 3 (.b false) (hP hb1 (hC 6 (zq78_c h2) h0)))) ?_
     exact wJ G hm
   rintro v1 hm
   refine cd hm (fun hm => ?_) (fun hm => ?_)
   ·refine rg G ?_
    have hm := eL hm hb hr
    cases hm
    exact rt [] []
   ·exact X_skip (ibN (thN (rh G (wL G hm))))
  ·exact Ok_exit (thE (thE (ibE (wE G hm hb))))
 rintro ⟨⟩ hm s hw
 refine thN (Ok_weak hw ?_)
 refine rg G ?_
 cases hm
 exact rt [] []
noncomputable def zq22_M : MS Network ((List ByteArray)) := ⟨.r, zq22, fun _ => .own 0, fun y => [arO 9 y], fun _ _ => []⟩
theorem zq22_c {n y} (hm : zq22 n = some y) : zq22_M.C n y := zq22_M.c n hm
theorem zq22_ok : FnOK Try.prog tJ 200 zq22_M.S := by
 refine fm tt zq22_M [] Try.call200 Try.func200 rfl Try.results200 Try.ntmps200 ?_
 rintro n y cx G hm
 have hm : zq22 n = some y := hm
 unfold zq22 at hm
 refine rg G ?_
 obtain ⟨u, h, hm⟩ := obind hm
 refine rs G (hN 2 n.Lines (hO 3 (.l (List.map Enc.e (List.replicate (n.Lines.length : Int).toNat (ByteArray.empty : ByteArray)))) (hP (mk_p (b := 16) (chk_t h) rfl) (hP (rep_m Enc.e (n.Lines.length : Int).toNat (ByteArray.empty : ByteArray)) h0)))) ?_
 refine Ok_seq (rs G (hN 2 n.Lines h0) ?_)
 refine tl hm (fun i1 => ⟨[(3, .own 16)], [aX 16 9 i1], 48⟩) (fun i1 hm => ?_) ?_
 ·refine Ok_block (lp G hm (fun (v, i) => ⟨[(3, .own 16), (11, dV n.Lines), (12, dV (n.Lines.length : Int)), (13, dV v)], [aX 16 9 i], 48⟩) ?_)
  rintro ⟨v, i⟩ r0 hb hm
  rw [zq22_L1] at hm
  refine rg G (Ok_seq (cd hm (fun hm => ?_) (fun hm => ?_)))
  ·refine X_skip (thN (Ok_seq (Ok_block ?_)))
   obtain ⟨e, h1, hm⟩ := obind hm
   refine rs G (hD 1 h1 h0) ?_
   obtain ⟨e1, h2, hm⟩ := obind hm
   refine re G (hD 4 h2 (hS 5 h2 e.Name h0)) ?_
   exact ibN (thN (rh G (wL G hm)))
  ·exact Ok_exit (thE (thE (ibE (wD G hm hb))))
 rintro i1 hm s hw
 refine thN (Ok_weak hw ?_)
 refine rg G ?_
 cases hm
 exact rt [16] []
noncomputable def zq20_M : MS (Network × Int) Bool := ⟨.x .r .r, fun x => zq20 x.1 x.2, fun y => dV y, fun _ => [], fun _ _ => []⟩
theorem zq20_c {n stop y} (hm : zq20 n stop = some y) : zq20_M.C (n, stop) y := zq20_M.c (n, stop) hm
theorem zq20_ok : FnOK Try.prog tJ 107 zq20_M.S := by
 refine fm tt zq20_M [] Try.call107 Try.func107 rfl Try.results107 Try.ntmps107 ?_
 rintro ⟨n, stop⟩ y cx G hm
 have hm : zq20 n stop = some y := hm
 unfold zq20 at hm
 refine rg G (jn hm (fun v => ⟨[(4, dV v)], [], 32⟩) (fun v hm => ?_) ?_)
 ·rcases bf hm with ⟨hb, hm⟩ | ⟨hb, hm⟩
  ·refine re G (hO 2 (.b true) (hP hb (hN 6 n.Stops h0))) ?_
   exact wJ G hm
  ·refine re G (hO 2 (.b false) (hP hb h0)) ?_
   exact wJ G hm
 rintro v hm
 cases hm
 exact rt [] []
noncomputable def zq77_M : MS ((List Int) × Int) Int := ⟨.x .r .r, fun x => zq77 x.1 x.2, fun y => dV y, fun _ => [], fun _ _ => []⟩
theorem zq77_c {s v y} (hm : zq77 s v = some y) : zq77_M.C (s, v) y := zq77_M.c (s, v) hm
theorem zq77_ok : FnOK Try.prog tJ 160 zq77_M.S := by
 refine fm tt zq77_M [] Try.call160 Try.func160 rfl Try.results160 Try.ntmps160 ?_
 rintro ⟨s, v⟩ y cx G hm
 have hm : zq77 s v = some y := hm
 unfold zq77 at hm
 refine rg G (Ok_seq (rs G (hN 1 s h0) ?_))
 refine tF hm (fun _ => ⟨[], [], 32⟩) (fun v2 hr hm => ?_) ?_
 ·refine Ok_block (lp G hm (fun v1 => ⟨[(0, dV s), (1, dV v), (7, dV (s.length : Int)), (8, dV v1)], [], 32⟩) ?_)
  rintro v1 r0 hb hm
  rw [zq77_L1] at hm
  refine rg G (Ok_seq (cd hm (fun hm => ?_) (fun hm => ?_)))
  ·refine X_skip (thN (Ok_seq (Ok_block (rg G ?_))))
   obtain ⟨e, h, hm⟩ := obind hm
   refine rs G (hD 3 h h0) ?_
   refine cd hm (fun hm => ?_) (fun hm => ?_)
   ·refine rg G ?_
    have hm := eL hm hb hr
    cases hm
    exact rt [] []
   ·exact X_skip (ibN (thN (rh G (wL G hm))))
  ·exact Ok_exit (thE (thE (ibE (wE G hm hb))))
 rintro ⟨⟩ hm s1 hw
 refine thN (Ok_weak hw ?_)
 refine rg G ?_
 cases hm
 exact rt [] []
noncomputable def zq21_M : MS (Network × Line) Bool := ⟨.x .r .r, fun x => zq21 x.1 x.2, fun y => dV y, fun _ => [], fun _ _ => []⟩
theorem zq21_c {n l y} (hm : zq21 n l = some y) : zq21_M.C (n, l) y := zq21_M.c (n, l) hm
theorem zq21_ok : FnOK Try.prog tJ 201 zq21_M.S := by
 refine fm tt zq21_M [fo zq28_ok, fo zq20_ok, fo zq77_ok] Try.call201 Try.func201 rfl Try.results201 Try.ntmps201 ?_
 rintro ⟨n, l⟩ y cx G hm
 have hm : zq21 n l = some y := hm
 unfold zq21 at hm
 refine rg G (Ok_seq ?_)
 obtain ⟨r, h, hm⟩ := obind hm
 refine jn hm (fun v => ⟨[(2, .ref 16 0), (3, .ref 32 0), (23, dV v)], [bX 16 32 [dV n.Stops, dV n.Lines], bX 32 146 [dV l.Name, dV l.Stops, dV l.Runs]], 64⟩) (fun v hm => ?_) ?_
 ·rcases bf hm with ⟨hb, hm⟩ | ⟨hb, hm⟩
  ·refine re G (hN 2 l.Stops (hC 3 (zq28_c h) (hO 5 (.b true) (hP hb h0)))) ?_
   exact wJ G hm
  ·refine re G (hN 2 l.Stops (hC 3 (zq28_c h) (hO 5 (.b false) (hP hb (hN 8 l.Runs (hN 11 l.Stops h0)))))) ?_
   exact wJ G hm
 rintro v hm
 refine cd hm (fun hm => ?_) (fun hm => ?_)
 ·refine rg G ?_
  cases hm
  exact rt [] []
 ·refine X_skip (thN (Ok_seq (rs G (hN 2 l.Stops h0) ?_)))
  refine tF hm (fun _ => ⟨[(3, .ref 16 0)], [bX 16 146 [dV l.Name, dV l.Stops, dV l.Runs]], 48⟩) (fun v5 hr hm => ?_) ?_
  ·refine Ok_block (lp G hm (fun v1 => ⟨[(2, .ref 16 0), (3, .ref 32 0), (25, dV l.Stops), (26, dV (l.Stops.length : Int)), (27, dV v1)], [bX 16 32 [dV n.Stops, dV n.Lines], bX 32 146 [dV l.Name, dV l.Stops, dV l.Runs]], 64⟩) ?_)
   rintro v1 r0 hb1 hm
   rw [zq21_L1] at hm
   refine rg G (Ok_seq (cd hm (fun hm => ?_) (fun hm => ?_)))
   ·refine X_skip (thN (Ok_seq (Ok_block ?_)))
    obtain ⟨e, h1, hm⟩ := obind hm
    refine rs G (hD 1 h1 h0) ?_
    obtain ⟨r1, h2, hm⟩ := obind hm
    refine jn hm (fun v2 => ⟨[(2, .ref 16 0), (3, .ref 32 0), (25, dV l.Stops), (26, dV (l.Stops.length : Int)), (27, dV v1), (43, dV v2)], [bX 16 32 [dV n.Stops, dV n.Lines], bX 32 146 [dV l.Name, dV l.Stops, dV l.Runs]], 64⟩) (fun v2 hm => ?_) ?_
    ·rcases bf hm with ⟨hb2, hm⟩ | ⟨hb2, hm⟩
     ·refine re G (hC 2 (zq20_c h2) (hO 4 (.b true) (hP hb2 h0))) ?_
      exact wJ G hm
     ·obtain ⟨r2, h3, hm⟩ := obind hm
      refine re G (hC 2 (zq20_c h2) (hO 4 (.b false) (hP hb2 (hC 8 (zq77_c h3) h0)))) ?_
      exact wJ G hm
    rintro v2 hm
    refine cd hm (fun hm => ?_) (fun hm => ?_)
    ·refine rg G ?_
     have hm := eL hm hb1 hr
     cases hm
     exact rt [] []
    ·exact X_skip (ibN (thN (rh G (wL G hm))))
   ·exact Ok_exit (thE (thE (ibE (wE G hm hb1))))
  rintro ⟨⟩ hm s hw
  refine thN (Ok_weak hw ?_)
  refine Ok_seq (rs G (hN 2 l.Runs h0) ?_)
  refine tF hm (fun _ => ⟨[], [], 32⟩) (fun v4 hr1 hm => ?_) ?_
  ·refine Ok_block (lp G hm (fun v3 => ⟨[(46, dV l.Runs), (47, dV (l.Runs.length : Int)), (48, dV v3)], [], 32⟩) ?_)
   rintro v3 r0 hb3 hm
   rw [zq21_L2] at hm
   refine rg G (Ok_seq (cd hm (fun hm => ?_) (fun hm => ?_)))
   ·refine X_skip (thN (Ok_seq (Ok_block ?_)))
    obtain ⟨e2, h4, hm⟩ := obind hm
    refine rs G (hD 0 h4 h0) ?_
    obtain ⟨r4, h5, hm⟩ := obind hm
    refine rs G (hC 1 (zq28_c h5) h0) ?_
    refine cd hm (fun hm => ?_) (fun hm => ?_)
    ·refine rg G ?_
     have hm := eL hm hb3 hr1
     cases hm
     exact rt [] []
    ·exact X_skip (ibN (thN (rh G (wL G hm))))
   ·exact Ok_exit (thE (thE (ibE (wE G hm hb3))))
  rintro ⟨⟩ hm s1 hw1
  refine thN (Ok_weak hw1 ?_)
  refine rg G ?_
  cases hm
  exact rt [] []
noncomputable def zq6_M : MS Network Bool := ⟨.r, zq6, fun y => dV y, fun _ => [], fun _ _ => []⟩
theorem zq6_c {n y} (hm : zq6 n = some y) : zq6_M.C n y := zq6_M.c n hm
theorem zq6_ok : FnOK Try.prog tJ 143 zq6_M.S := by
 refine fm tt zq6_M [fo zq28_ok, fo zq13_ok, fo zq22_ok, fo zq21_ok] Try.call143 Try.func143 rfl Try.results143 Try.ntmps143 ?_
 rintro n y cx G hm
 have hm : zq6 n = some y := hm
 unfold zq6 at hm
 refine rg G (Ok_seq ?_)
 obtain ⟨r, h, hm⟩ := obind hm
 refine jn hm (fun v => ⟨[(1, .ref 16 0), (28, dV v)], [bX 16 32 [dV n.Stops, dV n.Lines]], 48⟩) (fun v hm => ?_) ?_
 ·rcases bf hm with ⟨hb, hm⟩ | ⟨hb, hm⟩
  ·refine re G (hN 2 n.Stops (hC 3 (zq28_c h) (hO 5 (.b true) (hP hb h0)))) ?_
   exact wJ G hm
  ·obtain ⟨r1, h1, hm⟩ := obind hm
   rcases bf hm with ⟨hb1, hm⟩ | ⟨hb1, hm⟩
   ·refine re G (hN 2 n.Stops (hC 3 (zq28_c h) (hO 5 (.b false) (hP hb (hN 8 n.Lines (hC 9 (zq28_c h1) (hO 12 (.b true) (hP hb1 h0)))))))) ?_
    exact wJ G hm
   ·obtain ⟨r2, h2, hm⟩ := obind hm
    rcases bf hm with ⟨hb2, hm⟩ | ⟨hb2, hm⟩
    ·refine re G (hN 2 n.Stops (hC 3 (zq28_c h) (hO 5 (.b false) (hP hb (hN 8 n.Lines (hC 9 (zq28_c h1) (hO 12 (.b false) (hP hb1 (hC 15 (zq13_c h2) (hO 18 (.b true) (hP hb2 h0))))))))))) ?_
     exact wJ G hm
    ·obtain ⟨r3, h3, hm⟩ := obind hm
     obtain ⟨r4, h4, hm⟩ := obind hm
     refine re G (hN 2 n.Stops (hC 3 (zq28_c h) (hO 5 (.b false) (hP hb (hN 8 n.Lines (hC 9 (zq28_c h1) (hO 12 (.b false) (hP hb1 (hC 15 (zq13_c h2) (hO 18 (.b false) (hP hb2 (hC 20 (zq22_c h3) (hC 21 (zq13_c h4) h0))))))))))))) ?_
     exact wJ G hm
 rintro v hm
 refine cd hm (fun hm => ?_) (fun hm => ?_)
 ·refine rg G ?_
  cases hm
  exact rt [] []
 ·refine X_skip (thN (Ok_seq (rs G (hN 2 n.Lines h0) ?_)))
  refine tF hm (fun _ => ⟨[], [], 32⟩) (fun v2 hr hm => ?_) ?_
  ·refine Ok_block (lp G hm (fun v1 => ⟨[(1, .ref 16 0), (30, dV n.Lines), (31, dV (n.Lines.length : Int)), (32, dV v1)], [bX 16 32 [dV n.Stops, dV n.Lines]], 48⟩) ?_)
   rintro v1 r0 hb3 hm
   rw [zq6_L1] at hm
   refine rg G (Ok_seq (cd hm (fun hm => ?_) (fun hm => ?_)))
   ·refine X_skip (thN (Ok_seq (Ok_block ?_)))
    obtain ⟨e, h5, hm⟩ := obind hm
    refine rs G (hD 0 h5 h0) ?_
    obtain ⟨r5, h6, hm⟩ := obind hm
    refine rs G (hC 2 (zq21_c h6) h0) ?_
    refine cd hm (fun hm => ?_) (fun hm => ?_)
    ·refine rg G ?_
     have hm := eL hm hb3 hr
     cases hm
     exact rt [] []
    ·exact X_skip (ibN (thN (rh G (wL G hm))))
   ·exact Ok_exit (thE (thE (ibE (wE G hm hb3))))
  rintro ⟨⟩ hm s hw
  refine thN (Ok_weak hw ?_)
  refine rg G ?_
  cases hm
  exact rt [] []
noncomputable def zq18_M : MS (Network × Int) Bool := ⟨.x .r .r, fun x => zq18 x.1 x.2, fun y => dV y, fun _ => [], fun _ _ => []⟩
theorem zq18_c {n line y} (hm : zq18 n line = some y) : zq18_M.C (n, line) y := zq18_M.c (n, line) hm
theorem zq18_ok : FnOK Try.prog tJ 162 zq18_M.S := by
 refine fm tt zq18_M [] Try.call162 Try.func162 rfl Try.results162 Try.ntmps162 ?_
 rintro ⟨n, line⟩ y cx G hm
 have hm : zq18 n line = some y := hm
 unfold zq18 at hm
 refine rg G (jn hm (fun v => ⟨[(4, dV v)], [], 32⟩) (fun v hm => ?_) ?_)
 ·rcases bf hm with ⟨hb, hm⟩ | ⟨hb, hm⟩
  ·refine re G (hO 2 (.b true) (hP hb (hN 6 n.Lines h0))) ?_
   exact wJ G hm
  ·refine re G (hO 2 (.b false) (hP hb h0)) ?_
   exact wJ G hm
 rintro v hm
 cases hm
 exact rt [] []
noncomputable def zq7_M : MS Int Bool := ⟨.r, zq7, fun y => dV y, fun _ => [], fun _ _ => []⟩
theorem zq7_c {t y} (hm : zq7 t = some y) : zq7_M.C t y := zq7_M.c t hm
theorem zq7_ok : FnOK Try.prog tJ 121 zq7_M.S := by
 refine fm tt zq7_M [fo zq28_ok] Try.call121 Try.func121 rfl Try.results121 Try.ntmps121 ?_
 rintro t y cx G hm
 have hm : zq7 t = some y := hm
 unfold zq7 at hm
 refine rg G ?_
 obtain ⟨r, h, hm⟩ := obind hm
 refine rs G (hC 1 (zq28_c h) h0) ?_
 cases hm
 exact rt [] []
noncomputable def zq27_M : MS ((List Int)) Int := ⟨.r, zq27, fun y => dV y, fun _ => [], fun _ _ => []⟩
theorem zq27_c {list y} (hm : zq27 list = some y) : zq27_M.C list y := zq27_M.c list hm
theorem zq27_ok : FnOK Try.prog tJ 109 zq27_M.S := by
 refine fm tt zq27_M [] Try.call109 Try.func109 rfl Try.results109 Try.ntmps109 ?_
 rintro list y cx G hm
 have hm : zq27 list = some y := hm
 unfold zq27 at hm
 refine rg G (rg G (Ok_seq (rs G (hN 1 list h0) ?_)))
 refine tl hm (fun v2 => ⟨[(3, dV v2)], [], 32⟩) (fun v2 hm => ?_) ?_
 ·refine Ok_block (lp G hm (fun (v, v1) => ⟨[(3, dV v), (6, dV list), (7, dV (list.length : Int)), (8, dV v1)], [], 32⟩) ?_)
  rintro ⟨v, v1⟩ r0 hb hm
  rw [zq27_L1] at hm
  refine rg G (Ok_seq (cd hm (fun hm => ?_) (fun hm => ?_)))
  ·refine X_skip (thN (Ok_seq (Ok_block ?_)))
   obtain ⟨e, h, hm⟩ := obind hm
   refine rs G (hD 0 h h0) ?_
   exact rh G (ibN (thN (rh G (wL G hm))))
  ·exact Ok_exit (thE (thE (ibE (wD G hm hb))))
 rintro v2 hm s hw
 refine thN (Ok_weak hw ?_)
 refine rg G ?_
 cases hm
 exact rt [] []
noncomputable def zq16_M : MS (Timetable × Trip) Int := ⟨.x .r .r, fun x => zq16 x.1 x.2, fun y => dV y, fun _ => [], fun _ _ => []⟩
theorem zq16_c {t x y} (hm : zq16 t x = some y) : zq16_M.C (t, x) y := zq16_M.c (t, x) hm
theorem zq16_ok : FnOK Try.prog tJ 202 zq16_M.S := by
 refine fm tt zq16_M [fo zq27_ok] Try.call202 Try.func202 rfl Try.results202 Try.ntmps202 ?_
 rintro ⟨t, x⟩ y cx G hm
 have hm : zq16 t x = some y := hm
 unfold zq16 at hm
 refine rg G ?_
 obtain ⟨e1, h2, hm⟩ := obind hm
 obtain ⟨r1, h3, hm⟩ := obind hm
 refine ds G [] (hD 7 h2 (hC 10 (zq27_c h3) h0)) ?_
 cases hm
 exact rt [] []
noncomputable def zq14_M : MS Timetable Bool := ⟨.r, zq14, fun y => dV y, fun _ => [], fun _ _ => []⟩
theorem zq14_c {t y} (hm : zq14 t = some y) : zq14_M.C t y := zq14_M.c t hm
theorem zq14_ok : FnOK Try.prog tJ 144 zq14_M.S := by
 refine fm tt zq14_M [fo zq18_ok, fo zq7_ok, fo zq16_ok] Try.call144 Try.func144 rfl Try.results144 Try.ntmps144 ?_
 rintro t y cx G hm
 have hm : zq14 t = some y := hm
 unfold zq14 at hm
 refine rg G (Ok_seq (rs G (hN 2 t.Trips h0) ?_))
 refine cd hm (fun hm => ?_) (fun hm => ?_)
 ·refine rg G ?_
  cases hm
  exact rt [] []
 ·refine X_skip (thN (rg G (Ok_seq (rs G (hN 2 t.Trips h0) ?_))))
  refine tF hm (fun _ => ⟨[], [], 32⟩) (fun v3 hr hm => ?_) ?_
  ·refine Ok_block (lp G hm (fun (v, v1) => ⟨[(1, .ref 16 0), (3, dV v), (11, dV t.Trips), (12, dV (t.Trips.length : Int)), (13, dV v1)], [bX 16 35 [dV t.Network.Stops, dV t.Network.Lines, dV t.Trips]], 48⟩) ?_)
   rintro ⟨v, v1⟩ r0 hb hm
   rw [zq14_L1] at hm
   refine rg G (Ok_seq (cd hm (fun hm => ?_) (fun hm => ?_)))
   ·refine X_skip (thN (Ok_seq (Ok_block ?_)))
    obtain ⟨e, h, hm⟩ := obind hm
    refine rs G (hD 0 h h0) ?_
    refine Ok_seq (jn hm (fun v2 => ⟨[(1, .ref 16 0), (5, .ref 32 0), (11, dV t.Trips), (12, dV (t.Trips.length : Int)), (13, dV v1), (46, dV v2)], [bX 16 35 [dV t.Network.Stops, dV t.Network.Lines, dV t.Trips], bX 32 167 [dV e.Id, dV e.Line, dV e.Start]], 64⟩) (fun v2 hm => ?_) ?_)
    ·rcases bf hm with ⟨hb1, hm⟩ | ⟨hb1, hm⟩
     ·refine re G (hO 4 (.b true) (hP hb1 h0)) ?_
      exact wJ G hm
     ·rcases bf hm with ⟨hb2, hm⟩ | ⟨hb2, hm⟩
      ·refine re G (hO 4 (.b false) (hP hb1 (hO 9 (.b true) (hP hb2 h0)))) ?_
       exact wJ G hm
      ·obtain ⟨r, h1, hm⟩ := obind hm
       rcases bf hm with ⟨hb3, hm⟩ | ⟨hb3, hm⟩
       ·refine re G (hO 4 (.b false) (hP hb1 (hO 9 (.b false) (hP hb2 (hC 14 (zq18_c h1) (hO 17 (.b true) (hP hb3 h0))))))) ?_
        exact wJ G hm
       ·obtain ⟨r1, h2, hm⟩ := obind hm
        rcases bf hm with ⟨hb4, hm⟩ | ⟨hb4, hm⟩
        ·refine re G (hO 4 (.b false) (hP hb1 (hO 9 (.b false) (hP hb2 (hC 14 (zq18_c h1) (hO 17 (.b false) (hP hb3 (hC 20 (zq7_c h2) (hO 23 (.b true) (hP hb4 h0)))))))))) ?_
         exact wJ G hm
        ·obtain ⟨r2, h3, hm⟩ := obind hm
         obtain ⟨r3, h4, hm⟩ := obind hm
         refine re G (hO 4 (.b false) (hP hb1 (hO 9 (.b false) (hP hb2 (hC 14 (zq18_c h1) (hO 17 (.b false) (hP hb3 (hC 20 (zq7_c h2) (hO 23 (.b false) (hP hb4 (hC 26 (zq16_c h3) (hC 27 (zq7_c h4) h0)))))))))))) ?_
         exact wJ G hm
    rintro v2 hm
    refine cd hm (fun hm => ?_) (fun hm => ?_)
    ·refine rg G ?_
     have hm := eL hm hb hr
     cases hm
     exact rt [] []
    ·exact X_skip (thN (rh G (ibN (thN (rh G (wL G hm))))))
   ·exact Ok_exit (thE (thE (ibE (wE G hm hb))))
  rintro ⟨⟩ hm s hw
  refine thN (Ok_weak hw ?_)
  refine rg G ?_
  cases hm
  exact rt [] []
noncomputable def zq8_M : MS Timetable Bool := ⟨.r, zq8, fun y => dV y, fun _ => [], fun _ _ => []⟩
theorem zq8_c {t y} (hm : zq8 t = some y) : zq8_M.C t y := zq8_M.c t hm
theorem zq8_ok : FnOK Try.prog tJ 68 zq8_M.S := by
 refine fm tt zq8_M [fo zq6_ok, fo zq14_ok] Try.call68 Try.func68 rfl Try.results68 Try.ntmps68 ?_
 rintro t y cx G hm
 have hm : zq8 t = some y := hm
 unfold zq8 at hm
 refine rg G ?_
 obtain ⟨r, h, hm⟩ := obind hm
 refine jn hm (fun v => ⟨[(2, dV v)], [], 32⟩) (fun v hm => ?_) ?_
 ·rcases bf hm with ⟨hb, hm⟩ | ⟨hb, hm⟩
  ·obtain ⟨r1, h1, hm⟩ := obind hm
   refine re G (hC 2 (zq6_c h) (hO 3 (.b true) (hP hb (hC 5 (zq14_c h1) h0)))) ?_
   exact wJ G hm
  ·refine re G (hC 2 (zq6_c h) (hO 3 (.b false) (hP hb h0))) ?_
   exact wJ G hm
 rintro v hm
 cases hm
 exact rt [] []
noncomputable def zq17_M : MS (Timetable × Flow) Bool := ⟨.x .r .r, fun x => zq17 x.1 x.2, fun y => dV y, fun _ => [], fun _ _ => []⟩
theorem zq17_c {t f y} (hm : zq17 t f = some y) : zq17_M.C (t, f) y := zq17_M.c (t, f) hm
theorem zq17_ok : FnOK Try.prog tJ 116 zq17_M.S := by
 refine fm tt zq17_M [fo zq20_ok, fo zq7_ok, fo zq28_ok] Try.call116 Try.func116 rfl Try.results116 Try.ntmps116 ?_
 rintro ⟨t, f⟩ y cx G hm
 have hm : zq17 t f = some y := hm
 unfold zq17 at hm
 refine rg G ?_
 obtain ⟨r, h, hm⟩ := obind hm
 refine jn hm (fun v => ⟨[(4, dV v)], [], 32⟩) (fun v hm => ?_) ?_
 ·rcases bf hm with ⟨hb, hm⟩ | ⟨hb, hm⟩
  ·obtain ⟨r1, h1, hm⟩ := obind hm
   rcases bf hm with ⟨hb1, hm⟩ | ⟨hb1, hm⟩
   ·rcases bf hm with ⟨hb2, hm⟩ | ⟨hb2, hm⟩
    ·obtain ⟨r2, h2, hm⟩ := obind hm
     rcases bf hm with ⟨hb3, hm⟩ | ⟨hb3, hm⟩
     ·obtain ⟨r3, h3, hm⟩ := obind hm
      refine re G (hC 4 (zq20_c h) (hO 5 (.b true) (hP hb (hC 10 (zq20_c h1) (hO 12 (.b true) (hP hb1 (hO 19 (.b true) (hP hb2 (hC 22 (zq7_c h2) (hO 24 (.b true) (hP hb3 (hC 27 (zq28_c h3) h0)))))))))))) ?_
      exact wJ G hm
     ·refine re G (hC 4 (zq20_c h) (hO 5 (.b true) (hP hb (hC 10 (zq20_c h1) (hO 12 (.b true) (hP hb1 (hO 19 (.b true) (hP hb2 (hC 22 (zq7_c h2) (hO 24 (.b false) (hP hb3 h0))))))))))) ?_
      exact wJ G hm
    ·refine re G (hC 4 (zq20_c h) (hO 5 (.b true) (hP hb (hC 10 (zq20_c h1) (hO 12 (.b true) (hP hb1 (hO 19 (.b false) (hP hb2 h0)))))))) ?_
     exact wJ G hm
   ·refine re G (hC 4 (zq20_c h) (hO 5 (.b true) (hP hb (hC 10 (zq20_c h1) (hO 12 (.b false) (hP hb1 h0)))))) ?_
    exact wJ G hm
  ·refine re G (hC 4 (zq20_c h) (hO 5 (.b false) (hP hb h0))) ?_
   exact wJ G hm
 rintro v hm
 cases hm
 exact rt [] []
noncomputable def zq12_M : MS (Timetable × (List Flow)) Bool := ⟨.x .r .r, fun x => zq12 x.1 x.2, fun y => dV y, fun _ => [], fun _ _ => []⟩
theorem zq12_c {t list y} (hm : zq12 t list = some y) : zq12_M.C (t, list) y := zq12_M.c (t, list) hm
theorem zq12_ok : FnOK Try.prog tJ 112 zq12_M.S := by
 refine fm tt zq12_M [fo zq17_ok] Try.call112 Try.func112 rfl Try.results112 Try.ntmps112 ?_
 rintro ⟨t, list⟩ y cx G hm
 have hm : zq12 t list = some y := hm
 unfold zq12 at hm
 refine rg G (Ok_seq (rs G (hN 1 list h0) ?_))
 refine cd hm (fun hm => ?_) (fun hm => ?_)
 ·refine rg G ?_
  cases hm
  exact rt [] []
 ·refine X_skip (thN (Ok_seq (rs G (hN 1 list h0) ?_)))
  refine tF hm (fun _ => ⟨[], [], 32⟩) (fun v2 hr hm => ?_) ?_
  ·refine Ok_block (lp G hm (fun v => ⟨[(1, dV list), (2, .ref 16 0), (10, dV list), (11, dV (list.length : Int)), (12, dV v)], [bX 16 35 [dV t.Network.Stops, dV t.Network.Lines, dV t.Trips]], 48⟩) ?_)
   rintro v r0 hb hm
   rw [zq12_L1] at hm
   refine rg G (Ok_seq (cd hm (fun hm => ?_) (fun hm => ?_)))
   ·refine X_skip (thN (Ok_seq (Ok_block ?_)))
    obtain ⟨e, h, hm⟩ := obind hm
    refine rs G (hD 1 h h0) ?_
    obtain ⟨r1, h3, hm⟩ := obind hm
    refine jn hm (fun v1 => ⟨[(1, dV list), (2, .ref 16 0), (10, dV list), (11, dV (list.length : Int)), (12, dV v), (35, dV v1)], [bX 16 35 [dV t.Network.Stops, dV t.Network.Lines, dV t.Trips]], 48⟩) (fun v1 hm => ?_) ?_
    ·rcases bf hm with ⟨hb1, hm⟩ | ⟨hb1, hm⟩
     ·refine de G [] (hC 2 (zq17_c h3) (hO 4 (.b true) (hP hb1 h0))) ?_
      exact wJ G hm
     ·rcases bf hm with ⟨hb2, hm⟩ | ⟨hb2, hm⟩
      ·obtain ⟨e2, h4, hm⟩ := obind hm
       refine de G [] (hC 2 (zq17_c h3) (hO 4 (.b false) (hP hb1 (hO 7 (.b true) (hP hb2 (hD 13 h4 h0)))))) ?_
       exact wJ G hm
      ·refine de G [] (hC 2 (zq17_c h3) (hO 4 (.b false) (hP hb1 (hO 7 (.b false) (hP hb2 h0))))) ?_
       exact wJ G hm
    rintro v1 hm
    refine cd hm (fun hm => ?_) (fun hm => ?_)
    ·refine rg G ?_
     have hm := eL hm hb hr
     cases hm
     exact rt [] []
    ·exact X_skip (ibN (thN (rh G (wL G hm))))
   ·exact Ok_exit (thE (thE (ibE (wE G hm hb))))
  rintro ⟨⟩ hm s hw
  refine thN (Ok_weak hw ?_)
  refine rg G ?_
  cases hm
  exact rt [] []
noncomputable def zq5_M : MS (Timetable × (List Flow)) Bool := ⟨.x .r .r, fun x => zq5 x.1 x.2, fun y => dV y, fun _ => [], fun _ _ => []⟩
theorem zq5_c {t list y} (hm : zq5 t list = some y) : zq5_M.C (t, list) y := zq5_M.c (t, list) hm
theorem zq5_ok : FnOK Try.prog tJ 45 zq5_M.S := by
 refine fm tt zq5_M [fo zq8_ok, fo zq12_ok] Try.call45 Try.func45 rfl Try.results45 Try.ntmps45 ?_
 rintro ⟨t, list⟩ y cx G hm
 have hm : zq5 t list = some y := hm
 unfold zq5 at hm
 refine rg G ?_
 obtain ⟨r, h, hm⟩ := obind hm
 refine jn hm (fun v => ⟨[(4, dV v)], [], 32⟩) (fun v hm => ?_) ?_
 ·rcases bf hm with ⟨hb, hm⟩ | ⟨hb, hm⟩
  ·obtain ⟨r1, h1, hm⟩ := obind hm
   refine re G (hC 1 (zq8_c h) (hO 2 (.b true) (hP hb (hC 5 (zq12_c h1) h0)))) ?_
   exact wJ G hm
  ·refine re G (hC 1 (zq8_c h) (hO 2 (.b false) (hP hb h0))) ?_
   exact wJ G hm
 rintro v hm
 cases hm
 exact rt [] []
noncomputable def zq11_M : MS (Timetable × (List Flow) × Int) Bool := ⟨.x .r (.x .r .r), fun x => zq11 x.1 x.2.1 x.2.2, fun y => dV y, fun _ => [], fun _ _ => []⟩
theorem zq11_c {t list capacity y} (hm : zq11 t list capacity = some y) : zq11_M.C (t, list, capacity) y := zq11_M.c (t, list, capacity) hm
theorem zq11_ok : FnOK Try.prog tJ 103 zq11_M.S := by
 refine fm tt zq11_M [fo zq5_ok, fo zq28_ok] Try.call103 Try.func103 rfl Try.results103 Try.ntmps103 ?_
 rintro ⟨t, list, capacity⟩ y cx G hm
 have hm : zq11 t list capacity = some y := hm
 unfold zq11 at hm
 refine rg G ?_
 obtain ⟨r, h, hm⟩ := obind hm
 refine jn hm (fun v => ⟨[(6, dV v)], [], 32⟩) (fun v hm => ?_) ?_
 ·rcases bf hm with ⟨hb, hm⟩ | ⟨hb, hm⟩
  ·obtain ⟨r1, h1, hm⟩ := obind hm
   refine re G (hC 2 (zq5_c h) (hO 3 (.b true) (hP hb (hC 5 (zq28_c h1) h0)))) ?_
   exact wJ G hm
  ·refine re G (hC 2 (zq5_c h) (hO 3 (.b false) (hP hb h0))) ?_
   exact wJ G hm
 rintro v hm
 cases hm
 exact rt [] []
noncomputable def zq23_M : MS (Timetable × Trip) Line := ⟨.x .r .r, fun x => zq23 x.1 x.2, fun y => dV y, fun _ => [], fun _ _ => []⟩
theorem zq23_c {t x y} (hm : zq23 t x = some y) : zq23_M.C (t, x) y := zq23_M.c (t, x) hm
theorem zq23_ok : FnOK Try.prog tJ 165 zq23_M.S := by
 refine fm tt zq23_M [] Try.call165 Try.func165 rfl Try.results165 Try.ntmps165 ?_
 rintro ⟨t, x⟩ y cx G hm
 have hm : zq23 t x = some y := hm
 unfold zq23 at hm
 refine rg G ?_
 obtain ⟨e, h, hm⟩ := obind hm
 refine rs G (hD 5 h h0) ?_
 cases hm
 exact rt [] []
noncomputable def zq26_M : MS (Timetable × Trip) ((List Int)) := ⟨.x .r .r, fun x => zq26 x.1 x.2, fun _ => .own 0, fun y => [arO 3 y], fun _ _ => []⟩
theorem zq26_c {t x y} (hm : zq26 t x = some y) : zq26_M.C (t, x) y := zq26_M.c (t, x) hm
theorem zq26_ok : FnOK Try.prog tJ 171 zq26_M.S := by
 refine fm tt zq26_M [fo zq23_ok] Try.call171 Try.func171 rfl Try.results171 Try.ntmps171 ?_
 rintro ⟨t, x⟩ y cx G hm
 have hm : zq26 t x = some y := hm
 unfold zq26 at hm
 refine rg G (rg G (Ok_seq ?_))
 obtain ⟨r, h, hm⟩ := obind hm
 refine rs G (hC 2 (zq23_c h) (hN 4 r.Runs h0)) ?_
 refine tl hm (fun r2 => ⟨[(5, .own 16)], [aX 16 3 r2], 48⟩) (fun r2 hm => ?_) ?_
 ·refine Ok_block (lp G hm (fun (v, r1) => ⟨[(5, .own 16), (14, dV r.Runs), (15, dV (r.Runs.length : Int)), (16, dV v)], [aX 16 3 r1], 48⟩) ?_)
  rintro ⟨v, r1⟩ r0 hb hm
  rw [zq26_L1] at hm
  refine rg G (Ok_seq (cd hm (fun hm => ?_) (fun hm => ?_)))
  ·refine X_skip (thN (Ok_seq (Ok_block ?_)))
   obtain ⟨e, h1, hm⟩ := obind hm
   refine rs G (hD 1 h1 h0) ?_
   obtain ⟨e1, h2, hm⟩ := obind hm
   obtain ⟨u, h3, hm⟩ := obind hm
   refine re G (hD 3 h2 (hE 4 h2 (hA 8 8 h3 h0))) ?_
   exact ibN (thN (rh G (wL G hm)))
  ·exact Ok_exit (thE (thE (ibE (wD G hm hb))))
 rintro r2 hm s hw
 refine thN (Ok_weak hw ?_)
 refine rg G ?_
 cases hm
 exact rt [16] []
noncomputable def zq1_M : MS Int Bool := ⟨.r, zq1, fun y => dV y, fun _ => [], fun _ _ => []⟩
theorem zq1_c {x y} (hm : zq1 x = some y) : zq1_M.C x y := zq1_M.c x hm
theorem zq1_ok : FnOK Try.prog tJ 218 zq1_M.S := by
 refine fm tt zq1_M [] Try.call218 Try.func218 rfl Try.results218 Try.ntmps218 ?_
 rintro x y cx G hm
 have hm : zq1 x = some y := hm
 unfold zq1 at hm
 refine rg G (rg G ?_)
 cases hm
 exact rt [] []
noncomputable def zq0_M : MS (Int × Int) Int := ⟨.x .r .r, fun x => zq0 x.1 x.2, fun y => dV y, fun _ => [], fun _ _ => []⟩
theorem zq0_c {x y_ y} (hm : zq0 x y_ = some y) : zq0_M.C (x, y_) y := zq0_M.c (x, y_) hm
theorem zq0_ok : FnOK Try.prog tJ 174 zq0_M.S := by
 refine fm tt zq0_M [fo zq1_ok] Try.call174 Try.func174 rfl Try.results174 Try.ntmps174 ?_
 rintro ⟨x, y_⟩ y cx G hm
 have hm : zq0 x y_ = some y := hm
 unfold zq0 at hm
 refine rg G ?_
 obtain ⟨r, h, hm⟩ := obind hm
 refine rs G (hC 1 (zq1_c h) h0) ?_
 obtain ⟨r1, h1, hm⟩ := obind hm
 refine rs G (hC 1 (zq1_c h1) h0) ?_
 refine Ok_seq (rg G (cd hm (fun hm => ?_) (fun hm => ?_)))
 ·refine Ok_seq (rg G (cd hm (fun hm => ?_) (fun hm => ?_)))
  ·refine rg G ?_
   cases hm
   exact rt [] []
  ·refine X_skip (thN (rg G ?_))
   cases hm
   exact rt [] []
 ·refine X_skip (thN (Ok_seq (rg G (cd hm (fun hm => ?_) (fun hm => ?_)))))
  ·refine rg G ?_
   cases hm
   exact rt [] []
  ·refine X_skip (thN (Ok_seq (rg G (cd hm (fun hm => ?_) (fun hm => ?_)))))
   ·refine rg G ?_
    cases hm
    exact rt [] []
   ·refine X_skip (thN (Ok_seq (rg G (cd hm (fun hm => ?_) (fun hm => ?_)))))
    ·refine rg G ?_
     cases hm
     exact rt [] []
    ·refine X_skip (thN (rg G ?_))
     cases hm
     exact rt [] []
noncomputable def zq25_M : MS (service × service) Int := ⟨.x .r .r, fun x => zq25 x.1 x.2, fun y => dV y, fun _ => [], fun _ _ => []⟩
theorem zq25_c {a b y} (hm : zq25 a b = some y) : zq25_M.C (a, b) y := zq25_M.c (a, b) hm
theorem zq25_ok : FnOK Try.prog tJ 173 zq25_M.S := by
 refine fm tt zq25_M [fo zq0_ok] Try.call173 Try.func173 rfl Try.results173 Try.ntmps173 ?_
 rintro ⟨a, b⟩ y cx G hm
 have hm : zq25 a b = some y := hm
 unfold zq25 at hm
 refine rg G ?_
 obtain ⟨r, h, hm⟩ := obind hm
 refine rs G (hC 4 (zq0_c h) h0) ?_
 cases hm
 exact rt [] []
noncomputable def zq82_M : MS ((List service) × Int × Int) ((List service)) := ⟨⟨[.sl, .rd, .rd, .fn 173 []], fun x => [.sc undef, Enc.e x.2.1, Enc.e x.2.2, .agg []], fun x => [arO 162 x.1], 1, 1, fun _ => rfl, fun _ => rfl, rfl, (by
  rintro ⟨a0, a1, a2⟩ ⟨b0, b1, b2⟩ h hO
  have q0 : a0 = b0 := Enc.inj _ _ (congrArg (fun l => D.sl 4 (obL l 0)) hO)
  have q1 : a1 = b1 := qI 1 h
  have q2 : a2 = b2 := qI 2 h
  subst q0; subst q1; subst q2; rfl)⟩, fun x => zq82 x.1 x.2.1 x.2.2, fun _ => .tup [], fun _ => [], fun _ y => [arO 162 y]⟩
theorem zq82_c {data a b y} (hm : zq82 data a b = some y) : zq82_M.C (data, a, b) y := zq82_M.c (data, a, b) hm
theorem zq82_ok : FnOK Try.prog tJ 247 zq82_M.S := by
 refine fm tt zq82_M [fo zq25_ok] Try.call247 Try.func247 rfl Try.results247 Try.ntmps247 ?_
 rintro ⟨data, a, b⟩ y cx G hm
 have hm : zq82 data a b = some y := hm
 obtain ⟨cmp, hf_cmp⟩ : ∃ q, (fun (z0 : service) (z1 : service) => zq25 z0 z1) = q := ⟨_, rfl⟩
 have hm : zq81 data a b cmp = some y := by rw [← hf_cmp]; exact hm
 unfold zq81 at hm
 refine rg G (Ok_block (lp G hm (fun (v, data1) => ⟨[(0, .own 0), (1, dV a), (2, dV b), (3, .fn 173 []), (8, dV v)], [aX 0 162 data1], 48⟩) ?_))
 rintro ⟨v, data1⟩ r0 hb hm
 rw [zq81_L2] at hm
 refine Ok_seq (rg G (cd hm (fun hm => ?_) (fun hm => ?_)))
 ·refine X_skip (thN (Ok_seq (Ok_block (rg G (tl hm (fun data3 => ⟨[(0, .own 0), (1, dV a), (2, dV b), (3, .fn 173 []), (8, dV v)], [aX 0 162 data3], 48⟩) (fun data3 hm => ?_) ?_)))))
  ·refine Ok_block (lp G hm (fun (v1, data2) => ⟨[(0, .own 0), (1, dV a), (2, dV b), (3, .fn 173 []), (8, dV v), (9, dV v1)], [aX 0 162 data2], 48⟩) ?_)
   rintro ⟨v1, data2⟩ r0 hb1 hm
   rw [zq81_L1] at hm
   refine Ok_seq (jn hm (fun v2 => ⟨[(0, .own 0), (1, dV a), (2, dV b), (3, .fn 173 []), (8, dV v), (9, dV v1), (34, dV v2)], [aX 0 162 data2], 48⟩) (fun v2 hm => ?_) ?_)
   ·rcases bf hm with ⟨hb2, hm⟩ | ⟨hb2, hm⟩
    ·obtain ⟨e2, h3, hm⟩ := obind hm
     obtain ⟨e3, h4, hm⟩ := obind hm
     obtain ⟨r1, h5, hm⟩ := obind hm
     have h5 : zq25 e2 e3 = some r1 := by rw [← hf_cmp] at h5; exact h5
     refine de G [(14, [])] (hO 3 (.b true) (hP hb2 (hD 7 h3 (hE 8 h3 (hD 12 h4 (hE 13 h4 (hC 14 (zq25_c h5) h0))))))) ?_
     exact wJ G hm
    ·refine de G [(14, [])] (hO 3 (.b false) (hP hb2 h0)) ?_
     exact wJ G hm
   rintro v2 hm
   refine cd hm (fun hm => ?_) (fun hm => ?_)
   ·refine X_skip (thN (Ok_seq (Ok_block ?_)))
    obtain ⟨e8, h10, hm⟩ := obind hm
    obtain ⟨e9, h11, hm⟩ := obind hm
    obtain ⟨e10, h12, hm⟩ := obind hm
    obtain ⟨e11, h13, hm⟩ := obind hm
    refine de G [(15, [0]), (17, [0])] (hD 8 h10 (hE 9 h10 (hD 12 h11 (hE 13 h11 (hD 14 h12 (hS 15 h12 e8 (hD 16 h13 (hS 17 h13 e9 h0)))))))) ?_
    exact ibN (thN (rh G (wL G hm)))
   ·exact Ok_exit (thE (thE (ibE (wD G hm hb1))))
  rintro data3 hm s hw
  refine ibN (thN (Ok_weak hw ?_))
  exact rh G (wL G hm)
 ·have hm := eD hm hb
  refine Ok_exit (thE (thE (ibE ?_)))
  cases hm
  exact fN [] []
noncomputable def zq87_M : MS ((List service) × Int × Int × Int) ((List service)) := ⟨⟨[.sl, .rd, .rd, .rd, .fn 173 []], fun x => [.sc undef, Enc.e x.2.1, Enc.e x.2.2.1, Enc.e x.2.2.2, .agg []], fun x => [arO 162 x.1], 1, 1, fun _ => rfl, fun _ => rfl, rfl, (by
  rintro ⟨a0, a1, a2, a3⟩ ⟨b0, b1, b2, b3⟩ h hO
  have q0 : a0 = b0 := Enc.inj _ _ (congrArg (fun l => D.sl 4 (obL l 0)) hO)
  have q1 : a1 = b1 := qI 1 h
  have q2 : a2 = b2 := qI 2 h
  have q3 : a3 = b3 := qI 3 h
  subst q0; subst q1; subst q2; subst q3; rfl)⟩, fun x => zq87 x.1 x.2.1 x.2.2.1 x.2.2.2, fun _ => .tup [], fun _ => [], fun _ y => [arO 162 y]⟩
theorem zq87_c {data a b n y} (hm : zq87 data a b n = some y) : zq87_M.C (data, a, b, n) y := zq87_M.c (data, a, b, n) hm
theorem zq87_ok : FnOK Try.prog tJ 256 zq87_M.S := by
 refine fm tt zq87_M [] Try.call256 Try.func256 rfl Try.results256 Try.ntmps256 ?_
 rintro ⟨data, a, b, n⟩ y cx G hm
 have hm : zq87 data a b n = some y := hm
 obtain ⟨cmp, hf_cmp⟩ : ∃ q, (fun (z0 : service) (z1 : service) => zq25 z0 z1) = q := ⟨_, rfl⟩
 have hm : zq86 data a b n cmp = some y := by rw [← hf_cmp]; exact hm
 unfold zq86 at hm
 refine rg G (Ok_block (lp G hm (fun (v, data1) => ⟨[(0, .own 0), (1, dV a), (2, dV b), (3, dV n), (4, .fn 173 []), (10, dV v)], [aX 0 162 data1], 48⟩) ?_))
 rintro ⟨v, data1⟩ r0 hb hm
 rw [zq86_L1] at hm
 refine Ok_seq (rg G (cd hm (fun hm => ?_) (fun hm => ?_)))
 ·refine X_skip (thN (Ok_seq (Ok_block ?_)))
  obtain ⟨e4, h4, hm⟩ := obind hm
  obtain ⟨e5, h5, hm⟩ := obind hm
  obtain ⟨e6, h6, hm⟩ := obind hm
  obtain ⟨e7, h7, hm⟩ := obind hm
  refine de G [(21, [0]), (23, [0])] (hD 12 h4 (hE 13 h4 (hD 18 h5 (hE 19 h5 (hD 20 h6 (hS 21 h6 e4 (hD 22 h7 (hS 23 h7 e5 h0)))))))) ?_
  exact ibN (thN (rh G (wL G hm)))
 ·have hm := eD hm hb
  refine Ok_exit (thE (thE (ibE ?_)))
  cases hm
  exact fN [] []
noncomputable def zq84_M : MS ((List service) × Int × Int × Int) ((List service)) := ⟨⟨[.sl, .rd, .rd, .rd, .fn 173 []], fun x => [.sc undef, Enc.e x.2.1, Enc.e x.2.2.1, Enc.e x.2.2.2, .agg []], fun x => [arO 162 x.1], 1, 1, fun _ => rfl, fun _ => rfl, rfl, (by
  rintro ⟨a0, a1, a2, a3⟩ ⟨b0, b1, b2, b3⟩ h hO
  have q0 : a0 = b0 := Enc.inj _ _ (congrArg (fun l => D.sl 4 (obL l 0)) hO)
  have q1 : a1 = b1 := qI 1 h
  have q2 : a2 = b2 := qI 2 h
  have q3 : a3 = b3 := qI 3 h
  subst q0; subst q1; subst q2; subst q3; rfl)⟩, fun x => zq84 x.1 x.2.1 x.2.2.1 x.2.2.2, fun _ => .tup [], fun _ => [], fun _ y => [arO 162 y]⟩
theorem zq84_c {data a m b y} (hm : zq84 data a m b = some y) : zq84_M.C (data, a, m, b) y := zq84_M.c (data, a, m, b) hm
theorem zq84_ok : FnOK Try.prog tJ 254 zq84_M.S := by
 refine fm tt zq84_M [fo zq87_ok] Try.call254 Try.func254 rfl Try.results254 Try.ntmps254 ?_
 rintro ⟨data, a, m, b⟩ y cx G hm
 have hm : zq84 data a m b = some y := hm
 obtain ⟨cmp, hf_cmp⟩ : ∃ q, (fun (z0 : service) (z1 : service) => zq25 z0 z1) = q := ⟨_, rfl⟩
 have hm : zq83 data a m b cmp = some y := by rw [← hf_cmp]; exact hm
 unfold zq83 at hm
 refine rg G (rg G (jn hm (fun (v2, data2) => ⟨[(0, .own 0), (2, dV m), (4, .fn 173 []), (10, dV v2)], [aX 0 162 data2], 48⟩) (fun vv hm => ?_) ?_))
 ·refine Ok_block (lp G hm (fun (v, v1, data1) => ⟨[(0, .own 0), (2, dV m), (4, .fn 173 []), (10, dV v), (11, dV v1)], [aX 0 162 data1], 48⟩) ?_)
  rintro ⟨v, v1, data1⟩ r0 hb hm
  rw [zq83_L1] at hm
  refine Ok_seq (rg G (cd hm (fun hm => ?_) (fun hm => ?_)))
  ·refine X_skip (thN (Ok_block (rg G (cd hm (fun hm => ?_) (fun hm => ?_)))))
   ·obtain ⟨r, h, hm⟩ := obind hm
    have h : zq87 data1 (w64 (m - v)) m v1 = some r := by rw [← hf_cmp] at h; exact h
    refine rs G (hC 7 (zq87_c h) h0) ?_
    exact rh G (ibN (wL G hm))
   ·obtain ⟨r1, h1, hm⟩ := obind hm
    have h1 : zq87 data1 (w64 (m - v)) (w64 ((w64 (m + v1)) - v)) v = some r1 := by rw [← hf_cmp] at h1; exact h1
    refine rs G (hC 11 (zq87_c h1) h0) ?_
    exact rh G (ibN (wL G hm))
  ·exact Ok_exit (thE (thE (ibE (wD G hm hb))))
 rintro ⟨v2, data2⟩ hm
 obtain ⟨r2, h2, hm⟩ := obind hm
 have h2 : zq87 data2 (w64 (m - v2)) m v2 = some r2 := by rw [← hf_cmp] at h2; exact h2
 refine re G (hC 7 (zq87_c h2) h0) ?_
 cases hm
 exact fN [] []
noncomputable def zq88_MR (rec_ : (List service) → Int → Int → Int → Option ((List service))) : MS ((List service) × Int × Int × Int) ((List service)) := ⟨⟨[.sl, .rd, .rd, .rd, .fn 173 []], fun x => [.sc undef, Enc.e x.2.1, Enc.e x.2.2.1, Enc.e x.2.2.2, .agg []], fun x => [arO 162 x.1], 1, 1, fun _ => rfl, fun _ => rfl, rfl, (by
  rintro ⟨a0, a1, a2, a3⟩ ⟨b0, b1, b2, b3⟩ h hO
  have q0 : a0 = b0 := Enc.inj _ _ (congrArg (fun l => D.sl 4 (obL l 0)) hO)
  have q1 : a1 = b1 := qI 1 h
  have q2 : a2 = b2 := qI 2 h
  have q3 : a3 = b3 := qI 3 h
  subst q0; subst q1; subst q2; subst q3; rfl)⟩, fun x => rec_ x.1 x.2.1 x.2.2.1 x.2.2.2, fun _ => .tup [], fun _ => [], fun _ y => [arO 162 y]⟩
noncomputable def zq88_M : MS ((List service) × Int × Int × Int) ((List service)) := zq88_MR zq88
theorem zq88_c {data a m b y} (hm : zq88 data a m b = some y) : zq88_M.C (data, a, m, b) y := zq88_M.c (data, a, m, b) hm
theorem zq88_cR {rec_ : (List service) → Int → Int → Int → Option ((List service))} {data a m b y} (hm : rec_ data a m b = some y) : (zq88_MR rec_).C (data, a, m, b) y := (zq88_MR rec_).c (data, a, m, b) hm
theorem zq88_okF {rec_ : (List service) → Int → Int → Int → Option ((List service))} (hrec : FnOK Try.prog tJ 248 (zq88_MR rec_).S) : FnOK Try.prog tJ 248 (zq88_MR (zq88_F rec_)).S := by
 refine fm tt (zq88_MR (zq88_F rec_)) [fo hrec, fo zq25_ok, fo zq84_ok] Try.call248 Try.func248 rfl Try.results248 Try.ntmps248 ?_
 rintro ⟨data, a, m, b⟩ y cx G hm
 have hm : zq88_F rec_ data a m b = some y := hm
 unfold zq88_F at hm
 refine Ok_seq (rg G (cd hm (fun hm => ?_) (fun hm => ?_)))
 ·refine rg G (rg G (jn hm (fun j1 => ⟨[(0, .own 0), (1, dV a), (4, .fn 173 []), (10, dV j1)], [aX 0 162 data], 48⟩) (fun j1 hm => ?_) ?_))
  ·refine Ok_block (lp G hm (fun (j, h) => ⟨[(0, .own 0), (1, dV a), (4, .fn 173 []), (10, dV j), (11, dV h)], [aX 0 162 data], 48⟩) ?_)
   rintro ⟨j, h⟩ r0 hb hm
   rw [zq88_L1] at hm
   refine Ok_seq (rg G (cd hm (fun hm => ?_) (fun hm => ?_)))
   ·refine X_skip (thN (Ok_block ?_))
    obtain ⟨u, h1, hm⟩ := obind hm
    refine rs G (hK h1 h0) ?_
    obtain ⟨e2, h5, hm⟩ := obind hm
    obtain ⟨e3, h6, hm⟩ := obind hm
    obtain ⟨r1, h7, hm⟩ := obind hm
    refine ds G [(9, [])] (hD 3 h5 (hE 4 h5 (hD 7 h6 (hE 8 h6 (hC 9 (zq25_c h7) h0))))) ?_
    refine cd hm (fun hm => ?_) (fun hm => ?_)
    ·exact rh G (ibN (wL G hm))
    ·exact rh G (ibN (wL G hm))
   ·exact Ok_exit (thE (thE (ibE (wD G hm hb))))
  rintro j1 hm
  refine Ok_seq (rg G (tl hm (fun data2 => ⟨[(0, .own 0), (4, .fn 173 [])], [aX 0 162 data2], 48⟩) (fun data2 hm => ?_) ?_))
  ·refine Ok_block (lp G hm (fun (mid, data1) => ⟨[(0, .own 0), (4, .fn 173 []), (10, dV j1), (13, dV mid)], [aX 0 162 data1], 48⟩) ?_)
   rintro ⟨mid, data1⟩ r0 hb1 hm
   rw [zq88_L2] at hm
   refine Ok_seq (rg G (cd hm (fun hm => ?_) (fun hm => ?_)))
   ·refine X_skip (thN (Ok_seq (Ok_block ?_)))
    obtain ⟨e8, h12, hm⟩ := obind hm
    obtain ⟨e9, h13, hm⟩ := obind hm
    obtain ⟨e10, h14, hm⟩ := obind hm
    obtain ⟨e11, h15, hm⟩ := obind hm
    refine de G [(15, [0]), (17, [0])] (hD 8 h12 (hE 9 h12 (hD 12 h13 (hE 13 h13 (hD 14 h14 (hS 15 h14 e8 (hD 16 h15 (hS 17 h15 e9 h0)))))))) ?_
    exact ibN (thN (rh G (wL G hm)))
   ·exact Ok_exit (thE (thE (ibE (wD G hm hb1))))
  rintro data2 hm s hw
  refine thN (Ok_weak hw ?_)
  cases hm
  exact rt [] []
 ·refine X_skip (thN (Ok_seq (rg G (cd hm (fun hm => ?_) (fun hm => ?_)))))
  ·refine rg G (rg G (jn hm (fun n1 => ⟨[(0, .own 0), (2, dV m), (4, .fn 173 []), (14, dV n1)], [aX 0 162 data], 48⟩) (fun n1 hm => ?_) ?_))
   ·refine Ok_block (lp G hm (fun (n, start) => ⟨[(0, .own 0), (2, dV m), (4, .fn 173 []), (14, dV n), (15, dV start)], [aX 0 162 data], 48⟩) ?_)
    rintro ⟨n, start⟩ r0 hb2 hm
    rw [zq88_L3] at hm
    refine Ok_seq (rg G (cd hm (fun hm => ?_) (fun hm => ?_)))
    ·refine X_skip (thN (Ok_block ?_))
     obtain ⟨u1, h16, hm⟩ := obind hm
     refine rs G (hK h16 h0) ?_
     obtain ⟨e14, h20, hm⟩ := obind hm
     obtain ⟨e15, h21, hm⟩ := obind hm
     obtain ⟨r3, h22, hm⟩ := obind hm
     refine ds G [(9, [])] (hD 3 h20 (hE 4 h20 (hD 7 h21 (hE 8 h21 (hC 9 (zq25_c h22) h0))))) ?_
     refine cd hm (fun hm => ?_) (fun hm => ?_)
     ·exact rh G (ibN (wL G hm))
     ·exact rh G (ibN (wL G hm))
    ·exact Ok_exit (thE (thE (ibE (wD G hm hb2))))
   rintro n1 hm
   refine Ok_seq (rg G (tl hm (fun data4 => ⟨[(0, .own 0), (4, .fn 173 [])], [aX 0 162 data4], 48⟩) (fun data4 hm => ?_) ?_))
   ·refine Ok_block (lp G hm (fun (p, data3) => ⟨[(0, .own 0), (4, .fn 173 []), (14, dV n1), (17, dV p)], [aX 0 162 data3], 48⟩) ?_)
    rintro ⟨p, data3⟩ r0 hb3 hm
    rw [zq88_L4] at hm
    refine Ok_seq (rg G (cd hm (fun hm => ?_) (fun hm => ?_)))
    ·refine X_skip (thN (Ok_seq (Ok_block ?_)))
     obtain ⟨e20, h27, hm⟩ := obind hm
     obtain ⟨e21, h28, hm⟩ := obind hm
     obtain ⟨e22, h29, hm⟩ := obind hm
     obtain ⟨e23, h30, hm⟩ := obind hm
     refine de G [(15, [0]), (17, [0])] (hD 8 h27 (hE 9 h27 (hD 12 h28 (hE 13 h28 (hD 14 h29 (hS 15 h29 e20 (hD 16 h30 (hS 17 h30 e21 h0)))))))) ?_
     exact ibN (thN (rh G (wL G hm)))
    ·exact Ok_exit (thE (thE (ibE (wD G hm hb3))))
   rintro data4 hm s1 hw1
   refine thN (Ok_weak hw1 ?_)
   cases hm
   exact rt [] []
  ·refine X_skip (thN ?_)
   obtain ⟨u2, h31, hm⟩ := obind hm
   refine rs G (hK h31 h0) ?_
   refine rg G (rg G (jn hm (fun (v, v1) => ⟨[(0, .own 0), (1, dV a), (2, dV m), (3, dV b), (4, .fn 173 []), (18, dV (w64 (((IntKind.u64.wrap ((w64 (a + b)))).fdiv (2 ^ (min (1 : Int).toNat (IntKind.u64).bits)))))), (19, dV (w64 ((w64 (((IntKind.u64.wrap ((w64 (a + b)))).fdiv (2 ^ (min (1 : Int).toNat (IntKind.u64).bits))))) + m))), (20, dV v), (21, dV v1)], [aX 0 162 data], 48⟩) (fun vv hm => ?_) ?_))
   ·refine rg G (cd hm (fun hm => ?_) (fun hm => ?_))
    ·exact rg G (rh G (wJ G hm))
    ·exact rg G (rh G (wJ G hm))
   rintro ⟨v, v1⟩ hm
   refine rg G (jn hm (fun v4 => ⟨[(0, .own 0), (1, dV a), (2, dV m), (3, dV b), (4, .fn 173 []), (18, dV (w64 (((IntKind.u64.wrap ((w64 (a + b)))).fdiv (2 ^ (min (1 : Int).toNat (IntKind.u64).bits)))))), (19, dV (w64 ((w64 (((IntKind.u64.wrap ((w64 (a + b)))).fdiv (2 ^ (min (1 : Int).toNat (IntKind.u64).bits))))) + m))), (20, dV v4)], [aX 0 162 data], 48⟩) (fun v4 hm => ?_) ?_)
   ·refine Ok_block (lp G hm (fun (v2, v3) => ⟨[(0, .own 0), (1, dV a), (2, dV m), (3, dV b), (4, .fn 173 []), (18, dV (w64 (((IntKind.u64.wrap ((w64 (a + b)))).fdiv (2 ^ (min (1 : Int).toNat (IntKind.u64).bits)))))), (19, dV (w64 ((w64 (((IntKind.u64.wrap ((w64 (a + b)))).fdiv (2 ^ (min (1 : Int).toNat (IntKind.u64).bits))))) + m))), (20, dV v2), (21, dV v3), (22, dV (w64 ((w64 ((w64 (((IntKind.u64.wrap ((w64 (a + b)))).fdiv (2 ^ (min (1 : Int).toNat (IntKind.u64).bits))))) + m)) - 1)))], [aX 0 162 data], 48⟩) ?_)
    rintro ⟨v2, v3⟩ r0 hb4 hm
    rw [zq88_L5] at hm
    refine Ok_seq (rg G (cd hm (fun hm => ?_) (fun hm => ?_)))
    ·refine X_skip (thN (Ok_block ?_))
     obtain ⟨u3, h32, hm⟩ := obind hm
     refine rs G (hK h32 h0) ?_
     obtain ⟨e26, h36, hm⟩ := obind hm
     obtain ⟨e27, h37, hm⟩ := obind hm
     obtain ⟨r5, h38, hm⟩ := obind hm
     refine ds G [(11, [])] (hD 5 h36 (hE 6 h36 (hD 9 h37 (hE 10 h37 (hC 11 (zq25_c h38) h0))))) ?_
     refine cd hm (fun hm => ?_) (fun hm => ?_)
     ·exact rh G (ibN (wL G hm))
     ·exact rh G (ibN (wL G hm))
    ·exact Ok_exit (thE (thE (ibE (wD G hm hb4))))
   rintro v4 hm
   refine rg G (jn hm (fun data5 => ⟨[(0, .own 0), (1, dV a), (3, dV b), (4, .fn 173 []), (18, dV (w64 (((IntKind.u64.wrap ((w64 (a + b)))).fdiv (2 ^ (min (1 : Int).toNat (IntKind.u64).bits)))))), (20, dV v4), (24, dV (w64 ((w64 ((w64 (((IntKind.u64.wrap ((w64 (a + b)))).fdiv (2 ^ (min (1 : Int).toNat (IntKind.u64).bits))))) + m)) - v4)))], [aX 0 162 data5], 48⟩) (fun data5 hm => ?_) ?_)
   ·refine jn hm (fun v5 => ⟨[(0, .own 0), (1, dV a), (2, dV m), (3, dV b), (4, .fn 173 []), (18, dV (w64 (((IntKind.u64.wrap ((w64 (a + b)))).fdiv (2 ^ (min (1 : Int).toNat (IntKind.u64).bits)))))), (20, dV v4), (24, dV (w64 ((w64 ((w64 (((IntKind.u64.wrap ((w64 (a + b)))).fdiv (2 ^ (min (1 : Int).toNat (IntKind.u64).bits))))) + m)) - v4))), (185, dV v5)], [aX 0 162 data], 48⟩) (fun v5 hm => ?_) ?_
    ·rcases bf hm with ⟨hb5, hm⟩ | ⟨hb5, hm⟩
     ·refine re G (hO 3 (.b true) (hP hb5 h0)) ?_
      exact wJ G hm
     ·refine re G (hO 3 (.b false) (hP hb5 h0)) ?_
      exact wJ G hm
    rintro v5 hm
    refine cd hm (fun hm => ?_) (fun hm => ?_)
    ·obtain ⟨r6, h39, hm⟩ := obind hm
     refine re G (hC 5 (zq84_c h39) h0) ?_
     exact wJ G hm
    ·exact X_skip (wJ G hm)
   rintro data5 hm
   refine jn hm (fun data6 => ⟨[(0, .own 0), (3, dV b), (4, .fn 173 []), (18, dV (w64 (((IntKind.u64.wrap ((w64 (a + b)))).fdiv (2 ^ (min (1 : Int).toNat (IntKind.u64).bits)))))), (24, dV (w64 ((w64 ((w64 (((IntKind.u64.wrap ((w64 (a + b)))).fdiv (2 ^ (min (1 : Int).toNat (IntKind.u64).bits))))) + m)) - v4)))], [aX 0 162 data6], 48⟩) (fun data6 hm => ?_) ?_
   ·refine jn hm (fun v6 => ⟨[(0, .own 0), (1, dV a), (3, dV b), (4, .fn 173 []), (18, dV (w64 (((IntKind.u64.wrap ((w64 (a + b)))).fdiv (2 ^ (min (1 : Int).toNat (IntKind.u64).bits)))))), (20, dV v4), (24, dV (w64 ((w64 ((w64 (((IntKind.u64.wrap ((w64 (a + b)))).fdiv (2 ^ (min (1 : Int).toNat (IntKind.u64).bits))))) + m)) - v4))), (199, dV v6)], [aX 0 162 data5], 48⟩) (fun v6 hm => ?_) ?_
    ·rcases bf hm with ⟨hb6, hm⟩ | ⟨hb6, hm⟩
     ·refine re G (hO 3 (.b true) (hP hb6 h0)) ?_
      exact wJ G hm
     ·refine re G (hO 3 (.b false) (hP hb6 h0)) ?_
      exact wJ G hm
    rintro v6 hm
    refine cd hm (fun hm => ?_) (fun hm => ?_)
    ·obtain ⟨r7, h40, hm⟩ := obind hm
     refine re G (hC 5 (zq88_cR h40) h0) ?_
     exact wJ G hm
    ·exact X_skip (wJ G hm)
   rintro data6 hm
   refine jn hm (fun v7 => ⟨[(0, .own 0), (3, dV b), (4, .fn 173 []), (18, dV (w64 (((IntKind.u64.wrap ((w64 (a + b)))).fdiv (2 ^ (min (1 : Int).toNat (IntKind.u64).bits)))))), (24, dV (w64 ((w64 ((w64 (((IntKind.u64.wrap ((w64 (a + b)))).fdiv (2 ^ (min (1 : Int).toNat (IntKind.u64).bits))))) + m)) - v4))), (213, dV v7)], [aX 0 162 data6], 48⟩) (fun v7 hm => ?_) ?_
   ·rcases bf hm with ⟨hb7, hm⟩ | ⟨hb7, hm⟩
    ·refine re G (hO 3 (.b true) (hP hb7 h0)) ?_
     exact wJ G hm
    ·refine re G (hO 3 (.b false) (hP hb7 h0)) ?_
     exact wJ G hm
   rintro v7 hm
   refine cd hm (fun hm => ?_) (fun hm => ?_)
   ·obtain ⟨r8, h41, hm⟩ := obind hm
    refine re G (hC 5 (zq88_cR h41) h0) ?_
    cases hm
    exact fN [] []
   ·refine X_skip ?_
    cases hm
    exact fN [] []
theorem zq88_okn : ∀ k, FnOK Try.prog tJ 248 (zq88_MR (zq88_k k)).S
 | 0 => ⟨fun args w => Try.call248 args w, fun vs w F ds obs κ hp => by obtain ⟨x, y, _, _, h⟩ := hp; cases h⟩
 | k + 1 => zq88_okF (zq88_okn k)
theorem zq88_ok : FnOK Try.prog tJ 248 zq88_M.S := zq88_okn 4294967296
noncomputable def zq85_M : MS ((List service) × Int) ((List service)) := ⟨⟨[.sl, .rd, .fn 173 []], fun x => [.sc undef, Enc.e x.2, .agg []], fun x => [arO 162 x.1], 1, 1, fun _ => rfl, fun _ => rfl, rfl, (by
  rintro ⟨a0, a1⟩ ⟨b0, b1⟩ h hO
  have q0 : a0 = b0 := Enc.inj _ _ (congrArg (fun l => D.sl 4 (obL l 0)) hO)
  have q1 : a1 = b1 := qI 1 h
  subst q0; subst q1; rfl)⟩, fun x => zq85 x.1 x.2, fun _ => .tup [], fun _ => [], fun _ y => [arO 162 y]⟩
theorem zq85_c {data n y} (hm : zq85 data n = some y) : zq85_M.C (data, n) y := zq85_M.c (data, n) hm
theorem zq85_ok : FnOK Try.prog tJ 217 zq85_M.S := by
 refine fm tt zq85_M [fo zq82_ok, fo zq88_ok] Try.call217 Try.func217 rfl Try.results217 Try.ntmps217 ?_
 rintro ⟨data, n⟩ y cx G hm
 have hm : zq85 data n = some y := hm
 unfold zq85 at hm
 refine rg G (rg G (jn hm (fun (v2, data2) => ⟨[(0, .own 0), (1, dV n), (2, .fn 173 []), (6, kV .i64 20), (7, dV v2)], [aX 0 162 data2], 48⟩) (fun vv1 hm => ?_) ?_))
 ·refine Ok_block (lp G hm (fun (v, v1, data1) => ⟨[(0, .own 0), (1, dV n), (2, .fn 173 []), (6, kV .i64 20), (7, dV v), (8, dV v1)], [aX 0 162 data1], 48⟩) ?_)
  rintro ⟨v, v1, data1⟩ r0 hb hm
  rw [zq85_L1] at hm
  refine Ok_seq (rg G (cd hm (fun hm => ?_) (fun hm => ?_)))
  ·refine X_skip (thN (Ok_block ?_))
   obtain ⟨r, h, hm⟩ := obind hm
   refine rs G (hC 4 (zq82_c h) h0) ?_
   exact rg G (rh G (ibN (wL G hm)))
  ·exact Ok_exit (thE (thE (ibE (wD G hm hb))))
 rintro ⟨v2, data2⟩ hm
 obtain ⟨r1, h1, hm⟩ := obind hm
 refine rs G (hC 4 (zq82_c h1) h0) ?_
 refine Ok_block (lp G hm (fun (m, data3) => ⟨[(0, .own 0), (1, dV n), (2, .fn 173 []), (6, dV m)], [aX 0 162 data3], 48⟩) ?_)
 rintro ⟨m, data3⟩ r0 hb1 hm
 rw [zq85_L3] at hm
 refine Ok_seq (rg G (cd hm (fun hm => ?_) (fun hm => ?_)))
 ·refine X_skip (thN (Ok_block (rg G (jn hm (fun (v5, data5) => ⟨[(0, .own 0), (1, dV n), (2, .fn 173 []), (6, dV m), (7, dV v5)], [aX 0 162 data5], 48⟩) (fun vv hm => ?_) ?_))))
  ·refine Ok_block (lp G hm (fun (v3, v4, data4) => ⟨[(0, .own 0), (1, dV n), (2, .fn 173 []), (6, dV m), (7, dV v3), (8, dV v4)], [aX 0 162 data4], 48⟩) ?_)
   rintro ⟨v3, v4, data4⟩ r0 hb2 hm
   rw [zq85_L2] at hm
   refine Ok_seq (rg G (cd hm (fun hm => ?_) (fun hm => ?_)))
   ·refine X_skip (thN (Ok_block ?_))
    obtain ⟨r2, h2, hm⟩ := obind hm
    refine rs G (hC 7 (zq88_c h2) h0) ?_
    exact rg G (rh G (ibN (wL G hm)))
   ·exact Ok_exit (thE (thE (ibE (wD G hm hb2))))
  rintro ⟨v5, data5⟩ hm
  refine jn hm (fun data6 => ⟨[(0, .own 0), (1, dV n), (2, .fn 173 []), (6, dV m)], [aX 0 162 data6], 48⟩) (fun data6 hm => ?_) ?_
  ·refine rg G (rg G (cd hm (fun hm => ?_) (fun hm => ?_)))
   ·obtain ⟨r3, h3, hm⟩ := obind hm
    refine re G (hC 5 (zq88_c h3) h0) ?_
    exact wJ G hm
   ·exact X_skip (wJ G hm)
  rintro data6 hm
  exact rh G (ibN (wL G hm))
 ·have hm := eD hm hb1
  refine Ok_exit (thE (thE (ibE ?_)))
  cases hm
  exact fN [] []
noncomputable def zq80_M : MS ((List service)) ((List service)) := ⟨⟨[.sl, .fn 173 []], fun x => [.sc undef, .agg []], fun x => [arO 162 x], 1, 1, fun _ => rfl, fun _ => rfl, rfl, (by
  rintro a0 b0 h hO
  have q0 : a0 = b0 := Enc.inj _ _ (congrArg (fun l => D.sl 4 (obL l 0)) hO)
  subst q0; rfl)⟩, zq80, fun _ => .tup [], fun _ => [], fun _ y => [arO 162 y]⟩
theorem zq80_c {x y} (hm : zq80 x = some y) : zq80_M.C x y := zq80_M.c x hm
theorem zq80_ok : FnOK Try.prog tJ 172 zq80_M.S := by
 refine fm tt zq80_M [fo zq85_ok] Try.call172 Try.func172 rfl Try.results172 Try.ntmps172 ?_
 rintro x y cx G hm
 have hm : zq80 x = some y := hm
 unfold zq80 at hm
 obtain ⟨r, h, hm⟩ := obind hm
 refine re G (hN 2 x (hC 4 (zq85_c h) h0)) ?_
 cases hm
 exact fN [] []
noncomputable def zq24_M : MS (Timetable × Flow) ((List service)) := ⟨.x .r .r, fun x => zq24 x.1 x.2, fun _ => .own 0, fun y => [arO 162 y], fun _ _ => []⟩
theorem zq24_c {t f y} (hm : zq24 t f = some y) : zq24_M.C (t, f) y := zq24_M.c (t, f) hm
theorem zq24_ok : FnOK Try.prog tJ 117 zq24_M.S := by
 refine fm tt zq24_M [fo zq23_ok, fo zq26_ok, fo zq77_ok, fo zq80_ok] Try.call117 Try.func117 rfl Try.results117 Try.ntmps117 ?_
 rintro ⟨t, f⟩ y cx G hm
 have hm : zq24 t f = some y := hm
 unfold zq24 at hm
 refine rg G (rg G (Ok_seq (rs G (hN 2 t.Trips h0) ?_)))
 refine tl hm (fun x2 => ⟨[(5, .own 16)], [aX 16 162 x2], 48⟩) (fun x2 hm => ?_) ?_
 ·refine Ok_block (lpP hm (fun (v, x) => ⟨[(2, .ref 16 0), (3, .ref 32 0), (5, .own 48), (13, dV t.Trips), (14, dV (t.Trips.length : Int)), (15, dV v)], [bX 16 35 [dV t.Network.Stops, dV t.Network.Lines, dV t.Trips], bX 32 82 [dV f.From, dV f.To, dV f.Time, dV f.Persons], aX 48 162 x], 80⟩) (Wk_J G.hL ⟨[(2, []), (3, []), (5, [.o 48]), (13, []), (14, []), (15, [])], [(16, 16, []), (32, 32, [])], [(48, 162, 4, [])], 80⟩ (by kernel_rfl)) ?_)
  rintro ⟨v, x⟩ r0 hb hm
  rw [zq24_L1] at hm
  refine rg G (Ok_seq (cd hm (fun hm => ?_) (fun hm => ?_)))
  ·refine X_skip (thN (jn hm (fun x1 => ⟨[(2, .ref 16 0), (3, .ref 32 0), (5, .own 48), (13, dV t.Trips), (14, dV (t.Trips.length : Int)), (15, dV v)], [bX 16 35 [dV t.Network.Stops, dV t.Network.Lines, dV t.Trips], bX 32 82 [dV f.From, dV f.To, dV f.Time, dV f.Persons], aX 48 162 x1], 80⟩) (fun x1 hm => ?_) ?_))
   ·refine Ok_block ?_
    obtain ⟨e, h, hm⟩ := obind hm
    refine rs G (hD 1 h h0) ?_
    obtain ⟨r2, h3, hm⟩ := obind hm
    obtain ⟨r3, h4, hm⟩ := obind hm
    refine ds G [] (hC 2 (zq23_c h3) (hC 6 (zq26_c h4) h0)) ?_
    obtain ⟨r6, h7, hm⟩ := obind hm
    obtain ⟨r7, h8, hm⟩ := obind hm
    refine ds G [] (hC 3 (zq77_c h7) (hC 7 (zq77_c h8) h0)) ?_
    refine jn hm (fun v1 => ⟨[(2, .ref 16 0), (3, .ref 32 0), (5, .own 48), (6, dV v), (9, .own 64), (10, dV r6), (11, dV r7), (13, dV t.Trips), (14, dV (t.Trips.length : Int)), (15, dV v), (50, dV v1)], [bX 16 35 [dV t.Network.Stops, dV t.Network.Lines, dV t.Trips], bX 32 82 [dV f.From, dV f.To, dV f.Time, dV f.Persons], aX 48 162 x, aX 64 3 r3], 96⟩) (fun v1 hm => ?_) ?_
    ·rcases bf hm with ⟨hb1, hm⟩ | ⟨hb1, hm⟩
     ·rcases bf hm with ⟨hb2, hm⟩ | ⟨hb2, hm⟩
      ·obtain ⟨e2, h10, hm⟩ := obind hm
       refine de G [] (hO 2 (.b true) (hP hb1 (hO 7 (.b true) (hP hb2 (hD 10 h10 (hE 11 h10 h0)))))) ?_
       exact wJ G hm
      ·refine de G [] (hO 2 (.b true) (hP hb1 (hO 7 (.b false) (hP hb2 h0)))) ?_
       exact wJ G hm
     ·refine de G [] (hO 2 (.b false) (hP hb1 h0)) ?_
      exact wJ G hm
    rintro v1 hm
    refine cd hm (fun hm => ?_) (fun hm => ?_)
    ·obtain ⟨e3, h11, hm⟩ := obind hm
     obtain ⟨u, h12, hm⟩ := obind hm
     refine re G (hD 6 h11 (hE 7 h11 (hA 10 32 h12 h0))) ?_
     exact ibN (wJ G hm)
    ·exact X_skip (ibN (wJ G hm))
   rintro x1 hm
   exact rh G (wL G hm)
  ·exact Ok_exit (thE (thE (ibE (wD G hm hb))))
 rintro x2 hm s hw
 refine thN (Ok_weak hw ?_)
 obtain ⟨r8, h13, hm⟩ := obind hm
 refine rs G (hC 1 (zq80_c h13) h0) ?_
 refine rg G ?_
 cases hm
 exact rt [16] []
noncomputable def zq79_M : MS ((List Int)) Int := ⟨.r, zq79, fun y => dV y, fun _ => [], fun _ _ => []⟩
theorem zq79_c {x y} (hm : zq79 x = some y) : zq79_M.C x y := zq79_M.c x hm
theorem zq79_ok : FnOK Try.prog tJ 166 zq79_M.S := by
 refine fm tt zq79_M [] Try.call166 Try.func166 rfl Try.results166 Try.ntmps166 ?_
 rintro x y cx G hm
 have hm : zq79 x = some y := hm
 unfold zq79 at hm
 refine rg G (Ok_seq (rs G (hN 1 x h0) ?_))
 refine cd hm (fun hm => ?_) (fun hm => ?_)
 ·cases hm
 ·refine X_skip (thN ?_)
  obtain ⟨e, h, hm⟩ := obind hm
  refine rs G (hD 1 h h0) ?_
  refine Ok_seq (rg G (tl hm (fun i1 => ⟨[(3, dV i1)], [], 32⟩) (fun i1 hm => ?_) ?_))
  ·refine Ok_block (lp G hm (fun (i, v) => ⟨[(0, dV x), (3, dV i), (4, dV v)], [], 32⟩) ?_)
   rintro ⟨i, v⟩ r0 hb hm
   rw [zq79_L1] at hm
   refine Ok_seq (rs G (hN 2 x h0) ?_)
   refine cd hm (fun hm => ?_) (fun hm => ?_)
   ·refine X_skip (thN (Ok_seq (Ok_block ?_)))
    obtain ⟨e1, h1, hm⟩ := obind hm
    refine re G (hD 3 h1 h0) ?_
    exact ibN (thN (rh G (wL G hm)))
   ·exact Ok_exit (thE (thE (ibE (wD G hm hb))))
  rintro i1 hm s hw
  refine thN (Ok_weak hw ?_)
  refine rg G ?_
  cases hm
  exact rt [] []
noncomputable def zq15_M : MS (Timetable × (List Flow) × Int) boards := ⟨.x .r (.x .r .r), fun x => zq15 x.1 x.2.1 x.2.2, fun _ => .aggv [.own 0, .own 1, .own 2], fun y => [arO 164 y.list_, taO 53 [some 3] y.loads_, arO 3 y.left_], fun _ _ => []⟩
theorem zq15_c {t list capacity y} (hm : zq15 t list capacity = some y) : zq15_M.C (t, list, capacity) y := zq15_M.c (t, list, capacity) hm
theorem zq15_ok : FnOK Try.prog tJ 104 zq15_M.S := by
 refine fm tt zq15_M [fo zq23_ok, fo zq24_ok, fo zq79_ok] Try.call104 Try.func104 rfl Try.results104 Try.ntmps104 ?_
 rintro ⟨t, list, capacity⟩ y cx G hm
 have hm : zq15 t list capacity = some y := hm
 unfold zq15 at hm
 refine rg G ?_
 obtain ⟨u2, h2, hm⟩ := obind hm
 obtain ⟨u3, h3, hm⟩ := obind hm
 refine ds G [(9, [96, 144, 176])] (hN 2 t.Trips (hO 3 (.l (List.map Enc.e (List.replicate (t.Trips.length : Int).toNat (([] : List Int) : List Int)))) (hP (mk_p (b := 24) (chk_t h2) rfl) (hP (rep_m Enc.e (t.Trips.length : Int).toNat (([] : List Int) : List Int)) (hN 5 list (hO 6 (.l (List.map Enc.e (List.replicate (list.length : Int).toNat (0 : Int)))) (hP (mk_p (b := 8) (chk_t h3) rfl) (hP (rep_m Enc.e (list.length : Int).toNat (0 : Int)) h0)))))))) ?_
 refine Ok_seq (rs G (hN 2 t.Trips h0) ?_)
 refine tl hm (fun v2 => ⟨[(1, dV list), (2, dV capacity), (3, .ref 16 0), (6, .ref 32 0), (7, .ref 48 0)], [bX 16 35 [dV t.Network.Stops, dV t.Network.Lines, dV t.Trips], bX 32 156 [.dat (.sc (.slice none 0 0)), .dat (.sc (.slice none 0 0)), .dat (.sc (.slice none 0 0))], bX 48 156 [.dat (.sc (.slice none 0 0)), .own 64, .own 80], tX 64 53 [some 3] v2 64 none, aX 80 3 (List.replicate (list.length : Int).toNat (0 : Int))], 112⟩) (fun v2 hm => ?_) ?_
 ·refine Ok_block (lp G hm (fun (v, v1) => ⟨[(1, dV list), (2, dV capacity), (3, .ref 16 0), (6, .ref 32 0), (7, .ref 48 0), (27, dV t.Trips), (28, dV (t.Trips.length : Int)), (29, dV v)], [bX 16 35 [dV t.Network.Stops, dV t.Network.Lines, dV t.Trips], bX 32 156 [.dat (.sc (.slice none 0 0)), .dat (.sc (.slice none 0 0)), .dat (.sc (.slice none 0 0))], bX 48 156 [.dat (.sc (.slice none 0 0)), .own 64, .own 80], tX 64 53 [some 3] v1 64 none, aX 80 3 (List.replicate (list.length : Int).toNat (0 : Int))], 112⟩) ?_)
  rintro ⟨v, v1⟩ r0 hb hm
  rw [zq15_L1] at hm
  refine rg G (Ok_seq (cd hm (fun hm => ?_) (fun hm => ?_)))
  ·refine X_skip (thN (Ok_seq (Ok_block ?_)))
   obtain ⟨e, h4, hm⟩ := obind hm
   refine rs G (hD 1 h4 h0) ?_
   obtain ⟨r1, h8, hm⟩ := obind hm
   obtain ⟨u5, h9, hm⟩ := obind hm
   obtain ⟨e2, h10, hm⟩ := obind hm
   refine de G [(10, [64, 352])] (hC 5 (zq23_c h8) (hN 7 r1.Runs (hO 8 (.l (List.map Enc.e (List.replicate (r1.Runs.length : Int).toNat (0 : Int)))) (hP (mk_p (b := 8) (chk_t h9) rfl) (hP (rep_m Enc.e (r1.Runs.length : Int).toNat (0 : Int)) (hD 9 h10 (hS 10 h10 (List.replicate (r1.Runs.length : Int).toNat (0 : Int)) h0))))))) ?_
   exact ibN (thN (rh G (wL G hm)))
  ·exact Ok_exit (thE (thE (ibE (wD G hm hb))))
 rintro v2 hm s hw
 refine thN (Ok_weak hw ?_)
 refine Ok_seq (rs G (hN 1 list h0) ?_)
 refine tl hm (fun (v17, v18, v19) => ⟨[(6, .ref 16 0), (7, .ref 32 0)], [bX 16 156 [.dat (.sc (.slice none 0 0)), .dat (.sc (.slice none 0 0)), .dat (.sc (.slice none 0 0))], bX 32 156 [.own 48, .own 64, .own 80], aX 48 164 v17, tX 64 53 [some 3] v18 64 none, aX 80 3 v19], 112⟩) (fun vv2 hm => ?_) ?_
 ·refine Ok_block (lpP hm (fun (v3, v4, v5, v6) => ⟨[(2, dV capacity), (3, .ref 16 0), (6, .ref 32 0), (7, .ref 48 0), (45, dV list), (46, dV (list.length : Int)), (47, dV v3)], [bX 16 35 [dV t.Network.Stops, dV t.Network.Lines, dV t.Trips], bX 32 156 [.dat (.sc (.slice none 0 0)), .dat (.sc (.slice none 0 0)), .dat (.sc (.slice none 0 0))], bX 48 156 [.own 64, .own 80, .own 96], aX 64 164 v4, tX 80 53 [some 3] v5 80 none, aX 96 3 v6], 128⟩) (Wk_J G.hL ⟨[(2, []), (3, []), (6, []), (7, []), (45, []), (46, []), (47, [])], [(16, 16, []), (32, 32, []), (48, 48, [.o 64]), (80, 64, []), (96, 80, [])], [(64, 164, 6, [])], 128⟩ (by kernel_rfl)) ?_)
  rintro ⟨v3, v4, v5, v6⟩ r0 hb1 hm
  rw [zq15_L4] at hm
  refine rg G (Ok_seq (cd hm (fun hm => ?_) (fun hm => ?_)))
  ·refine X_skip (thN (Ok_seq (Ok_block ?_)))
   obtain ⟨e3, h11, hm⟩ := obind hm
   refine rs G (hD 1 h11 h0) ?_
   refine rg G (Ok_seq ?_)
   obtain ⟨r2, h12, hm⟩ := obind hm
   refine rs G (hC 2 (zq24_c h12) (hN 3 r2 h0)) ?_
   refine tl hm (fun (way2, v15, v16) => ⟨[(2, dV capacity), (3, .ref 16 0), (6, .ref 32 0), (7, .ref 48 0), (10, dV v3), (12, dV way2), (45, dV list), (46, dV (list.length : Int)), (47, dV v3)], [bX 16 35 [dV t.Network.Stops, dV t.Network.Lines, dV t.Trips], bX 32 156 [.dat (.sc (.slice none 0 0)), .dat (.sc (.slice none 0 0)), .dat (.sc (.slice none 0 0))], bX 48 156 [.own 64, .own 80, .own 96], aX 64 164 v15, tX 80 53 [some 3] v16 80 none, aX 96 3 v6], 128⟩) (fun vv1 hm => ?_) ?_
   ·refine Ok_block (lp G hm (fun (way, v7, v8, v9) => ⟨[(2, dV capacity), (3, .ref 16 0), (6, .ref 32 0), (7, .ref 48 0), (10, dV v3), (12, dV way), (45, dV list), (46, dV (list.length : Int)), (47, dV v3), (56, .own 64), (57, dV (r2.length : Int)), (58, dV v7)], [bX 16 35 [dV t.Network.Stops, dV t.Network.Lines, dV t.Trips], bX 32 156 [.dat (.sc (.slice none 0 0)), .dat (.sc (.slice none 0 0)), .dat (.sc (.slice none 0 0))], bX 48 156 [.own 80, .own 96, .own 112], aX 64 162 r2, aX 80 164 v8, tX 96 53 [some 3] v9 96 none, aX 112 3 v6], 144⟩) ?_)
    rintro ⟨way, v7, v8, v9⟩ r0 hb2 hm
    rw [zq15_L3] at hm
    refine rg G (Ok_seq (cd hm (fun hm => ?_) (fun hm => ?_)))
    ·refine X_skip (thN (jn hm (fun (way1, v10, v11) => ⟨[(2, dV capacity), (3, .ref 16 0), (6, .ref 32 0), (7, .ref 48 0), (10, dV v3), (12, dV way1), (45, dV list), (46, dV (list.length : Int)), (47, dV v3), (56, .own 64), (57, dV (r2.length : Int)), (58, dV v7)], [bX 16 35 [dV t.Network.Stops, dV t.Network.Lines, dV t.Trips], bX 32 156 [.dat (.sc (.slice none 0 0)), .dat (.sc (.slice none 0 0)), .dat (.sc (.slice none 0 0))], bX 48 156 [.own 80, .own 96, .own 112], aX 64 162 r2, aX 80 164 v10, tX 96 53 [some 3] v11 96 none, aX 112 3 v6], 144⟩) (fun vv hm => ?_) ?_))
     ·refine Ok_block ?_
      obtain ⟨e4, h13, hm⟩ := obind hm
      refine rs G (hD 0 h13 (hE 1 h13 h0)) ?_
      obtain ⟨e6, h16, hm⟩ := obind hm
      obtain ⟨u7, h17, hm⟩ := obind hm
      refine ds G [(10, [96])] (hD 4 h16 (hE 5 h16 (hP (vw_p (j := 0) (lo := e4.from_) (hi := e4.to_) h16 rfl (chk_t h17)) h0))) ?_
      obtain ⟨u8, h18, hm⟩ := obind hm
      obtain ⟨r3, h19, hm⟩ := obind hm
      refine rs G (hW 3 (vw_c (zq79_c h19)) (idx_m2 (f := Enc.e) h16) (vw_r (chk_t h18)) h0) ?_
      refine Ok_seq (rg G (cd hm (fun hm => ?_) (fun hm => ?_)))
      ·exact Ok_exit (thE (ibE (wJ G hm)))
      ·refine X_skip (thN (Ok_seq (rs G (hO 1 (.n (e4.to_ - e4.from_)) (hP (vw_l (chk_t h17)) h0)) ?_)))
       refine tl hm (fun v14 => ⟨[(2, dV capacity), (3, .ref 16 0), (6, .ref 32 0), (7, .ref 48 0), (10, dV v3), (12, dV way), (14, .ref 64 0), (16, dV (if (w64 (capacity - r3)) < way then (w64 (capacity - r3)) else way)), (45, dV list), (46, dV (list.length : Int)), (47, dV v3), (56, .own 80), (57, dV (r2.length : Int)), (58, dV v7)], [bX 16 35 [dV t.Network.Stops, dV t.Network.Lines, dV t.Trips], bX 32 156 [.dat (.sc (.slice none 0 0)), .dat (.sc (.slice none 0 0)), .dat (.sc (.slice none 0 0))], bX 48 156 [.own 96, .own 112, .own 128], bX 64 162 [dV e4.trip_, dV e4.from_, dV e4.to_, dV e4.arrive_], aX 80 162 r2, aX 96 164 v8, tX 112 53 [some 3] v14 112 none, aX 128 3 v6], 160⟩) (fun v14 hm => ?_) ?_
       ·refine Ok_block (lp G hm (fun (v12, v13) => ⟨[(2, dV capacity), (3, .ref 16 0), (6, .ref 32 0), (7, .ref 48 0), (10, dV v3), (12, dV way), (14, .ref 64 0), (15, .vw 80 80 e4.trip_.toNat 0 1 e4.from_.toNat (e4.to_ - e4.from_).toNat), (16, dV (if (w64 (capacity - r3)) < way then (w64 (capacity - r3)) else way)), (45, dV list), (46, dV (list.length : Int)), (47, dV v3), (56, .own 96), (57, dV (r2.length : Int)), (58, dV v7), (82, dV (e4.to_ - e4.from_)), (83, dV v12)], [bX 16 35 [dV t.Network.Stops, dV t.Network.Lines, dV t.Trips], bX 32 156 [.dat (.sc (.slice none 0 0)), .dat (.sc (.slice none 0 0)), .dat (.sc (.slice none 0 0))], bX 48 156 [.own 112, .own 80, .own 128], bX 64 162 [dV e4.trip_, dV e4.from_, dV e4.to_, dV e4.arrive_], tX 80 53 [some 3] v13 80 none, aX 96 162 r2, aX 112 164 v8, aX 128 3 v6], 160⟩) ?_)
        rintro ⟨v12, v13⟩ r0 hb3 hm
        rw [zq15_L2] at hm
        refine rg G (Ok_seq (cd hm (fun hm => ?_) (fun hm => ?_)))
        ·refine X_skip (thN (Ok_seq (Ok_block (rg G ?_))))
         obtain ⟨e7, h20, hm⟩ := obind hm
         obtain ⟨u9, h21, hm⟩ := obind hm
         obtain ⟨e8, h22, hm⟩ := obind hm
         obtain ⟨u10, h23, hm⟩ := obind hm
         obtain ⟨e9, h24, hm⟩ := obind hm
         refine re G (hP (vw_i (chk_t h21)) (hO 3 (.d2 (Enc.e e7) (Enc.e e8)) (hP (idx_m2 (f := Enc.e) h20) (hP (vw_x (chk_t h17) (chk_t h21) h22) (hP (vw_i (chk_t h23)) (hO 7 (.sd2 (Enc.e e7) (Enc.e e9) (List.map Enc.e (e7.set (e4.from_.toNat + v12.toNat) (w64 (e8 + (if (w64 (capacity - r3)) < way then (w64 (capacity - r3)) else way))))) (List.map Enc.e (v13.set e4.trip_.toNat (e7.set (e4.from_.toNat + v12.toNat) (w64 (e8 + (if (w64 (capacity - r3)) < way then (w64 (capacity - r3)) else way))))))) (hP (idx_m2 (f := Enc.e) h20) (hP (vw_x (chk_t h17) (chk_t h23) h24) (hP (set_m Enc.e e7 (e4.from_.toNat + v12.toNat) (w64 (e8 + (if (w64 (capacity - r3)) < way then (w64 (capacity - r3)) else way)))) (hP (set_m Enc.e v13 e4.trip_.toNat (e7.set (e4.from_.toNat + v12.toNat) (w64 (e8 + (if (w64 (capacity - r3)) < way then (w64 (capacity - r3)) else way))))) h0)))))))))) ?_
         exact ibN (thN (rh G (wL G hm)))
        ·exact Ok_exit (thE (thE (ibE (wD G hm hb3))))
       rintro v14 hm s1 hw1
       refine thN (Ok_weak hw1 ?_)
       obtain ⟨u11, h25, hm⟩ := obind hm
       refine rs G (hA 7 48 h25 h0) ?_
       exact rh G (ibN (wJ G hm))
     rintro ⟨way1, v10, v11⟩ hm
     exact rh G (wL G hm)
    ·exact Ok_exit (thE (thE (ibE (wD G hm hb2))))
   rintro ⟨way2, v15, v16⟩ hm s2 hw2
   refine thN (Ok_weak hw2 ?_)
   obtain ⟨e10, h26, hm⟩ := obind hm
   refine re G (hD 4 h26 (hS 5 h26 way2 h0)) ?_
   exact ibN (thN (rh G (wL G hm)))
  ·exact Ok_exit (thE (thE (ibE (wD G hm hb1))))
 rintro ⟨v17, v18, v19⟩ hm s3 hw3
 refine thN (Ok_weak hw3 ?_)
 refine rg G ?_
 cases hm
 exact rt [48, 64, 80] []
noncomputable def zq2_M : MS (Timetable × (List Flow) × Int) ((List (List Int)) × Bool) := ⟨.x .r (.x .r .r), fun x => zq2 x.1 x.2.1 x.2.2, fun y => .tup [dV y.1, dV y.2], fun _ => [], fun _ _ => []⟩
theorem zq2_c {t list capacity y} (hm : zq2 t list capacity = some y) : zq2_M.C (t, list, capacity) y := zq2_M.c (t, list, capacity) hm
theorem zq2_ok : FnOK Try.prog tJ 34 zq2_M.S := by
 refine fm tt zq2_M [fo zq11_ok, fo zq15_ok] Try.call34 Try.func34 rfl Try.results34 Try.ntmps34 ?_
 rintro ⟨t, list, capacity⟩ y cx G hm
 have hm : zq2 t list capacity = some y := hm
 unfold zq2 at hm
 refine rg G (Ok_seq ?_)
 obtain ⟨r, h, hm⟩ := obind hm
 refine rs G (hC 3 (zq11_c h) h0) ?_
 refine cd hm (fun hm => ?_) (fun hm => ?_)
 ·refine rg G ?_
  cases hm
  exact rt [] [[.z 1]]
 ·refine X_skip (thN ?_)
  obtain ⟨r1, h1, hm⟩ := obind hm
  refine rs G (hC 3 (zq15_c h1) h0) ?_
  cases hm
  exact rt [] []
noncomputable def zq56_M : MS (Timetable × Flow) Bool := ⟨.x .r .r, fun x => zq56 x.1 x.2, fun y => dV y, fun _ => [], fun _ _ => []⟩
theorem zq56_c {t f y} (hm : zq56 t f = some y) : zq56_M.C (t, f) y := zq56_M.c (t, f) hm
theorem zq56_ok : FnOK Try.prog tJ 170 zq56_M.S := by
 refine fm tt zq56_M [fo zq48_ok, fo zq71_ok] Try.call170 Try.func170 rfl Try.results170 Try.ntmps170 ?_
 rintro ⟨t, f⟩ y cx G hm
 have hm : zq56 t f = some y := hm
 unfold zq56 at hm
 refine rg G (rs G (hN 3 t.Network.Stops h0) ?_)
 obtain ⟨r, h, hm⟩ := obind hm
 refine jn hm (fun v => ⟨[(4, dV v)], [], 32⟩) (fun v hm => ?_) ?_
 ·rcases bf hm with ⟨hb, hm⟩ | ⟨hb, hm⟩
  ·obtain ⟨r1, h1, hm⟩ := obind hm
   rcases bf hm with ⟨hb1, hm⟩ | ⟨hb1, hm⟩
   ·rcases bf hm with ⟨hb2, hm⟩ | ⟨hb2, hm⟩
    ·obtain ⟨r2, h2, hm⟩ := obind hm
     rcases bf hm with ⟨hb3, hm⟩ | ⟨hb3, hm⟩
     ·obtain ⟨r3, h3, hm⟩ := obind hm
      refine re G (hC 4 (zq48_c h) (hO 5 (.b true) (hP hb (hC 10 (zq48_c h1) (hO 12 (.b true) (hP hb1 (hO 19 (.b true) (hP hb2 (hC 22 (zq71_c h2) (hO 24 (.b true) (hP hb3 (hC 27 (zq48_c h3) h0)))))))))))) ?_
      exact wJ G hm
     ·refine re G (hC 4 (zq48_c h) (hO 5 (.b true) (hP hb (hC 10 (zq48_c h1) (hO 12 (.b true) (hP hb1 (hO 19 (.b true) (hP hb2 (hC 22 (zq71_c h2) (hO 24 (.b false) (hP hb3 h0))))))))))) ?_
      exact wJ G hm
    ·refine re G (hC 4 (zq48_c h) (hO 5 (.b true) (hP hb (hC 10 (zq48_c h1) (hO 12 (.b true) (hP hb1 (hO 19 (.b false) (hP hb2 h0)))))))) ?_
     exact wJ G hm
   ·refine re G (hC 4 (zq48_c h) (hO 5 (.b true) (hP hb (hC 10 (zq48_c h1) (hO 12 (.b false) (hP hb1 h0)))))) ?_
    exact wJ G hm
  ·refine re G (hC 4 (zq48_c h) (hO 5 (.b false) (hP hb h0))) ?_
   exact wJ G hm
 rintro v hm
 cases hm
 exact rt [] []
noncomputable def zq57_M : MS (Timetable × (List Flow)) Bool := ⟨.x .r .r, fun x => zq57 x.1 x.2, fun y => dV y, fun _ => [], fun _ _ => []⟩
theorem zq57_c {t list y} (hm : zq57 t list = some y) : zq57_M.C (t, list) y := zq57_M.c (t, list) hm
theorem zq57_ok : FnOK Try.prog tJ 110 zq57_M.S := by
 refine fm tt zq57_M [fo zq74_ok, fo zq56_ok] Try.call110 Try.func110 rfl Try.results110 Try.ntmps110 ?_
 rintro ⟨t, list⟩ y cx G hm
 have hm : zq57 t list = some y := hm
 unfold zq57 at hm
 refine rg G (Ok_seq ?_)
 obtain ⟨r, h, hm⟩ := obind hm
 refine jn hm (fun v => ⟨[(1, dV list), (2, .ref 16 0), (13, dV v)], [bX 16 35 [dV t.Network.Stops, dV t.Network.Lines, dV t.Trips]], 48⟩) (fun v hm => ?_) ?_
 ·rcases bf hm with ⟨hb, hm⟩ | ⟨hb, hm⟩
  ·refine re G (hC 1 (zq74_c h) (hO 3 (.b true) (hP hb h0))) ?_
   exact wJ G hm
  ·refine re G (hC 1 (zq74_c h) (hO 3 (.b false) (hP hb (hN 5 list h0)))) ?_
   exact wJ G hm
 rintro v hm
 refine cd hm (fun hm => ?_) (fun hm => ?_)
 ·refine rg G ?_
  cases hm
  exact rt [] []
 ·refine X_skip (thN (Ok_seq (rg G (tF hm (fun _ => ⟨[], [], 32⟩) (fun v3 hr hm => ?_) ?_))))
  ·refine Ok_block (lp G hm (fun v1 => ⟨[(1, dV list), (2, .ref 16 0), (5, dV v1)], [bX 16 35 [dV t.Network.Stops, dV t.Network.Lines, dV t.Trips]], 48⟩) ?_)
   rintro v1 r0 hb1 hm
   rw [zq57_L1] at hm
   refine Ok_seq (rs G (hN 2 list h0) ?_)
   refine cd hm (fun hm => ?_) (fun hm => ?_)
   ·refine X_skip (thN (Ok_seq (Ok_block ?_)))
    obtain ⟨e3, h5, hm⟩ := obind hm
    obtain ⟨r2, h6, hm⟩ := obind hm
    refine jn hm (fun v2 => ⟨[(1, dV list), (2, .ref 16 0), (5, dV v1), (44, dV v2)], [bX 16 35 [dV t.Network.Stops, dV t.Network.Lines, dV t.Trips]], 48⟩) (fun v2 hm => ?_) ?_
    ·rcases bf hm with ⟨hb2, hm⟩ | ⟨hb2, hm⟩
     ·refine de G [] (hD 3 h5 (hC 5 (zq56_c h6) (hO 7 (.b true) (hP hb2 h0)))) ?_
      exact wJ G hm
     ·rcases bf hm with ⟨hb3, hm⟩ | ⟨hb3, hm⟩
      ·obtain ⟨e4, h7, hm⟩ := obind hm
       obtain ⟨e5, h8, hm⟩ := obind hm
       refine de G [] (hD 3 h5 (hC 5 (zq56_c h6) (hO 7 (.b false) (hP hb2 (hO 10 (.b true) (hP hb3 (hD 14 h7 (hD 19 h8 h0)))))))) ?_
       exact wJ G hm
      ·refine de G [] (hD 3 h5 (hC 5 (zq56_c h6) (hO 7 (.b false) (hP hb2 (hO 10 (.b false) (hP hb3 h0)))))) ?_
       exact wJ G hm
    rintro v2 hm
    refine cd hm (fun hm => ?_) (fun hm => ?_)
    ·refine rg G ?_
     have hm := eL hm hb1 hr
     cases hm
     exact rt [] []
    ·exact X_skip (ibN (thN (rh G (wL G hm))))
   ·exact Ok_exit (thE (thE (ibE (wE G hm hb1))))
  rintro ⟨⟩ hm s hw
  refine thN (Ok_weak hw ?_)
  refine rg G ?_
  cases hm
  exact rt [] []
noncomputable def zq54_M : MS (Timetable × (List Flow) × Int) Bool := ⟨.x .r (.x .r .r), fun x => zq54 x.1 x.2.1 x.2.2, fun y => dV y, fun _ => [], fun _ _ => []⟩
theorem zq54_c {t list capacity y} (hm : zq54 t list capacity = some y) : zq54_M.C (t, list, capacity) y := zq54_M.c (t, list, capacity) hm
theorem zq54_ok : FnOK Try.prog tJ 105 zq54_M.S := by
 refine fm tt zq54_M [fo zq57_ok, fo zq48_ok] Try.call105 Try.func105 rfl Try.results105 Try.ntmps105 ?_
 rintro ⟨t, list, capacity⟩ y cx G hm
 have hm : zq54 t list capacity = some y := hm
 unfold zq54 at hm
 refine rg G ?_
 obtain ⟨r, h, hm⟩ := obind hm
 refine jn hm (fun v => ⟨[(6, dV v)], [], 32⟩) (fun v hm => ?_) ?_
 ·rcases bf hm with ⟨hb, hm⟩ | ⟨hb, hm⟩
  ·obtain ⟨r1, h1, hm⟩ := obind hm
   refine re G (hC 2 (zq57_c h) (hO 3 (.b true) (hP hb (hC 5 (zq48_c h1) h0)))) ?_
   exact wJ G hm
  ·refine re G (hC 2 (zq57_c h) (hO 3 (.b false) (hP hb h0))) ?_
   exact wJ G hm
 rintro v hm
 cases hm
 exact rt [] []
noncomputable def zq58_M : MS (Timetable × Int × Flow) (Int × Int) := ⟨.x .r (.x .r .r), fun x => zq58 x.1 x.2.1 x.2.2, fun y => .tup [dV y.1, dV y.2], fun _ => [], fun _ _ => []⟩
theorem zq58_c {t i f y} (hm : zq58 t i f = some y) : zq58_M.C (t, i, f) y := zq58_M.c (t, i, f) hm
theorem zq58_ok : FnOK Try.prog tJ 168 zq58_M.S := by
 refine fm tt zq58_M [fo zq75_ok, fo zq69_ok, fo zq72_ok] Try.call168 Try.func168 rfl Try.results168 Try.ntmps168 ?_
 rintro ⟨t, i, f⟩ y cx G hm
 have hm : zq58 t i f = some y := hm
 unfold zq58 at hm
 refine rg G ?_
 obtain ⟨r4, h4, hm⟩ := obind hm
 obtain ⟨r5, h5, hm⟩ := obind hm
 obtain ⟨r6, h6, hm⟩ := obind hm
 obtain ⟨r7, h7, hm⟩ := obind hm
 refine ds G [] (hC 2 (zq75_c h4) (hC 5 (zq69_c h5) (hC 8 (zq75_c h6) (hC 11 (zq69_c h7) h0)))) ?_
 refine Ok_seq (jn hm (fun v => ⟨[(8, dV r5), (9, dV r7), (37, dV v)], [], 32⟩) (fun v hm => ?_) ?_)
 ·rcases bf hm with ⟨hb, hm⟩ | ⟨hb, hm⟩
  ·refine de G [] (hO 2 (.b true) (hP hb h0)) ?_
   exact wJ G hm
  ·rcases bf hm with ⟨hb1, hm⟩ | ⟨hb1, hm⟩
   ·refine de G [] (hO 2 (.b false) (hP hb (hO 7 (.b true) (hP hb1 h0)))) ?_
    exact wJ G hm
   ·obtain ⟨r9, h9, hm⟩ := obind hm
    refine de G [] (hO 2 (.b false) (hP hb (hO 7 (.b false) (hP hb1 (hC 11 (zq72_c h9) h0))))) ?_
    exact wJ G hm
 rintro v hm
 refine cd hm (fun hm => ?_) (fun hm => ?_)
 ·refine rg G ?_
  cases hm
  exact rt [] []
 ·refine X_skip (thN (rg G ?_))
  cases hm
  exact rt [] []
noncomputable def zq59_M : MS (Timetable × Flow) ((List Int)) := ⟨.x .r .r, fun x => zq59 x.1 x.2, fun _ => .own 0, fun y => [arO 3 y], fun _ _ => []⟩
theorem zq59_c {t f y} (hm : zq59 t f = some y) : zq59_M.C (t, f) y := zq59_M.c (t, f) hm
theorem zq59_ok : FnOK Try.prog tJ 118 zq59_M.S := by
 refine fm tt zq59_M [fo zq58_ok, fo zq72_ok] Try.call118 Try.func118 rfl Try.results118 Try.ntmps118 ?_
 rintro ⟨t, f⟩ y cx G hm
 have hm : zq59 t f = some y := hm
 unfold zq59 at hm
 refine rg G (rg G (rg G (Ok_seq (rg G (tl hm (fun i2 => ⟨[(5, .own 16)], [aX 16 3 i2], 48⟩) (fun i2 hm => ?_) ?_)))))
 ·refine Ok_block (lp G hm (fun (b, i, a) => ⟨[(2, .ref 16 0), (3, .ref 32 0), (5, .own 48), (6, .own 64), (7, dV b)], [bX 16 35 [dV t.Network.Stops, dV t.Network.Lines, dV t.Trips], bX 32 82 [dV f.From, dV f.To, dV f.Time, dV f.Persons], aX 48 3 i, aX 64 3 a], 96⟩) ?_)
  rintro ⟨b, i, a⟩ r0 hb hm
  rw [zq59_L2] at hm
  refine Ok_seq (rs G (hN 3 t.Trips h0) ?_)
  refine cd hm (fun hm => ?_) (fun hm => ?_)
  ·refine X_skip (thN (jn hm (fun (i1, a1) => ⟨[(2, .ref 16 0), (3, .ref 32 0), (5, .own 48), (6, .own 64), (7, dV b)], [bX 16 35 [dV t.Network.Stops, dV t.Network.Lines, dV t.Trips], bX 32 82 [dV f.From, dV f.To, dV f.Time, dV f.Persons], aX 48 3 i1, aX 64 3 a1], 96⟩) (fun vv hm => ?_) ?_))
   ·refine Ok_block ?_
    obtain ⟨r, h, hm⟩ := obind hm
    refine rs G (hC 3 (zq58_c h) h0) ?_
    refine Ok_seq (rg G (cd hm (fun hm => ?_) (fun hm => ?_)))
    ·exact Ok_exit (thE (ibE (wJ G hm)))
    ·refine X_skip (thN ?_)
     obtain ⟨r1, h1, hm⟩ := obind hm
     refine rs G (hC 3 (zq72_c h1) h0) ?_
     refine rs G (hN 1 i h0) ?_
     refine jn hm (fun v2 => ⟨[(2, .ref 16 0), (3, .ref 32 0), (5, .own 48), (6, .own 64), (7, dV b), (10, dV r1), (11, dV v2)], [bX 16 35 [dV t.Network.Stops, dV t.Network.Lines, dV t.Trips], bX 32 82 [dV f.From, dV f.To, dV f.Time, dV f.Persons], aX 48 3 i, aX 64 3 a], 96⟩) (fun v2 hm => ?_) ?_
     ·refine Ok_block (lp G hm (fun v => ⟨[(2, .ref 16 0), (3, .ref 32 0), (5, .own 48), (6, .own 64), (7, dV b), (10, dV r1), (11, dV v)], [bX 16 35 [dV t.Network.Stops, dV t.Network.Lines, dV t.Trips], bX 32 82 [dV f.From, dV f.To, dV f.Time, dV f.Persons], aX 48 3 i, aX 64 3 a], 96⟩) ?_)
      rintro v r0 hb1 hm
      rw [zq59_L1] at hm
      refine Ok_seq (jn hm (fun v1 => ⟨[(2, .ref 16 0), (3, .ref 32 0), (5, .own 48), (6, .own 64), (7, dV b), (10, dV r1), (11, dV v), (46, dV v1)], [bX 16 35 [dV t.Network.Stops, dV t.Network.Lines, dV t.Trips], bX 32 82 [dV f.From, dV f.To, dV f.Time, dV f.Persons], aX 48 3 i, aX 64 3 a], 96⟩) (fun v1 hm => ?_) ?_)
      ·rcases bf hm with ⟨hb2, hm⟩ | ⟨hb2, hm⟩
       ·obtain ⟨e, h2, hm⟩ := obind hm
        refine re G (hO 2 (.b true) (hP hb2 (hD 6 h2 (hE 7 h2 h0)))) ?_
        exact wJ G hm
       ·refine re G (hO 2 (.b false) (hP hb2 h0)) ?_
        exact wJ G hm
      rintro v1 hm
      refine cd hm (fun hm => ?_) (fun hm => ?_)
      ·exact X_skip (thN (Ok_block (rh G (ibN (wL G hm)))))
      ·exact Ok_exit (thE (thE (ibE (wD G hm hb1))))
     rintro v2 hm
     refine Ok_weak (Wk_J (x' := (⟨[(2, .ref 16 0), (3, .ref 32 0), (5, dV i), (6, .own 48), (7, dV b), (10, dV r1), (11, dV v2)], [bX 16 35 [dV t.Network.Stops, dV t.Network.Lines, dV t.Trips], bX 32 82 [dV f.From, dV f.To, dV f.Time, dV f.Persons], aX 48 3 a], 80⟩ : X)) G.hL ⟨[(2, []), (3, []), (5, []), (6, []), (7, []), (10, []), (11, [])], [(16, 16, []), (32, 32, []), (48, 64, [])], [], 80⟩ (by kernel_rfl)) ?_
     obtain ⟨u5, h8, hm⟩ := obind hm
     obtain ⟨u6, h9, hm⟩ := obind hm
     obtain ⟨u7, h10, hm⟩ := obind hm
     obtain ⟨u8, h11, hm⟩ := obind hm
     obtain ⟨u9, h12, hm⟩ := obind hm
     refine ds G [(3, []), (4, [80]), (7, [144, 176]), (10, []), (11, [192])] (hU 3 h8 (hA 4 8 h9 (hA 7 8 h10 (hV 10 h11 (hA 11 8 h12 h0))))) ?_
     refine Ok_weak (Wk_J (x' := (⟨[(2, .ref 16 0), (3, .ref 32 0), (5, .own 48), (6, dV a), (7, dV b), (10, dV r1), (11, dV v2)], [bX 16 35 [dV t.Network.Stops, dV t.Network.Lines, dV t.Trips], bX 32 82 [dV f.From, dV f.To, dV f.Time, dV f.Persons], aX 48 3 (((([] : List Int) ++ ((i.take v2.toNat).drop (0 : Int).toNat)) ++ ([b] : List Int)) ++ (i.drop v2.toNat))], 80⟩ : X)) G.hL ⟨[(2, []), (3, []), (5, []), (6, []), (7, []), (10, []), (11, [])], [(16, 16, []), (32, 32, []), (48, 256, [])], [], 80⟩ (by kernel_rfl)) ?_
     obtain ⟨u15, h18, hm⟩ := obind hm
     obtain ⟨u16, h19, hm⟩ := obind hm
     obtain ⟨u17, h20, hm⟩ := obind hm
     obtain ⟨u18, h21, hm⟩ := obind hm
     obtain ⟨u19, h22, hm⟩ := obind hm
     refine de G [(3, []), (4, [80]), (7, [144, 176]), (10, []), (11, [192])] (hU 3 h18 (hA 4 8 h19 (hA 7 8 h20 (hV 10 h21 (hA 11 8 h22 h0))))) ?_
     exact ibN (wJ G hm)
   rintro ⟨i1, a1⟩ hm
   exact rh G (wL G hm)
  ·exact Ok_exit (thE (thE (ibE (wD G hm hb))))
 rintro i2 hm s hw
 refine thN (Ok_weak hw ?_)
 refine rg G ?_
 cases hm
 exact rt [16] []
noncomputable def zq55_M : MS (Timetable × (List Flow) × Int) l20State := ⟨.x .r (.x .r .r), fun x => zq55 x.1 x.2.1 x.2.2, fun y => .aggv [.own 0, .own 1, dV y.minutes_, dV y.persons_, .own 2, .own 3], fun y => [taO 53 [some 3] y.loads_, arO 3 y.left_, arO 3 y.on_, arO 3 y.off_], fun _ _ => []⟩
theorem zq55_c {t list capacity y} (hm : zq55 t list capacity = some y) : zq55_M.C (t, list, capacity) y := zq55_M.c (t, list, capacity) hm
theorem zq55_ok : FnOK Try.prog tJ 106 zq55_M.S := by
 refine fm tt zq55_M [fo zq76_ok, fo zq59_ok, fo zq58_ok, fo zq49_ok, fo zq72_ok] Try.call106 Try.func106 rfl Try.results106 Try.ntmps106 ?_
 rintro ⟨t, list, capacity⟩ y cx G hm
 have hm : zq55 t list capacity = some y := hm
 unfold zq55 at hm
 refine rg G ?_
 obtain ⟨u2, h2, hm⟩ := obind hm
 obtain ⟨u3, h3, hm⟩ := obind hm
 refine ds G [(13, [112, 192, 208, 240])] (hN 3 t.Network.Stops (hO 4 (.l (List.map Enc.e (List.replicate (t.Network.Stops.length : Int).toNat (0 : Int)))) (hP (mk_p (b := 8) (chk_t h2) rfl) (hP (rep_m Enc.e (t.Network.Stops.length : Int).toNat (0 : Int)) (hN 8 t.Network.Stops (hO 9 (.l (List.map Enc.e (List.replicate (t.Network.Stops.length : Int).toNat (0 : Int)))) (hP (mk_p (b := 8) (chk_t h3) rfl) (hP (rep_m Enc.e (t.Network.Stops.length : Int).toNat (0 : Int)) h0)))))))) ?_
 refine Ok_seq (rg G (tl hm (fun v1 => ⟨[(1, dV list), (2, dV capacity), (3, .ref 16 0), (6, .ref 32 0), (7, .ref 48 0)], [bX 16 35 [dV t.Network.Stops, dV t.Network.Lines, dV t.Trips], bX 32 159 [.dat (.sc (.slice none 0 0)), .dat (.sc (.slice none 0 0)), kV .i64 0, kV .i64 0, .dat (.sc (.slice none 0 0)), .dat (.sc (.slice none 0 0))], bX 48 159 [.own 64, .own 80, kV .i64 0, kV .i64 0, .own 96, .own 112], tX 64 53 [some 3] v1 64 none, aX 80 3 ([] : List Int), aX 96 3 (List.replicate (t.Network.Stops.length : Int).toNat (0 : Int)), aX 112 3 (List.replicate (t.Network.Stops.length : Int).toNat (0 : Int))], 144⟩) (fun v1 hm => ?_) ?_))
 ·refine Ok_block (lpP hm (fun (left, v) => ⟨[(1, dV list), (2, dV capacity), (3, .ref 16 0), (6, .ref 32 0), (7, .ref 48 0), (8, dV left)], [bX 16 35 [dV t.Network.Stops, dV t.Network.Lines, dV t.Trips], bX 32 159 [.dat (.sc (.slice none 0 0)), .dat (.sc (.slice none 0 0)), kV .i64 0, kV .i64 0, .dat (.sc (.slice none 0 0)), .dat (.sc (.slice none 0 0))], bX 48 159 [.own 64, .own 80, kV .i64 0, kV .i64 0, .own 96, .own 112], tX 64 53 [some 3] v 64 none, aX 80 3 ([] : List Int), aX 96 3 (List.replicate (t.Network.Stops.length : Int).toNat (0 : Int)), aX 112 3 (List.replicate (t.Network.Stops.length : Int).toNat (0 : Int))], 144⟩) (Wk_J G.hL ⟨[(1, []), (2, []), (3, []), (6, []), (7, []), (8, [])], [(16, 16, []), (32, 32, []), (48, 240, [.o 64]), (80, 208, []), (96, 112, []), (112, 192, [])], [(64, 53, 1, [some 3])], 144⟩ (by kernel_rfl)) ?_)
  rintro ⟨left, v⟩ r0 hb hm
  rw [zq55_L1] at hm
  refine Ok_seq (rs G (hN 3 t.Trips h0) ?_)
  refine cd hm (fun hm => ?_) (fun hm => ?_)
  ·refine X_skip (thN (Ok_seq (Ok_block ?_)))
   obtain ⟨r1, h7, hm⟩ := obind hm
   obtain ⟨u6, h8, hm⟩ := obind hm
   obtain ⟨u7, h9, hm⟩ := obind hm
   refine de G [(8, [336]), (9, [64, 352]), (11, [48, 368])] (hC 4 (zq76_c h7) (hN 5 r1 (hO 7 (.l (List.map Enc.e (List.replicate (w64 ((r1.length : Int) - 1)).toNat (0 : Int)))) (hP (mk_p (b := 8) (chk_t h8) rfl) (hP (rep_m Enc.e (w64 ((r1.length : Int) - 1)).toNat (0 : Int)) (hP (nodupB_ok (l := [336]) rfl) (hA 9 24 h9 h0))))))) ?_
   exact ibN (thN (rh G (wL G hm)))
  ·exact Ok_exit (thE (thE (ibE (wD G hm hb))))
 rintro v1 hm s hw
 refine thN (Ok_weak hw ?_)
 refine Ok_seq (rg G (tl hm (fun (v24, v25, v26, v27, v28, v29) => ⟨[(6, .ref 16 0), (7, .ref 32 0)], [bX 16 159 [.dat (.sc (.slice none 0 0)), .dat (.sc (.slice none 0 0)), kV .i64 0, kV .i64 0, .dat (.sc (.slice none 0 0)), .dat (.sc (.slice none 0 0))], bX 32 159 [.own 48, .own 64, dV v24, dV v25, .own 80, .own 96], tX 48 53 [some 3] v26 48 none, aX 64 3 v27, aX 80 3 v28, aX 96 3 v29], 128⟩) (fun vv1 hm => ?_) ?_))
 ·refine Ok_block (lp G hm (fun (trips, v2, v3, v4, v5, v6, v7) => ⟨[(1, dV list), (2, dV capacity), (3, .ref 16 0), (6, .ref 32 0), (7, .ref 48 0), (9, dV trips)], [bX 16 35 [dV t.Network.Stops, dV t.Network.Lines, dV t.Trips], bX 32 159 [.dat (.sc (.slice none 0 0)), .dat (.sc (.slice none 0 0)), kV .i64 0, kV .i64 0, .dat (.sc (.slice none 0 0)), .dat (.sc (.slice none 0 0))], bX 48 159 [.own 64, .own 80, dV v2, dV v3, .own 96, .own 112], tX 64 53 [some 3] v4 64 none, aX 80 3 v5, aX 96 3 v6, aX 112 3 v7], 144⟩) ?_)
  rintro ⟨trips, v2, v3, v4, v5, v6, v7⟩ r0 hb1 hm
  rw [zq55_L5] at hm
  refine Ok_seq (rs G (hN 2 list h0) ?_)
  refine cd hm (fun hm => ?_) (fun hm => ?_)
  ·refine X_skip (thN (Ok_seq (Ok_block ?_)))
   obtain ⟨e, h10, hm⟩ := obind hm
   refine rs G (hD 2 h10 h0) ?_
   refine rg G ?_
   obtain ⟨r2, h11, hm⟩ := obind hm
   refine rs G (hC 2 (zq59_c h11) h0) ?_
   refine Ok_seq (rg G (tl hm (fun (i1, v19, v20, v21, v22, v23) => ⟨[(1, dV list), (2, dV capacity), (3, .ref 16 0), (6, .ref 32 0), (7, .ref 48 0), (9, dV trips), (11, dV i1)], [bX 16 35 [dV t.Network.Stops, dV t.Network.Lines, dV t.Trips], bX 32 159 [.dat (.sc (.slice none 0 0)), .dat (.sc (.slice none 0 0)), kV .i64 0, kV .i64 0, .dat (.sc (.slice none 0 0)), .dat (.sc (.slice none 0 0))], bX 48 159 [.own 64, .own 80, dV v19, dV v20, .own 96, .own 112], tX 64 53 [some 3] v21 64 none, aX 80 3 v5, aX 96 3 v22, aX 112 3 v23], 144⟩) (fun vv hm => ?_) ?_))
   ·refine Ok_block (lp G hm (fun (i, b, v8, v9, v10, v11, v12) => ⟨[(1, dV list), (2, dV capacity), (3, .ref 16 0), (6, .ref 32 0), (7, .ref 48 0), (9, dV trips), (10, .ref 64 0), (11, dV i), (12, .own 80), (13, dV b)], [bX 16 35 [dV t.Network.Stops, dV t.Network.Lines, dV t.Trips], bX 32 159 [.dat (.sc (.slice none 0 0)), .dat (.sc (.slice none 0 0)), kV .i64 0, kV .i64 0, .dat (.sc (.slice none 0 0)), .dat (.sc (.slice none 0 0))], bX 48 159 [.own 96, .own 112, dV v8, dV v9, .own 128, .own 144], bX 64 82 [dV e.From, dV e.To, dV e.Time, dV e.Persons], aX 80 3 r2, tX 96 53 [some 3] v10 96 none, aX 112 3 v5, aX 128 3 v11, aX 144 3 v12], 176⟩) ?_)
    rintro ⟨i, b, v8, v9, v10, v11, v12⟩ r0 hb2 hm
    rw [zq55_L4] at hm
    refine Ok_seq (rs G (hN 2 r2 h0) ?_)
    refine cd hm (fun hm => ?_) (fun hm => ?_)
    ·refine X_skip (thN (Ok_seq (Ok_block ?_)))
     obtain ⟨e1, h12, hm⟩ := obind hm
     refine rs G (hD 2 h12 (hE 3 h12 h0)) ?_
     obtain ⟨r3, h13, hm⟩ := obind hm
     refine rs G (hC 3 (zq58_c h13) h0) ?_
     refine rg G (Ok_seq (rg G (tl hm (fun v15 => ⟨[(1, dV list), (2, dV capacity), (3, .ref 16 0), (6, .ref 32 0), (7, .ref 48 0), (9, dV trips), (10, .ref 64 0), (11, dV i), (12, .own 80), (13, dV b), (14, dV e1), (15, dV r3.1), (16, dV r3.2), (17, dV v15)], [bX 16 35 [dV t.Network.Stops, dV t.Network.Lines, dV t.Trips], bX 32 159 [.dat (.sc (.slice none 0 0)), .dat (.sc (.slice none 0 0)), kV .i64 0, kV .i64 0, .dat (.sc (.slice none 0 0)), .dat (.sc (.slice none 0 0))], bX 48 159 [.own 96, .own 112, dV v8, dV v9, .own 128, .own 144], bX 64 82 [dV e.From, dV e.To, dV e.Time, dV e.Persons], aX 80 3 r2, tX 96 53 [some 3] v10 96 none, aX 112 3 v5, aX 128 3 v11, aX 144 3 v12], 176⟩) (fun v15 hm => ?_) ?_)))
     ·refine Ok_block (lp G hm (fun (v13, v14) => ⟨[(1, dV list), (2, dV capacity), (3, .ref 16 0), (6, .ref 32 0), (7, .ref 48 0), (9, dV trips), (10, .ref 64 0), (11, dV i), (12, .own 80), (13, dV b), (14, dV e1), (15, dV r3.1), (16, dV r3.2), (17, dV v13), (18, dV v14)], [bX 16 35 [dV t.Network.Stops, dV t.Network.Lines, dV t.Trips], bX 32 159 [.dat (.sc (.slice none 0 0)), .dat (.sc (.slice none 0 0)), kV .i64 0, kV .i64 0, .dat (.sc (.slice none 0 0)), .dat (.sc (.slice none 0 0))], bX 48 159 [.own 96, .own 112, dV v8, dV v9, .own 128, .own 144], bX 64 82 [dV e.From, dV e.To, dV e.Time, dV e.Persons], aX 80 3 r2, tX 96 53 [some 3] v10 96 none, aX 112 3 v5, aX 128 3 v11, aX 144 3 v12], 176⟩) ?_)
      rintro ⟨v13, v14⟩ r0 hb3 hm
      rw [zq55_L2] at hm
      refine Ok_seq (rg G (cd hm (fun hm => ?_) (fun hm => ?_)))
      ·refine X_skip (thN (Ok_seq (Ok_block ?_)))
       obtain ⟨e2, h14, hm⟩ := obind hm
       obtain ⟨e3, h15, hm⟩ := obind hm
       obtain ⟨r4, h16, hm⟩ := obind hm
       refine re G (hD 5 h14 (hE 6 h14 (hE 8 h14 (hP (idx_b (f := Enc.e) h15) (hO 9 (.d2 (Enc.e e2) (Enc.e e3)) (hP (idx_m2 (f := Enc.e) h14) (hP (idx_m2 (f := Enc.e) h15) (hC 11 (zq49_c h16) h0)))))))) ?_
       exact ibN (thN (rh G (wL G hm)))
      ·exact Ok_exit (thE (thE (ibE (wD G hm hb3))))
     rintro v15 hm s1 hw1
     refine thN (Ok_weak hw1 ?_)
     refine Ok_seq (rg G (tl hm (fun v18 => ⟨[(1, dV list), (2, dV capacity), (3, .ref 16 0), (6, .ref 32 0), (7, .ref 48 0), (9, dV trips), (10, .ref 64 0), (11, dV i), (12, .own 80), (13, dV b), (14, dV e1), (16, dV r3.2), (17, dV v15)], [bX 16 35 [dV t.Network.Stops, dV t.Network.Lines, dV t.Trips], bX 32 159 [.dat (.sc (.slice none 0 0)), .dat (.sc (.slice none 0 0)), kV .i64 0, kV .i64 0, .dat (.sc (.slice none 0 0)), .dat (.sc (.slice none 0 0))], bX 48 159 [.own 96, .own 112, dV v8, dV v9, .own 128, .own 144], bX 64 82 [dV e.From, dV e.To, dV e.Time, dV e.Persons], aX 80 3 r2, tX 96 53 [some 3] v18 96 none, aX 112 3 v5, aX 128 3 v11, aX 144 3 v12], 176⟩) (fun v18 hm => ?_) ?_))
     ·refine Ok_block (lp G hm (fun (v16, v17) => ⟨[(1, dV list), (2, dV capacity), (3, .ref 16 0), (6, .ref 32 0), (7, .ref 48 0), (9, dV trips), (10, .ref 64 0), (11, dV i), (12, .own 80), (13, dV b), (14, dV e1), (16, dV r3.2), (17, dV v15), (19, dV v16)], [bX 16 35 [dV t.Network.Stops, dV t.Network.Lines, dV t.Trips], bX 32 159 [.dat (.sc (.slice none 0 0)), .dat (.sc (.slice none 0 0)), kV .i64 0, kV .i64 0, .dat (.sc (.slice none 0 0)), .dat (.sc (.slice none 0 0))], bX 48 159 [.own 96, .own 112, dV v8, dV v9, .own 128, .own 144], bX 64 82 [dV e.From, dV e.To, dV e.Time, dV e.Persons], aX 80 3 r2, tX 96 53 [some 3] v17 96 none, aX 112 3 v5, aX 128 3 v11, aX 144 3 v12], 176⟩) ?_)
      rintro ⟨v16, v17⟩ r0 hb4 hm
      rw [zq55_L3] at hm
      refine Ok_seq (rg G (cd hm (fun hm => ?_) (fun hm => ?_)))
      ·refine X_skip (thN (Ok_seq (Ok_block ?_)))
       obtain ⟨e8, h21, hm⟩ := obind hm
       obtain ⟨e9, h22, hm⟩ := obind hm
       obtain ⟨e10, h23, hm⟩ := obind hm
       obtain ⟨e11, h24, hm⟩ := obind hm
       refine de G [(17, [96])] (hD 3 h21 (hE 4 h21 (hD 9 h22 (hE 10 h21 (hE 12 h21 (hP (idx_b (f := Enc.e) h23) (hO 13 (.d2 (Enc.e e8) (Enc.e e10)) (hP (idx_m2 (f := Enc.e) h21) (hP (idx_m2 (f := Enc.e) h23) (hE 16 h21 (hP (idx_b (f := Enc.e) h24) (hO 17 (.sd2 (Enc.e e8) (Enc.e e11) (List.map Enc.e (e8.set v16.toNat (w64 (e10 + v15)))) (List.map Enc.e (v17.set e1.toNat (e8.set v16.toNat (w64 (e10 + v15)))))) (hP (idx_m2 (f := Enc.e) h21) (hP (idx_m2 (f := Enc.e) h24) (hP (set_m Enc.e e8 v16.toNat (w64 (e10 + v15))) (hP (set_m Enc.e v17 e1.toNat (e8.set v16.toNat (w64 (e10 + v15)))) h0)))))))))))))))) ?_
       exact ibN (thN (rh G (wL G hm)))
      ·exact Ok_exit (thE (thE (ibE (wD G hm hb4))))
     rintro v18 hm s2 hw2
     refine thN (Ok_weak hw2 ?_)
     refine rg G (rg G ?_)
     obtain ⟨r6, h26, hm⟩ := obind hm
     refine ds G [(13, [48])] (hC 6 (zq72_c h26) h0) ?_
     obtain ⟨e14, h29, hm⟩ := obind hm
     obtain ⟨e15, h30, hm⟩ := obind hm
     refine ds G [(13, [128])] (hD 8 h29 (hE 9 h29 (hD 12 h30 (hS 13 h30 (w64 (e14 + v15)) h0)))) ?_
     obtain ⟨e18, h33, hm⟩ := obind hm
     obtain ⟨e19, h34, hm⟩ := obind hm
     refine de G [(13, [144])] (hD 8 h33 (hE 9 h33 (hD 12 h34 (hS 13 h34 (w64 (e18 + v15)) h0)))) ?_
     exact ibN (thN (rh G (wL G hm)))
    ·exact Ok_exit (thE (thE (ibE (wD G hm hb2))))
   rintro ⟨i1, v19, v20, v21, v22, v23⟩ hm s3 hw3
   refine thN (Ok_weak hw3 ?_)
   obtain ⟨u8, h35, hm⟩ := obind hm
   refine re G (hA 4 8 h35 h0) ?_
   exact ibN (thN (rh G (wL G hm)))
  ·exact Ok_exit (thE (thE (ibE (wD G hm hb1))))
 rintro ⟨v24, v25, v26, v27, v28, v29⟩ hm s4 hw4
 refine thN (Ok_weak hw4 ?_)
 refine rg G ?_
 cases hm
 exact rt [48, 64, 80, 96] []
noncomputable def zq29_M : MS (Timetable × (List Flow) × Int) ((List (List Int)) × Bool) := ⟨.x .r (.x .r .r), fun x => zq29 x.1 x.2.1 x.2.2, fun y => .tup [dV y.1, dV y.2], fun _ => [], fun _ _ => []⟩
theorem zq29_c {t list capacity y} (hm : zq29 t list capacity = some y) : zq29_M.C (t, list, capacity) y := zq29_M.c (t, list, capacity) hm
theorem zq29_ok : FnOK Try.prog tJ 35 zq29_M.S := by
 refine fm tt zq29_M [fo zq54_ok, fo zq55_ok] Try.call35 Try.func35 rfl Try.results35 Try.ntmps35 ?_
 rintro ⟨t, list, capacity⟩ y cx G hm
 have hm : zq29 t list capacity = some y := hm
 unfold zq29 at hm
 refine rg G (Ok_seq ?_)
 obtain ⟨r, h, hm⟩ := obind hm
 refine rs G (hC 3 (zq54_c h) h0) ?_
 refine cd hm (fun hm => ?_) (fun hm => ?_)
 ·refine rg G ?_
  cases hm
  exact rt [] []
 ·refine X_skip (thN ?_)
  obtain ⟨r1, h1, hm⟩ := obind hm
  obtain ⟨u, h2, hm⟩ := obind hm
  refine rs G (hC 4 (zq55_c h1) (hO 6 (.fz [] [] [(144, [.t [some 3]])]) (hA 6 24 h2 h0))) ?_
  cases hm
  exact rt [] []
noncomputable def zq90_M : MS ((List Int) × (List Int)) Bool := ⟨.x .r .r, fun x => zq90 x.1 x.2, fun y => dV y, fun _ => [], fun _ _ => []⟩
theorem zq90_c {a b y} (hm : zq90 a b = some y) : zq90_M.C (a, b) y := zq90_M.c (a, b) hm
theorem zq90_ok : FnOK Try.prog tJ 22 zq90_M.S := by
 refine fm tt zq90_M [] Try.call22 Try.func22 rfl Try.results22 Try.ntmps22 ?_
 rintro ⟨a, b⟩ y cx G hm
 have hm : zq90 a b = some y := hm
 unfold zq90 at hm
 refine rg G (Ok_seq (rs G (hN 1 a (hN 3 b h0)) ?_))
 refine cd hm (fun hm => ?_) (fun hm => ?_)
 ·refine rg G ?_
  cases hm
  exact rt [] []
 ·refine X_skip (thN (Ok_seq (rg G (tF hm (fun _ => ⟨[], [], 32⟩) (fun v1 hr hm => ?_) ?_))))
  ·refine Ok_block (lp G hm (fun v => ⟨[(0, dV a), (1, dV b), (5, dV v)], [], 32⟩) ?_)
   rintro v r0 hb hm
   rw [zq90_L1] at hm
   refine Ok_seq (rs G (hN 2 a h0) ?_)
   refine cd hm (fun hm => ?_) (fun hm => ?_)
   ·refine X_skip (thN (Ok_seq (Ok_block ?_)))
    obtain ⟨e2, h2, hm⟩ := obind hm
    obtain ⟨e3, h3, hm⟩ := obind hm
    refine ds G [] (hD 2 h2 (hD 6 h3 h0)) ?_
    refine cd hm (fun hm => ?_) (fun hm => ?_)
    ·refine rg G ?_
     have hm := eL hm hb hr
     cases hm
     exact rt [] []
    ·exact X_skip (ibN (thN (rh G (wL G hm))))
   ·exact Ok_exit (thE (thE (ibE (wE G hm hb))))
  rintro ⟨⟩ hm s hw
  refine thN (Ok_weak hw ?_)
  refine rg G ?_
  cases hm
  exact rt [] []
end Go.Proofs.Ytdocbkbpjdjlpaa
