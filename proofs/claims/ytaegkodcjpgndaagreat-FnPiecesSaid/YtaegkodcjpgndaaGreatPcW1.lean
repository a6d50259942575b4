/- Each function computes what its model says. Made by program (dec.py). -/
import Derived.Test.YtaegkodcjpgndaaGreatTy
import Derived.Test.YtaegkodcjpgndaaGreatAbArr
import Derived.Test.YtaegkodcjpgndaaGreatPcM
namespace Go.Proofs.YtaegkodcjpgndaaGreat
open Go Go.Ab
set_option maxRecDepth 100000
set_option maxHeartbeats 4000000
set_option linter.unusedVariables false
set_option linter.unusedSimpArgs false
noncomputable section
theorem tt : TT Tryz.prog ty := ⟨by kernel_rfl, ty_ok⟩
def yahe : MS ((List UInt8)) Bool := ⟨.r, zq134, fun y => dV y, fun _ => [], fun _ _ => []⟩
theorem yaxe {code y} (hm : zq134 code = some y) : yahe.C code y := yahe.c code hm
theorem yaso : FnOK Tryz.prog 9 yahe.S := by
 refine fm tt yahe [] Tryz.call9 Tryz.func9 rfl Tryz.results9 Tryz.ntmps9 ?_
 rintro code y cx G hm
 have hm : zq134 code = some y := hm
 unfold zq134 at hm
 refine rg G (rs G (hN 1 code h0) ?_)
 cases hm
 exact rt [] []
def yamv : MS l1Cur (Int × l1Cur) := ⟨.b, zq75, fun y => dV y.1, fun _ => [], fun _ y => [bxO y.2]⟩
theorem yauz {c y} (hm : zq75 c = some y) : yamv.C c y := yamv.c c hm
theorem yauy : FnOK Tryz.prog 206 yamv.S := by
 refine fm tt yamv [] Tryz.call206 Tryz.func206 rfl Tryz.results206 Tryz.ntmps206 ?_
 rintro c y cx G hm
 have hm : zq75 c = some y := hm
 unfold zq75 at hm
 refine rg G (rg G (jn hm (fun v => ⟨[(0, .ref 0 0), (3, dV v)], [bX 0 [dV c.code_, dV c.at_, kV .u64 c.seed_.v]], 48⟩) (fun v hm => ?_) ?_))
 ·refine ds G [] (hN 8 c.code_ h0) ?_
  refine cd hm (fun hm => ?_) (fun hm => ?_)
  ·obtain ⟨e1, h1, hm⟩ := obind hm
   refine de G [] (hD 8 h1 h0) ?_
   exact wJ G hm
  ·exact X_skip (wJ G hm)
 rintro v hm
 refine rg G (rg G (Ok_seq (ds G [] (hN 8 c.code_ h0) ?_)))
 refine cd hm (fun hm => ?_) (fun hm => ?_)
 ·refine rg G ?_
  cases hm
  exact rt [] []
 ·refine X_skip (thN ?_)
  obtain ⟨u, h2, hm⟩ := obind hm
  refine rs G (hK h2 h0) ?_
  cases hm
  exact rt [] []
def yams : MS (l1Cur × Int) (Int × l1Cur) := ⟨.x .b .r, fun x => zq79 x.1 x.2, fun y => dV y.1, fun _ => [], fun _ y => [bxO y.2]⟩
theorem yaba {c n y} (hm : zq79 c n = some y) : yams.C (c, n) y := yams.c (c, n) hm
theorem yabj : FnOK Tryz.prog 146 yams.S := by
 refine fm tt yams [fo yauy] Tryz.call146 Tryz.func146 rfl Tryz.results146 Tryz.ntmps146 ?_
 rintro ⟨c, n⟩ y cx G hm
 have hm : zq79 c n = some y := hm
 unfold zq79 at hm
 refine rg G (Ok_seq (rg G (cd hm (fun hm => ?_) (fun hm => ?_))))
 ·refine rg G ?_
  cases hm
  exact rt [] []
 ·refine X_skip (thN ?_)
  obtain ⟨r, h, hm⟩ := obind hm
  refine rs G (hC 1 (yauz h) h0) ?_
  refine jn hm (fun (v, v1, v2, v3) => ⟨[(0, .ref 0 0), (1, dV n), (5, dV v)], [bX 0 [dV v1, dV v2, kV .u64 v3]], 48⟩) (fun vv hm => ?_) ?_
  ·refine rg G (cd hm (fun hm => ?_) (fun hm => ?_))
   ·obtain ⟨r1, h1, hm⟩ := obind hm
    refine re G (hC 3 (yauz h1) h0) ?_
    exact wJ G hm
   ·exact X_skip (wJ G hm)
  rintro ⟨v, v1, v2, v3⟩ hm
  obtain ⟨u, h2, hm⟩ := obind hm
  refine rs G (hK h2 h0) ?_
  cases hm
  exact rt [] []
def yamt : MS (l1Cur × Int) (Bool × l1Cur) := ⟨.x .b .r, fun x => zq78 x.1 x.2, fun y => dV y.1, fun _ => [], fun _ y => [bxO y.2]⟩
theorem yaiw {c n y} (hm : zq78 c n = some y) : yamt.C (c, n) y := yamt.c (c, n) hm
theorem yacx : FnOK Tryz.prog 145 yamt.S := by
 refine fm tt yamt [fo yabj] Tryz.call145 Tryz.func145 rfl Tryz.results145 Tryz.ntmps145 ?_
 rintro ⟨c, n⟩ y cx G hm
 have hm : zq78 c n = some y := hm
 unfold zq78 at hm
 refine rg G ?_
 obtain ⟨r, h, hm⟩ := obind hm
 refine rs G (hC 2 (yaba h) h0) ?_
 cases hm
 exact rt [] []
def yack (rec_ : Int → Option (ByteArray)) : MS Int ByteArray := ⟨.r, rec_, fun y => dV y, fun _ => [], fun _ _ => []⟩
def yasd : MS Int ByteArray := yack zq89
theorem yasc {n y} (hm : zq89 n = some y) : yasd.C n y := yasd.c n hm
theorem yaqp {rec_ : Int → Option (ByteArray)} {n y} (hm : rec_ n = some y) : (yack rec_).C n y := (yack rec_).c n hm
theorem yasb {rec_ : Int → Option (ByteArray)} (hrec : FnOK Tryz.prog 220 (yack rec_).S) : FnOK Tryz.prog 220 (yack (yafi rec_)).S := by
 refine fm tt (yack (yafi rec_)) [fo hrec] Tryz.call220 Tryz.func220 rfl Tryz.results220 Tryz.ntmps220 ?_
 rintro n y cx G hm
 have hm : yafi rec_ n = some y := hm
 unfold yafi at hm
 refine rg G (Ok_seq (rg G (cd hm (fun hm => ?_) (fun hm => ?_))))
 ·obtain ⟨r, h, hm⟩ := obind hm
  obtain ⟨u, h1, hm⟩ := obind hm
  refine rs G (hC 2 (yaqp h) (hP (cat_p (chk_t h1)) h0)) ?_
  cases hm
  exact rt [] []
 ·refine X_skip (thN (Ok_seq (rg G (cd hm (fun hm => ?_) (fun hm => ?_)))))
  ·obtain ⟨u1, h2, hm⟩ := obind hm
   refine rs G (hK h2 h0) ?_
   cases hm
   exact rt [] []
  ·refine X_skip (thN ?_)
   obtain ⟨u7, h9, hm⟩ := obind hm
   obtain ⟨r2, h10, hm⟩ := obind hm
   obtain ⟨u8, h11, hm⟩ := obind hm
   obtain ⟨u9, h12, hm⟩ := obind hm
   obtain ⟨u10, h13, hm⟩ := obind hm
   obtain ⟨u11, h14, hm⟩ := obind hm
   refine ds G [] (hK h9 (hC 2 (yaqp h10) (hK h11 (hK h12 (hK h13 (hP (cat_p (chk_t h14)) h0)))))) ?_
   cases hm
   exact rt [] []
theorem yajl : ∀ k, FnOK Tryz.prog 220 (yack (yamh k)).S
 | 0 => ⟨fun args w => Tryz.call220 args w, fun vs w F ds obs κ hp => by obtain ⟨x, y, _, _, h⟩ := hp; cases h⟩
 | k + 1 => yasb (yajl k)
theorem yajm : FnOK Tryz.prog 220 yasd.S := yajl 4294967296
def yaij : MS (Line × Int) Int := ⟨.x .r .r, fun x => zq102 x.1 x.2, fun y => dV y, fun _ => [], fun _ _ => []⟩
theorem yakv {x stop y} (hm : zq102 x stop = some y) : yaij.C (x, stop) y := yaij.c (x, stop) hm
theorem yafn : FnOK Tryz.prog 236 yaij.S := by
 refine fm tt yaij [] Tryz.call236 Tryz.func236 rfl Tryz.results236 Tryz.ntmps236 ?_
 rintro ⟨x, stop⟩ y cx G hm
 have hm : zq102 x stop = some y := hm
 unfold zq102 at hm
 refine rg G (Ok_seq (rg G (tF hm (fun _ => ⟨[], [], 32⟩) (fun v1 hr hm => ?_) ?_)))
 ·refine Ok_block (lp G hm (fun v => ⟨[(1, dV stop), (2, .ref 16 0), (5, dV v)], [bX 16 [dV x.Name, dV x.Stops, dV x.Runs]], 48⟩) ?_)
  rintro v r0 hb hm
  rw [yaem] at hm
  refine Ok_seq (rs G (hN 3 x.Stops h0) ?_)
  refine cd hm (fun hm => ?_) (fun hm => ?_)
  ·refine X_skip (thN (Ok_seq (Ok_block ?_)))
   obtain ⟨e, h, hm⟩ := obind hm
   refine rs G (hD 3 h h0) ?_
   refine cd hm (fun hm => ?_) (fun hm => ?_)
   ·refine rg G ?_
    have hm := eL hm hb hr
    cases hm
    exact rt [] []
   ·exact X_skip (ibN (thN (rh G (wL G hm))))
  ·exact Ok_exit (thE (thE (ibE (wE G hm hb))))
 rintro ⟨⟩ hm s hw
 refine thN (Ok_weak hw ?_)
 refine rg G ?_
 cases hm
 exact rt [] []
def yamz : MS (l1Cur × ByteArray × Int) (Line × l1Cur) := ⟨.x .b (.x .r .r), fun x => zq71 x.1 x.2.1 x.2.2, fun y => .aggv [dV y.1.Name, .own 0, .own 1], fun y => [arO 3 y.1.Stops, arO 3 y.1.Runs], fun _ y => [bxO y.2]⟩
theorem yazd {c name stops y} (hm : zq71 c name stops = some y) : yamz.C (c, name, stops) y := yamz.c (c, name, stops) hm
theorem yavd : FnOK Tryz.prog 219 yamz.S := by
 refine fm tt yamz [fo yabj, fo yafn] Tryz.call219 Tryz.func219 rfl Tryz.results219 Tryz.ntmps219 ?_
 rintro ⟨c, name, stops⟩ y cx G hm
 have hm : zq71 c name stops = some y := hm
 unfold zq71 at hm
 refine rg G (rg G ?_)
 obtain ⟨r, h, hm⟩ := obind hm
 refine rs G (hC 2 (yaba h) h0) ?_
 refine Ok_seq ?_
 obtain ⟨r1, h1, hm⟩ := obind hm
 refine rs G (hC 1 (yaba h1) h0) ?_
 refine tl hm (fun (v7, v8, v9, v10) => ⟨[(0, .ref 0 0), (2, dV stops), (6, .ref 32 0), (7, .ref 48 0)], [bX 0 [dV v7, dV v8, kV .u64 v9], bX 32 [dV ByteArray.empty, .dat (.sc (.slice none 0 0)), .dat (.sc (.slice none 0 0))], bX 48 [dV name, .own 64, .dat (.sc (.slice none 0 0))], aX 64 3 v10], 96⟩) (fun vv1 hm => ?_) ?_
 ·refine Ok_block (lpP hm (fun (v, v1, v2, v3, v4, v5) => ⟨[(0, .ref 0 0), (2, dV stops), (6, .ref 32 0), (7, .ref 48 0), (8, dV v), (9, dV v1)], [bX 0 [dV v2, dV v3, kV .u64 v4], bX 32 [dV ByteArray.empty, .dat (.sc (.slice none 0 0)), .dat (.sc (.slice none 0 0))], bX 48 [dV name, .own 64, .dat (.sc (.slice none 0 0))], aX 64 3 v5], 96⟩) (Wk_J G.hL ⟨[(0, []), (2, []), (6, []), (7, []), (8, []), (9, [])], [(0, 0, []), (32, 16, []), (48, 64, [.k, .o 64])], [(64, 3, 1, [])], 96⟩ (by kernel_rfl)) ?_)
  rintro ⟨v, v1, v2, v3, v4, v5⟩ r0 hb hm
  rw [yagj] at hm
  refine Ok_seq (rg G (cd hm (fun hm => ?_) (fun hm => ?_)))
  ·refine X_skip (thN (Ok_seq (Ok_block (jn hm (fun v6 => ⟨[(0, .ref 0 0), (2, dV stops), (6, .ref 32 0), (7, .ref 48 0), (8, dV v), (9, dV v1)], [bX 0 [dV v2, dV v3, kV .u64 v4], bX 32 [dV ByteArray.empty, .dat (.sc (.slice none 0 0)), .dat (.sc (.slice none 0 0))], bX 48 [dV name, .own 64, .dat (.sc (.slice none 0 0))], aX 64 3 v6], 96⟩) (fun v6 hm => ?_) ?_))))
   ·obtain ⟨r2, h2, hm⟩ := obind hm
    refine rs G (hC 2 (yakv h2) h0) ?_
    refine cd hm (fun hm => ?_) (fun hm => ?_)
    ·obtain ⟨u, h3, hm⟩ := obind hm
     refine re G (hA 4 8 h3 h0) ?_
     exact wJ G hm
    ·exact X_skip (wJ G hm)
   rintro v6 hm
   obtain ⟨r3, h4, hm⟩ := obind hm
   obtain ⟨u1, h5, hm⟩ := obind hm
   refine re G (hC 3 (yaba h4) (hK h5 h0)) ?_
   exact ibN (thN (rh G (wL G hm)))
  ·exact Ok_exit (thE (thE (ibE (wD G hm hb))))
 rintro ⟨v7, v8, v9, v10⟩ hm s hw
 refine thN (Ok_weak hw ?_)
 refine jn hm (fun v11 => ⟨[(0, .ref 0 0), (6, .ref 32 0), (7, .ref 48 0)], [bX 0 [dV v7, dV v8, kV .u64 v9], bX 32 [dV ByteArray.empty, .dat (.sc (.slice none 0 0)), .dat (.sc (.slice none 0 0))], bX 48 [dV name, .own 64, .dat (.sc (.slice none 0 0))], aX 64 3 v11], 96⟩) (fun v11 hm => ?_) ?_
 ·refine rs G (hN 2 v10 h0) ?_
  refine cd hm (fun hm => ?_) (fun hm => ?_)
  ·obtain ⟨e1, h9, hm⟩ := obind hm
   obtain ⟨u4, h10, hm⟩ := obind hm
   obtain ⟨u5, h11, hm⟩ := obind hm
   refine de G [(10, [64, 304]), (12, [48, 320])] (hD 4 h9 (hE 5 h9 (hK h10 (hA 10 8 h11 h0)))) ?_
   exact wJ G hm
  ·exact X_skip (wJ G hm)
 rintro v11 hm
 refine Ok_seq (rg G (tl hm (fun (v17, v18, v19, v20) => ⟨[(0, .ref 0 0), (6, .ref 32 0), (7, .ref 48 0)], [bX 0 [dV v17, dV v18, kV .u64 v19], bX 32 [dV ByteArray.empty, .dat (.sc (.slice none 0 0)), .dat (.sc (.slice none 0 0))], bX 48 [dV name, .own 64, .own 80], aX 64 3 v11, aX 80 3 v20], 112⟩) (fun vv hm => ?_) ?_))
 ·refine Ok_block (lpP hm (fun (v12, v13, v14, v15, v16) => ⟨[(0, .ref 0 0), (6, .ref 32 0), (7, .ref 48 0), (10, dV v12)], [bX 0 [dV v13, dV v14, kV .u64 v15], bX 32 [dV ByteArray.empty, .dat (.sc (.slice none 0 0)), .dat (.sc (.slice none 0 0))], bX 48 [dV name, .own 64, .own 80], aX 64 3 v11, aX 80 3 v16], 112⟩) (Wk_J G.hL ⟨[(0, []), (6, []), (7, []), (10, [])], [(0, 0, []), (32, 32, []), (48, 48, [.k, .k, .o 80]), (64, 64, [])], [(80, 3, 1, [])], 112⟩ (by kernel_rfl)) ?_)
  rintro ⟨v12, v13, v14, v15, v16⟩ r0 hb1 hm
  rw [yagi] at hm
  refine Ok_seq (rs G (hN 3 v11 h0) ?_)
  refine cd hm (fun hm => ?_) (fun hm => ?_)
  ·refine X_skip (thN (Ok_seq (Ok_block ?_)))
   obtain ⟨r5, h14, hm⟩ := obind hm
   obtain ⟨u7, h15, hm⟩ := obind hm
   refine de G [(3, [0]), (6, [80, 272]), (8, [48, 288])] (hC 3 (yaba h14) (hA 6 8 h15 h0)) ?_
   exact ibN (thN (rh G (wL G hm)))
  ·exact Ok_exit (thE (thE (ibE (wD G hm hb1))))
 rintro ⟨v17, v18, v19, v20⟩ hm s1 hw1
 refine thN (Ok_weak hw1 ?_)
 refine rg G ?_
 cases hm
 exact rt [64, 80] []
def yamy : MS (l1Cur × ByteArray × Int) (Line × l1Cur) := ⟨.x .b (.x .r .r), fun x => zq72 x.1 x.2.1 x.2.2, fun y => dV y.1, fun _ => [], fun _ y => [bxO y.2]⟩
theorem yavc {c name stops y} (hm : zq72 c name stops = some y) : yamy.C (c, name, stops) y := yamy.c (c, name, stops) hm
theorem yaqw : FnOK Tryz.prog 219 yamy.S := by
 refine fm tt yamy [fo yabj, fo yafn] Tryz.call219 Tryz.func219 rfl Tryz.results219 Tryz.ntmps219 ?_
 rintro ⟨c, name, stops⟩ y cx G hm
 have hm : zq72 c name stops = some y := hm
 unfold zq72 at hm
 refine rg G (rg G ?_)
 obtain ⟨r, h, hm⟩ := obind hm
 refine rs G (hC 2 (yaba h) h0) ?_
 refine Ok_seq ?_
 obtain ⟨r1, h1, hm⟩ := obind hm
 refine rs G (hC 1 (yaba h1) h0) ?_
 refine tl hm (fun (v7, v8, v9, v10) => ⟨[(0, .ref 0 0), (2, dV stops), (6, .ref 32 0), (7, .ref 48 0)], [bX 0 [dV v7, dV v8, kV .u64 v9], bX 32 [dV ByteArray.empty, .dat (.sc (.slice none 0 0)), .dat (.sc (.slice none 0 0))], bX 48 [dV name, .own 64, .dat (.sc (.slice none 0 0))], aX 64 3 v10], 96⟩) (fun vv1 hm => ?_) ?_
 ·refine Ok_block (lpP hm (fun (v, v1, v2, v3, v4, v5) => ⟨[(0, .ref 0 0), (2, dV stops), (6, .ref 32 0), (7, .ref 48 0), (8, dV v), (9, dV v1)], [bX 0 [dV v2, dV v3, kV .u64 v4], bX 32 [dV ByteArray.empty, .dat (.sc (.slice none 0 0)), .dat (.sc (.slice none 0 0))], bX 48 [dV name, .own 64, .dat (.sc (.slice none 0 0))], aX 64 3 v5], 96⟩) (Wk_J G.hL ⟨[(0, []), (2, []), (6, []), (7, []), (8, []), (9, [])], [(0, 0, []), (32, 16, []), (48, 64, [.k, .o 64])], [(64, 3, 1, [])], 96⟩ (by kernel_rfl)) ?_)
  rintro ⟨v, v1, v2, v3, v4, v5⟩ r0 hb hm
  rw [yaqy] at hm
  refine Ok_seq (rg G (cd hm (fun hm => ?_) (fun hm => ?_)))
  ·refine X_skip (thN (Ok_seq (Ok_block (jn hm (fun v6 => ⟨[(0, .ref 0 0), (2, dV stops), (6, .ref 32 0), (7, .ref 48 0), (8, dV v), (9, dV v1)], [bX 0 [dV v2, dV v3, kV .u64 v4], bX 32 [dV ByteArray.empty, .dat (.sc (.slice none 0 0)), .dat (.sc (.slice none 0 0))], bX 48 [dV name, .own 64, .dat (.sc (.slice none 0 0))], aX 64 3 v6], 96⟩) (fun v6 hm => ?_) ?_))))
   ·obtain ⟨r2, h2, hm⟩ := obind hm
    refine rs G (hC 2 (yakv h2) h0) ?_
    refine cd hm (fun hm => ?_) (fun hm => ?_)
    ·obtain ⟨u, h3, hm⟩ := obind hm
     refine re G (hA 4 8 h3 h0) ?_
     exact wJ G hm
    ·exact X_skip (wJ G hm)
   rintro v6 hm
   obtain ⟨r3, h4, hm⟩ := obind hm
   obtain ⟨u1, h5, hm⟩ := obind hm
   refine re G (hC 3 (yaba h4) (hK h5 h0)) ?_
   exact ibN (thN (rh G (wL G hm)))
  ·exact Ok_exit (thE (thE (ibE (wD G hm hb))))
 rintro ⟨v7, v8, v9, v10⟩ hm s hw
 refine thN (Ok_weak hw ?_)
 refine jn hm (fun v11 => ⟨[(0, .ref 0 0), (6, .ref 32 0), (7, .ref 48 0)], [bX 0 [dV v7, dV v8, kV .u64 v9], bX 32 [dV ByteArray.empty, .dat (.sc (.slice none 0 0)), .dat (.sc (.slice none 0 0))], bX 48 [dV name, .own 64, .dat (.sc (.slice none 0 0))], aX 64 3 v11], 96⟩) (fun v11 hm => ?_) ?_
 ·refine rs G (hN 2 v10 h0) ?_
  refine cd hm (fun hm => ?_) (fun hm => ?_)
  ·obtain ⟨e1, h9, hm⟩ := obind hm
   obtain ⟨u4, h10, hm⟩ := obind hm
   obtain ⟨u5, h11, hm⟩ := obind hm
   refine de G [(10, [64, 304]), (12, [48, 320])] (hD 4 h9 (hE 5 h9 (hK h10 (hA 10 8 h11 h0)))) ?_
   exact wJ G hm
  ·exact X_skip (wJ G hm)
 rintro v11 hm
 refine Ok_seq (rg G (tl hm (fun (v17, v18, v19, v20) => ⟨[(0, .ref 0 0), (6, .ref 32 0), (7, .ref 48 0)], [bX 0 [dV v17, dV v18, kV .u64 v19], bX 32 [dV ByteArray.empty, .dat (.sc (.slice none 0 0)), .dat (.sc (.slice none 0 0))], bX 48 [dV name, .own 64, .own 80], aX 64 3 v11, aX 80 3 v20], 112⟩) (fun vv hm => ?_) ?_))
 ·refine Ok_block (lpP hm (fun (v12, v13, v14, v15, v16) => ⟨[(0, .ref 0 0), (6, .ref 32 0), (7, .ref 48 0), (10, dV v12)], [bX 0 [dV v13, dV v14, kV .u64 v15], bX 32 [dV ByteArray.empty, .dat (.sc (.slice none 0 0)), .dat (.sc (.slice none 0 0))], bX 48 [dV name, .own 64, .own 80], aX 64 3 v11, aX 80 3 v16], 112⟩) (Wk_J G.hL ⟨[(0, []), (6, []), (7, []), (10, [])], [(0, 0, []), (32, 32, []), (48, 48, [.k, .k, .o 80]), (64, 64, [])], [(80, 3, 1, [])], 112⟩ (by kernel_rfl)) ?_)
  rintro ⟨v12, v13, v14, v15, v16⟩ r0 hb1 hm
  rw [yaqx] at hm
  refine Ok_seq (rs G (hN 3 v11 h0) ?_)
  refine cd hm (fun hm => ?_) (fun hm => ?_)
  ·refine X_skip (thN (Ok_seq (Ok_block ?_)))
   obtain ⟨r5, h14, hm⟩ := obind hm
   obtain ⟨u7, h15, hm⟩ := obind hm
   refine de G [(3, [0]), (6, [80, 272]), (8, [48, 288])] (hC 3 (yaba h14) (hA 6 8 h15 h0)) ?_
   exact ibN (thN (rh G (wL G hm)))
  ·exact Ok_exit (thE (thE (ibE (wD G hm hb1))))
 rintro ⟨v17, v18, v19, v20⟩ hm s1 hw1
 refine thN (Ok_weak hw1 ?_)
 refine rg G ?_
 cases hm
 exact rt [] []
def yamc : MS ((List Int)) ((List Int)) := ⟨.r, zq94, fun y => dV y, fun _ => [], fun _ _ => []⟩
theorem yamb {list y} (hm : zq94 list = some y) : yamc.C list y := yamc.c list hm
theorem yaqn : FnOK Tryz.prog 230 yamc.S := by
 refine fm tt yamc [] Tryz.call230 Tryz.func230 rfl Tryz.results230 Tryz.ntmps230 ?_
 rintro list y cx G hm
 have hm : zq94 list = some y := hm
 unfold zq94 at hm
 refine rg G (rg G (Ok_seq (rs G (hN 1 list h0) ?_)))
 refine tl hm (fun i1 => ⟨[(3, .own 16)], [aX 16 3 i1], 48⟩) (fun i1 hm => ?_) ?_
 ·refine Ok_block (lp G hm (fun (v, i) => ⟨[(0, dV list), (3, .own 16), (4, dV v)], [aX 16 3 i], 48⟩) ?_)
  rintro ⟨v, i⟩ r0 hb hm
  rw [yaqo] at hm
  refine Ok_seq (rg G (cd hm (fun hm => ?_) (fun hm => ?_)))
  ·refine X_skip (thN (Ok_seq (Ok_block ?_)))
   obtain ⟨e, h, hm⟩ := obind hm
   obtain ⟨u, h1, hm⟩ := obind hm
   refine re G (hD 3 h (hA 6 8 h1 h0)) ?_
   exact ibN (thN (rh G (wL G hm)))
  ·exact Ok_exit (thE (thE (ibE (wD G hm hb))))
 rintro i1 hm s hw
 refine thN (Ok_weak hw ?_)
 refine rg G ?_
 cases hm
 exact rt [] []
def yamg : MS ((List Int)) ((List Int)) := ⟨.r, zq90, fun _ => .own 0, fun y => [arO 3 y], fun _ _ => []⟩
theorem yamf {l y} (hm : zq90 l = some y) : yamg.C l y := yamg.c l hm
theorem yajk : FnOK Tryz.prog 136 yamg.S := by
 refine fm tt yamg [] Tryz.call136 Tryz.func136 rfl Tryz.results136 Tryz.ntmps136 ?_
 rintro l y cx G hm
 have hm : zq90 l = some y := hm
 unfold zq90 at hm
 refine rg G ?_
 obtain ⟨u, h, hm⟩ := obind hm
 refine rs G (hA 2 8 h h0) ?_
 cases hm
 exact rt [64] []
def yame : MS ((List Int)) ((List Int)) := ⟨.r, zq91, fun y => dV y, fun _ => [], fun _ _ => []⟩
theorem yaun {l y} (hm : zq91 l = some y) : yame.C l y := yame.c l hm
theorem yaum : FnOK Tryz.prog 136 yame.S := by
 refine fm tt yame [] Tryz.call136 Tryz.func136 rfl Tryz.results136 Tryz.ntmps136 ?_
 rintro l y cx G hm
 have hm : zq91 l = some y := hm
 unfold zq91 at hm
 refine rg G ?_
 obtain ⟨u, h, hm⟩ := obind hm
 refine rs G (hA 2 8 h h0) ?_
 cases hm
 exact rt [] []
def yail : MS Network Network := ⟨.r, zq100, fun _ => .aggv [.own 0, .own 1], fun y => [arO 9 y.Stops, arO 170 y.Lines], fun _ _ => []⟩
theorem yayc {n y} (hm : zq100 n = some y) : yail.C n y := yail.c n hm
theorem yato : FnOK Tryz.prog 231 yail.S := by
 refine fm tt yail [fo yaum] Tryz.call231 Tryz.func231 rfl Tryz.results231 Tryz.ntmps231 ?_
 rintro n y cx G hm
 have hm : zq100 n = some y := hm
 unfold zq100 at hm
 refine rg G ?_
 obtain ⟨u, h, hm⟩ := obind hm
 refine rs G (hA 3 16 h h0) ?_
 refine Ok_seq (rg G (tl hm (fun v2 => ⟨[(2, .ref 16 0), (3, .ref 32 0)], [bX 16 [.dat (.sc (.slice none 0 0)), .dat (.sc (.slice none 0 0))], bX 32 [.own 48, .own 64], aX 48 9 (([] : List ByteArray) ++ n.Stops), aX 64 170 v2], 96⟩) (fun v2 hm => ?_) ?_))
 ·refine Ok_block (lpP hm (fun (v, v1) => ⟨[(1, .ref 16 0), (2, .ref 32 0), (3, .ref 48 0), (4, dV v)], [bX 16 [dV n.Stops, dV n.Lines], bX 32 [.dat (.sc (.slice none 0 0)), .dat (.sc (.slice none 0 0))], bX 48 [.own 64, .own 80], aX 64 9 (([] : List ByteArray) ++ n.Stops), aX 80 170 v1], 112⟩) (Wk_J G.hL ⟨[(1, []), (2, []), (3, []), (4, [])], [(16, 16, []), (32, 32, []), (48, 128, [.k, .o 80]), (64, 96, [])], [(80, 170, 3, [])], 112⟩ (by kernel_rfl)) ?_)
  rintro ⟨v, v1⟩ r0 hb hm
  rw [yaen] at hm
  refine Ok_seq (rs G (hN 3 n.Lines h0) ?_)
  refine cd hm (fun hm => ?_) (fun hm => ?_)
  ·refine X_skip (thN (Ok_seq (Ok_block ?_)))
   obtain ⟨e3, h7, hm⟩ := obind hm
   obtain ⟨e4, h8, hm⟩ := obind hm
   obtain ⟨r2, h9, hm⟩ := obind hm
   obtain ⟨e5, h10, hm⟩ := obind hm
   obtain ⟨r3, h11, hm⟩ := obind hm
   obtain ⟨u2, h12, hm⟩ := obind hm
   refine de G [(23, []), (24, [80, 560]), (26, [48, 576])] (hD 5 h7 (hD 11 h8 (hC 14 (yaun h9) (hD 18 h10 (hC 21 (yaun h11) (hA 24 64 h12 h0)))))) ?_
   exact ibN (thN (rh G (wL G hm)))
  ·exact Ok_exit (thE (thE (ibE (wD G hm hb))))
 rintro v2 hm s hw
 refine thN (Ok_weak hw ?_)
 refine rg G ?_
 cases hm
 exact rt [48, 64] []
def yamx : MS l1Cur (Network × l1Cur) := ⟨.b, zq73, fun _ => .aggv [.own 0, .own 1], fun y => [arO 9 y.1.Stops, arO 170 y.1.Lines], fun _ y => [bxO y.2]⟩
theorem yavb {c y} (hm : zq73 c = some y) : yamx.C c y := yamx.c c hm
theorem yaqu : FnOK Tryz.prog 204 yamx.S := by
 refine fm tt yamx [fo yabj, fo yajm, fo yaqw, fo yacx, fo yaqn, fo yato] Tryz.call204 Tryz.func204 rfl Tryz.results204 Tryz.ntmps204 ?_
 rintro c y cx G hm
 have hm : zq73 c = some y := hm
 unfold zq73 at hm
 refine rg G ?_
 obtain ⟨r, h, hm⟩ := obind hm
 refine rs G (hC 1 (yaba h) h0) ?_
 obtain ⟨u, h1, hm⟩ := obind hm
 refine rs G (hO 2 (.fz [96] [] []) (hU 2 h1 h0)) ?_
 refine Ok_seq ?_
 obtain ⟨r1, h2, hm⟩ := obind hm
 refine rs G (hC 1 (yaba h2) h0) ?_
 refine tl hm (fun (v4, v5, v6, v7) => ⟨[(0, .ref 0 0), (2, .ref 32 0), (4, .ref 48 0)], [bX 0 [dV v4, dV v5, kV .u64 v6], bX 32 [.dat (.sc (.slice none 0 0)), .dat (.sc (.slice none 0 0))], bX 48 [dV ((([(str [112, 111, 114, 116]), (str [109, 105, 108, 108]), (str [112, 97, 114, 107]), (str [104, 97, 108, 108]), (str [100, 111, 99, 107]), (str [102, 97, 105, 114])] : List ByteArray).take (w64 (2 + r.1)).toNat).drop (0 : Int).toNat), .own 64], aX 64 170 v7], 96⟩) (fun vv1 hm => ?_) ?_
 ·refine Ok_block (lpP hm (fun (x, v, v1, v2, v3) => ⟨[(0, .ref 0 0), (2, .ref 32 0), (3, dV (w64 (2 + r.1))), (4, .ref 48 0), (5, dV x)], [bX 0 [dV v, dV v1, kV .u64 v2], bX 32 [.dat (.sc (.slice none 0 0)), .dat (.sc (.slice none 0 0))], bX 48 [dV ((([(str [112, 111, 114, 116]), (str [109, 105, 108, 108]), (str [112, 97, 114, 107]), (str [104, 97, 108, 108]), (str [100, 111, 99, 107]), (str [102, 97, 105, 114])] : List ByteArray).take (w64 (2 + r.1)).toNat).drop (0 : Int).toNat), .own 64], aX 64 170 v3], 96⟩) (Wk_J G.hL ⟨[(0, []), (2, []), (3, []), (4, []), (5, [])], [(0, 0, []), (32, 16, []), (48, 160, [.k, .o 64])], [(64, 170, 3, [])], 96⟩ (by kernel_rfl)) ?_)
  rintro ⟨x, v, v1, v2, v3⟩ r0 hb hm
  rw [yaqv] at hm
  refine Ok_seq (rg G (cd hm (fun hm => ?_) (fun hm => ?_)))
  ·refine X_skip (thN (Ok_seq (Ok_block ?_)))
   obtain ⟨r4, h7, hm⟩ := obind hm
   obtain ⟨u3, h8, hm⟩ := obind hm
   obtain ⟨r5, h9, hm⟩ := obind hm
   obtain ⟨u4, h10, hm⟩ := obind hm
   refine de G [(7, [0]), (8, []), (9, [64, 256]), (11, [48, 272])] (hC 4 (yasc h7) (hP (cat_p (chk_t h8)) (hC 7 (yavc h9) (hA 9 64 h10 h0)))) ?_
   exact ibN (thN (rh G (wL G hm)))
  ·exact Ok_exit (thE (thE (ibE (wD G hm hb))))
 rintro ⟨v4, v5, v6, v7⟩ hm s hw
 refine thN (Ok_weak hw ?_)
 refine jn hm (fun (v8, v9, v10, v11) => ⟨[(0, .ref 0 0), (2, .ref 32 0), (4, .ref 48 0)], [bX 0 [dV v8, dV v9, kV .u64 v10], bX 32 [.dat (.sc (.slice none 0 0)), .dat (.sc (.slice none 0 0))], bX 48 [dV ((([(str [112, 111, 114, 116]), (str [109, 105, 108, 108]), (str [112, 97, 114, 107]), (str [104, 97, 108, 108]), (str [100, 111, 99, 107]), (str [102, 97, 105, 114])] : List ByteArray).take (w64 (2 + r.1)).toNat).drop (0 : Int).toNat), .own 64], aX 64 170 v11], 96⟩) (fun vv hm => ?_) ?_
 ·obtain ⟨r6, h11, hm⟩ := obind hm
  refine rs G (hC 1 (yaiw h11) h0) ?_
  refine cd hm (fun hm => ?_) (fun hm => ?_)
  ·obtain ⟨e, h12, hm⟩ := obind hm
   refine rs G (hD 2 h12 (hE 3 h12 h0)) ?_
   obtain ⟨r9, h16, hm⟩ := obind hm
   obtain ⟨r10, h17, hm⟩ := obind hm
   obtain ⟨u6, h18, hm⟩ := obind hm
   refine de G [(9, []), (10, [64, 368]), (12, [48, 384])] (hC 4 (yamb h16) (hC 7 (yamb h17) (hA 10 64 h18 h0))) ?_
   exact wJ G hm
  ·exact X_skip (wJ G hm)
 rintro ⟨v8, v9, v10, v11⟩ hm
 obtain ⟨r11, h19, hm⟩ := obind hm
 refine rs G (hO 1 (.fz [64] [] []) (hC 1 (yayc h19) h0)) ?_
 cases hm
 exact rt [112, 113] []
def yamo : MS l1Cur (Timetable × l1Cur) := ⟨.b, zq83, fun _ => .aggv [.own 0, .own 1, .own 2], fun y => [arO 9 y.1.Network.Stops, arO 170 y.1.Network.Lines, arO 45 y.1.Trips], fun _ y => [bxO y.2]⟩
theorem yaza {c y} (hm : zq83 c = some y) : yamo.C c y := yamo.c c hm
theorem yaur : FnOK Tryz.prog 178 yamo.S := by
 refine fm tt yamo [fo yaqu, fo yabj] Tryz.call178 Tryz.func178 rfl Tryz.results178 Tryz.ntmps178 ?_
 rintro c y cx G hm
 have hm : zq83 c = some y := hm
 unfold zq83 at hm
 refine rg G ?_
 obtain ⟨r, h, hm⟩ := obind hm
 refine rs G (hC 1 (yavb h) h0) ?_
 refine rg G (Ok_seq ?_)
 obtain ⟨r1, h1, hm⟩ := obind hm
 refine rs G (hC 1 (yaba h1) h0) ?_
 refine tl hm (fun (v5, v6, v7, v8) => ⟨[(0, .ref 0 0), (2, .ref 32 0), (3, .ref 48 0)], [bX 0 [dV v5, dV v6, kV .u64 v7], bX 32 [.dat (.sc (.slice none 0 0)), .dat (.sc (.slice none 0 0)), .dat (.sc (.slice none 0 0))], bX 48 [.own 64, .own 80, .own 96], aX 64 9 r.1.Stops, aX 80 170 r.1.Lines, aX 96 45 v8], 128⟩) (fun vv hm => ?_) ?_
 ·refine Ok_block (lpP hm (fun (n, v, v1, v2, v3, v4) => ⟨[(0, .ref 0 0), (2, .ref 32 0), (3, .ref 48 0), (4, dV n), (5, dV v)], [bX 0 [dV v1, dV v2, kV .u64 v3], bX 32 [.dat (.sc (.slice none 0 0)), .dat (.sc (.slice none 0 0)), .dat (.sc (.slice none 0 0))], bX 48 [.own 64, .own 80, .own 96], aX 64 9 r.1.Stops, aX 80 170 r.1.Lines, aX 96 45 v4], 128⟩) (Wk_J G.hL ⟨[(0, []), (2, []), (3, []), (4, []), (5, [])], [(0, 0, []), (32, 16, []), (48, 80, [.k, .k, .o 96]), (64, 48, []), (80, 49, [])], [(96, 45, 3, [])], 128⟩ (by kernel_rfl)) ?_)
  rintro ⟨n, v, v1, v2, v3, v4⟩ r0 hb hm
  rw [yajp] at hm
  refine Ok_seq (rg G (cd hm (fun hm => ?_) (fun hm => ?_)))
  ·refine X_skip (thN (Ok_seq (Ok_block ?_)))
   obtain ⟨r2, h2, hm⟩ := obind hm
   refine rs G (hC 3 (yaba h2) h0) ?_
   obtain ⟨r5, h6, hm⟩ := obind hm
   obtain ⟨r6, h7, hm⟩ := obind hm
   obtain ⟨u1, h8, hm⟩ := obind hm
   refine de G [(8, [0]), (10, [0]), (15, [96, 480]), (17, [48, 496])] (hN 7 r.1.Lines (hC 8 (yaba h6) (hC 10 (yaba h7) (hA 15 24 h8 h0)))) ?_
   exact ibN (thN (rh G (wL G hm)))
  ·exact Ok_exit (thE (thE (ibE (wD G hm hb))))
 rintro ⟨v5, v6, v7, v8⟩ hm s hw
 refine thN (Ok_weak hw ?_)
 refine rg G ?_
 cases hm
 exact rt [64, 80, 96] []
def yanh : MS (l1Cur × (List Int)) (Int × l1Cur) := ⟨.x .b .r, fun x => zq65 x.1 x.2, fun y => dV y.1, fun _ => [], fun _ y => [bxO y.2]⟩
theorem yadk {c list y} (hm : zq65 c list = some y) : yanh.C (c, list) y := yanh.c (c, list) hm
theorem yarb : FnOK Tryz.prog 147 yanh.S := by
 refine fm tt yanh [fo yabj] Tryz.call147 Tryz.func147 rfl Tryz.results147 Tryz.ntmps147 ?_
 rintro ⟨c, list⟩ y cx G hm
 have hm : zq65 c list = some y := hm
 unfold zq65 at hm
 refine rg G ?_
 obtain ⟨r, h, hm⟩ := obind hm
 obtain ⟨e, h1, hm⟩ := obind hm
 refine rs G (hN 3 list (hC 4 (yaba h) (hD 5 h1 h0))) ?_
 cases hm
 exact rt [] []
def yamu : MS (l1Cur × (List ByteArray)) (ByteArray × l1Cur) := ⟨.x .b (.s 9), fun x => zq77 x.1 x.2, fun y => dV y.1, fun _ => [], fun x y => [bxO y.2, arO 9 x.2]⟩
theorem yaux {c list y} (hm : zq77 c list = some y) : yamu.C (c, list) y := yamu.c (c, list) hm
theorem yauw : FnOK Tryz.prog 218 yamu.S := by
 refine fm tt yamu [fo yabj] Tryz.call218 Tryz.func218 rfl Tryz.results218 Tryz.ntmps218 ?_
 rintro ⟨c, list⟩ y cx G hm
 have hm : zq77 c list = some y := hm
 unfold zq77 at hm
 refine rg G ?_
 obtain ⟨r, h, hm⟩ := obind hm
 obtain ⟨e, h1, hm⟩ := obind hm
 refine rs G (hN 3 list (hC 4 (yaba h) (hD 5 h1 (hE 6 h1 h0)))) ?_
 cases hm
 exact rt [] []
def yaik : MS Network Network := ⟨.r, zq101, fun _ => .aggv [.own 0, .own 1], fun y => [arO 9 y.Stops, taO 170 [none, some 3, some 3] y.Lines], fun _ _ => []⟩
theorem yayb {n y} (hm : zq101 n = some y) : yaik.C n y := yaik.c n hm
theorem yatn : FnOK Tryz.prog 231 yaik.S := by
 refine fm tt yaik [fo yajk] Tryz.call231 Tryz.func231 rfl Tryz.results231 Tryz.ntmps231 ?_
 rintro n y cx G hm
 have hm : zq101 n = some y := hm
 unfold zq101 at hm
 refine rg G ?_
 obtain ⟨u, h, hm⟩ := obind hm
 refine rs G (hA 3 16 h h0) ?_
 refine Ok_seq (rg G (tl hm (fun v2 => ⟨[(2, .ref 16 0), (3, .ref 32 0)], [bX 16 [.dat (.sc (.slice none 0 0)), .dat (.sc (.slice none 0 0))], bX 32 [.own 48, .own 64], aX 48 9 (([] : List ByteArray) ++ n.Stops), tX 64 170 [none, some 3, some 3] v2 64 none], 96⟩) (fun v2 hm => ?_) ?_))
 ·refine Ok_block (lpP hm (fun (v, v1) => ⟨[(1, .ref 16 0), (2, .ref 32 0), (3, .ref 48 0), (4, dV v)], [bX 16 [dV n.Stops, dV n.Lines], bX 32 [.dat (.sc (.slice none 0 0)), .dat (.sc (.slice none 0 0))], bX 48 [.own 64, .own 80], aX 64 9 (([] : List ByteArray) ++ n.Stops), tX 80 170 [none, some 3, some 3] v1 80 none], 112⟩) (Wk_J G.hL ⟨[(1, []), (2, []), (3, []), (4, [])], [(16, 16, []), (32, 32, []), (48, 128, [.k, .o 80]), (64, 96, [])], [(80, 170, 3, [none, some 3, some 3])], 112⟩ (by kernel_rfl)) ?_)
  rintro ⟨v, v1⟩ r0 hb hm
  rw [yakw] at hm
  refine Ok_seq (rs G (hN 3 n.Lines h0) ?_)
  refine cd hm (fun hm => ?_) (fun hm => ?_)
  ·refine X_skip (thN (Ok_seq (Ok_block ?_)))
   obtain ⟨e3, h7, hm⟩ := obind hm
   obtain ⟨e4, h8, hm⟩ := obind hm
   obtain ⟨r2, h9, hm⟩ := obind hm
   obtain ⟨e5, h10, hm⟩ := obind hm
   obtain ⟨r3, h11, hm⟩ := obind hm
   obtain ⟨u2, h12, hm⟩ := obind hm
   refine de G [(23, [416, 528]), (24, [80, 560]), (26, [48, 576])] (hD 5 h7 (hD 11 h8 (hC 14 (yamf h9) (hD 18 h10 (hC 21 (yamf h11) (hP (nodupB_ok (l := [416, 528]) rfl) (hA 24 64 h12 h0))))))) ?_
   exact ibN (thN (rh G (wL G hm)))
  ·exact Ok_exit (thE (thE (ibE (wD G hm hb))))
 rintro v2 hm s hw
 refine thN (Ok_weak hw ?_)
 refine rg G ?_
 cases hm
 exact rt [48, 64] []
def yamw : MS l1Cur (Network × l1Cur) := ⟨.b, zq74, fun _ => .aggv [.own 0, .own 1], fun y => [arO 9 y.1.Stops, taO 170 [none, some 3, some 3] y.1.Lines], fun _ y => [bxO y.2]⟩
theorem yazc {c y} (hm : zq74 c = some y) : yamw.C c y := yamw.c c hm
theorem yava : FnOK Tryz.prog 204 yamw.S := by
 refine fm tt yamw [fo yabj, fo yajm, fo yaqw, fo yacx, fo yaqn, fo yatn] Tryz.call204 Tryz.func204 rfl Tryz.results204 Tryz.ntmps204 ?_
 rintro c y cx G hm
 have hm : zq74 c = some y := hm
 unfold zq74 at hm
 refine rg G ?_
 obtain ⟨r, h, hm⟩ := obind hm
 refine rs G (hC 1 (yaba h) h0) ?_
 obtain ⟨u, h1, hm⟩ := obind hm
 refine rs G (hO 2 (.fz [96] [] []) (hU 2 h1 h0)) ?_
 refine Ok_seq ?_
 obtain ⟨r1, h2, hm⟩ := obind hm
 refine rs G (hC 1 (yaba h2) h0) ?_
 refine tl hm (fun (v4, v5, v6, v7) => ⟨[(0, .ref 0 0), (2, .ref 32 0), (4, .ref 48 0)], [bX 0 [dV v4, dV v5, kV .u64 v6], bX 32 [.dat (.sc (.slice none 0 0)), .dat (.sc (.slice none 0 0))], bX 48 [dV ((([(str [112, 111, 114, 116]), (str [109, 105, 108, 108]), (str [112, 97, 114, 107]), (str [104, 97, 108, 108]), (str [100, 111, 99, 107]), (str [102, 97, 105, 114])] : List ByteArray).take (w64 (2 + r.1)).toNat).drop (0 : Int).toNat), .own 64], aX 64 170 v7], 96⟩) (fun vv1 hm => ?_) ?_
 ·refine Ok_block (lpP hm (fun (x, v, v1, v2, v3) => ⟨[(0, .ref 0 0), (2, .ref 32 0), (3, dV (w64 (2 + r.1))), (4, .ref 48 0), (5, dV x)], [bX 0 [dV v, dV v1, kV .u64 v2], bX 32 [.dat (.sc (.slice none 0 0)), .dat (.sc (.slice none 0 0))], bX 48 [dV ((([(str [112, 111, 114, 116]), (str [109, 105, 108, 108]), (str [112, 97, 114, 107]), (str [104, 97, 108, 108]), (str [100, 111, 99, 107]), (str [102, 97, 105, 114])] : List ByteArray).take (w64 (2 + r.1)).toNat).drop (0 : Int).toNat), .own 64], aX 64 170 v3], 96⟩) (Wk_J G.hL ⟨[(0, []), (2, []), (3, []), (4, []), (5, [])], [(0, 0, []), (32, 16, []), (48, 160, [.k, .o 64])], [(64, 170, 3, [])], 96⟩ (by kernel_rfl)) ?_)
  rintro ⟨x, v, v1, v2, v3⟩ r0 hb hm
  rw [yagh] at hm
  refine Ok_seq (rg G (cd hm (fun hm => ?_) (fun hm => ?_)))
  ·refine X_skip (thN (Ok_seq (Ok_block ?_)))
   obtain ⟨r4, h7, hm⟩ := obind hm
   obtain ⟨u3, h8, hm⟩ := obind hm
   obtain ⟨r5, h9, hm⟩ := obind hm
   obtain ⟨u4, h10, hm⟩ := obind hm
   refine de G [(7, [0]), (8, []), (9, [64, 256]), (11, [48, 272])] (hC 4 (yasc h7) (hP (cat_p (chk_t h8)) (hC 7 (yavc h9) (hA 9 64 h10 h0)))) ?_
   exact ibN (thN (rh G (wL G hm)))
  ·exact Ok_exit (thE (thE (ibE (wD G hm hb))))
 rintro ⟨v4, v5, v6, v7⟩ hm s hw
 refine thN (Ok_weak hw ?_)
 refine jn hm (fun (v8, v9, v10, v11) => ⟨[(0, .ref 0 0), (2, .ref 32 0), (4, .ref 48 0)], [bX 0 [dV v8, dV v9, kV .u64 v10], bX 32 [.dat (.sc (.slice none 0 0)), .dat (.sc (.slice none 0 0))], bX 48 [dV ((([(str [112, 111, 114, 116]), (str [109, 105, 108, 108]), (str [112, 97, 114, 107]), (str [104, 97, 108, 108]), (str [100, 111, 99, 107]), (str [102, 97, 105, 114])] : List ByteArray).take (w64 (2 + r.1)).toNat).drop (0 : Int).toNat), .own 64], aX 64 170 v11], 96⟩) (fun vv hm => ?_) ?_
 ·obtain ⟨r6, h11, hm⟩ := obind hm
  refine rs G (hC 1 (yaiw h11) h0) ?_
  refine cd hm (fun hm => ?_) (fun hm => ?_)
  ·obtain ⟨e, h12, hm⟩ := obind hm
   refine rs G (hD 2 h12 (hE 3 h12 h0)) ?_
   obtain ⟨r9, h16, hm⟩ := obind hm
   obtain ⟨r10, h17, hm⟩ := obind hm
   obtain ⟨u6, h18, hm⟩ := obind hm
   refine de G [(9, []), (10, [64, 368]), (12, [48, 384])] (hC 4 (yamb h16) (hC 7 (yamb h17) (hA 10 64 h18 h0))) ?_
   exact wJ G hm
  ·exact X_skip (wJ G hm)
 rintro ⟨v8, v9, v10, v11⟩ hm
 obtain ⟨r11, h19, hm⟩ := obind hm
 refine rs G (hO 1 (.fz [64] [] []) (hC 1 (yayb h19) h0)) ?_
 cases hm
 exact rt [112, 113] []
def yang : MS (l1Cur × (List Int)) (Int × l1Cur) := ⟨.x .b (.s 3), fun x => zq66 x.1 x.2, fun y => dV y.1, fun _ => [], fun x y => [bxO y.2, arO 3 x.2]⟩
theorem yanf {c list y} (hm : zq66 c list = some y) : yang.C (c, list) y := yang.c (c, list) hm
theorem yara : FnOK Tryz.prog 147 yang.S := by
 refine fm tt yang [fo yabj] Tryz.call147 Tryz.func147 rfl Tryz.results147 Tryz.ntmps147 ?_
 rintro ⟨c, list⟩ y cx G hm
 have hm : zq66 c list = some y := hm
 unfold zq66 at hm
 refine rg G ?_
 obtain ⟨r, h, hm⟩ := obind hm
 obtain ⟨e, h1, hm⟩ := obind hm
 refine rs G (hN 3 list (hC 4 (yaba h) (hD 5 h1 (hE 6 h1 h0)))) ?_
 cases hm
 exact rt [] []
def yane : MS l1Cur (Network × l1Cur) := ⟨.b, zq67, fun y => .aggv [.own 0, dV y.1.Lines], fun y => [arO 9 y.1.Stops], fun _ y => [bxO y.2]⟩
theorem yazh {c y} (hm : zq67 c = some y) : yane.C c y := yane.c c hm
theorem yavh : FnOK Tryz.prog 179 yane.S := by
 refine fm tt yane [fo yava, fo yabj, fo yauw, fo yara, fo yajm, fo yavd] Tryz.call179 Tryz.func179 rfl Tryz.results179 Tryz.ntmps179 ?_
 rintro c y cx G hm
 have hm : zq67 c = some y := hm
 unfold zq67 at hm
 refine rg G ?_
 obtain ⟨r, h, hm⟩ := obind hm
 refine rs G (hC 1 (yazc h) h0) ?_
 obtain ⟨r1, h1, hm⟩ := obind hm
 refine rs G (hN 3 r.1.Lines (hC 4 (yaba h1) h0)) ?_
 obtain ⟨e, h2, hm⟩ := obind hm
 refine rs G (hD 3 h2 (hE 4 h2 h0)) ?_
 refine jF hm (fun (v, v1, v2, v3, v4, v5, v6) => ⟨[(0, .ref 0 0), (2, .ref 32 0), (3, .ref 48 0), (4, dV r1.1), (5, .ref 64 0)], [bX 0 [dV v, dV v1, kV .u64 v2], bX 32 [.dat (.sc (.slice none 0 0)), .dat (.sc (.slice none 0 0))], bX 48 [.own 80, .own 96], bX 64 [dV v3, .row 96 96 r1.1.toNat 1, .own 112], aX 80 9 v4, tX 96 170 [none, some 3, some 3] v5 96 (some (r1.1.toNat, 2)), aX 112 3 v6], 144⟩) (fun v17 hr hm => ?_) ?_
 ·obtain ⟨r2, h3, hm⟩ := obind hm
  refine rs G (hC 1 (yaba h3) h0) ?_
  refine Ok_block (rg G (cd hm (fun hm => ?_) (fun hm => ?_)))
  ·obtain ⟨r4, h6, hm⟩ := obind hm
   obtain ⟨e2, h7, hm⟩ := obind hm
   refine de G [(4, [0, 416]), (6, [48])] (hC 4 (yaux h6) (hD 5 h7 (hS 6 h7 r4.1 h0))) ?_
   exact ibN (wFp hm (Wk.trans (Wk_S (.c 272 2) (Enc.e e) (.cons (idx_m2 (f := Enc.e) (l := r.1.Lines) (i := r1.1) h2) .nil) (by kernel_rfl)) (Wk_J G.hL ⟨[(0, []), (2, []), (3, []), (4, []), (5, [])], [(0, 0, []), (32, 16, []), (48, 64, []), (64, 272, []), (80, 48, []), (96, 49, []), (112, 480, [])], [], 144⟩ (by kernel_rfl))))
  ·refine rg G (cd hm (fun hm => ?_) (fun hm => ?_))
   ·obtain ⟨r5, h8, hm⟩ := obind hm
    refine re G (hC 2 (yaux h8) h0) ?_
    exact ibN (wFp hm (Wk.trans (Wk_S (.c 272 2) (Enc.e e) (.cons (idx_m2 (f := Enc.e) (l := r.1.Lines) (i := r1.1) h2) .nil) (by kernel_rfl)) (Wk_J G.hL ⟨[(0, []), (2, []), (3, []), (4, []), (5, [])], [(0, 0, []), (32, 16, []), (48, 64, []), (64, 272, []), (80, 48, []), (96, 49, []), (112, 480, [])], [], 144⟩ (by kernel_rfl))))
   ·refine rg G (cd hm (fun hm => ?_) (fun hm => ?_))
    ·obtain ⟨r8, h12, hm⟩ := obind hm
     obtain ⟨r9, h13, hm⟩ := obind hm
     obtain ⟨e4, h14, hm⟩ := obind hm
     refine de G [(6, [0]), (8, [0]), (11, [49])] (hO 5 (.dn (Enc.e e) (e.Stops.length : Int)) (hP (idx_m2 (f := Enc.e) h2) (hP (len_m Enc.e e.Stops) (hC 6 (yaba h12) (hC 8 (yaba h13) (hE 10 h2 (hP (idx_b (f := Enc.e) h14) (hO 11 (.sd2 (Enc.e e) (Enc.e e4) (List.map Enc.e (e.Stops.set r8.1.toNat (w64 (r9.1 - 1)))) (List.map Enc.e (r.1.Lines.set r1.1.toNat (⟨e.Name, (e.Stops.set r8.1.toNat (w64 (r9.1 - 1))), e.Runs⟩ : Line)))) (hP (idx_m2 (f := Enc.e) h2) (hP (idx_m2 (f := Enc.e) h14) (hP (set_m Enc.e e.Stops r8.1.toNat (w64 (r9.1 - 1))) (hP (set_m Enc.e r.1.Lines r1.1.toNat (⟨e.Name, (e.Stops.set r8.1.toNat (w64 (r9.1 - 1))), e.Runs⟩ : Line)) h0)))))))))))) ?_
     exact ibN (wFp hm (Wk.trans (Wk_S (.c 272 2) (Enc.e (⟨e.Name, (e.Stops.set r8.1.toNat (w64 (r9.1 - 1))), e.Runs⟩ : Line)) (.cons (idx_m2 (f := Enc.e) (l := (r.1.Lines.set r1.1.toNat (⟨e.Name, (e.Stops.set r8.1.toNat (w64 (r9.1 - 1))), e.Runs⟩ : Line))) (i := r1.1) (idx_set (y := (⟨e.Name, (e.Stops.set r8.1.toNat (w64 (r9.1 - 1))), e.Runs⟩ : Line)) h2)) .nil) (by kernel_rfl)) (Wk_J G.hL ⟨[(0, []), (2, []), (3, []), (4, []), (5, [])], [(0, 0, []), (32, 16, []), (48, 64, []), (64, 272, []), (80, 48, []), (96, 49, []), (112, 624, [])], [], 144⟩ (by kernel_rfl))))
    ·refine rg G (cd hm (fun hm => ?_) (fun hm => ?_))
     ·obtain ⟨r12, h18, hm⟩ := obind hm
      obtain ⟨r13, h19, hm⟩ := obind hm
      obtain ⟨e6, h20, hm⟩ := obind hm
      refine de G [(6, [0]), (9, [0, 592]), (11, [49])] (hO 5 (.dn (Enc.e e) (e.Runs.length : Int)) (hP (idx_m2 (f := Enc.e) h2) (hP (len_m Enc.e e.Runs) (hC 6 (yaba h18) (hC 9 (yanf h19) (hE 10 h2 (hP (idx_b (f := Enc.e) h20) (hO 11 (.sd2 (Enc.e e) (Enc.e e6) (List.map Enc.e (e.Runs.set r12.1.toNat r13.1)) (List.map Enc.e (r.1.Lines.set r1.1.toNat (⟨e.Name, e.Stops, (e.Runs.set r12.1.toNat r13.1)⟩ : Line)))) (hP (idx_m2 (f := Enc.e) h2) (hP (idx_m2 (f := Enc.e) h20) (hP (set_m Enc.e e.Runs r12.1.toNat r13.1) (hP (set_m Enc.e r.1.Lines r1.1.toNat (⟨e.Name, e.Stops, (e.Runs.set r12.1.toNat r13.1)⟩ : Line)) h0)))))))))))) ?_
      exact ibN (wFp hm (Wk.trans (Wk_S (.c 272 2) (Enc.e (⟨e.Name, e.Stops, (e.Runs.set r12.1.toNat r13.1)⟩ : Line)) (.cons (idx_m2 (f := Enc.e) (l := (r.1.Lines.set r1.1.toNat (⟨e.Name, e.Stops, (e.Runs.set r12.1.toNat r13.1)⟩ : Line))) (i := r1.1) (idx_set (y := (⟨e.Name, e.Stops, (e.Runs.set r12.1.toNat r13.1)⟩ : Line)) h2)) .nil) (by kernel_rfl)) (Wk_J G.hL ⟨[(0, []), (2, []), (3, []), (4, []), (5, [])], [(0, 0, []), (32, 16, []), (48, 64, []), (64, 272, []), (80, 48, []), (96, 49, []), (112, 656, [])], [], 144⟩ (by kernel_rfl))))
     ·refine rg G (cd hm (fun hm => ?_) (fun hm => ?_))
      ·obtain ⟨u, h21, hm⟩ := obind hm
       refine re G (hO 3 (.sd (Enc.e e) (List.map Enc.e (e.Runs ++ ([3] : List Int)))) (hP (idx_m2 (f := Enc.e) h2) (hP (app_p (f := Enc.e) (g := Enc.e) (l := e.Runs) (r := ([3] : List Int)) (b := 8) (chk_t h21) rfl) (hP (app_m Enc.e e.Runs ([3] : List Int)) h0)))) ?_
       exact ibN (wF G hm)
      ·refine rg G (cd hm (fun hm => ?_) (fun hm => ?_))
       ·refine rg G (rg G ?_)
        have hm := eR hm hr
        cases hm
        exact rt [48] []
       ·refine rg G (cd hm (fun hm => ?_) (fun hm => ?_))
        ·refine Ok_seq (rg G (tl hm (fun (v13, v14, v15, v16) => ⟨[(0, .ref 0 0), (2, .ref 32 0), (3, .ref 48 0)], [bX 0 [dV v13, dV v14, kV .u64 v15], bX 32 [.dat (.sc (.slice none 0 0)), .dat (.sc (.slice none 0 0))], bX 48 [.own 64, .own 80], aX 64 9 r.1.Stops, tX 80 170 [none, some 3, some 3] v16 80 none], 112⟩) (fun vv hm => ?_) ?_))
         ·refine Ok_block (lp G hm (fun (v7, v8, v9, v10, v11) => ⟨[(0, .ref 0 0), (2, .ref 32 0), (3, .ref 48 0), (6, dV v7)], [bX 0 [dV v8, dV v9, kV .u64 v10], bX 32 [.dat (.sc (.slice none 0 0)), .dat (.sc (.slice none 0 0))], bX 48 [.own 64, .own 80], aX 64 9 r.1.Stops, tX 80 170 [none, some 3, some 3] v11 80 none], 112⟩) ?_)
          rintro ⟨v7, v8, v9, v10, v11⟩ r0 hb hm
          rw [yagk] at hm
          refine Ok_seq ?_
          obtain ⟨r16, h23, hm⟩ := obind hm
          refine jn hm (fun v12 => ⟨[(0, .ref 0 0), (2, .ref 32 0), (3, .ref 48 0), (6, dV v7), (85, dV v12)], [bX 0 [dV r16.2.code_, dV r16.2.at_, kV .u64 r16.2.seed_.v], bX 32 [.dat (.sc (.slice none 0 0)), .dat (.sc (.slice none 0 0))], bX 48 [.own 64, .own 80], aX 64 9 r.1.Stops, tX 80 170 [none, some 3, some 3] v11 80 none], 112⟩) (fun v12 hm => ?_) ?_
          ·rcases bf hm with ⟨hb1, hm⟩ | ⟨hb1, hm⟩
           ·refine de G [(4, [0])] (hN 2 v11 (hC 4 (yaba h23) (hO 7 (.b true) (hP hb1 h0)))) ?_
            exact wJ G hm
           ·refine de G [(4, [0])] (hN 2 v11 (hC 4 (yaba h23) (hO 7 (.b false) (hP hb1 h0)))) ?_
            exact wJ G hm
          rintro v12 hm
          refine cd hm (fun hm => ?_) (fun hm => ?_)
          ·refine X_skip (thN (Ok_seq (Ok_block ?_)))
           obtain ⟨r19, h28, hm⟩ := obind hm
           obtain ⟨u3, h29, hm⟩ := obind hm
           obtain ⟨r20, h30, hm⟩ := obind hm
           obtain ⟨u4, h31, hm⟩ := obind hm
           refine de G [(9, [0]), (10, [256, 257]), (11, [80, 272]), (13, [48, 288])] (hC 4 (yasc h28) (hP (cat_p (chk_t h29)) (hN 8 r.1.Stops (hC 9 (yazd h30) (hP (nodupB_ok (l := [256, 257]) rfl) (hA 11 64 h31 h0)))))) ?_
           exact ibN (thN (rh G (wL G hm)))
          ·exact Ok_exit (thE (thE (ibE (wD G hm hb))))
         rintro ⟨v13, v14, v15, v16⟩ hm s hw
         refine thN (Ok_weak hw ?_)
         refine rg G ?_
         have hm := eR hm hr
         cases hm
         exact rt [64] []
        ·exact X_skip (ibN (wFp hm (Wk.trans (Wk_S (.c 272 2) (Enc.e e) (.cons (idx_m2 (f := Enc.e) (l := r.1.Lines) (i := r1.1) h2) .nil) (by kernel_rfl)) (Wk_J G.hL ⟨[(0, []), (2, []), (3, []), (4, []), (5, [])], [(0, 0, []), (32, 16, []), (48, 64, []), (64, 272, []), (80, 48, []), (96, 49, []), (112, 560, [])], [], 144⟩ (by kernel_rfl)))))
 rintro ⟨v, v1, v2, v3, v4, v5, v6⟩ hm
 obtain ⟨e9, h32, hm⟩ := obind hm
 refine rs G (hD 4 h32 (hS 5 h32 (⟨v3, e9.Stops, v6⟩ : Line) (hP (Eq.refl r1.1.toNat) (hP (Eq.refl r1.1.toNat) h0)))) ?_
 refine rg G ?_
 cases hm
 exact rt [80] []
def yand : MS l1Cur (Timetable × l1Cur) := ⟨.b, zq68, fun y => .aggv [.own 0, dV y.1.Network.Lines, .own 1], fun y => [arO 9 y.1.Network.Stops, arO 45 y.1.Trips], fun _ y => [bxO y.2]⟩
theorem yazg {c y} (hm : zq68 c = some y) : yand.C c y := yand.c c hm
theorem yavg : FnOK Tryz.prog 106 yand.S := by
 refine fm tt yand [fo yaur, fo yabj, fo yarb, fo yavh] Tryz.call106 Tryz.func106 rfl Tryz.results106 Tryz.ntmps106 ?_
 rintro c y cx G hm
 have hm : zq68 c = some y := hm
 unfold zq68 at hm
 refine rg G ?_
 obtain ⟨r, h, hm⟩ := obind hm
 refine rs G (hC 1 (yaza h) h0) ?_
 refine Ok_seq (rs G (hN 2 r.1.Trips h0) ?_)
 refine cd hm (fun hm => ?_) (fun hm => ?_)
 ·refine rg G ?_
  cases hm
  exact rt [48, 50] []
 ·refine X_skip (thN ?_)
  obtain ⟨r1, h1, hm⟩ := obind hm
  refine rs G (hN 3 r.1.Trips (hC 4 (yaba h1) h0)) ?_
  obtain ⟨e, h2, hm⟩ := obind hm
  refine rs G (hD 3 h2 (hE 4 h2 h0)) ?_
  refine jF hm (fun (v, v1, v2, v3, v4, v5, v6, v7) => ⟨[(0, .ref 0 0), (2, .ref 32 0), (3, .ref 48 0), (4, dV r1.1), (5, .ref 64 0)], [bX 0 [dV v, dV v1, kV .u64 v2], bX 32 [.dat (.sc (.slice none 0 0)), .dat (.sc (.slice none 0 0)), .dat (.sc (.slice none 0 0))], bX 48 [.own 80, dV v3, .own 96], bX 64 [dV v4, dV v5, dV v6], aX 80 9 v7, aX 96 45 r.1.Trips], 128⟩) (fun v18 hr hm => ?_) ?_
  ·obtain ⟨r2, h3, hm⟩ := obind hm
   refine rs G (hC 1 (yaba h3) h0) ?_
   refine Ok_block (rg G (cd hm (fun hm => ?_) (fun hm => ?_)))
   ·obtain ⟨r3, h4, hm⟩ := obind hm
    refine re G (hO 2 (.fz [448] [] []) (hC 2 (yadk h4) h0)) ?_
    exact ibN (wF G hm)
   ·refine rg G (cd hm (fun hm => ?_) (fun hm => ?_))
    ·obtain ⟨r4, h5, hm⟩ := obind hm
     refine re G (hC 1 (yaba h5) h0) ?_
     exact ibN (wF G hm)
    ·refine rg G (cd hm (fun hm => ?_) (fun hm => ?_))
     ·obtain ⟨r5, h6, hm⟩ := obind hm
      refine re G (hO 2 (.fz [512] [] []) (hC 2 (yadk h6) h0)) ?_
      exact ibN (wF G hm)
     ·refine rg G (cd hm (fun hm => ?_) (fun hm => ?_))
      ·obtain ⟨r6, h7, hm⟩ := obind hm
       refine re G (hC 1 (yazh h7) h0) ?_
       exact ibN (wF G hm)
      ·refine rg G (cd hm (fun hm => ?_) (fun hm => ?_))
       ·refine Ok_seq (rg G (tl hm (fun (v14, v15, v16, v17) => ⟨[(0, .ref 0 0), (2, .ref 32 0), (3, .ref 48 0)], [bX 0 [dV v14, dV v15, kV .u64 v16], bX 32 [.dat (.sc (.slice none 0 0)), .dat (.sc (.slice none 0 0)), .dat (.sc (.slice none 0 0))], bX 48 [.own 64, .own 80, .own 96], aX 64 9 r.1.Network.Stops, aX 80 170 r.1.Network.Lines, aX 96 45 v17], 128⟩) (fun vv hm => ?_) ?_))
        ·refine Ok_block (lp G hm (fun (v8, v9, v10, v11, v12) => ⟨[(0, .ref 0 0), (2, .ref 32 0), (3, .ref 48 0), (6, dV v8)], [bX 0 [dV v9, dV v10, kV .u64 v11], bX 32 [.dat (.sc (.slice none 0 0)), .dat (.sc (.slice none 0 0)), .dat (.sc (.slice none 0 0))], bX 48 [.own 64, .own 80, .own 96], aX 64 9 r.1.Network.Stops, aX 80 170 r.1.Network.Lines, aX 96 45 v12], 128⟩) ?_)
         rintro ⟨v8, v9, v10, v11, v12⟩ r0 hb hm
         rw [yajs] at hm
         refine Ok_seq ?_
         obtain ⟨r8, h9, hm⟩ := obind hm
         refine jn hm (fun v13 => ⟨[(0, .ref 0 0), (2, .ref 32 0), (3, .ref 48 0), (6, dV v8), (61, dV v13)], [bX 0 [dV r8.2.code_, dV r8.2.at_, kV .u64 r8.2.seed_.v], bX 32 [.dat (.sc (.slice none 0 0)), .dat (.sc (.slice none 0 0)), .dat (.sc (.slice none 0 0))], bX 48 [.own 64, .own 80, .own 96], aX 64 9 r.1.Network.Stops, aX 80 170 r.1.Network.Lines, aX 96 45 v12], 128⟩) (fun v13 hm => ?_) ?_
         ·rcases bf hm with ⟨hb1, hm⟩ | ⟨hb1, hm⟩
          ·refine de G [(4, [0])] (hN 2 v12 (hC 4 (yaba h9) (hO 7 (.b true) (hP hb1 h0)))) ?_
           exact wJ G hm
          ·refine de G [(4, [0])] (hN 2 v12 (hC 4 (yaba h9) (hO 7 (.b false) (hP hb1 h0)))) ?_
           exact wJ G hm
         rintro v13 hm
         refine cd hm (fun hm => ?_) (fun hm => ?_)
         ·refine X_skip (thN (Ok_seq (Ok_block ?_)))
          obtain ⟨u, h10, hm⟩ := obind hm
          refine re G (hA 8 24 h10 h0) ?_
          exact ibN (thN (rh G (wL G hm)))
         ·exact Ok_exit (thE (thE (ibE (wD G hm hb))))
        rintro ⟨v14, v15, v16, v17⟩ hm s hw
        refine thN (Ok_weak hw ?_)
        refine rg G ?_
        have hm := eR hm hr
        cases hm
        exact rt [64, 96] []
       ·exact X_skip (ibN (wF G hm))
  rintro ⟨v, v1, v2, v3, v4, v5, v6, v7⟩ hm
  obtain ⟨e2, h11, hm⟩ := obind hm
  refine rs G (hD 4 h11 (hS 5 h11 (⟨v4, v5, v6⟩ : Trip) h0)) ?_
  refine rg G ?_
  cases hm
  exact rt [80, 96] []
def yami : MS (Int × Int) Int := ⟨.x .r .r, fun x => zq88 x.1 x.2, fun y => dV y, fun _ => [], fun _ _ => []⟩
theorem yauo {a b y} (hm : zq88 a b = some y) : yami.C (a, b) y := yami.c (a, b) hm
theorem yaqq : FnOK Tryz.prog 153 yami.S := by
 refine fm tt yami [] Tryz.call153 Tryz.func153 rfl Tryz.results153 Tryz.ntmps153 ?_
 rintro ⟨a, b⟩ y cx G hm
 have hm : zq88 a b = some y := hm
 unfold zq88 at hm
 refine rg G (Ok_seq (rg G (cd hm (fun hm => ?_) (fun hm => ?_))))
 ·refine rg G ?_
  cases hm
  exact rt [] []
 ·refine X_skip (thN (rg G ?_))
  cases hm
  exact rt [] []
def yamn : MS l1Cur (Timetable × l1Cur) := ⟨.b, zq84, fun y => .aggv [.own 0, dV y.1.Network.Lines, .own 1], fun y => [arO 9 y.1.Network.Stops, arO 45 y.1.Trips], fun _ y => [bxO y.2]⟩
theorem yayz {c y} (hm : zq84 c = some y) : yamn.C c y := yamn.c c hm
theorem yauq : FnOK Tryz.prog 141 yamn.S := by
 refine fm tt yamn [fo yacx, fo yavg, fo yaqu, fo yabj, fo yaqq] Tryz.call141 Tryz.func141 rfl Tryz.results141 Tryz.ntmps141 ?_
 rintro c y cx G hm
 have hm : zq84 c = some y := hm
 unfold zq84 at hm
 refine rg G (Ok_seq ?_)
 obtain ⟨r, h, hm⟩ := obind hm
 refine rs G (hC 1 (yaiw h) h0) ?_
 refine cd hm (fun hm => ?_) (fun hm => ?_)
 ·obtain ⟨r1, h1, hm⟩ := obind hm
  refine rs G (hC 1 (yazg h1) h0) ?_
  cases hm
  exact rt [80, 81] []
 ·refine X_skip (thN ?_)
  obtain ⟨r2, h2, hm⟩ := obind hm
  refine rs G (hC 1 (yavb h2) h0) ?_
  refine Ok_seq ?_
  obtain ⟨r3, h3, hm⟩ := obind hm
  refine rs G (hC 1 (yaba h3) h0) ?_
  refine tl hm (fun (v4, v5, v6, v7) => ⟨[(0, .ref 0 0), (2, .ref 32 0), (3, .ref 48 0)], [bX 0 [dV v4, dV v5, kV .u64 v6], bX 32 [.dat (.sc (.slice none 0 0)), .dat (.sc (.slice none 0 0)), .dat (.sc (.slice none 0 0))], bX 48 [.own 64, .own 80, .own 96], aX 64 9 r2.1.Stops, aX 80 170 r2.1.Lines, aX 96 45 v7], 128⟩) (fun vv hm => ?_) ?_
  ·refine Ok_block (lpP hm (fun (i, v, v1, v2, v3) => ⟨[(0, .ref 0 0), (2, .ref 32 0), (3, .ref 48 0), (4, dV i)], [bX 0 [dV v, dV v1, kV .u64 v2], bX 32 [.dat (.sc (.slice none 0 0)), .dat (.sc (.slice none 0 0)), .dat (.sc (.slice none 0 0))], bX 48 [.own 64, .own 80, .own 96], aX 64 9 r2.1.Stops, aX 80 170 r2.1.Lines, aX 96 45 v3], 128⟩) (Wk_J G.hL ⟨[(0, []), (2, []), (3, []), (4, [])], [(0, 0, []), (32, 16, []), (48, 112, [.k, .k, .o 96]), (64, 80, []), (80, 81, [])], [(96, 45, 3, [])], 128⟩ (by kernel_rfl)) ?_)
   rintro ⟨i, v, v1, v2, v3⟩ r0 hb hm
   rw [yajo] at hm
   refine Ok_seq (rg G (cd hm (fun hm => ?_) (fun hm => ?_)))
   ·refine X_skip (thN (Ok_seq (Ok_block ?_)))
    obtain ⟨r7, h8, hm⟩ := obind hm
    obtain ⟨r8, h9, hm⟩ := obind hm
    obtain ⟨r9, h10, hm⟩ := obind hm
    obtain ⟨u1, h11, hm⟩ := obind hm
    refine de G [(11, [0]), (19, [0]), (21, [0]), (26, [96, 560]), (28, [48, 576])] (hN 4 v3 (hN 8 v3 (hC 11 (yaba h8) (hN 18 r2.1.Lines (hC 19 (yaba h9) (hC 21 (yaba h10) (hA 26 24 h11 h0))))))) ?_
    exact ibN (thN (rh G (wL G hm)))
   ·exact Ok_exit (thE (thE (ibE (wD G hm hb))))
  rintro ⟨v4, v5, v6, v7⟩ hm s hw
  refine thN (Ok_weak hw ?_)
  refine Ok_seq (rg G (tl hm (fun v9 => ⟨[(0, .ref 0 0), (2, .ref 32 0), (3, .ref 48 0)], [bX 0 [dV v4, dV v5, kV .u64 v6], bX 32 [.dat (.sc (.slice none 0 0)), .dat (.sc (.slice none 0 0)), .dat (.sc (.slice none 0 0))], bX 48 [.own 64, .own 80, .own 96], aX 64 9 r2.1.Stops, aX 80 170 r2.1.Lines, aX 96 45 v9], 128⟩) (fun v9 hm => ?_) ?_))
  ·refine Ok_block (lp G hm (fun (x, v8) => ⟨[(0, .ref 0 0), (2, .ref 32 0), (3, .ref 48 0), (5, dV x)], [bX 0 [dV v4, dV v5, kV .u64 v6], bX 32 [.dat (.sc (.slice none 0 0)), .dat (.sc (.slice none 0 0)), .dat (.sc (.slice none 0 0))], bX 48 [.own 64, .own 80, .own 96], aX 64 9 r2.1.Stops, aX 80 170 r2.1.Lines, aX 96 45 v8], 128⟩) ?_)
   rintro ⟨x, v8⟩ r0 hb1 hm
   rw [yajn] at hm
   refine Ok_seq (rs G (hN 3 v8 h0) ?_)
   refine cd hm (fun hm => ?_) (fun hm => ?_)
   ·refine X_skip (thN (Ok_seq (Ok_block ?_)))
    obtain ⟨e, h12, hm⟩ := obind hm
    refine rs G (hD 3 h12 (hE 4 h12 h0)) ?_
    obtain ⟨e2, h15, hm⟩ := obind hm
    obtain ⟨r11, h16, hm⟩ := obind hm
    refine ds G [(12, [288])] (hD 6 h15 (hE 8 h15 (hC 10 (yauo h16) h0))) ?_
    obtain ⟨e3, h17, hm⟩ := obind hm
    refine re G (hD 4 h17 (hS 5 h17 (⟨r11, e.Line, e.Start⟩ : Trip) h0)) ?_
    exact ibN (thN (rh G (wL G hm)))
   ·exact Ok_exit (thE (thE (ibE (wD G hm hb1))))
  rintro v9 hm s1 hw1
  refine thN (Ok_weak hw1 ?_)
  refine rg G ?_
  cases hm
  exact rt [64, 96] []
def yanc : MS (l1Cur × Network) (Fleet × l1Cur) := ⟨.x .b .r, fun x => zq69 x.1 x.2, fun y => dV y.1, fun _ => [], fun _ y => [bxO y.2]⟩
theorem yazf {c n y} (hm : zq69 c n = some y) : yanc.C (c, n) y := yanc.c (c, n) hm
theorem yavf : FnOK Tryz.prog 142 yanc.S := by
 refine fm tt yanc [fo yara, fo yaqq, fo yabj] Tryz.call142 Tryz.func142 rfl Tryz.results142 Tryz.ntmps142 ?_
 rintro ⟨c, n⟩ y cx G hm
 have hm : zq69 c n = some y := hm
 unfold zq69 at hm
 refine rg G ?_
 obtain ⟨r, h, hm⟩ := obind hm
 refine rs G (hC 2 (yanf h) h0) ?_
 refine Ok_seq (rg G (tl hm (fun (v13, v14, v15, v16) => ⟨[(0, .ref 0 0), (3, .ref 32 0), (4, .ref 48 0), (5, .ref 64 0)], [bX 0 [dV v13, dV v14, kV .u64 v15], bX 32 [dV n.Stops, dV n.Lines], bX 48 [.dat (.sc (.slice none 0 0)), kV .i64 0], bX 64 [.own 80, dV r.1], tX 80 35 [some 3] v16 80 none], 112⟩) (fun vv2 hm => ?_) ?_))
 ·refine Ok_block (lpP hm (fun (k, v, v1, v2, v3) => ⟨[(0, .ref 0 0), (3, .ref 32 0), (4, .ref 48 0), (5, .ref 64 0), (6, dV k)], [bX 0 [dV v, dV v1, kV .u64 v2], bX 32 [dV n.Stops, dV n.Lines], bX 48 [.dat (.sc (.slice none 0 0)), kV .i64 0], bX 64 [.own 80, dV r.1], tX 80 35 [some 3] v3 80 none], 112⟩) (Wk_J G.hL ⟨[(0, []), (3, []), (4, []), (5, []), (6, [])], [(0, 0, []), (32, 16, []), (48, 32, []), (64, 112, [.o 80])], [(80, 35, 1, [some 3])], 112⟩ (by kernel_rfl)) ?_)
  rintro ⟨k, v, v1, v2, v3⟩ r0 hb hm
  rw [yajq] at hm
  refine Ok_seq (rs G (hN 3 n.Stops h0) ?_)
  refine cd hm (fun hm => ?_) (fun hm => ?_)
  ·refine X_skip (thN (Ok_seq (Ok_block (rg G (Ok_seq (rg G (tl hm (fun (v9, v10, v11, v12) => ⟨[(0, .ref 0 0), (3, .ref 32 0), (4, .ref 48 0), (5, .ref 64 0), (6, dV k), (7, .own 80)], [bX 0 [dV v9, dV v10, kV .u64 v11], bX 32 [dV n.Stops, dV n.Lines], bX 48 [.dat (.sc (.slice none 0 0)), kV .i64 0], bX 64 [.own 96, dV r.1], aX 80 3 v12, tX 96 35 [some 3] v3 96 none], 128⟩) (fun vv hm => ?_) ?_)))))))
   ·refine Ok_block (lp G hm (fun (v4, v5, v6, v7, v8) => ⟨[(0, .ref 0 0), (3, .ref 32 0), (4, .ref 48 0), (5, .ref 64 0), (6, dV k), (7, .own 80), (8, dV v4)], [bX 0 [dV v5, dV v6, kV .u64 v7], bX 32 [dV n.Stops, dV n.Lines], bX 48 [.dat (.sc (.slice none 0 0)), kV .i64 0], bX 64 [.own 96, dV r.1], aX 80 3 v8, tX 96 35 [some 3] v3 96 none], 128⟩) ?_)
    rintro ⟨v4, v5, v6, v7, v8⟩ r0 hb1 hm
    rw [yajr] at hm
    refine Ok_seq (rs G (hN 3 n.Stops h0) ?_)
    refine cd hm (fun hm => ?_) (fun hm => ?_)
    ·refine X_skip (thN (Ok_seq (Ok_block ?_)))
     obtain ⟨r1, h1, hm⟩ := obind hm
     obtain ⟨r2, h2, hm⟩ := obind hm
     obtain ⟨u, h3, hm⟩ := obind hm
     refine re G (hC 7 (yauo h1) (hC 9 (yaba h2) (hA 13 8 h3 h0))) ?_
     exact ibN (thN (rh G (wL G hm)))
    ·exact Ok_exit (thE (thE (ibE (wD G hm hb1))))
   rintro ⟨v9, v10, v11, v12⟩ hm s hw
   refine thN (Ok_weak hw ?_)
   obtain ⟨u1, h4, hm⟩ := obind hm
   refine re G (hP (nodupB_ok (l := [80]) rfl) (hA 4 24 h4 h0)) ?_
   exact ibN (thN (rh G (wL G hm)))
  ·exact Ok_exit (thE (thE (ibE (wD G hm hb))))
 rintro ⟨v13, v14, v15, v16⟩ hm s1 hw1
 refine thN (Ok_weak hw1 ?_)
 refine jn hm (fun (v17, v18, v19, v20, v21) => ⟨[(0, .ref 0 0), (4, .ref 32 0), (5, .ref 48 0)], [bX 0 [dV v17, dV v18, kV .u64 v19], bX 32 [.dat (.sc (.slice none 0 0)), kV .i64 0], bX 48 [dV v20, dV v21]], 80⟩) (fun vv1 hm => ?_) ?_
 ·obtain ⟨r3, h5, hm⟩ := obind hm
  refine rs G (hC 1 (yaba h5) h0) ?_
  refine Ok_block (rg G (cd hm (fun hm => ?_) (fun hm => ?_)))
  ·obtain ⟨r4, h6, hm⟩ := obind hm
   refine re G (hC 2 (yanf h6) h0) ?_
   exact ibN (wJ G hm)
  ·refine rg G (cd hm (fun hm => ?_) (fun hm => ?_))
   ·obtain ⟨e, h7, hm⟩ := obind hm
    obtain ⟨e1, h8, hm⟩ := obind hm
    refine re G (hD 2 h7 (hE 3 h7 (hE 4 h7 (hP (idx_b (f := Enc.e) h8) (hO 5 (.sd2 (Enc.e e) (Enc.e e1) (List.map Enc.e (e.set (0 : Int).toNat 1)) (List.map Enc.e (v16.set (0 : Int).toNat (e.set (0 : Int).toNat 1)))) (hP (idx_m2 (f := Enc.e) h7) (hP (idx_m2 (f := Enc.e) h8) (hP (set_m Enc.e e (0 : Int).toNat 1) (hP (set_m Enc.e v16 (0 : Int).toNat (e.set (0 : Int).toNat 1)) h0))))))))) ?_
    exact ibN (wJ G hm)
   ·refine rg G (cd hm (fun hm => ?_) (fun hm => ?_))
    ·obtain ⟨e4, h12, hm⟩ := obind hm
     obtain ⟨r6, h13, hm⟩ := obind hm
     obtain ⟨e5, h14, hm⟩ := obind hm
     refine de G [(10, [0, 384]), (12, [80])] (hD 2 h12 (hE 3 h12 (hN 6 n.Stops (hC 10 (yanf h13) (hE 11 h12 (hP (idx_b (f := Enc.e) h14) (hO 12 (.sd2 (Enc.e e4) (Enc.e e5) (List.map Enc.e (e4.set (w64 ((n.Stops.length : Int) - 1)).toNat r6.1)) (List.map Enc.e (v16.set (0 : Int).toNat (e4.set (w64 ((n.Stops.length : Int) - 1)).toNat r6.1)))) (hP (idx_m2 (f := Enc.e) h12) (hP (idx_m2 (f := Enc.e) h14) (hP (set_m Enc.e e4 (w64 ((n.Stops.length : Int) - 1)).toNat r6.1) (hP (set_m Enc.e v16 (0 : Int).toNat (e4.set (w64 ((n.Stops.length : Int) - 1)).toNat r6.1)) h0))))))))))) ?_
     exact ibN (wJ G hm)
    ·refine rg G (cd hm (fun hm => ?_) (fun hm => ?_))
     ·obtain ⟨u2, h15, hm⟩ := obind hm
      refine re G (hO 2 (.fz [80] [] []) (hV 2 h15 h0)) ?_
      exact ibN (wJ G hm)
     ·exact X_skip (ibN (wJ G hm))
 rintro ⟨v17, v18, v19, v20, v21⟩ hm
 refine rg G ?_
 cases hm
 exact rt [] []
def yamk : MS (Int × Int × Int) Bool := ⟨.x .r (.x .r .r), fun x => zq86 x.1 x.2.1 x.2.2, fun y => dV y, fun _ => [], fun _ _ => []⟩
theorem yabi {x a b y} (hm : zq86 x a b = some y) : yamk.C (x, a, b) y := yamk.c (x, a, b) hm
theorem yace : FnOK Tryz.prog 101 yamk.S := by
 refine fm tt yamk [] Tryz.call101 Tryz.func101 rfl Tryz.results101 Tryz.ntmps101 ?_
 rintro ⟨x, a, b⟩ y cx G hm
 have hm : zq86 x a b = some y := hm
 unfold zq86 at hm
 refine rg G (jn hm (fun v => ⟨[(6, dV v)], [], 32⟩) (fun v hm => ?_) ?_)
 ·rcases bf hm with ⟨hb, hm⟩ | ⟨hb, hm⟩
  ·refine re G (hO 3 (.b true) (hP hb h0)) ?_
   exact wJ G hm
  ·refine re G (hO 3 (.b false) (hP hb h0)) ?_
   exact wJ G hm
 rintro v hm
 cases hm
 exact rt [] []
def yalw : MS ByteArray Bool := ⟨.r, zq99, fun y => dV y, fun _ => [], fun _ _ => []⟩
theorem yaji {s y} (hm : zq99 s = some y) : yalw.C s y := yalw.c s hm
theorem yaql : FnOK Tryz.prog 212 yalw.S := by
 refine fm tt yalw [fo yace] Tryz.call212 Tryz.func212 rfl Tryz.results212 Tryz.ntmps212 ?_
 rintro s y cx G hm
 have hm : zq99 s = some y := hm
 unfold zq99 at hm
 refine rg G (Ok_seq ?_)
 obtain ⟨r, h, hm⟩ := obind hm
 refine jn hm (fun v => ⟨[(0, dV s), (17, dV v)], [], 32⟩) (fun v hm => ?_) ?_
 ·rcases bf hm with ⟨hb, hm⟩ | ⟨hb, hm⟩
  ·refine re G (hC 2 (yabi h) (hO 4 (.b true) (hP hb h0))) ?_
   exact wJ G hm
  ·obtain ⟨u, h1, hm⟩ := obind hm
   rcases bf hm with ⟨hb1, hm⟩ | ⟨hb1, hm⟩
   ·refine re G (hC 2 (yabi h) (hO 4 (.b false) (hP hb (hK h1 (hO 9 (.b true) (hP hb1 h0)))))) ?_
    exact wJ G hm
   ·obtain ⟨u1, h2, hm⟩ := obind hm
    refine re G (hC 2 (yabi h) (hO 4 (.b false) (hP hb (hK h1 (hO 9 (.b false) (hP hb1 (hK h2 h0))))))) ?_
    exact wJ G hm
 rintro v hm
 refine cd hm (fun hm => ?_) (fun hm => ?_)
 ·refine rg G ?_
  cases hm
  exact rt [] []
 ·refine X_skip (thN (Ok_seq (rg G (tF hm (fun _ => ⟨[], [], 32⟩) (fun v3 hr hm => ?_) ?_))))
  ·refine Ok_block (lp G hm (fun v1 => ⟨[(0, dV s), (3, dV v1)], [], 32⟩) ?_)
   rintro v1 r0 hb2 hm
   rw [yaet] at hm
   refine Ok_seq (rg G (cd hm (fun hm => ?_) (fun hm => ?_)))
   ·refine X_skip (thN (Ok_seq (Ok_block ?_)))
    obtain ⟨u2, h3, hm⟩ := obind hm
    refine jn hm (fun v2 => ⟨[(0, dV s), (3, dV v1), (45, dV v2)], [], 32⟩) (fun v2 hm => ?_) ?_
    ·rcases bf hm with ⟨hb3, hm⟩ | ⟨hb3, hm⟩
     ·obtain ⟨u3, h4, hm⟩ := obind hm
      rcases bf hm with ⟨hb4, hm⟩ | ⟨hb4, hm⟩
      ·refine re G (hK h3 (hO 4 (.b true) (hP hb3 (hK h4 (hO 15 (.b true) (hP hb4 h0)))))) ?_
       exact wJ G hm
      ·obtain ⟨u4, h5, hm⟩ := obind hm
       refine re G (hK h3 (hO 4 (.b true) (hP hb3 (hK h4 (hO 15 (.b false) (hP hb4 (hK h5 h0))))))) ?_
       exact wJ G hm
     ·obtain ⟨u5, h6, hm⟩ := obind hm
      rcases bf hm with ⟨hb5, hm⟩ | ⟨hb5, hm⟩
      ·obtain ⟨u6, h7, hm⟩ := obind hm
       rcases bf hm with ⟨hb6, hm⟩ | ⟨hb6, hm⟩
       ·refine re G (hK h3 (hO 4 (.b false) (hP hb3 (hK h6 (hO 10 (.b true) (hP hb5 (hK h7 (hO 15 (.b true) (hP hb6 h0))))))))) ?_
        exact wJ G hm
       ·obtain ⟨u7, h8, hm⟩ := obind hm
        refine re G (hK h3 (hO 4 (.b false) (hP hb3 (hK h6 (hO 10 (.b true) (hP hb5 (hK h7 (hO 15 (.b false) (hP hb6 (hK h8 h0)))))))))) ?_
        exact wJ G hm
      ·refine re G (hK h3 (hO 4 (.b false) (hP hb3 (hK h6 (hO 10 (.b false) (hP hb5 h0)))))) ?_
       exact wJ G hm
    rintro v2 hm
    refine cd hm (fun hm => ?_) (fun hm => ?_)
    ·refine rg G ?_
     have hm := eL hm hb2 hr
     cases hm
     exact rt [] []
    ·exact X_skip (ibN (thN (rh G (wL G hm))))
   ·exact Ok_exit (thE (thE (ibE (wE G hm hb2))))
  rintro ⟨⟩ hm s1 hw
  refine thN (Ok_weak hw ?_)
  refine rg G ?_
  cases hm
  exact rt [] []
def yama : MS ((List ByteArray) × ByteArray) Int := ⟨.x .r .r, fun x => zq95 x.1 x.2, fun y => dV y, fun _ => [], fun _ _ => []⟩
theorem yayv {list name y} (hm : zq95 list name = some y) : yama.C (list, name) y := yama.c (list, name) hm
theorem yauk : FnOK Tryz.prog 213 yama.S := by
 refine fm tt yama [] Tryz.call213 Tryz.func213 rfl Tryz.results213 Tryz.ntmps213 ?_
 rintro ⟨list, name⟩ y cx G hm
 have hm : zq95 list name = some y := hm
 unfold zq95 at hm
 refine rg G (Ok_seq (rg G (tF hm (fun _ => ⟨[], [], 32⟩) (fun v1 hr hm => ?_) ?_)))
 ·refine Ok_block (lp G hm (fun v => ⟨[(0, dV list), (1, dV name), (5, dV v)], [], 32⟩) ?_)
  rintro v r0 hb hm
  rw [yage] at hm
  refine Ok_seq (rs G (hN 2 list h0) ?_)
  refine cd hm (fun hm => ?_) (fun hm => ?_)
  ·refine X_skip (thN (Ok_seq (Ok_block ?_)))
   obtain ⟨e, h, hm⟩ := obind hm
   refine rs G (hD 2 h h0) ?_
   refine cd hm (fun hm => ?_) (fun hm => ?_)
   ·refine rg G ?_
    have hm := eL hm hb hr
    cases hm
    exact rt [] []
   ·exact X_skip (ibN (thN (rh G (wL G hm))))
  ·exact Ok_exit (thE (thE (ibE (wE G hm hb))))
 rintro ⟨⟩ hm s hw
 refine thN (Ok_weak hw ?_)
 refine rg G ?_
 cases hm
 exact rt [] []
def yaly : MS (Line × Int) Bool := ⟨.x .r .r, fun x => zq97 x.1 x.2, fun y => dV y, fun _ => [], fun _ _ => []⟩
theorem yauj {x stops y} (hm : zq97 x stops = some y) : yaly.C (x, stops) y := yaly.c (x, stops) hm
theorem yaui : FnOK Tryz.prog 214 yaly.S := by
 refine fm tt yaly [fo yaql, fo yace, fo yafn] Tryz.call214 Tryz.func214 rfl Tryz.results214 Tryz.ntmps214 ?_
 rintro ⟨x, stops⟩ y cx G hm
 have hm : zq97 x stops = some y := hm
 unfold zq97 at hm
 refine rg G (Ok_seq ?_)
 obtain ⟨r, h, hm⟩ := obind hm
 refine jn hm (fun v => ⟨[(1, dV stops), (2, .ref 16 0), (27, dV v)], [bX 16 [dV x.Name, dV x.Stops, dV x.Runs]], 48⟩) (fun v hm => ?_) ?_
 ·rcases bf hm with ⟨hb, hm⟩ | ⟨hb, hm⟩
  ·refine re G (hC 2 (yaji h) (hO 4 (.b true) (hP hb h0))) ?_
   exact wJ G hm
  ·obtain ⟨r1, h1, hm⟩ := obind hm
   rcases bf hm with ⟨hb1, hm⟩ | ⟨hb1, hm⟩
   ·refine re G (hC 2 (yaji h) (hO 4 (.b false) (hP hb (hN 7 x.Stops (hC 8 (yabi h1) (hO 11 (.b true) (hP hb1 h0))))))) ?_
    exact wJ G hm
   ·refine re G (hC 2 (yaji h) (hO 4 (.b false) (hP hb (hN 7 x.Stops (hC 8 (yabi h1) (hO 11 (.b false) (hP hb1 (hN 14 x.Runs (hN 17 x.Stops h0))))))))) ?_
    exact wJ G hm
 rintro v hm
 refine cd hm (fun hm => ?_) (fun hm => ?_)
 ·refine rg G ?_
  cases hm
  exact rt [] []
 ·refine X_skip (thN (Ok_seq (rg G (tF hm (fun _ => ⟨[(2, .ref 16 0)], [bX 16 [dV x.Name, dV x.Stops, dV x.Runs]], 48⟩) (fun v5 hr hm => ?_) ?_))))
  ·refine Ok_block (lp G hm (fun v1 => ⟨[(1, dV stops), (2, .ref 16 0), (5, dV v1)], [bX 16 [dV x.Name, dV x.Stops, dV x.Runs]], 48⟩) ?_)
   rintro v1 r0 hb2 hm
   rw [yagb] at hm
   refine Ok_seq (rs G (hN 3 x.Stops h0) ?_)
   refine cd hm (fun hm => ?_) (fun hm => ?_)
   ·refine X_skip (thN (Ok_seq (Ok_block ?_)))
    obtain ⟨e2, h6, hm⟩ := obind hm
    obtain ⟨r4, h7, hm⟩ := obind hm
    refine jn hm (fun v2 => ⟨[(1, dV stops), (2, .ref 16 0), (5, dV v1), (54, dV v2)], [bX 16 [dV x.Name, dV x.Stops, dV x.Runs]], 48⟩) (fun v2 hm => ?_) ?_
    ·rcases bf hm with ⟨hb3, hm⟩ | ⟨hb3, hm⟩
     ·refine de G [] (hD 3 h6 (hC 7 (yabi h7) (hO 9 (.b true) (hP hb3 h0)))) ?_
      exact wJ G hm
     ·obtain ⟨e3, h8, hm⟩ := obind hm
      obtain ⟨r5, h9, hm⟩ := obind hm
      refine de G [] (hD 3 h6 (hC 7 (yabi h7) (hO 9 (.b false) (hP hb3 (hD 14 h8 (hC 16 (yakv h9) h0)))))) ?_
      exact wJ G hm
    rintro v2 hm
    refine cd hm (fun hm => ?_) (fun hm => ?_)
    ·refine rg G ?_
     have hm := eL hm hb2 hr
     cases hm
     exact rt [] []
    ·exact X_skip (ibN (thN (rh G (wL G hm))))
   ·exact Ok_exit (thE (thE (ibE (wE G hm hb2))))
  rintro ⟨⟩ hm s hw
  refine thN (Ok_weak hw ?_)
  refine Ok_seq (rg G (tF hm (fun _ => ⟨[], [], 32⟩) (fun v4 hr1 hm => ?_) ?_))
  ·refine Ok_block (lp G hm (fun v3 => ⟨[(2, .ref 16 0), (6, dV v3)], [bX 16 [dV x.Name, dV x.Stops, dV x.Runs]], 48⟩) ?_)
   rintro v3 r0 hb4 hm
   rw [yaga] at hm
   refine Ok_seq (rs G (hN 3 x.Runs h0) ?_)
   refine cd hm (fun hm => ?_) (fun hm => ?_)
   ·refine X_skip (thN (Ok_seq (Ok_block ?_)))
    obtain ⟨e5, h10, hm⟩ := obind hm
    obtain ⟨r7, h11, hm⟩ := obind hm
    refine rs G (hD 3 h10 (hC 5 (yabi h11) h0)) ?_
    refine cd hm (fun hm => ?_) (fun hm => ?_)
    ·refine rg G ?_
     have hm := eL hm hb4 hr1
     cases hm
     exact rt [] []
    ·exact X_skip (ibN (thN (rh G (wL G hm))))
   ·exact Ok_exit (thE (thE (ibE (wE G hm hb4))))
  rintro ⟨⟩ hm s1 hw1
  refine thN (Ok_weak hw1 ?_)
  refine rg G ?_
  cases hm
  exact rt [] []
def yalx : MS (Network × ByteArray) Int := ⟨.x .r .r, fun x => zq98 x.1 x.2, fun y => dV y, fun _ => [], fun _ _ => []⟩
theorem yayu {n name y} (hm : zq98 n name = some y) : yalx.C (n, name) y := yalx.c (n, name) hm
theorem yauh : FnOK Tryz.prog 215 yalx.S := by
 refine fm tt yalx [] Tryz.call215 Tryz.func215 rfl Tryz.results215 Tryz.ntmps215 ?_
 rintro ⟨n, name⟩ y cx G hm
 have hm : zq98 n name = some y := hm
 unfold zq98 at hm
 refine rg G (Ok_seq (rg G (tF hm (fun _ => ⟨[], [], 32⟩) (fun v1 hr hm => ?_) ?_)))
 ·refine Ok_block (lp G hm (fun v => ⟨[(1, dV name), (2, .ref 16 0), (5, dV v)], [bX 16 [dV n.Stops, dV n.Lines]], 48⟩) ?_)
  rintro v r0 hb hm
  rw [yafz] at hm
  refine Ok_seq (rs G (hN 3 n.Lines h0) ?_)
  refine cd hm (fun hm => ?_) (fun hm => ?_)
  ·refine X_skip (thN (Ok_seq (Ok_block ?_)))
   obtain ⟨e, h, hm⟩ := obind hm
   refine rs G (hD 3 h h0) ?_
   refine cd hm (fun hm => ?_) (fun hm => ?_)
   ·refine rg G ?_
    have hm := eL hm hb hr
    cases hm
    exact rt [] []
   ·exact X_skip (ibN (thN (rh G (wL G hm))))
  ·exact Ok_exit (thE (thE (ibE (wE G hm hb))))
 rintro ⟨⟩ hm s hw
 refine thN (Ok_weak hw ?_)
 refine rg G ?_
 cases hm
 exact rt [] []
def yalz : MS Network Bool := ⟨.r, zq96, fun y => dV y, fun _ => [], fun _ _ => []⟩
theorem yajj {n y} (hm : zq96 n = some y) : yalz.C n y := yalz.c n hm
theorem yaqm : FnOK Tryz.prog 158 yalz.S := by
 refine fm tt yalz [fo yace, fo yaql, fo yauk, fo yaui, fo yauh] Tryz.call158 Tryz.func158 rfl Tryz.results158 Tryz.ntmps158 ?_
 rintro n y cx G hm
 have hm : zq96 n = some y := hm
 unfold zq96 at hm
 refine rg G (Ok_seq ?_)
 obtain ⟨r, h, hm⟩ := obind hm
 refine jn hm (fun v => ⟨[(1, .ref 16 0), (16, dV v)], [bX 16 [dV n.Stops, dV n.Lines]], 48⟩) (fun v hm => ?_) ?_
 ·rcases bf hm with ⟨hb, hm⟩ | ⟨hb, hm⟩
  ·refine re G (hN 2 n.Stops (hC 3 (yabi h) (hO 5 (.b true) (hP hb h0)))) ?_
   exact wJ G hm
  ·obtain ⟨r1, h1, hm⟩ := obind hm
   refine re G (hN 2 n.Stops (hC 3 (yabi h) (hO 5 (.b false) (hP hb (hN 8 n.Lines (hC 9 (yabi h1) h0)))))) ?_
   exact wJ G hm
 rintro v hm
 refine cd hm (fun hm => ?_) (fun hm => ?_)
 ·refine rg G ?_
  cases hm
  exact rt [] []
 ·refine X_skip (thN (Ok_seq (rg G (tF hm (fun _ => ⟨[(1, .ref 16 0)], [bX 16 [dV n.Stops, dV n.Lines]], 48⟩) (fun v5 hr hm => ?_) ?_))))
  ·refine Ok_block (lp G hm (fun i => ⟨[(1, .ref 16 0), (3, dV i)], [bX 16 [dV n.Stops, dV n.Lines]], 48⟩) ?_)
   rintro i r0 hb1 hm
   rw [yagd] at hm
   refine Ok_seq (rs G (hN 3 n.Stops h0) ?_)
   refine cd hm (fun hm => ?_) (fun hm => ?_)
   ·refine X_skip (thN (Ok_seq (Ok_block ?_)))
    obtain ⟨e2, h6, hm⟩ := obind hm
    obtain ⟨r4, h7, hm⟩ := obind hm
    refine jn hm (fun v1 => ⟨[(1, .ref 16 0), (3, dV i), (42, dV v1)], [bX 16 [dV n.Stops, dV n.Lines]], 48⟩) (fun v1 hm => ?_) ?_
    ·rcases bf hm with ⟨hb2, hm⟩ | ⟨hb2, hm⟩
     ·refine de G [] (hD 3 h6 (hC 5 (yaji h7) (hO 7 (.b true) (hP hb2 h0)))) ?_
      exact wJ G hm
     ·obtain ⟨e3, h8, hm⟩ := obind hm
      obtain ⟨r5, h9, hm⟩ := obind hm
      refine de G [] (hD 3 h6 (hC 5 (yaji h7) (hO 7 (.b false) (hP hb2 (hD 13 h8 (hC 15 (yayv h9) h0)))))) ?_
      exact wJ G hm
    rintro v1 hm
    refine cd hm (fun hm => ?_) (fun hm => ?_)
    ·refine rg G ?_
     have hm := eL hm hb1 hr
     cases hm
     exact rt [] []
    ·exact X_skip (ibN (thN (rh G (wL G hm))))
   ·exact Ok_exit (thE (thE (ibE (wE G hm hb1))))
  rintro ⟨⟩ hm s hw
  refine thN (Ok_weak hw ?_)
  refine Ok_seq (rg G (tF hm (fun _ => ⟨[], [], 32⟩) (fun v4 hr1 hm => ?_) ?_))
  ·refine Ok_block (lp G hm (fun v2 => ⟨[(1, .ref 16 0), (4, dV v2)], [bX 16 [dV n.Stops, dV n.Lines]], 48⟩) ?_)
   rintro v2 r0 hb3 hm
   rw [yagc] at hm
   refine Ok_seq (rs G (hN 3 n.Lines h0) ?_)
   refine cd hm (fun hm => ?_) (fun hm => ?_)
   ·refine X_skip (thN (Ok_seq (Ok_block ?_)))
    obtain ⟨e7, h14, hm⟩ := obind hm
    obtain ⟨r9, h15, hm⟩ := obind hm
    refine jn hm (fun v3 => ⟨[(1, .ref 16 0), (4, dV v2), (71, dV v3)], [bX 16 [dV n.Stops, dV n.Lines]], 48⟩) (fun v3 hm => ?_) ?_
    ·rcases bf hm with ⟨hb4, hm⟩ | ⟨hb4, hm⟩
     ·refine de G [] (hD 3 h14 (hN 7 n.Stops (hC 8 (yauj h15) (hO 10 (.b true) (hP hb4 h0))))) ?_
      exact wJ G hm
     ·obtain ⟨e8, h16, hm⟩ := obind hm
      obtain ⟨r10, h17, hm⟩ := obind hm
      refine de G [] (hD 3 h14 (hN 7 n.Stops (hC 8 (yauj h15) (hO 10 (.b false) (hP hb4 (hD 15 h16 (hC 18 (yayu h17) h0))))))) ?_
      exact wJ G hm
    rintro v3 hm
    refine cd hm (fun hm => ?_) (fun hm => ?_)
    ·refine rg G ?_
     have hm := eL hm hb3 hr1
     cases hm
     exact rt [] []
    ·exact X_skip (ibN (thN (rh G (wL G hm))))
   ·exact Ok_exit (thE (thE (ibE (wE G hm hb3))))
  rintro ⟨⟩ hm s1 hw1
  refine thN (Ok_weak hw1 ?_)
  refine rg G ?_
  cases hm
  exact rt [] []
def yaih : MS Int Bool := ⟨.r, zq104, fun y => dV y, fun _ => [], fun _ _ => []⟩
theorem yacn {t y} (hm : zq104 t = some y) : yaih.C t y := yaih.c t hm
theorem yatl : FnOK Tryz.prog 120 yaih.S := by
 refine fm tt yaih [fo yace] Tryz.call120 Tryz.func120 rfl Tryz.results120 Tryz.ntmps120 ?_
 rintro t y cx G hm
 have hm : zq104 t = some y := hm
 unfold zq104 at hm
 refine rg G ?_
 obtain ⟨r, h, hm⟩ := obind hm
 refine rs G (hC 1 (yabi h) h0) ?_
 cases hm
 exact rt [] []
def yaic : MS (Timetable × Int) Line := ⟨.x .r .r, fun x => zq109 x.1 x.2, fun y => dV y, fun _ => [], fun _ _ => []⟩
theorem yars {t i y} (hm : zq109 t i = some y) : yaic.C (t, i) y := yaic.c (t, i) hm
theorem yaku : FnOK Tryz.prog 217 yaic.S := by
 refine fm tt yaic [] Tryz.call217 Tryz.func217 rfl Tryz.results217 Tryz.ntmps217 ?_
 rintro ⟨t, i⟩ y cx G hm
 have hm : zq109 t i = some y := hm
 unfold zq109 at hm
 refine rg G ?_
 obtain ⟨e2, h2, hm⟩ := obind hm
 obtain ⟨e3, h3, hm⟩ := obind hm
 refine ds G [(11, [32])] (hD 6 h2 (hD 9 h3 h0)) ?_
 cases hm
 exact rt [] []
def yaib : MS (Timetable × Int) ((List Int)) := ⟨.x .r .r, fun x => zq110 x.1 x.2, fun y => dV y, fun _ => [], fun _ _ => []⟩
theorem yakt {t i y} (hm : zq110 t i = some y) : yaib.C (t, i) y := yaib.c (t, i) hm
theorem yaks : FnOK Tryz.prog 170 yaib.S := by
 refine fm tt yaib [fo yaku] Tryz.call170 Tryz.func170 rfl Tryz.results170 Tryz.ntmps170 ?_
 rintro ⟨t, i⟩ y cx G hm
 have hm : zq110 t i = some y := hm
 unfold zq110 at hm
 refine rg G ?_
 obtain ⟨r, h, hm⟩ := obind hm
 refine rs G (hC 2 (yars h) h0) ?_
 cases hm
 exact rt [] []
def yaii : MS (Line × Int × Int) Int := ⟨.x .r (.x .r .r), fun x => zq103 x.1 x.2.1 x.2.2, fun y => dV y, fun _ => [], fun _ _ => []⟩
theorem yaya {x from_ to y} (hm : zq103 x from_ to = some y) : yaii.C (x, from_, to) y := yaii.c (x, from_, to) hm
theorem yatm : FnOK Tryz.prog 227 yaii.S := by
 refine fm tt yaii [] Tryz.call227 Tryz.func227 rfl Tryz.results227 Tryz.ntmps227 ?_
 rintro ⟨x, from_, to⟩ y cx G hm
 have hm : zq103 x from_ to = some y := hm
 unfold zq103 at hm
 refine rg G (rg G (Ok_seq (rg G (tl hm (fun v2 => ⟨[(7, dV v2)], [], 32⟩) (fun v2 hm => ?_) ?_))))
 ·refine Ok_block (lp G hm (fun (v, v1) => ⟨[(2, dV to), (3, .ref 16 0), (7, dV v), (8, dV v1)], [bX 16 [dV x.Name, dV x.Stops, dV x.Runs]], 48⟩) ?_)
  rintro ⟨v, v1⟩ r0 hb hm
  rw [yafm] at hm
  refine Ok_seq (rg G (cd hm (fun hm => ?_) (fun hm => ?_)))
  ·refine X_skip (thN (Ok_seq (Ok_block ?_)))
   obtain ⟨e, h, hm⟩ := obind hm
   refine re G (hD 4 h h0) ?_
   exact ibN (thN (rh G (wL G hm)))
  ·exact Ok_exit (thE (thE (ibE (wD G hm hb))))
 rintro v2 hm s hw
 refine thN (Ok_weak hw ?_)
 refine rg G ?_
 cases hm
 exact rt [] []
def yaig : MS (Timetable × Int × Int) Int := ⟨.x .r (.x .r .r), fun x => zq105 x.1 x.2.1 x.2.2, fun y => dV y, fun _ => [], fun _ _ => []⟩
theorem yaxz {t i k y} (hm : zq105 t i k = some y) : yaig.C (t, i, k) y := yaig.c (t, i, k) hm
theorem yatk : FnOK Tryz.prog 195 yaig.S := by
 refine fm tt yaig [fo yaku, fo yatm] Tryz.call195 Tryz.func195 rfl Tryz.results195 Tryz.ntmps195 ?_
 rintro ⟨t, i, k⟩ y cx G hm
 have hm : zq105 t i k = some y := hm
 unfold zq105 at hm
 refine rg G ?_
 obtain ⟨e1, h3, hm⟩ := obind hm
 obtain ⟨r2, h4, hm⟩ := obind hm
 obtain ⟨r3, h5, hm⟩ := obind hm
 refine ds G [] (hD 3 h3 (hC 8 (yars h4) (hC 10 (yaya h5) h0))) ?_
 cases hm
 exact rt [] []
def yaif : MS (Timetable × Int) Int := ⟨.x .r .r, fun x => zq106 x.1 x.2, fun y => dV y, fun _ => [], fun _ _ => []⟩
theorem yaex {t i y} (hm : zq106 t i = some y) : yaif.C (t, i) y := yaif.c (t, i) hm
theorem yafl : FnOK Tryz.prog 121 yaif.S := by
 refine fm tt yaif [fo yaks, fo yatk] Tryz.call121 Tryz.func121 rfl Tryz.results121 Tryz.ntmps121 ?_
 rintro ⟨t, i⟩ y cx G hm
 have hm : zq106 t i = some y := hm
 unfold zq106 at hm
 refine rg G ?_
 obtain ⟨r2, h2, hm⟩ := obind hm
 obtain ⟨r3, h3, hm⟩ := obind hm
 refine ds G [] (hC 4 (yakt h2) (hN 5 r2 (hC 7 (yaxz h3) h0))) ?_
 cases hm
 exact rt [] []
def yaid : MS Timetable Bool := ⟨.r, zq108, fun y => dV y, fun _ => [], fun _ _ => []⟩
theorem yart {t y} (hm : zq108 t = some y) : yaid.C t y := yaid.c t hm
theorem yatj : FnOK Tryz.prog 79 yaid.S := by
 refine fm tt yaid [fo yaqm, fo yace, fo yatl, fo yafl] Tryz.call79 Tryz.func79 rfl Tryz.results79 Tryz.ntmps79 ?_
 rintro t y cx G hm
 have hm : zq108 t = some y := hm
 unfold zq108 at hm
 refine rg G (Ok_seq ?_)
 obtain ⟨r, h, hm⟩ := obind hm
 refine jn hm (fun v => ⟨[(1, .ref 16 0), (14, dV v)], [bX 16 [dV t.Network.Stops, dV t.Network.Lines, dV t.Trips]], 48⟩) (fun v hm => ?_) ?_
 ·rcases bf hm with ⟨hb, hm⟩ | ⟨hb, hm⟩
  ·refine re G (hC 2 (yajj h) (hO 4 (.b true) (hP hb h0))) ?_
   exact wJ G hm
  ·refine re G (hC 2 (yajj h) (hO 4 (.b false) (hP hb (hN 7 t.Trips h0)))) ?_
   exact wJ G hm
 rintro v hm
 refine cd hm (fun hm => ?_) (fun hm => ?_)
 ·refine rg G ?_
  cases hm
  exact rt [] []
 ·refine X_skip (thN (Ok_seq (rg G (tF hm (fun _ => ⟨[], [], 32⟩) (fun v2 hr hm => ?_) ?_))))
  ·refine Ok_block (lp G hm (fun x => ⟨[(1, .ref 16 0), (3, dV x)], [bX 16 [dV t.Network.Stops, dV t.Network.Lines, dV t.Trips]], 48⟩) ?_)
   rintro x r0 hb1 hm
   rw [yafk] at hm
   refine Ok_seq (rs G (hN 3 t.Trips h0) ?_)
   refine cd hm (fun hm => ?_) (fun hm => ?_)
   ·refine X_skip (thN (Ok_seq (Ok_block ?_)))
    obtain ⟨e, h1, hm⟩ := obind hm
    refine rs G (hD 3 h1 h0) ?_
    obtain ⟨r6, h8, hm⟩ := obind hm
    refine jn hm (fun v1 => ⟨[(1, .ref 16 0), (3, dV x), (70, dV v1)], [bX 16 [dV t.Network.Stops, dV t.Network.Lines, dV t.Trips]], 48⟩) (fun v1 hm => ?_) ?_
    ·rcases bf hm with ⟨hb2, hm⟩ | ⟨hb2, hm⟩
     ·refine de G [] (hC 2 (yabi h8) (hO 4 (.b true) (hP hb2 h0))) ?_
      exact wJ G hm
     ·obtain ⟨r7, h9, hm⟩ := obind hm
      rcases bf hm with ⟨hb3, hm⟩ | ⟨hb3, hm⟩
      ·refine de G [] (hC 2 (yabi h8) (hO 4 (.b false) (hP hb2 (hN 10 t.Network.Lines (hC 12 (yabi h9) (hO 15 (.b true) (hP hb3 h0))))))) ?_
       exact wJ G hm
      ·obtain ⟨r8, h10, hm⟩ := obind hm
       rcases bf hm with ⟨hb4, hm⟩ | ⟨hb4, hm⟩
       ·refine de G [] (hC 2 (yabi h8) (hO 4 (.b false) (hP hb2 (hN 10 t.Network.Lines (hC 12 (yabi h9) (hO 15 (.b false) (hP hb3 (hC 18 (yacn h10) (hO 21 (.b true) (hP hb4 h0)))))))))) ?_
        exact wJ G hm
       ·obtain ⟨r9, h11, hm⟩ := obind hm
        obtain ⟨r10, h12, hm⟩ := obind hm
        rcases bf hm with ⟨hb5, hm⟩ | ⟨hb5, hm⟩
        ·refine de G [] (hC 2 (yabi h8) (hO 4 (.b false) (hP hb2 (hN 10 t.Network.Lines (hC 12 (yabi h9) (hO 15 (.b false) (hP hb3 (hC 18 (yacn h10) (hO 21 (.b false) (hP hb4 (hC 24 (yaex h11) (hC 25 (yacn h12) (hO 28 (.b true) (hP hb5 h0)))))))))))))) ?_
         exact wJ G hm
        ·rcases bf hm with ⟨hb6, hm⟩ | ⟨hb6, hm⟩
         ·obtain ⟨e2, h13, hm⟩ := obind hm
          refine de G [] (hC 2 (yabi h8) (hO 4 (.b false) (hP hb2 (hN 10 t.Network.Lines (hC 12 (yabi h9) (hO 15 (.b false) (hP hb3 (hC 18 (yacn h10) (hO 21 (.b false) (hP hb4 (hC 24 (yaex h11) (hC 25 (yacn h12) (hO 28 (.b false) (hP hb5 (hO 31 (.b true) (hP hb6 (hD 36 h13 h0))))))))))))))))) ?_
          exact wJ G hm
         ·refine de G [] (hC 2 (yabi h8) (hO 4 (.b false) (hP hb2 (hN 10 t.Network.Lines (hC 12 (yabi h9) (hO 15 (.b false) (hP hb3 (hC 18 (yacn h10) (hO 21 (.b false) (hP hb4 (hC 24 (yaex h11) (hC 25 (yacn h12) (hO 28 (.b false) (hP hb5 (hO 31 (.b false) (hP hb6 h0)))))))))))))))) ?_
          exact wJ G hm
    rintro v1 hm
    refine cd hm (fun hm => ?_) (fun hm => ?_)
    ·refine rg G ?_
     have hm := eL hm hb1 hr
     cases hm
     exact rt [] []
    ·exact X_skip (ibN (thN (rh G (wL G hm))))
   ·exact Ok_exit (thE (thE (ibE (wE G hm hb1))))
  rintro ⟨⟩ hm s hw
  refine thN (Ok_weak hw ?_)
  refine rg G ?_
  cases hm
  exact rt [] []
def yany : MS (Network × Fleet) Bool := ⟨.x .r .r, fun x => zq50 x.1 x.2, fun y => dV y, fun _ => [], fun _ _ => []⟩
theorem yazo {n f y} (hm : zq50 n f = some y) : yany.C (n, f) y := yany.c (n, f) hm
theorem yavu : FnOK Tryz.prog 168 yany.S := by
 refine fm tt yany [fo yaqm, fo yace] Tryz.call168 Tryz.func168 rfl Tryz.results168 Tryz.ntmps168 ?_
 rintro ⟨n, f⟩ y cx G hm
 have hm : zq50 n f = some y := hm
 unfold zq50 at hm
 refine rg G (Ok_seq ?_)
 obtain ⟨r, h, hm⟩ := obind hm
 refine jn hm (fun v => ⟨[(2, .ref 16 0), (3, .ref 32 0), (24, dV v)], [bX 16 [dV n.Stops, dV n.Lines], bX 32 [dV f.Dead, dV f.Turn]], 64⟩) (fun v hm => ?_) ?_
 ·rcases bf hm with ⟨hb, hm⟩ | ⟨hb, hm⟩
  ·refine re G (hC 1 (yajj h) (hO 3 (.b true) (hP hb h0))) ?_
   exact wJ G hm
  ·rcases bf hm with ⟨hb1, hm⟩ | ⟨hb1, hm⟩
   ·refine re G (hC 1 (yajj h) (hO 3 (.b false) (hP hb (hN 6 f.Dead (hN 9 n.Stops (hO 12 (.b true) (hP hb1 h0))))))) ?_
    exact wJ G hm
   ·obtain ⟨r1, h1, hm⟩ := obind hm
    refine re G (hC 1 (yajj h) (hO 3 (.b false) (hP hb (hN 6 f.Dead (hN 9 n.Stops (hO 12 (.b false) (hP hb1 (hC 15 (yabi h1) h0)))))))) ?_
    exact wJ G hm
 rintro v hm
 refine cd hm (fun hm => ?_) (fun hm => ?_)
 ·refine rg G ?_
  cases hm
  exact rt [] []
 ·refine X_skip (thN (Ok_seq (rg G (tF hm (fun _ => ⟨[], [], 32⟩) (fun v5 hr hm => ?_) ?_))))
  ·refine Ok_block (lp G hm (fun v1 => ⟨[(2, .ref 16 0), (3, .ref 32 0), (5, dV v1)], [bX 16 [dV n.Stops, dV n.Lines], bX 32 [dV f.Dead, dV f.Turn]], 64⟩) ?_)
   rintro v1 r0 hb2 hm
   rw [yajx] at hm
   refine Ok_seq (rs G (hN 3 f.Dead h0) ?_)
   refine cd hm (fun hm => ?_) (fun hm => ?_)
   ·refine X_skip (thN (Ok_seq (Ok_block (Ok_seq ?_))))
    obtain ⟨e3, h5, hm⟩ := obind hm
    refine jn hm (fun v2 => ⟨[(2, .ref 16 0), (3, .ref 32 0), (5, dV v1), (52, dV v2)], [bX 16 [dV n.Stops, dV n.Lines], bX 32 [dV f.Dead, dV f.Turn]], 64⟩) (fun v2 hm => ?_) ?_
    ·rcases bf hm with ⟨hb3, hm⟩ | ⟨hb3, hm⟩
     ·refine de G [] (hD 3 h5 (hN 5 e3 (hN 8 n.Stops (hO 10 (.b true) (hP hb3 h0))))) ?_
      exact wJ G hm
     ·obtain ⟨e4, h6, hm⟩ := obind hm
      obtain ⟨e5, h7, hm⟩ := obind hm
      refine de G [] (hD 3 h5 (hN 5 e3 (hN 8 n.Stops (hO 10 (.b false) (hP hb3 (hD 14 h6 (hD 17 h7 h0))))))) ?_
      exact wJ G hm
    rintro v2 hm
    refine cd hm (fun hm => ?_) (fun hm => ?_)
    ·refine rg G ?_
     have hm := eL hm hb2 hr
     cases hm
     exact rt [] []
    ·refine X_skip (thN (rg G (tF hm (fun _ => ⟨[(2, .ref 16 0), (3, .ref 32 0), (5, dV v1)], [bX 16 [dV n.Stops, dV n.Lines], bX 32 [dV f.Dead, dV f.Turn]], 64⟩) (fun v4 hr1 hm => ?_) ?_)))
     ·refine Ok_block (lp G hm (fun v3 => ⟨[(2, .ref 16 0), (3, .ref 32 0), (5, dV v1), (6, dV v3)], [bX 16 [dV n.Stops, dV n.Lines], bX 32 [dV f.Dead, dV f.Turn]], 64⟩) ?_)
      rintro v3 r0 hb4 hm
      rw [yagr] at hm
      refine Ok_seq ?_
      obtain ⟨e7, h8, hm⟩ := obind hm
      refine rs G (hD 4 h8 (hN 6 e7 h0)) ?_
      refine cd hm (fun hm => ?_) (fun hm => ?_)
      ·refine X_skip (thN (Ok_seq (Ok_block ?_)))
       obtain ⟨e8, h9, hm⟩ := obind hm
       obtain ⟨e9, h10, hm⟩ := obind hm
       obtain ⟨r3, h11, hm⟩ := obind hm
       refine rs G (hD 3 h9 (hD 6 h10 (hC 8 (yabi h11) h0))) ?_
       refine cd hm (fun hm => ?_) (fun hm => ?_)
       ·refine rg G ?_
        have hm := eL hm hb4 hr1
        have hm := eL hm hb2 hr
        cases hm
        exact rt [] []
       ·exact X_skip (ibN (thN (rh G (wL G hm))))
      ·exact Ok_exit (thE (thE (ibE (wE G hm hb4))))
     rintro ⟨⟩ hm s hw
     refine ibN (thN (Ok_weak hw ?_))
     exact rh G (wL G hm)
   ·exact Ok_exit (thE (thE (ibE (wE G hm hb2))))
  rintro ⟨⟩ hm s1 hw1
  refine thN (Ok_weak hw1 ?_)
  refine rg G ?_
  cases hm
  exact rt [] []
def yaof : MS (Timetable × Fleet) Bool := ⟨.x .r .r, fun x => zq45 x.1 x.2, fun y => dV y, fun _ => [], fun _ _ => []⟩
theorem yaoe {t f y} (hm : zq45 t f = some y) : yaof.C (t, f) y := yaof.c (t, f) hm
theorem yarf : FnOK Tryz.prog 90 yaof.S := by
 refine fm tt yaof [fo yatj, fo yavu] Tryz.call90 Tryz.func90 rfl Tryz.results90 Tryz.ntmps90 ?_
 rintro ⟨t, f⟩ y cx G hm
 have hm : zq45 t f = some y := hm
 unfold zq45 at hm
 refine rg G ?_
 obtain ⟨r, h, hm⟩ := obind hm
 refine jn hm (fun v => ⟨[(4, dV v)], [], 32⟩) (fun v hm => ?_) ?_
 ·rcases bf hm with ⟨hb, hm⟩ | ⟨hb, hm⟩
  ·obtain ⟨r1, h1, hm⟩ := obind hm
   refine re G (hC 1 (yart h) (hO 2 (.b true) (hP hb (hC 6 (yazo h1) h0)))) ?_
   exact wJ G hm
  ·refine re G (hC 1 (yart h) (hO 2 (.b false) (hP hb h0))) ?_
   exact wJ G hm
 rintro v hm
 cases hm
 exact rt [] []
def yaoa : MS (Timetable × Fleet × Int × Int) Int := ⟨.x .r (.x .r (.x .r .r)), fun x => zq49 x.1 x.2.1 x.2.2.1 x.2.2.2, fun y => dV y, fun _ => [], fun _ _ => []⟩
theorem yanz {t f a b y} (hm : zq49 t f a b = some y) : yaoa.C (t, f, a, b) y := yaoa.c (t, f, a, b) hm
theorem yags : FnOK Tryz.prog 154 yaoa.S := by
 refine fm tt yaoa [fo yaks] Tryz.call154 Tryz.func154 rfl Tryz.results154 Tryz.ntmps154 ?_
 rintro ⟨t, f, a, b⟩ y cx G hm
 have hm : zq49 t f a b = some y := hm
 unfold zq49 at hm
 refine rg G ?_
 obtain ⟨r2, h2, hm⟩ := obind hm
 obtain ⟨r3, h3, hm⟩ := obind hm
 refine ds G [] (hC 2 (yakt h2) (hC 5 (yakt h3) h0)) ?_
 obtain ⟨e4, h8, hm⟩ := obind hm
 obtain ⟨e5, h9, hm⟩ := obind hm
 obtain ⟨e6, h10, hm⟩ := obind hm
 obtain ⟨e7, h11, hm⟩ := obind hm
 refine ds G [] (hN 4 r2 (hD 6 h8 (hD 8 h9 (hD 11 h10 (hD 13 h11 h0))))) ?_
 cases hm
 exact rt [] []
def yanx : MS (Timetable × Fleet × Int × Int) Bool := ⟨.x .r (.x .r (.x .r .r)), fun x => zq51 x.1 x.2.1 x.2.2.1 x.2.2.2, fun y => dV y, fun _ => [], fun _ _ => []⟩
theorem yanw {t f a b y} (hm : zq51 t f a b = some y) : yanx.C (t, f, a, b) y := yanx.c (t, f, a, b) hm
theorem yajw : FnOK Tryz.prog 169 yanx.S := by
 refine fm tt yanx [fo yafl, fo yags] Tryz.call169 Tryz.func169 rfl Tryz.results169 Tryz.ntmps169 ?_
 rintro ⟨t, f, a, b⟩ y cx G hm
 have hm : zq51 t f a b = some y := hm
 unfold zq51 at hm
 refine rg G (jn hm (fun v => ⟨[(8, dV v)], [], 32⟩) (fun v hm => ?_) ?_)
 ·rcases bf hm with ⟨hb, hm⟩ | ⟨hb, hm⟩
  ·obtain ⟨e1, h3, hm⟩ := obind hm
   obtain ⟨r2, h4, hm⟩ := obind hm
   obtain ⟨r3, h5, hm⟩ := obind hm
   refine de G [] (hO 3 (.b true) (hP hb (hD 7 h3 (hC 12 (yaex h4) (hC 20 (yanz h5) h0))))) ?_
   exact wJ G hm
  ·refine de G [] (hO 3 (.b false) (hP hb h0)) ?_
   exact wJ G hm
 rintro v hm
 cases hm
 exact rt [] []
def yamj : MS (Int × Int) Int := ⟨.x .r .r, fun x => zq87 x.1 x.2, fun y => dV y, fun _ => [], fun _ _ => []⟩
theorem yayy {a b y} (hm : zq87 a b = some y) : yamj.C (a, b) y := yamj.c (a, b) hm
theorem yaup : FnOK Tryz.prog 232 yamj.S := by
 refine fm tt yamj [] Tryz.call232 Tryz.func232 rfl Tryz.results232 Tryz.ntmps232 ?_
 rintro ⟨a, b⟩ y cx G hm
 have hm : zq87 a b = some y := hm
 unfold zq87 at hm
 refine rg G (Ok_seq (rg G (cd hm (fun hm => ?_) (fun hm => ?_))))
 ·refine rg G ?_
  cases hm
  exact rt [] []
 ·refine X_skip (thN (rg G ?_))
  cases hm
  exact rt [] []
def yacl (rec_ : l11Plan → Int → Int → Option (Int × (List (List Int)))) : MS (l11Plan × Int × Int) (Int × (List (List Int))) := ⟨⟨[.bo 1, .rd, .rd], fun x => [.sc undef, Enc.e x.2.1, Enc.e x.2.2], fun x => [.box [dV x.1.t_.Network.Stops, dV x.1.t_.Network.Lines, dV x.1.t_.Trips, dV x.1.f_.Dead, dV x.1.f_.Turn, .own 1], taO 35 [some 3] x.1.known_], 2, 2, fun _ => rfl, fun _ => rfl, rfl, (by
  rintro ⟨a0, a1, a2⟩ ⟨b0, b1, b2⟩ h hO
  have q0 : a0 = b0 := Enc.inj _ _ (congrArg D.agg (cons_eq (congrArg (fun l => obC l 0 0) hO) (cons_eq (congrArg (fun l => obC l 0 1) hO) (cons_eq (congrArg (fun l => obC l 0 2) hO) (cons_eq (congrArg (fun l => obC l 0 3) hO) (cons_eq (congrArg (fun l => obC l 0 4) hO) (cons_eq (congrArg (fun l => D.sl 1 (obL l 1)) hO) rfl)))))))
  have q1 : a1 = b1 := qI 1 h
  have q2 : a2 = b2 := qI 2 h
  subst q0; subst q1; subst q2; rfl)⟩, fun x => rec_ x.1 x.2.1 x.2.2, fun y => dV y.1, fun _ => [], fun x y => [.box [dV x.1.t_.Network.Stops, dV x.1.t_.Network.Lines, dV x.1.t_.Trips, dV x.1.f_.Dead, dV x.1.f_.Turn, .own 1], taO 35 [some 3] y.2]⟩
def yasi : MS (l11Plan × Int × Int) (Int × (List (List Int))) := yacl zq53
theorem yash {x i used y} (hm : zq53 x i used = some y) : yasi.C (x, i, used) y := yasi.c (x, i, used) hm
theorem yard {rec_ : l11Plan → Int → Int → Option (Int × (List (List Int)))} {x i used y} (hm : rec_ x i used = some y) : (yacl rec_).C (x, i, used) y := (yacl rec_).c (x, i, used) hm
theorem yasg {rec_ : l11Plan → Int → Int → Option (Int × (List (List Int)))} (hrec : FnOK Tryz.prog 205 (yacl rec_).S) : FnOK Tryz.prog 205 (yacl (yafj rec_)).S := by
 refine fm tt (yacl (yafj rec_)) [fo hrec, fo yajw, fo yags, fo yaup] Tryz.call205 Tryz.func205 rfl Tryz.results205 Tryz.ntmps205 ?_
 rintro ⟨x, i, used⟩ y cx G hm
 have hm : yafj rec_ x i used = some y := hm
 unfold yafj at hm
 refine rg G (rs G (hN 5 x.t_.Trips h0) ?_)
 refine Ok_seq (rg G (cd hm (fun hm => ?_) (fun hm => ?_)))
 ·refine rg G ?_
  cases hm
  exact rt [] []
 ·refine X_skip (thN (Ok_seq ?_))
  obtain ⟨e, h, hm⟩ := obind hm
  obtain ⟨e1, h1, hm⟩ := obind hm
  refine rs G (hD 5 h (hE 6 h (hE 8 h (hP (idx_b (f := Enc.e) h1) (hO 9 (.d2 (Enc.e e) (Enc.e e1)) (hP (idx_m2 (f := Enc.e) h) (hP (idx_m2 (f := Enc.e) h1) h0))))))) ?_
  refine cd hm (fun hm => ?_) (fun hm => ?_)
  ·obtain ⟨e2, h2, hm⟩ := obind hm
   obtain ⟨e3, h3, hm⟩ := obind hm
   refine rs G (hD 5 h2 (hE 6 h (hE 8 h (hP (idx_b (f := Enc.e) h3) (hO 9 (.d2 (Enc.e e) (Enc.e e3)) (hP (idx_m2 (f := Enc.e) h) (hP (idx_m2 (f := Enc.e) h3) h0))))))) ?_
   cases hm
   exact rt [] []
  ·refine X_skip (thN ?_)
   obtain ⟨r, h4, hm⟩ := obind hm
   refine rs G (hC 4 (yard h4) h0) ?_
   refine Ok_seq (rg G (tl hm (fun (v6, v7) => ⟨[(0, .ref 0 0), (1, dV i), (2, dV used), (8, dV v6)], [bX 0 [dV x.t_.Network.Stops, dV x.t_.Network.Lines, dV x.t_.Trips, dV x.f_.Dead, dV x.f_.Turn, .own 1], tX 1 35 [some 3] v7 1 none], 48⟩) (fun vv1 hm => ?_) ?_))
   ·refine Ok_block (lp G hm (fun (v, v1, v2) => ⟨[(0, .ref 0 0), (1, dV i), (2, dV used), (7, dV (x.t_.Trips.length : Int)), (8, dV v), (9, dV v1)], [bX 0 [dV x.t_.Network.Stops, dV x.t_.Network.Lines, dV x.t_.Trips, dV x.f_.Dead, dV x.f_.Turn, .own 1], tX 1 35 [some 3] v2 1 none], 48⟩) ?_)
    rintro ⟨v, v1, v2⟩ r0 hb hm
    rw [yajv] at hm
    refine Ok_seq (rg G (cd hm (fun hm => ?_) (fun hm => ?_)))
    ·refine X_skip (thN (jn hm (fun (v3, v4) => ⟨[(0, .ref 0 0), (1, dV i), (2, dV used), (7, dV (x.t_.Trips.length : Int)), (8, dV v3), (9, dV v1)], [bX 0 [dV x.t_.Network.Stops, dV x.t_.Network.Lines, dV x.t_.Trips, dV x.f_.Dead, dV x.f_.Turn, .own 1], tX 1 35 [some 3] v4 1 none], 48⟩) (fun vv hm => ?_) ?_))
     ·refine Ok_block ?_
      obtain ⟨u1, h7, hm⟩ := obind hm
      refine jn hm (fun v5 => ⟨[(0, .ref 0 0), (1, dV i), (2, dV used), (7, dV (x.t_.Trips.length : Int)), (8, dV v), (9, dV v1), (69, dV v5)], [bX 0 [dV x.t_.Network.Stops, dV x.t_.Network.Lines, dV x.t_.Trips, dV x.f_.Dead, dV x.f_.Turn, .own 1], tX 1 35 [some 3] v2 1 none], 48⟩) (fun v5 hm => ?_) ?_
      ·rcases bf hm with ⟨hb1, hm⟩ | ⟨hb1, hm⟩
       ·obtain ⟨r2, h8, hm⟩ := obind hm
        refine de G [] (hK h7 (hO 6 (.b true) (hP hb1 (hC 17 (yanw h8) h0)))) ?_
        exact wJ G hm
       ·refine de G [] (hK h7 (hO 6 (.b false) (hP hb1 h0))) ?_
        exact wJ G hm
      rintro v5 hm
      refine cd hm (fun hm => ?_) (fun hm => ?_)
      ·obtain ⟨r6, h13, hm⟩ := obind hm
       obtain ⟨u3, h14, hm⟩ := obind hm
       obtain ⟨r7, h15, hm⟩ := obind hm
       obtain ⟨r8, h16, hm⟩ := obind hm
       refine de G [(20, [0, 1])] (hC 11 (yanz h13) (hK h14 (hC 20 (yard h15) (hC 22 (yayy h16) h0)))) ?_
       exact ibN (wJ G hm)
      ·exact X_skip (ibN (wJ G hm))
     rintro ⟨v3, v4⟩ hm
     exact rh G (wL G hm)
    ·exact Ok_exit (thE (thE (ibE (wD G hm hb))))
   rintro ⟨v6, v7⟩ hm s hw
   refine thN (Ok_weak hw ?_)
   obtain ⟨e4, h17, hm⟩ := obind hm
   obtain ⟨e5, h18, hm⟩ := obind hm
   refine rs G (hD 5 h17 (hE 6 h17 (hE 9 h17 (hP (idx_b (f := Enc.e) h18) (hO 10 (.sd2 (Enc.e e4) (Enc.e e5) (List.map Enc.e (e4.set used.toNat v6)) (List.map Enc.e (v7.set i.toNat (e4.set used.toNat v6)))) (hP (idx_m2 (f := Enc.e) h17) (hP (idx_m2 (f := Enc.e) h18) (hP (set_m Enc.e e4 used.toNat v6) (hP (set_m Enc.e v7 i.toNat (e4.set used.toNat v6)) h0))))))))) ?_
   refine rg G ?_
   cases hm
   exact rt [] []
theorem yajt : ∀ k, FnOK Tryz.prog 205 (yacl (yaju k)).S
 | 0 => ⟨fun args w => Tryz.call205 args w, fun vs w F ds obs κ hp => by obtain ⟨x, y, _, _, h⟩ := hp; cases h⟩
 | k + 1 => yasg (yajt k)
theorem yavs : FnOK Tryz.prog 205 yasi.S := yajt 4294967296
def yaod : MS (Timetable × Fleet) ((List Int)) := ⟨.x .r .r, fun x => zq46 x.1 x.2, fun _ => .own 0, fun y => [arO 3 y], fun _ _ => []⟩
theorem yazs {t f y} (hm : zq46 t f = some y) : yaod.C (t, f) y := yaod.c (t, f) hm
theorem yavx : FnOK Tryz.prog 144 yaod.S := by
 refine fm tt yaod [fo yavs, fo yajw, fo yags] Tryz.call144 Tryz.func144 rfl Tryz.results144 Tryz.ntmps144 ?_
 rintro ⟨t, f⟩ y cx G hm
 have hm : zq46 t f = some y := hm
 unfold zq46 at hm
 refine rg G (rs G (hN 2 t.Trips h0) ?_)
 refine rg G (Ok_seq (rg G (tl hm (fun v1 => ⟨[(2, .ref 16 0), (3, .ref 32 0), (5, dV (t.Trips.length : Int)), (6, .ref 48 0)], [bX 16 [dV t.Network.Stops, dV t.Network.Lines, dV t.Trips], bX 32 [dV f.Dead, dV f.Turn], bX 48 [dV t.Network.Stops, dV t.Network.Lines, dV t.Trips, dV f.Dead, dV f.Turn, .own 64], tX 64 35 [some 3] v1 64 none], 96⟩) (fun v1 hm => ?_) ?_)))
 ·refine Ok_block (lpP hm (fun (k, v) => ⟨[(2, .ref 16 0), (3, .ref 32 0), (5, dV (t.Trips.length : Int)), (6, .ref 48 0), (7, dV k)], [bX 16 [dV t.Network.Stops, dV t.Network.Lines, dV t.Trips], bX 32 [dV f.Dead, dV f.Turn], bX 48 [dV t.Network.Stops, dV t.Network.Lines, dV t.Trips, dV f.Dead, dV f.Turn, .own 64], tX 64 35 [some 3] v 64 none], 96⟩) (Wk_J G.hL ⟨[(2, []), (3, []), (5, []), (6, []), (7, [])], [(16, 16, []), (32, 32, []), (48, 176, [.k, .k, .k, .k, .k, .o 64])], [(64, 35, 1, [some 3])], 96⟩ (by kernel_rfl)) ?_)
  rintro ⟨k, v⟩ r0 hb hm
  rw [yakb] at hm
  refine Ok_seq (rg G (cd hm (fun hm => ?_) (fun hm => ?_)))
  ·refine X_skip (thN (Ok_seq (Ok_block ?_)))
   obtain ⟨u, h, hm⟩ := obind hm
   obtain ⟨u1, h1, hm⟩ := obind hm
   refine rs G (hK h (hO 3 (.l (List.map Enc.e (List.replicate (w64 (1 * 2 ^ (min ((IntKind.u64.wrap ((t.Trips.length : Int))) : Int).toNat (IntKind.i64).bits))).toNat (0 : Int)))) (hP (mk_p (b := 8) (chk_t h1) rfl) (hP (rep_m Enc.e (w64 (1 * 2 ^ (min ((IntKind.u64.wrap ((t.Trips.length : Int))) : Int).toNat (IntKind.i64).bits))).toNat (0 : Int)) h0)))) ?_
   refine Ok_seq (rg G (tl hm (fun out1 => ⟨[(2, .ref 16 0), (3, .ref 32 0), (5, dV (t.Trips.length : Int)), (6, .ref 48 0), (7, dV k), (8, .own 64)], [bX 16 [dV t.Network.Stops, dV t.Network.Lines, dV t.Trips], bX 32 [dV f.Dead, dV f.Turn], bX 48 [dV t.Network.Stops, dV t.Network.Lines, dV t.Trips, dV f.Dead, dV f.Turn, .own 80], aX 64 3 out1, tX 80 35 [some 3] v 80 none], 112⟩) (fun out1 hm => ?_) ?_))
   ·refine Ok_block (lp G hm (fun (used, out) => ⟨[(2, .ref 16 0), (3, .ref 32 0), (5, dV (t.Trips.length : Int)), (6, .ref 48 0), (7, dV k), (8, .own 64), (9, dV used)], [bX 16 [dV t.Network.Stops, dV t.Network.Lines, dV t.Trips], bX 32 [dV f.Dead, dV f.Turn], bX 48 [dV t.Network.Stops, dV t.Network.Lines, dV t.Trips, dV f.Dead, dV f.Turn, .own 80], aX 64 3 out, tX 80 35 [some 3] v 80 none], 112⟩) ?_)
    rintro ⟨used, out⟩ r0 hb1 hm
    rw [yakc] at hm
    refine Ok_seq (rs G (hN 2 out h0) ?_)
    refine cd hm (fun hm => ?_) (fun hm => ?_)
    ·refine X_skip (thN (Ok_seq (Ok_block ?_)))
     obtain ⟨e, h2, hm⟩ := obind hm
     refine re G (hD 2 h2 (hS 3 h2 (-1) h0)) ?_
     exact ibN (thN (rh G (wL G hm)))
    ·exact Ok_exit (thE (thE (ibE (wD G hm hb1))))
   rintro out1 hm s hw
   refine thN (Ok_weak hw ?_)
   obtain ⟨u2, h3, hm⟩ := obind hm
   refine re G (hP (nodupB_ok (l := [64]) rfl) (hA 7 24 h3 h0)) ?_
   exact ibN (thN (rh G (wL G hm)))
  ·exact Ok_exit (thE (thE (ibE (wD G hm hb))))
 rintro v1 hm s1 hw1
 refine thN (Ok_weak hw1 ?_)
 refine rg G (rg G (Ok_seq (rg G (tl hm (fun i1 => ⟨[(10, .own 16)], [aX 16 3 i1], 48⟩) (fun i1 hm => ?_) ?_))))
 ·refine Ok_block (lp G hm (fun (want, before, i, v2) => ⟨[(2, .ref 16 0), (3, .ref 32 0), (5, dV (t.Trips.length : Int)), (6, .ref 48 0), (10, .own 64), (11, dV want), (12, dV before)], [bX 16 [dV t.Network.Stops, dV t.Network.Lines, dV t.Trips], bX 32 [dV f.Dead, dV f.Turn], bX 48 [dV t.Network.Stops, dV t.Network.Lines, dV t.Trips, dV f.Dead, dV f.Turn, .own 80], aX 64 3 i, tX 80 35 [some 3] v2 80 none], 112⟩) ?_)
  rintro ⟨want, before, i, v2⟩ r0 hb2 hm
  rw [yajz] at hm
  refine Ok_seq (rg G (cd hm (fun hm => ?_) (fun hm => ?_)))
  ·refine X_skip (thN (Ok_seq (Ok_block ?_)))
   obtain ⟨r, h4, hm⟩ := obind hm
   refine rs G (hC 3 (yash h4) h0) ?_
   refine rg G (jn hm (fun (want1, v3, v4) => ⟨[(2, .ref 16 0), (3, .ref 32 0), (5, dV (t.Trips.length : Int)), (6, .ref 48 0), (10, .own 64), (11, dV want1), (12, dV before), (14, dV v3)], [bX 16 [dV t.Network.Stops, dV t.Network.Lines, dV t.Trips], bX 32 [dV f.Dead, dV f.Turn], bX 48 [dV t.Network.Stops, dV t.Network.Lines, dV t.Trips, dV f.Dead, dV f.Turn, .own 80], aX 64 3 i, tX 80 35 [some 3] v4 80 none], 112⟩) (fun vv3 hm => ?_) ?_)
   ·obtain ⟨r1, h5, hm⟩ := obind hm
    refine rs G (hC 4 (yash h5) h0) ?_
    refine cd hm (fun hm => ?_) (fun hm => ?_)
    ·refine Ok_seq (rg G (tl hm (fun (v13, v14) => ⟨[(2, .ref 16 0), (3, .ref 32 0), (5, dV (t.Trips.length : Int)), (6, .ref 48 0), (10, .own 64), (11, dV want), (12, dV before), (14, dV v13)], [bX 16 [dV t.Network.Stops, dV t.Network.Lines, dV t.Trips], bX 32 [dV f.Dead, dV f.Turn], bX 48 [dV t.Network.Stops, dV t.Network.Lines, dV t.Trips, dV f.Dead, dV f.Turn, .own 80], aX 64 3 i, tX 80 35 [some 3] v14 80 none], 112⟩) (fun vv2 hm => ?_) ?_))
     ·refine Ok_block (lp G hm (fun (v5, v6, v7) => ⟨[(2, .ref 16 0), (3, .ref 32 0), (5, dV (t.Trips.length : Int)), (6, .ref 48 0), (10, .own 64), (11, dV want), (12, dV before), (13, dV r.1), (14, dV v5), (15, dV v6)], [bX 16 [dV t.Network.Stops, dV t.Network.Lines, dV t.Trips], bX 32 [dV f.Dead, dV f.Turn], bX 48 [dV t.Network.Stops, dV t.Network.Lines, dV t.Trips, dV f.Dead, dV f.Turn, .own 80], aX 64 3 i, tX 80 35 [some 3] v7 80 none], 112⟩) ?_)
      rintro ⟨v5, v6, v7⟩ r0 hb3 hm
      rw [yaka] at hm
      refine Ok_seq (jn hm (fun v8 => ⟨[(2, .ref 16 0), (3, .ref 32 0), (5, dV (t.Trips.length : Int)), (6, .ref 48 0), (10, .own 64), (11, dV want), (12, dV before), (13, dV r.1), (14, dV v5), (15, dV v6), (75, dV v8)], [bX 16 [dV t.Network.Stops, dV t.Network.Lines, dV t.Trips], bX 32 [dV f.Dead, dV f.Turn], bX 48 [dV t.Network.Stops, dV t.Network.Lines, dV t.Trips, dV f.Dead, dV f.Turn, .own 80], aX 64 3 i, tX 80 35 [some 3] v7 80 none], 112⟩) (fun v8 hm => ?_) ?_)
      ·rcases bf hm with ⟨hb4, hm⟩ | ⟨hb4, hm⟩
       ·refine re G (hO 3 (.b true) (hP hb4 h0)) ?_
        exact wJ G hm
       ·refine re G (hO 3 (.b false) (hP hb4 h0)) ?_
        exact wJ G hm
      rintro v8 hm
      refine cd hm (fun hm => ?_) (fun hm => ?_)
      ·refine X_skip (thN (jn hm (fun (v9, v10) => ⟨[(2, .ref 16 0), (3, .ref 32 0), (5, dV (t.Trips.length : Int)), (6, .ref 48 0), (10, .own 64), (11, dV want), (12, dV before), (13, dV r.1), (14, dV v9), (15, dV v6)], [bX 16 [dV t.Network.Stops, dV t.Network.Lines, dV t.Trips], bX 32 [dV f.Dead, dV f.Turn], bX 48 [dV t.Network.Stops, dV t.Network.Lines, dV t.Trips, dV f.Dead, dV f.Turn, .own 80], aX 64 3 i, tX 80 35 [some 3] v10 80 none], 112⟩) (fun vv1 hm => ?_) ?_))
       ·refine Ok_block ?_
        obtain ⟨u3, h6, hm⟩ := obind hm
        refine jn hm (fun (v11, v12) => ⟨[(2, .ref 16 0), (3, .ref 32 0), (5, dV (t.Trips.length : Int)), (6, .ref 48 0), (10, .own 64), (11, dV want), (12, dV before), (13, dV r.1), (14, dV v5), (15, dV v6), (109, dV v11)], [bX 16 [dV t.Network.Stops, dV t.Network.Lines, dV t.Trips], bX 32 [dV f.Dead, dV f.Turn], bX 48 [dV t.Network.Stops, dV t.Network.Lines, dV t.Trips, dV f.Dead, dV f.Turn, .own 80], aX 64 3 i, tX 80 35 [some 3] v12 80 none], 112⟩) (fun vv hm => ?_) ?_
        ·rcases bf hm with ⟨hb5, hm⟩ | ⟨hb5, hm⟩
         ·obtain ⟨r2, h7, hm⟩ := obind hm
          rcases bf hm with ⟨hb6, hm⟩ | ⟨hb6, hm⟩
          ·obtain ⟨r3, h8, hm⟩ := obind hm
           obtain ⟨u4, h9, hm⟩ := obind hm
           obtain ⟨r4, h10, hm⟩ := obind hm
           refine re G (hK h6 (hO 6 (.b true) (hP hb5 (hC 11 (yanw h7) (hO 13 (.b true) (hP hb6 (hC 18 (yanz h8) (hK h9 (hC 27 (yash h10) h0))))))))) ?_
           exact wJ G hm
          ·refine re G (hK h6 (hO 6 (.b true) (hP hb5 (hC 11 (yanw h7) (hO 13 (.b false) (hP hb6 h0)))))) ?_
           exact wJ G hm
         ·refine re G (hK h6 (hO 6 (.b false) (hP hb5 h0))) ?_
          exact wJ G hm
        rintro ⟨v11, v12⟩ hm
        refine cd hm (fun hm => ?_) (fun hm => ?_)
        ·exact rh G (ibN (wJ G hm))
        ·exact X_skip (ibN (wJ G hm))
       rintro ⟨v9, v10⟩ hm
       exact rh G (wL G hm)
      ·exact Ok_exit (thE (thE (ibE (wD G hm hb3))))
     rintro ⟨v13, v14⟩ hm s2 hw2
     refine thN (Ok_weak hw2 ?_)
     obtain ⟨u5, h11, hm⟩ := obind hm
     refine re G (hK h11 h0) ?_
     exact wJ G hm
    ·exact X_skip (wJ G hm)
   rintro ⟨want1, v3, v4⟩ hm
   obtain ⟨u6, h12, hm⟩ := obind hm
   refine re G (hA 3 8 h12 h0) ?_
   exact ibN (thN (rh G (wL G hm)))
  ·exact Ok_exit (thE (thE (ibE (wD G hm hb2))))
 rintro i1 hm s3 hw3
 refine thN (Ok_weak hw3 ?_)
 refine rg G ?_
 cases hm
 exact rt [16] []
def yana : MS (l1Cur × Timetable) (Int × l1Cur) := ⟨.x .b .r, fun x => zq70 x.1 x.2, fun y => dV y.1, fun _ => [], fun _ y => [bxO y.2]⟩
theorem yave {c t y} (hm : zq70 c t = some y) : yana.C (c, t) y := yana.c (c, t) hm
theorem yaqz : FnOK Tryz.prog 133 yana.S := by
 refine fm tt yana [fo yacx, fo yabj] Tryz.call133 Tryz.func133 rfl Tryz.results133 Tryz.ntmps133 ?_
 rintro ⟨c, t⟩ y cx G hm
 have hm : zq70 c t = some y := hm
 unfold zq70 at hm
 refine rg G (Ok_seq (jn hm (fun (v, v1, v2, v3) => ⟨[(0, .ref 0 0), (3, .ref 32 0), (12, dV v)], [bX 0 [dV v1, dV v2, kV .u64 v3], bX 32 [dV t.Network.Stops, dV t.Network.Lines, dV t.Trips]], 64⟩) (fun vv hm => ?_) ?_))
 ·rcases bf hm with ⟨hb, hm⟩ | ⟨hb, hm⟩
  ·refine re G (hN 2 t.Trips (hO 4 (.b true) (hP hb h0))) ?_
   exact wJ G hm
  ·obtain ⟨r, h, hm⟩ := obind hm
   refine re G (hN 2 t.Trips (hO 4 (.b false) (hP hb (hC 6 (yaiw h) h0)))) ?_
   exact wJ G hm
 rintro ⟨v, v1, v2, v3⟩ hm
 refine cd hm (fun hm => ?_) (fun hm => ?_)
 ·obtain ⟨r1, h1, hm⟩ := obind hm
  refine rs G (hC 1 (yaba h1) h0) ?_
  cases hm
  exact rt [] []
 ·refine X_skip (thN ?_)
  obtain ⟨r3, h4, hm⟩ := obind hm
  obtain ⟨e1, h5, hm⟩ := obind hm
  refine ds G [(6, [0])] (hN 5 t.Trips (hC 6 (yaba h4) (hD 7 h5 h0))) ?_
  cases hm
  exact rt [] []
def yaob : MS (Timetable × (List Int)) ((List (List Int))) := ⟨.x .r .r, fun x => zq48 x.1 x.2, fun _ => .own 0, fun y => [taO 35 [some 3] y], fun _ _ => []⟩
theorem yazq {t before y} (hm : zq48 t before = some y) : yaob.C (t, before) y := yaob.c (t, before) hm
theorem yavv : FnOK Tryz.prog 143 yaob.S := by
 refine fm tt yaob [] Tryz.call143 Tryz.func143 rfl Tryz.results143 Tryz.ntmps143 ?_
 rintro ⟨t, before⟩ y cx G hm
 have hm : zq48 t before = some y := hm
 unfold zq48 at hm
 refine rg G (rg G (Ok_seq (rg G (tl hm (fun block2 => ⟨[(5, .own 16)], [tX 16 35 [some 3] block2 16 none], 48⟩) (fun block2 hm => ?_) ?_))))
 ·refine Ok_block (lpP hm (fun (at_, block) => ⟨[(1, dV before), (2, .ref 16 0), (5, .own 32), (6, dV at_)], [bX 16 [dV t.Network.Stops, dV t.Network.Lines, dV t.Trips], tX 32 35 [some 3] block 32 none], 64⟩) (Wk_J G.hL ⟨[(1, []), (2, []), (5, []), (6, [])], [(16, 16, []), (32, 48, [.t [some 3]])], [], 64⟩ (by kernel_rfl)) ?_)
  rintro ⟨at_, block⟩ r0 hb hm
  rw [yajy] at hm
  refine Ok_seq (rs G (hN 2 before h0) ?_)
  refine cd hm (fun hm => ?_) (fun hm => ?_)
  ·refine X_skip (thN (jn hm (fun block1 => ⟨[(1, dV before), (2, .ref 16 0), (5, .own 32), (6, dV at_)], [bX 16 [dV t.Network.Stops, dV t.Network.Lines, dV t.Trips], tX 32 35 [some 3] block1 32 none], 64⟩) (fun block1 hm => ?_) ?_))
   ·refine Ok_block (Ok_seq ?_)
    obtain ⟨e, h, hm⟩ := obind hm
    refine rs G (hD 2 h h0) ?_
    refine cd hm (fun hm => ?_) (fun hm => ?_)
    ·exact Ok_exit (thE (ibE (wJ G hm)))
    ·refine X_skip (thN (rg G (Ok_seq (rg G (tl hm (fun next1 => ⟨[(1, dV before), (2, .ref 16 0), (5, .own 32), (6, dV at_), (7, .own 48)], [bX 16 [dV t.Network.Stops, dV t.Network.Lines, dV t.Trips], tX 32 35 [some 3] block 32 none, aX 48 3 next1], 80⟩) (fun next1 hm => ?_) ?_)))))
     ·refine Ok_block (lp G hm (fun (k, next) => ⟨[(1, dV before), (2, .ref 16 0), (5, .own 32), (6, dV at_), (7, .own 48), (8, dV k)], [bX 16 [dV t.Network.Stops, dV t.Network.Lines, dV t.Trips], tX 32 35 [some 3] block 32 none, aX 48 3 next], 80⟩) ?_)
      rintro ⟨k, next⟩ r0 hb1 hm
      rw [yagt] at hm
      refine Ok_seq (rg G (cd hm (fun hm => ?_) (fun hm => ?_)))
      ·refine X_skip (thN (Ok_block ?_))
       obtain ⟨e1, h1, hm⟩ := obind hm
       obtain ⟨u, h2, hm⟩ := obind hm
       refine rs G (hD 4 h1 (hA 8 8 h2 h0)) ?_
       refine rg G (Ok_seq (rg G (tl hm (fun v3 => ⟨[(1, dV before), (2, .ref 16 0), (5, .own 32), (6, dV at_), (7, .own 48), (9, dV v3)], [bX 16 [dV t.Network.Stops, dV t.Network.Lines, dV t.Trips], tX 32 35 [some 3] block 32 none, aX 48 3 (next ++ ([e1.Id] : List Int))], 80⟩) (fun v3 hm => ?_) ?_)))
       ·refine Ok_block (lp G hm (fun (v, v1) => ⟨[(1, dV before), (2, .ref 16 0), (5, .own 32), (6, dV at_), (7, .own 48), (8, dV k), (9, dV v), (10, dV v1)], [bX 16 [dV t.Network.Stops, dV t.Network.Lines, dV t.Trips], tX 32 35 [some 3] block 32 none, aX 48 3 (next ++ ([e1.Id] : List Int))], 80⟩) ?_)
        rintro ⟨v, v1⟩ r0 hb2 hm
        rw [yagu] at hm
        refine Ok_seq (rs G (hN 2 before h0) ?_)
        refine cd hm (fun hm => ?_) (fun hm => ?_)
        ·refine X_skip (thN (jn hm (fun v2 => ⟨[(1, dV before), (2, .ref 16 0), (5, .own 32), (6, dV at_), (7, .own 48), (8, dV k), (9, dV v2), (10, dV v1)], [bX 16 [dV t.Network.Stops, dV t.Network.Lines, dV t.Trips], tX 32 35 [some 3] block 32 none, aX 48 3 (next ++ ([e1.Id] : List Int))], 80⟩) (fun v2 hm => ?_) ?_))
         ·refine Ok_block ?_
          obtain ⟨e2, h3, hm⟩ := obind hm
          refine rs G (hD 2 h3 h0) ?_
          refine cd hm (fun hm => ?_) (fun hm => ?_)
          ·exact rh G (ibN (wJ G hm))
          ·exact X_skip (ibN (wJ G hm))
         rintro v2 hm
         exact rh G (wL G hm)
        ·exact Ok_exit (thE (thE (ibE (wD G hm hb2))))
       rintro v3 hm s hw
       refine thN (Ok_weak hw ?_)
       exact rh G (ibN (wL G hm))
      ·exact Ok_exit (thE (thE (ibE (wD G hm hb1))))
     rintro next1 hm s1 hw1
     refine thN (Ok_weak hw1 ?_)
     obtain ⟨u1, h4, hm⟩ := obind hm
     refine re G (hP (nodupB_ok (l := [48]) rfl) (hA 3 24 h4 h0)) ?_
     exact ibN (wJ G hm)
   rintro block1 hm
   exact rh G (wL G hm)
  ·exact Ok_exit (thE (thE (ibE (wD G hm hb))))
 rintro block2 hm s2 hw2
 refine thN (Ok_weak hw2 ?_)
 refine rg G ?_
 cases hm
 exact rt [16] []
def yamq : MS l1Cur (Timetable × Fleet × (List (List Int)) × l1Cur) := ⟨.b, zq81, fun y => .tup [dV y.1, dV y.2.1, .own 0], fun y => [arO 35 y.2.2.1], fun _ y => [bxO y.2.2.2]⟩
theorem yaut {c y} (hm : zq81 c = some y) : yamq.C c y := yamq.c c hm
theorem yaqt : FnOK Tryz.prog 63 yamq.S := by
 refine fm tt yamq [fo yauq, fo yavf, fo yarf, fo yavx, fo yavv, fo yacx, fo yabj, fo yaqz] Tryz.call63 Tryz.func63 rfl Tryz.results63 Tryz.ntmps63 ?_
 rintro c y cx G hm
 have hm : zq81 c = some y := hm
 unfold zq81 at hm
 refine rg G ?_
 obtain ⟨r, h, hm⟩ := obind hm
 refine rs G (hC 1 (yayz h) h0) ?_
 obtain ⟨r1, h1, hm⟩ := obind hm
 refine rs G (hO 3 (.fz [80] [] []) (hC 3 (yazf h1) h0)) ?_
 refine Ok_seq ?_
 obtain ⟨r2, h2, hm⟩ := obind hm
 refine jn hm (fun v => ⟨[(0, .ref 0 0), (2, .ref 32 0), (3, .ref 48 0), (5, .ref 64 0), (6, .ref 80 0), (24, dV v)], [bX 0 [dV r1.2.code_, dV r1.2.at_, kV .u64 r1.2.seed_.v], bX 32 [.dat (.sc (.slice none 0 0)), .dat (.sc (.slice none 0 0)), .dat (.sc (.slice none 0 0))], bX 48 [.dat (.sc (.slice none 0 0)), kV .i64 0], bX 64 [dV r.1.Network.Stops, dV r.1.Network.Lines, .own 96], bX 80 [dV r1.1.Dead, dV r1.1.Turn], aX 96 45 r.1.Trips], 128⟩) (fun v hm => ?_) ?_
 ·rcases bf hm with ⟨hb, hm⟩ | ⟨hb, hm⟩
  ·refine re G (hC 2 (yaoe h2) (hO 4 (.b true) (hP hb h0))) ?_
   exact wJ G hm
  ·refine re G (hC 2 (yaoe h2) (hO 4 (.b false) (hP hb (hN 7 r.1.Trips h0)))) ?_
   exact wJ G hm
 rintro v hm
 refine cd hm (fun hm => ?_) (fun hm => ?_)
 ·refine ds G [(2, []), (3, [32, 96]), (4, [48])] h0 ?_
  cases hm
  exact rt [160] []
 ·refine X_skip (thN ?_)
  obtain ⟨r5, h5, hm⟩ := obind hm
  obtain ⟨r6, h6, hm⟩ := obind hm
  refine ds G [] (hF 3 (yazs h5) ⟨(flat_cons flat_arr flat_nil), flat_nil⟩ (hF 4 (yazq h6) ⟨(flat_cons flat_rows flat_nil), flat_nil⟩ h0)) ?_
  refine jn hm (fun (v1, v2, v3, i) => ⟨[(0, .ref 0 0), (2, .ref 32 0), (3, .ref 48 0), (5, .ref 64 0), (6, .ref 80 0), (7, .own 96)], [bX 0 [dV v1, dV v2, kV .u64 v3], bX 32 [.dat (.sc (.slice none 0 0)), .dat (.sc (.slice none 0 0)), .dat (.sc (.slice none 0 0))], bX 48 [.dat (.sc (.slice none 0 0)), kV .i64 0], bX 64 [dV r.1.Network.Stops, dV r.1.Network.Lines, dV r.1.Trips], bX 80 [dV r1.1.Dead, dV r1.1.Turn], aX 96 35 i], 128⟩) (fun vv1 hm => ?_) ?_
  ·refine jn hm (fun (v4, v5, v6, v7) => ⟨[(0, .ref 0 0), (2, .ref 32 0), (3, .ref 48 0), (5, .ref 64 0), (6, .ref 80 0), (7, .own 96), (39, dV v4)], [bX 0 [dV v5, dV v6, kV .u64 v7], bX 32 [.dat (.sc (.slice none 0 0)), .dat (.sc (.slice none 0 0)), .dat (.sc (.slice none 0 0))], bX 48 [.dat (.sc (.slice none 0 0)), kV .i64 0], bX 64 [dV r.1.Network.Stops, dV r.1.Network.Lines, .own 112], bX 80 [dV r1.1.Dead, dV r1.1.Turn], tX 96 35 [some 3] r6 96 none, aX 112 45 r.1.Trips], 144⟩) (fun vv hm => ?_) ?_
   ·rcases bf hm with ⟨hb1, hm⟩ | ⟨hb1, hm⟩
    ·obtain ⟨r7, h7, hm⟩ := obind hm
     refine re G (hN 1 r6 (hO 3 (.b true) (hP hb1 (hC 5 (yaiw h7) h0)))) ?_
     exact wJ G hm
    ·refine re G (hN 1 r6 (hO 3 (.b false) (hP hb1 h0))) ?_
     exact wJ G hm
   rintro ⟨v4, v5, v6, v7⟩ hm
   refine cd hm (fun hm => ?_) (fun hm => ?_)
   ·obtain ⟨r8, h8, hm⟩ := obind hm
    refine rs G (hN 2 r6 (hC 3 (yaba h8) h0)) ?_
    obtain ⟨r9, h9, hm⟩ := obind hm
    refine rs G (hC 1 (yaba h9) h0) ?_
    refine Ok_block (rg G (cd hm (fun hm => ?_) (fun hm => ?_)))
    ·refine Ok_weak (Wk_J (x' := (⟨[(0, .ref 0 0), (2, .ref 32 0), (3, .ref 48 0), (5, .ref 64 0), (6, .ref 80 0), (7, .own 96), (8, dV r8.1)], [bX 0 [dV r9.2.code_, dV r9.2.at_, kV .u64 r9.2.seed_.v], bX 32 [.dat (.sc (.slice none 0 0)), .dat (.sc (.slice none 0 0)), .dat (.sc (.slice none 0 0))], bX 48 [.dat (.sc (.slice none 0 0)), kV .i64 0], bX 64 [dV r.1.Network.Stops, dV r.1.Network.Lines, dV r.1.Trips], bX 80 [dV r1.1.Dead, dV r1.1.Turn], tX 96 35 [some 3] r6 96 none], 128⟩ : X)) G.hL ⟨[(0, []), (2, []), (3, []), (5, []), (6, []), (7, []), (8, [])], [(0, 0, []), (32, 32, []), (48, 48, []), (64, 64, []), (80, 80, []), (96, 96, [])], [], 128⟩ (by kernel_rfl)) ?_
     obtain ⟨e2, h14, hm⟩ := obind hm
     obtain ⟨r11, h15, hm⟩ := obind hm
     obtain ⟨u1, h16, hm⟩ := obind hm
     obtain ⟨e3, h17, hm⟩ := obind hm
     refine de G [(8, [0]), (10, [96, 272]), (12, [96, 288])] (hD 4 h14 (hE 5 h14 (hC 8 (yave h15) (hO 10 (.sd (Enc.e e2) (List.map Enc.e (e2 ++ ([r11.1] : List Int)))) (hP (idx_m2 (f := Enc.e) h14) (hP (app_p (f := Enc.e) (g := Enc.e) (l := e2) (r := ([r11.1] : List Int)) (b := 8) (chk_t h16) rfl) (hP (app_m Enc.e e2 ([r11.1] : List Int)) (hD 11 h17 (hS 12 h14 (e2 ++ ([r11.1] : List Int)) (hP (Eq.refl r8.1.toNat) h0)))))))))) ?_
     exact ibN (wJp hm (Wk_J G.hL ⟨[(0, []), (2, []), (3, []), (5, []), (6, []), (7, [])], [(0, 0, []), (32, 32, []), (48, 48, []), (64, 64, []), (80, 80, []), (96, 96, [.f])], [], 128⟩ (by kernel_rfl)))
    ·refine rg G (cd hm (fun hm => ?_) (fun hm => ?_))
     ·obtain ⟨e4, h18, hm⟩ := obind hm
      obtain ⟨u2, h19, hm⟩ := obind hm
      obtain ⟨e5, h20, hm⟩ := obind hm
      refine re G (hD 4 h18 (hO 5 (.fz [] [] [(96, [.f])]) (hE 5 h18 (hV 6 h19 (hD 7 h20 (hS 8 h20 (e4.drop (1 : Int).toNat) h0)))))) ?_
      exact ibN (wJ G hm)
     ·obtain ⟨e6, h21, hm⟩ := obind hm
      obtain ⟨u3, h22, hm⟩ := obind hm
      refine re G (hD 3 h21 (hO 4 (.fz [] [] [(96, [.f])]) (hE 4 h21 (hA 6 24 h22 h0)))) ?_
      exact ibN (wJ G hm)
   ·exact X_skip (wJp hm (Wk_J G.hL ⟨[(0, []), (2, []), (3, []), (5, []), (6, []), (7, [])], [(0, 0, []), (32, 32, []), (48, 48, []), (64, 64, []), (80, 80, []), (96, 96, [.f])], [], 128⟩ (by kernel_rfl)))
  rintro ⟨v1, v2, v3, i⟩ hm
  refine ds G [(3, [32]), (4, [48])] h0 ?_
  cases hm
  exact rt [96] []
def yamp : MS l1Cur (Rules × l1Cur) := ⟨.b, zq82, fun y => dV y.1, fun _ => [], fun _ y => [bxO y.2]⟩
theorem yaus {c y} (hm : zq82 c = some y) : yamp.C c y := yamp.c c hm
theorem yaqs : FnOK Tryz.prog 122 yamp.S := by
 refine fm tt yamp [fo yabj, fo yarb] Tryz.call122 Tryz.func122 rfl Tryz.results122 Tryz.ntmps122 ?_
 rintro c y cx G hm
 have hm : zq82 c = some y := hm
 unfold zq82 at hm
 refine rg G ?_
 obtain ⟨r, h, hm⟩ := obind hm
 obtain ⟨r1, h1, hm⟩ := obind hm
 obtain ⟨r2, h2, hm⟩ := obind hm
 obtain ⟨r3, h3, hm⟩ := obind hm
 obtain ⟨r4, h4, hm⟩ := obind hm
 obtain ⟨r5, h5, hm⟩ := obind hm
 refine rs G (hC 1 (yaba h) (hC 4 (yaba h1) (hO 8 (.fz [144] [] []) (hC 8 (yadk h2) (hO 11 (.fz [192] [] []) (hC 11 (yadk h3) (hO 14 (.fz [240] [] []) (hC 14 (yadk h4) (hO 17 (.fz [288] [] []) (hC 17 (yadk h5) h0)))))))))) ?_
 refine jn hm (fun (v, v1, v2, v3, v4, v5) => ⟨[(0, .ref 0 0), (2, .ref 32 0), (3, .ref 48 0)], [bX 0 [dV v, dV v1, kV .u64 v2], bX 32 [kV .i64 0, kV .i64 0, kV .i64 0, kV .i64 0, kV .i64 0, kV .i64 0], bX 48 [dV v3, dV (w64 (r1.1 * 5)), dV v4, dV r3.1, dV r4.1, dV v5]], 80⟩) (fun vv hm => ?_) ?_
 ·obtain ⟨r6, h6, hm⟩ := obind hm
  refine rs G (hC 1 (yaba h6) h0) ?_
  refine Ok_block (rg G (cd hm (fun hm => ?_) (fun hm => ?_)))
  ·obtain ⟨r7, h7, hm⟩ := obind hm
   refine re G (hO 2 (.fz [448] [] []) (hC 2 (yadk h7) h0)) ?_
   exact ibN (wJ G hm)
  ·refine rg G (cd hm (fun hm => ?_) (fun hm => ?_))
   ·obtain ⟨r8, h8, hm⟩ := obind hm
    refine re G (hO 2 (.fz [480] [] []) (hC 2 (yadk h8) h0)) ?_
    exact ibN (wJ G hm)
   ·refine rg G (cd hm (fun hm => ?_) (fun hm => ?_))
    ·obtain ⟨r9, h9, hm⟩ := obind hm
     refine re G (hO 2 (.fz [512] [] []) (hC 2 (yadk h9) h0)) ?_
     exact ibN (wJ G hm)
    ·exact X_skip (ibN (wJ G hm))
 rintro ⟨v, v1, v2, v3, v4, v5⟩ hm
 refine rg G ?_
 cases hm
 exact rt [] []
def yaoh : MS ((List UInt8)) (Timetable × Fleet × (List (List Int)) × Rules × Int) := ⟨.r, zq43, fun y => .tup [dV y.1, dV y.2.1, .own 0, dV y.2.2.2.1, dV y.2.2.2.2], fun y => [arO 35 y.2.2.1], fun _ _ => []⟩
theorem yazu {code y} (hm : zq43 code = some y) : yaoh.C code y := yaoh.c code hm
theorem yavz : FnOK Tryz.prog 55 yaoh.S := by
 refine fm tt yaoh [fo yaqt, fo yaqs, fo yaqz] Tryz.call55 Tryz.func55 rfl Tryz.results55 Tryz.ntmps55 ?_
 rintro code y cx G hm
 have hm : zq43 code = some y := hm
 unfold zq43 at hm
 refine rg G (rg G ?_)
 obtain ⟨r, h, hm⟩ := obind hm
 refine rs G (hC 1 (yaut h) h0) ?_
 obtain ⟨r3, h3, hm⟩ := obind hm
 obtain ⟨r4, h4, hm⟩ := obind hm
 refine ds G [(4, [128]), (7, [128]), (8, [16]), (9, [32]), (11, [64])] (hC 4 (yaus h3) (hC 7 (yave h4) h0)) ?_
 cases hm
 exact rt [176] []
def yaom : MS (Int × Int × Int) Bool := ⟨.x .r (.x .r .r), fun x => zq38 x.1 x.2.1 x.2.2, fun y => dV y, fun _ => [], fun _ _ => []⟩
theorem yaby {n lo hi y} (hm : zq38 n lo hi = some y) : yaom.C (n, lo, hi) y := yaom.c (n, lo, hi) hm
theorem yadb : FnOK Tryz.prog 72 yaom.S := by
 refine fm tt yaom [] Tryz.call72 Tryz.func72 rfl Tryz.results72 Tryz.ntmps72 ?_
 rintro ⟨n, lo, hi⟩ y cx G hm
 have hm : zq38 n lo hi = some y := hm
 unfold zq38 at hm
 refine rg G (jn hm (fun v => ⟨[(6, dV v)], [], 32⟩) (fun v hm => ?_) ?_)
 ·rcases bf hm with ⟨hb, hm⟩ | ⟨hb, hm⟩
  ·refine re G (hO 3 (.b true) (hP hb h0)) ?_
   exact wJ G hm
  ·refine re G (hO 3 (.b false) (hP hb h0)) ?_
   exact wJ G hm
 rintro v hm
 cases hm
 exact rt [] []
def yapb : MS ByteArray Bool := ⟨.r, zq23, fun y => dV y, fun _ => [], fun _ _ => []⟩
theorem yawt {s y} (hm : zq23 s = some y) : yapb.C s y := yapb.c s hm
theorem yaws : FnOK Tryz.prog 233 yapb.S := by
 refine fm tt yapb [] Tryz.call233 Tryz.func233 rfl Tryz.results233 Tryz.ntmps233 ?_
 rintro s y cx G hm
 have hm : zq23 s = some y := hm
 unfold zq23 at hm
 refine rg G (Ok_seq (jn hm (fun v => ⟨[(0, dV s), (12, dV v)], [], 32⟩) (fun v hm => ?_) ?_))
 ·rcases bf hm with ⟨hb, hm⟩ | ⟨hb, hm⟩
  ·refine re G (hO 3 (.b true) (hP hb h0)) ?_
   exact wJ G hm
  ·refine re G (hO 3 (.b false) (hP hb h0)) ?_
   exact wJ G hm
 rintro v hm
 refine cd hm (fun hm => ?_) (fun hm => ?_)
 ·refine rg G ?_
  cases hm
  exact rt [] []
 ·refine X_skip (thN (Ok_seq (rg G (tF hm (fun _ => ⟨[], [], 32⟩) (fun v4 hr hm => ?_) ?_))))
  ·refine Ok_block (lp G hm (fun v1 => ⟨[(0, dV s), (14, dV (s.size : Int)), (15, dV v1)], [], 32⟩) ?_)
   rintro v1 r0 hb1 hm
   rw [yaev] at hm
   refine rg G (Ok_seq (cd hm (fun hm => ?_) (fun hm => ?_)))
   ·refine X_skip (thN (Ok_seq (Ok_block (rg G ?_))))
    obtain ⟨u, h, hm⟩ := obind hm
    refine jn hm (fun v2 => ⟨[(0, dV s), (3, dV v1), (4, dV v2), (14, dV (s.size : Int)), (15, dV v1)], [], 32⟩) (fun v2 hm => ?_) ?_
    ·rcases bf hm with ⟨hb2, hm⟩ | ⟨hb2, hm⟩
     ·obtain ⟨u1, h1, hm⟩ := obind hm
      refine re G (hK h (hO 4 (.b true) (hP hb2 (hK h1 h0)))) ?_
      exact wJ G hm
     ·refine re G (hK h (hO 4 (.b false) (hP hb2 h0))) ?_
      exact wJ G hm
    rintro v2 hm
    refine jn hm (fun v3 => ⟨[(0, dV s), (14, dV (s.size : Int)), (15, dV v1), (45, dV v3)], [], 32⟩) (fun v3 hm => ?_) ?_
    ·rcases bf hm with ⟨hb3, hm⟩ | ⟨hb3, hm⟩
     ·rcases bf hm with ⟨hb4, hm⟩ | ⟨hb4, hm⟩
      ·refine re G (hO 2 (.b true) (hP hb3 (hO 5 (.b true) (hP hb4 h0)))) ?_
       exact wJ G hm
      ·obtain ⟨u2, h2, hm⟩ := obind hm
       rcases bf hm with ⟨hb5, hm⟩ | ⟨hb5, hm⟩
       ·refine re G (hO 2 (.b true) (hP hb3 (hO 5 (.b false) (hP hb4 (hK h2 (hO 11 (.b true) (hP hb5 h0))))))) ?_
        exact wJ G hm
       ·obtain ⟨u3, h3, hm⟩ := obind hm
        refine re G (hO 2 (.b true) (hP hb3 (hO 5 (.b false) (hP hb4 (hK h2 (hO 11 (.b false) (hP hb5 (hK h3 h0)))))))) ?_
        exact wJ G hm
     ·refine re G (hO 2 (.b false) (hP hb3 h0)) ?_
      exact wJ G hm
    rintro v3 hm
    refine cd hm (fun hm => ?_) (fun hm => ?_)
    ·refine rg G ?_
     have hm := eL hm hb1 hr
     cases hm
     exact rt [] []
    ·exact X_skip (ibN (thN (rh G (wL G hm))))
   ·exact Ok_exit (thE (thE (ibE (wE G hm hb1))))
  rintro ⟨⟩ hm s1 hw
  refine thN (Ok_weak hw ?_)
  refine rg G ?_
  cases hm
  exact rt [] []
def yahw : MS ((List ByteArray) × ByteArray) Int := ⟨.x .r .r, fun x => zq117 x.1 x.2, fun y => dV y, fun _ => [], fun _ _ => []⟩
theorem yaxt {s v y} (hm : zq117 s v = some y) : yahw.C (s, v) y := yahw.c (s, v) hm
theorem yatf : FnOK Tryz.prog 234 yahw.S := by
 refine fm tt yahw [] Tryz.call234 Tryz.func234 rfl Tryz.results234 Tryz.ntmps234 ?_
 rintro ⟨s, v⟩ y cx G hm
 have hm : zq117 s v = some y := hm
 unfold zq117 at hm
 refine rg G (Ok_seq (rs G (hN 1 s h0) ?_))
 refine tF hm (fun _ => ⟨[], [], 32⟩) (fun v2 hr hm => ?_) ?_
 ·refine Ok_block (lp G hm (fun v1 => ⟨[(0, dV s), (1, dV v), (7, dV (s.length : Int)), (8, dV v1)], [], 32⟩) ?_)
  rintro v1 r0 hb hm
  rw [yaeh] at hm
  refine rg G (Ok_seq (cd hm (fun hm => ?_) (fun hm => ?_)))
  ·refine X_skip (thN (Ok_seq (Ok_block (rg G ?_))))
   obtain ⟨e, h, hm⟩ := obind hm
   refine rs G (hD 3 h h0) ?_
   refine cd hm (fun hm => ?_) (fun hm => ?_)
   ·refine rg G ?_
    have hm := eL hm hb hr
    cases hm
    exact rt [] []
   ·exact X_skip (ibN (thN (rh G (wL G hm))))
  ·exact Ok_exit (thE (thE (ibE (wE G hm hb))))
 rintro ⟨⟩ hm s1 hw
 refine thN (Ok_weak hw ?_)
 refine rg G ?_
 cases hm
 exact rt [] []
def yapn : MS ((List ByteArray)) Bool := ⟨.r, zq12, fun y => dV y, fun _ => [], fun _ _ => []⟩
theorem yast {names y} (hm : zq12 names = some y) : yapn.C names y := yapn.c names hm
theorem yaxi : FnOK Tryz.prog 208 yapn.S := by
 refine fm tt yapn [fo yaws, fo yatf] Tryz.call208 Tryz.func208 rfl Tryz.results208 Tryz.ntmps208 ?_
 rintro names y cx G hm
 have hm : zq12 names = some y := hm
 unfold zq12 at hm
 refine rg G (Ok_seq (rs G (hN 1 names h0) ?_))
 refine tF hm (fun _ => ⟨[], [], 32⟩) (fun v2 hr hm => ?_) ?_
 ·refine Ok_block (lp G hm (fun v => ⟨[(0, dV names), (5, dV names), (6, dV (names.length : Int)), (7, dV v)], [], 32⟩) ?_)
  rintro v r0 hb hm
  rw [yahj] at hm
  refine rg G (Ok_seq (cd hm (fun hm => ?_) (fun hm => ?_)))
  ·refine X_skip (thN (Ok_seq (Ok_block ?_)))
   obtain ⟨e, h, hm⟩ := obind hm
   refine rs G (hD 1 h h0) ?_
   obtain ⟨r, h1, hm⟩ := obind hm
   refine jn hm (fun v1 => ⟨[(0, dV names), (5, dV names), (6, dV (names.length : Int)), (7, dV v), (21, dV v1)], [], 32⟩) (fun v1 hm => ?_) ?_
   ·rcases bf hm with ⟨hb1, hm⟩ | ⟨hb1, hm⟩
    ·refine re G (hC 1 (yawt h1) (hO 3 (.b true) (hP hb1 h0))) ?_
     exact wJ G hm
    ·obtain ⟨r1, h2, hm⟩ := obind hm
     refine re G (hC 1 (yawt h1) (hO 3 (.b false) (hP hb1 (hC 6 (yaxt h2) h0)))) ?_
     exact wJ G hm
   rintro v1 hm
   refine cd hm (fun hm => ?_) (fun hm => ?_)
   ·refine rg G ?_
    have hm := eL hm hb hr
    cases hm
    exact rt [] []
   ·exact X_skip (ibN (thN (rh G (wL G hm))))
  ·exact Ok_exit (thE (thE (ibE (wE G hm hb))))
 rintro ⟨⟩ hm s hw
 refine thN (Ok_weak hw ?_)
 refine rg G ?_
 cases hm
 exact rt [] []
def yaou : MS Network ((List ByteArray)) := ⟨.r, zq30, fun _ => .own 0, fun y => [arO 9 y], fun _ _ => []⟩
theorem ybab {n y} (hm : zq30 n = some y) : yaou.C n y := yaou.c n hm
theorem yawj : FnOK Tryz.prog 209 yaou.S := by
 refine fm tt yaou [] Tryz.call209 Tryz.func209 rfl Tryz.results209 Tryz.ntmps209 ?_
 rintro n y cx G hm
 have hm : zq30 n = some y := hm
 unfold zq30 at hm
 refine rg G ?_
 obtain ⟨u, h, hm⟩ := obind hm
 refine rs G (hN 2 n.Lines (hO 3 (.l (List.map Enc.e (List.replicate (n.Lines.length : Int).toNat (ByteArray.empty : ByteArray)))) (hP (mk_p (b := 16) (chk_t h) rfl) (hP (rep_m Enc.e (n.Lines.length : Int).toNat (ByteArray.empty : ByteArray)) h0)))) ?_
 refine Ok_seq (rs G (hN 2 n.Lines h0) ?_)
 refine tl hm (fun i1 => ⟨[(3, .own 16)], [aX 16 9 i1], 48⟩) (fun i1 hm => ?_) ?_
 ·refine Ok_block (lp G hm (fun (v, i) => ⟨[(3, .own 16), (11, dV n.Lines), (12, dV (n.Lines.length : Int)), (13, dV v)], [aX 16 9 i], 48⟩) ?_)
  rintro ⟨v, i⟩ r0 hb hm
  rw [yagx] at hm
  refine rg G (Ok_seq (cd hm (fun hm => ?_) (fun hm => ?_)))
  ·refine X_skip (thN (Ok_seq (Ok_block ?_)))
   obtain ⟨e, h1, hm⟩ := obind hm
   refine rs G (hD 1 h1 h0) ?_
   obtain ⟨e1, h2, hm⟩ := obind hm
   refine re G (hD 4 h2 (hS 5 h2 e.Name h0)) ?_
   exact ibN (thN (rh G (wL G hm)))
  ·exact Ok_exit (thE (thE (ibE (wD G hm hb))))
 rintro i1 hm s hw
 refine thN (Ok_weak hw ?_)
 refine rg G ?_
 cases hm
 exact rt [16] []
def yaoy : MS (Network × Int) Bool := ⟨.x .r .r, fun x => zq26 x.1 x.2, fun y => dV y, fun _ => [], fun _ _ => []⟩
theorem yawo {n stop y} (hm : zq26 n stop = some y) : yaoy.C (n, stop) y := yaoy.c (n, stop) hm
theorem yawn : FnOK Tryz.prog 235 yaoy.S := by
 refine fm tt yaoy [] Tryz.call235 Tryz.func235 rfl Tryz.results235 Tryz.ntmps235 ?_
 rintro ⟨n, stop⟩ y cx G hm
 have hm : zq26 n stop = some y := hm
 unfold zq26 at hm
 refine rg G (jn hm (fun v => ⟨[(4, dV v)], [], 32⟩) (fun v hm => ?_) ?_)
 ·rcases bf hm with ⟨hb, hm⟩ | ⟨hb, hm⟩
  ·refine re G (hO 2 (.b true) (hP hb (hN 6 n.Stops h0))) ?_
   exact wJ G hm
  ·refine re G (hO 2 (.b false) (hP hb h0)) ?_
   exact wJ G hm
 rintro v hm
 cases hm
 exact rt [] []
def yahx : MS ((List Int) × Int) Int := ⟨.x .r .r, fun x => zq116 x.1 x.2, fun y => dV y, fun _ => [], fun _ _ => []⟩
theorem yarp {s v y} (hm : zq116 s v = some y) : yahx.C (s, v) y := yahx.c (s, v) hm
theorem yakp : FnOK Tryz.prog 164 yahx.S := by
 refine fm tt yahx [] Tryz.call164 Tryz.func164 rfl Tryz.results164 Tryz.ntmps164 ?_
 rintro ⟨s, v⟩ y cx G hm
 have hm : zq116 s v = some y := hm
 unfold zq116 at hm
 refine rg G (Ok_seq (rs G (hN 1 s h0) ?_))
 refine tF hm (fun _ => ⟨[], [], 32⟩) (fun v2 hr hm => ?_) ?_
 ·refine Ok_block (lp G hm (fun v1 => ⟨[(0, dV s), (1, dV v), (7, dV (s.length : Int)), (8, dV v1)], [], 32⟩) ?_)
  rintro v1 r0 hb hm
  rw [yaei] at hm
  refine rg G (Ok_seq (cd hm (fun hm => ?_) (fun hm => ?_)))
  ·refine X_skip (thN (Ok_seq (Ok_block (rg G ?_))))
   obtain ⟨e, h, hm⟩ := obind hm
   refine rs G (hD 3 h h0) ?_
   refine cd hm (fun hm => ?_) (fun hm => ?_)
   ·refine rg G ?_
    have hm := eL hm hb hr
    cases hm
    exact rt [] []
   ·exact X_skip (ibN (thN (rh G (wL G hm))))
  ·exact Ok_exit (thE (thE (ibE (wE G hm hb))))
 rintro ⟨⟩ hm s1 hw
 refine thN (Ok_weak hw ?_)
 refine rg G ?_
 cases hm
 exact rt [] []
def yaox : MS (Network × Line) Bool := ⟨.x .r .r, fun x => zq27 x.1 x.2, fun y => dV y, fun _ => [], fun _ _ => []⟩
theorem ybaf {n l y} (hm : zq27 n l = some y) : yaox.C (n, l) y := yaox.c (n, l) hm
theorem yawm : FnOK Tryz.prog 210 yaox.S := by
 refine fm tt yaox [fo yadb, fo yawn, fo yakp] Tryz.call210 Tryz.func210 rfl Tryz.results210 Tryz.ntmps210 ?_
 rintro ⟨n, l⟩ y cx G hm
 have hm : zq27 n l = some y := hm
 unfold zq27 at hm
 refine rg G (Ok_seq ?_)
 obtain ⟨r, h, hm⟩ := obind hm
 refine jn hm (fun v => ⟨[(2, .ref 16 0), (3, .ref 32 0), (23, dV v)], [bX 16 [dV n.Stops, dV n.Lines], bX 32 [dV l.Name, dV l.Stops, dV l.Runs]], 64⟩) (fun v hm => ?_) ?_
 ·rcases bf hm with ⟨hb, hm⟩ | ⟨hb, hm⟩
  ·refine re G (hN 2 l.Stops (hC 3 (yaby h) (hO 5 (.b true) (hP hb h0)))) ?_
   exact wJ G hm
  ·refine re G (hN 2 l.Stops (hC 3 (yaby h) (hO 5 (.b false) (hP hb (hN 8 l.Runs (hN 11 l.Stops h0)))))) ?_
   exact wJ G hm
 rintro v hm
 refine cd hm (fun hm => ?_) (fun hm => ?_)
 ·refine rg G ?_
  cases hm
  exact rt [] []
 ·refine X_skip (thN (Ok_seq (rs G (hN 2 l.Stops h0) ?_)))
  refine tF hm (fun _ => ⟨[(3, .ref 16 0)], [bX 16 [dV l.Name, dV l.Stops, dV l.Runs]], 48⟩) (fun v5 hr hm => ?_) ?_
  ·refine Ok_block (lp G hm (fun v1 => ⟨[(2, .ref 16 0), (3, .ref 32 0), (25, dV l.Stops), (26, dV (l.Stops.length : Int)), (27, dV v1)], [bX 16 [dV n.Stops, dV n.Lines], bX 32 [dV l.Name, dV l.Stops, dV l.Runs]], 64⟩) ?_)
   rintro v1 r0 hb1 hm
   rw [yagz] at hm
   refine rg G (Ok_seq (cd hm (fun hm => ?_) (fun hm => ?_)))
   ·refine X_skip (thN (Ok_seq (Ok_block ?_)))
    obtain ⟨e, h1, hm⟩ := obind hm
    refine rs G (hD 1 h1 h0) ?_
    obtain ⟨r1, h2, hm⟩ := obind hm
    refine jn hm (fun v2 => ⟨[(2, .ref 16 0), (3, .ref 32 0), (25, dV l.Stops), (26, dV (l.Stops.length : Int)), (27, dV v1), (43, dV v2)], [bX 16 [dV n.Stops, dV n.Lines], bX 32 [dV l.Name, dV l.Stops, dV l.Runs]], 64⟩) (fun v2 hm => ?_) ?_
    ·rcases bf hm with ⟨hb2, hm⟩ | ⟨hb2, hm⟩
     ·refine re G (hC 2 (yawo h2) (hO 4 (.b true) (hP hb2 h0))) ?_
      exact wJ G hm
     ·obtain ⟨r2, h3, hm⟩ := obind hm
      refine re G (hC 2 (yawo h2) (hO 4 (.b false) (hP hb2 (hC 8 (yarp h3) h0)))) ?_
      exact wJ G hm
    rintro v2 hm
    refine cd hm (fun hm => ?_) (fun hm => ?_)
    ·refine rg G ?_
     have hm := eL hm hb1 hr
     cases hm
     exact rt [] []
    ·exact X_skip (ibN (thN (rh G (wL G hm))))
   ·exact Ok_exit (thE (thE (ibE (wE G hm hb1))))
  rintro ⟨⟩ hm s hw
  refine thN (Ok_weak hw ?_)
  refine Ok_seq (rs G (hN 2 l.Runs h0) ?_)
  refine tF hm (fun _ => ⟨[], [], 32⟩) (fun v4 hr1 hm => ?_) ?_
  ·refine Ok_block (lp G hm (fun v3 => ⟨[(46, dV l.Runs), (47, dV (l.Runs.length : Int)), (48, dV v3)], [], 32⟩) ?_)
   rintro v3 r0 hb3 hm
   rw [yagy] at hm
   refine rg G (Ok_seq (cd hm (fun hm => ?_) (fun hm => ?_)))
   ·refine X_skip (thN (Ok_seq (Ok_block ?_)))
    obtain ⟨e2, h4, hm⟩ := obind hm
    refine rs G (hD 0 h4 h0) ?_
    obtain ⟨r4, h5, hm⟩ := obind hm
    refine rs G (hC 1 (yaby h5) h0) ?_
    refine cd hm (fun hm => ?_) (fun hm => ?_)
    ·refine rg G ?_
     have hm := eL hm hb3 hr1
     cases hm
     exact rt [] []
    ·exact X_skip (ibN (thN (rh G (wL G hm))))
   ·exact Ok_exit (thE (thE (ibE (wE G hm hb3))))
  rintro ⟨⟩ hm s1 hw1
  refine thN (Ok_weak hw1 ?_)
  refine rg G ?_
  cases hm
  exact rt [] []
def zq6_M : MS Network Bool := ⟨.r, zq6, fun y => dV y, fun _ => [], fun _ _ => []⟩
theorem zq6_c {n y} (hm : zq6 n = some y) : zq6_M.C n y := zq6_M.c n hm
theorem yaze : FnOK Tryz.prog 156 zq6_M.S := by
 refine fm tt zq6_M [fo yadb, fo yaxi, fo yawj, fo yawm] Tryz.call156 Tryz.func156 rfl Tryz.results156 Tryz.ntmps156 ?_
 rintro n y cx G hm
 have hm : zq6 n = some y := hm
 unfold zq6 at hm
 refine rg G (Ok_seq ?_)
 obtain ⟨r, h, hm⟩ := obind hm
 refine jn hm (fun v => ⟨[(1, .ref 16 0), (28, dV v)], [bX 16 [dV n.Stops, dV n.Lines]], 48⟩) (fun v hm => ?_) ?_
 ·rcases bf hm with ⟨hb, hm⟩ | ⟨hb, hm⟩
  ·refine re G (hN 2 n.Stops (hC 3 (yaby h) (hO 5 (.b true) (hP hb h0)))) ?_
   exact wJ G hm
  ·obtain ⟨r1, h1, hm⟩ := obind hm
   rcases bf hm with ⟨hb1, hm⟩ | ⟨hb1, hm⟩
   ·refine re G (hN 2 n.Stops (hC 3 (yaby h) (hO 5 (.b false) (hP hb (hN 8 n.Lines (hC 9 (yaby h1) (hO 12 (.b true) (hP hb1 h0)))))))) ?_
    exact wJ G hm
   ·obtain ⟨r2, h2, hm⟩ := obind hm
    rcases bf hm with ⟨hb2, hm⟩ | ⟨hb2, hm⟩
    ·refine re G (hN 2 n.Stops (hC 3 (yaby h) (hO 5 (.b false) (hP hb (hN 8 n.Lines (hC 9 (yaby h1) (hO 12 (.b false) (hP hb1 (hC 15 (yast h2) (hO 18 (.b true) (hP hb2 h0))))))))))) ?_
     exact wJ G hm
    ·obtain ⟨r3, h3, hm⟩ := obind hm
     obtain ⟨r4, h4, hm⟩ := obind hm
     refine re G (hN 2 n.Stops (hC 3 (yaby h) (hO 5 (.b false) (hP hb (hN 8 n.Lines (hC 9 (yaby h1) (hO 12 (.b false) (hP hb1 (hC 15 (yast h2) (hO 18 (.b false) (hP hb2 (hC 20 (ybab h3) (hC 21 (yast h4) h0))))))))))))) ?_
     exact wJ G hm
 rintro v hm
 refine cd hm (fun hm => ?_) (fun hm => ?_)
 ·refine rg G ?_
  cases hm
  exact rt [] []
 ·refine X_skip (thN (Ok_seq (rs G (hN 2 n.Lines h0) ?_)))
  refine tF hm (fun _ => ⟨[], [], 32⟩) (fun v2 hr hm => ?_) ?_
  ·refine Ok_block (lp G hm (fun v1 => ⟨[(1, .ref 16 0), (30, dV n.Lines), (31, dV (n.Lines.length : Int)), (32, dV v1)], [bX 16 [dV n.Stops, dV n.Lines]], 48⟩) ?_)
   rintro v1 r0 hb3 hm
   rw [yanb] at hm
   refine rg G (Ok_seq (cd hm (fun hm => ?_) (fun hm => ?_)))
   ·refine X_skip (thN (Ok_seq (Ok_block ?_)))
    obtain ⟨e, h5, hm⟩ := obind hm
    refine rs G (hD 0 h5 h0) ?_
    obtain ⟨r5, h6, hm⟩ := obind hm
    refine rs G (hC 2 (ybaf h6) h0) ?_
    refine cd hm (fun hm => ?_) (fun hm => ?_)
    ·refine rg G ?_
     have hm := eL hm hb3 hr
     cases hm
     exact rt [] []
    ·exact X_skip (ibN (thN (rh G (wL G hm))))
   ·exact Ok_exit (thE (thE (ibE (wE G hm hb3))))
  rintro ⟨⟩ hm s hw
  refine thN (Ok_weak hw ?_)
  refine rg G ?_
  cases hm
  exact rt [] []
def yapc : MS (Network × Int) Bool := ⟨.x .r .r, fun x => zq22 x.1 x.2, fun y => dV y, fun _ => [], fun _ _ => []⟩
theorem yasj {n line y} (hm : zq22 n line = some y) : yapc.C (n, line) y := yapc.c (n, line) hm
theorem yawu : FnOK Tryz.prog 211 yapc.S := by
 refine fm tt yapc [] Tryz.call211 Tryz.func211 rfl Tryz.results211 Tryz.ntmps211 ?_
 rintro ⟨n, line⟩ y cx G hm
 have hm : zq22 n line = some y := hm
 unfold zq22 at hm
 refine rg G (jn hm (fun v => ⟨[(4, dV v)], [], 32⟩) (fun v hm => ?_) ?_)
 ·rcases bf hm with ⟨hb, hm⟩ | ⟨hb, hm⟩
  ·refine re G (hO 2 (.b true) (hP hb (hN 6 n.Lines h0))) ?_
   exact wJ G hm
  ·refine re G (hO 2 (.b false) (hP hb h0)) ?_
   exact wJ G hm
 rintro v hm
 cases hm
 exact rt [] []
def zq8_M : MS Int Bool := ⟨.r, zq8, fun y => dV y, fun _ => [], fun _ _ => []⟩
theorem zq8_c {t y} (hm : zq8 t = some y) : zq8_M.C t y := zq8_M.c t hm
theorem yayx : FnOK Tryz.prog 118 zq8_M.S := by
 refine fm tt zq8_M [fo yadb] Tryz.call118 Tryz.func118 rfl Tryz.results118 Tryz.ntmps118 ?_
 rintro t y cx G hm
 have hm : zq8 t = some y := hm
 unfold zq8 at hm
 refine rg G ?_
 obtain ⟨r, h, hm⟩ := obind hm
 refine rs G (hC 1 (yaby h) h0) ?_
 cases hm
 exact rt [] []
def yaoq : MS ((List Int)) Int := ⟨.r, zq34, fun y => dV y, fun _ => [], fun _ _ => []⟩
theorem ybaa {list y} (hm : zq34 list = some y) : yaoq.C list y := yaoq.c list hm
theorem yawg : FnOK Tryz.prog 165 yaoq.S := by
 refine fm tt yaoq [] Tryz.call165 Tryz.func165 rfl Tryz.results165 Tryz.ntmps165 ?_
 rintro list y cx G hm
 have hm : zq34 list = some y := hm
 unfold zq34 at hm
 refine rg G (rg G (Ok_seq (rs G (hN 1 list h0) ?_)))
 refine tl hm (fun v2 => ⟨[(3, dV v2)], [], 32⟩) (fun v2 hm => ?_) ?_
 ·refine Ok_block (lp G hm (fun (v, v1) => ⟨[(3, dV v), (6, dV list), (7, dV (list.length : Int)), (8, dV v1)], [], 32⟩) ?_)
  rintro ⟨v, v1⟩ r0 hb hm
  rw [yagv] at hm
  refine rg G (Ok_seq (cd hm (fun hm => ?_) (fun hm => ?_)))
  ·refine X_skip (thN (Ok_seq (Ok_block ?_)))
   obtain ⟨e, h, hm⟩ := obind hm
   refine rs G (hD 0 h h0) ?_
   exact rh G (ibN (thN (rh G (wL G hm))))
  ·exact Ok_exit (thE (thE (ibE (wD G hm hb))))
 rintro v2 hm s hw
 refine thN (Ok_weak hw ?_)
 refine rg G ?_
 cases hm
 exact rt [] []
def yapg : MS (Timetable × Trip) Int := ⟨.x .r .r, fun x => zq18 x.1 x.2, fun y => dV y, fun _ => [], fun _ _ => []⟩
theorem yask {t x y} (hm : zq18 t x = some y) : yapg.C (t, x) y := yapg.c (t, x) hm
theorem yakh : FnOK Tryz.prog 87 yapg.S := by
 refine fm tt yapg [fo yawg] Tryz.call87 Tryz.func87 rfl Tryz.results87 Tryz.ntmps87 ?_
 rintro ⟨t, x⟩ y cx G hm
 have hm : zq18 t x = some y := hm
 unfold zq18 at hm
 refine rg G ?_
 obtain ⟨e1, h2, hm⟩ := obind hm
 obtain ⟨r1, h3, hm⟩ := obind hm
 refine ds G [] (hD 7 h2 (hC 10 (ybaa h3) h0)) ?_
 cases hm
 exact rt [] []
def yapk : MS Timetable Bool := ⟨.r, zq14, fun y => dV y, fun _ => [], fun _ _ => []⟩
theorem ybal {t y} (hm : zq14 t = some y) : yapk.C t y := yapk.c t hm
theorem yaxb : FnOK Tryz.prog 157 yapk.S := by
 refine fm tt yapk [fo yawu, fo yayx, fo yakh] Tryz.call157 Tryz.func157 rfl Tryz.results157 Tryz.ntmps157 ?_
 rintro t y cx G hm
 have hm : zq14 t = some y := hm
 unfold zq14 at hm
 refine rg G (Ok_seq (rs G (hN 2 t.Trips h0) ?_))
 refine cd hm (fun hm => ?_) (fun hm => ?_)
 ·refine rg G ?_
  cases hm
  exact rt [] []
 ·refine X_skip (thN (rg G (Ok_seq (rs G (hN 2 t.Trips h0) ?_))))
  refine tF hm (fun _ => ⟨[], [], 32⟩) (fun v3 hr hm => ?_) ?_
  ·refine Ok_block (lp G hm (fun (v, v1) => ⟨[(1, .ref 16 0), (3, dV v), (11, dV t.Trips), (12, dV (t.Trips.length : Int)), (13, dV v1)], [bX 16 [dV t.Network.Stops, dV t.Network.Lines, dV t.Trips]], 48⟩) ?_)
   rintro ⟨v, v1⟩ r0 hb hm
   rw [yaki] at hm
   refine rg G (Ok_seq (cd hm (fun hm => ?_) (fun hm => ?_)))
   ·refine X_skip (thN (Ok_seq (Ok_block ?_)))
    obtain ⟨e, h, hm⟩ := obind hm
    refine rs G (hD 0 h h0) ?_
    refine Ok_seq (jn hm (fun v2 => ⟨[(1, .ref 16 0), (5, .ref 32 0), (11, dV t.Trips), (12, dV (t.Trips.length : Int)), (13, dV v1), (46, dV v2)], [bX 16 [dV t.Network.Stops, dV t.Network.Lines, dV t.Trips], bX 32 [dV e.Id, dV e.Line, dV e.Start]], 64⟩) (fun v2 hm => ?_) ?_)
    ·rcases bf hm with ⟨hb1, hm⟩ | ⟨hb1, hm⟩
     ·refine re G (hO 4 (.b true) (hP hb1 h0)) ?_
      exact wJ G hm
     ·rcases bf hm with ⟨hb2, hm⟩ | ⟨hb2, hm⟩
      ·refine re G (hO 4 (.b false) (hP hb1 (hO 9 (.b true) (hP hb2 h0)))) ?_
       exact wJ G hm
      ·obtain ⟨r, h1, hm⟩ := obind hm
       rcases bf hm with ⟨hb3, hm⟩ | ⟨hb3, hm⟩
       ·refine re G (hO 4 (.b false) (hP hb1 (hO 9 (.b false) (hP hb2 (hC 14 (yasj h1) (hO 17 (.b true) (hP hb3 h0))))))) ?_
        exact wJ G hm
       ·obtain ⟨r1, h2, hm⟩ := obind hm
        rcases bf hm with ⟨hb4, hm⟩ | ⟨hb4, hm⟩
        ·refine re G (hO 4 (.b false) (hP hb1 (hO 9 (.b false) (hP hb2 (hC 14 (yasj h1) (hO 17 (.b false) (hP hb3 (hC 20 (zq8_c h2) (hO 23 (.b true) (hP hb4 h0)))))))))) ?_
         exact wJ G hm
        ·obtain ⟨r2, h3, hm⟩ := obind hm
         obtain ⟨r3, h4, hm⟩ := obind hm
         refine re G (hO 4 (.b false) (hP hb1 (hO 9 (.b false) (hP hb2 (hC 14 (yasj h1) (hO 17 (.b false) (hP hb3 (hC 20 (zq8_c h2) (hO 23 (.b false) (hP hb4 (hC 26 (yask h3) (hC 27 (zq8_c h4) h0)))))))))))) ?_
         exact wJ G hm
    rintro v2 hm
    refine cd hm (fun hm => ?_) (fun hm => ?_)
    ·refine rg G ?_
     have hm := eL hm hb hr
     cases hm
     exact rt [] []
    ·exact X_skip (thN (rh G (ibN (thN (rh G (wL G hm))))))
   ·exact Ok_exit (thE (thE (ibE (wE G hm hb))))
  rintro ⟨⟩ hm s hw
  refine thN (Ok_weak hw ?_)
  refine rg G ?_
  cases hm
  exact rt [] []
def zq9_M : MS Timetable Bool := ⟨.r, zq9, fun y => dV y, fun _ => [], fun _ _ => []⟩
theorem zq9_c {t y} (hm : zq9 t = some y) : zq9_M.C t y := zq9_M.c t hm
theorem yayt : FnOK Tryz.prog 78 zq9_M.S := by
 refine fm tt zq9_M [fo yaze, fo yaxb] Tryz.call78 Tryz.func78 rfl Tryz.results78 Tryz.ntmps78 ?_
 rintro t y cx G hm
 have hm : zq9 t = some y := hm
 unfold zq9 at hm
 refine rg G ?_
 obtain ⟨r, h, hm⟩ := obind hm
 refine jn hm (fun v => ⟨[(2, dV v)], [], 32⟩) (fun v hm => ?_) ?_
 ·rcases bf hm with ⟨hb, hm⟩ | ⟨hb, hm⟩
  ·obtain ⟨r1, h1, hm⟩ := obind hm
   refine re G (hC 2 (zq6_c h) (hO 3 (.b true) (hP hb (hC 5 (ybal h1) h0)))) ?_
   exact wJ G hm
  ·refine re G (hC 2 (zq6_c h) (hO 3 (.b false) (hP hb h0))) ?_
   exact wJ G hm
 rintro v hm
 cases hm
 exact rt [] []
def yapd : MS (Network × Fleet) Bool := ⟨.x .r .r, fun x => zq21 x.1 x.2, fun y => dV y, fun _ => [], fun _ _ => []⟩
theorem ybag {n f y} (hm : zq21 n f = some y) : yapd.C (n, f) y := yapd.c (n, f) hm
theorem yawv : FnOK Tryz.prog 216 yapd.S := by
 refine fm tt yapd [fo yadb] Tryz.call216 Tryz.func216 rfl Tryz.results216 Tryz.ntmps216 ?_
 rintro ⟨n, f⟩ y cx G hm
 have hm : zq21 n f = some y := hm
 unfold zq21 at hm
 refine rg G (Ok_seq (jn hm (fun v => ⟨[(2, .ref 16 0), (3, .ref 32 0), (21, dV v)], [bX 16 [dV n.Stops, dV n.Lines], bX 32 [dV f.Dead, dV f.Turn]], 64⟩) (fun v hm => ?_) ?_))
 ·rcases bf hm with ⟨hb, hm⟩ | ⟨hb, hm⟩
  ·refine re G (hN 2 f.Dead (hN 5 n.Stops (hO 7 (.b true) (hP hb h0)))) ?_
   exact wJ G hm
  ·obtain ⟨r, h, hm⟩ := obind hm
   refine re G (hN 2 f.Dead (hN 5 n.Stops (hO 7 (.b false) (hP hb (hC 10 (yaby h) h0))))) ?_
   exact wJ G hm
 rintro v hm
 refine cd hm (fun hm => ?_) (fun hm => ?_)
 ·refine rg G ?_
  cases hm
  exact rt [] []
 ·refine X_skip (thN (Ok_seq (rs G (hN 2 f.Dead h0) ?_)))
  refine tF hm (fun _ => ⟨[], [], 32⟩) (fun v5 hr hm => ?_) ?_
  ·refine Ok_block (lp G hm (fun v1 => ⟨[(2, .ref 16 0), (23, dV f.Dead), (24, dV (f.Dead.length : Int)), (25, dV v1)], [bX 16 [dV n.Stops, dV n.Lines]], 48⟩) ?_)
   rintro v1 r0 hb1 hm
   rw [yakf] at hm
   refine rg G (Ok_seq (cd hm (fun hm => ?_) (fun hm => ?_)))
   ·refine X_skip (thN (Ok_seq (Ok_block ?_)))
    obtain ⟨e, h1, hm⟩ := obind hm
    refine rs G (hD 1 h1 h0) ?_
    refine Ok_seq (jn hm (fun v2 => ⟨[(2, .ref 16 0), (6, dV e), (23, dV f.Dead), (24, dV (f.Dead.length : Int)), (25, dV v1), (42, dV v2)], [bX 16 [dV n.Stops, dV n.Lines]], 48⟩) (fun v2 hm => ?_) ?_)
    ·rcases bf hm with ⟨hb2, hm⟩ | ⟨hb2, hm⟩
     ·refine re G (hN 1 e (hN 4 n.Stops (hO 6 (.b true) (hP hb2 h0)))) ?_
      exact wJ G hm
     ·obtain ⟨e1, h2, hm⟩ := obind hm
      refine re G (hN 1 e (hN 4 n.Stops (hO 6 (.b false) (hP hb2 (hD 9 h2 h0))))) ?_
      exact wJ G hm
    rintro v2 hm
    refine cd hm (fun hm => ?_) (fun hm => ?_)
    ·refine rg G ?_
     have hm := eL hm hb1 hr
     cases hm
     exact rt [] []
    ·refine X_skip (thN (rs G (hN 1 e h0) ?_))
     refine tF hm (fun _ => ⟨[(2, .ref 16 0), (23, dV f.Dead), (24, dV (f.Dead.length : Int)), (25, dV v1)], [bX 16 [dV n.Stops, dV n.Lines]], 48⟩) (fun v4 hr1 hm => ?_) ?_
     ·refine Ok_block (lp G hm (fun v3 => ⟨[(2, .ref 16 0), (23, dV f.Dead), (24, dV (f.Dead.length : Int)), (25, dV v1), (43, dV e), (44, dV (e.length : Int)), (45, dV v3)], [bX 16 [dV n.Stops, dV n.Lines]], 48⟩) ?_)
      rintro v3 r0 hb3 hm
      rw [yaha] at hm
      refine rg G (Ok_seq (cd hm (fun hm => ?_) (fun hm => ?_)))
      ·refine X_skip (thN (Ok_seq (Ok_block ?_)))
       obtain ⟨e3, h3, hm⟩ := obind hm
       refine rs G (hD 0 h3 h0) ?_
       obtain ⟨r2, h4, hm⟩ := obind hm
       refine rs G (hC 1 (yaby h4) h0) ?_
       refine cd hm (fun hm => ?_) (fun hm => ?_)
       ·refine rg G ?_
        have hm := eL hm hb3 hr1
        have hm := eL hm hb1 hr
        cases hm
        exact rt [] []
       ·exact X_skip (ibN (thN (rh G (wL G hm))))
      ·exact Ok_exit (thE (thE (ibE (wE G hm hb3))))
     rintro ⟨⟩ hm s hw
     refine ibN (thN (Ok_weak hw ?_))
     exact rh G (wL G hm)
   ·exact Ok_exit (thE (thE (ibE (wE G hm hb1))))
  rintro ⟨⟩ hm s1 hw1
  refine thN (Ok_weak hw1 ?_)
  refine rg G ?_
  cases hm
  exact rt [] []
def yaoz : MS (Timetable × Fleet) Bool := ⟨.x .r .r, fun x => zq25 x.1 x.2, fun y => dV y, fun _ => [], fun _ _ => []⟩
theorem yawq {t f y} (hm : zq25 t f = some y) : yaoz.C (t, f) y := yaoz.c (t, f) hm
theorem yawp : FnOK Tryz.prog 162 yaoz.S := by
 refine fm tt yaoz [fo yayt, fo yawv] Tryz.call162 Tryz.func162 rfl Tryz.results162 Tryz.ntmps162 ?_
 rintro ⟨t, f⟩ y cx G hm
 have hm : zq25 t f = some y := hm
 unfold zq25 at hm
 refine rg G ?_
 obtain ⟨r, h, hm⟩ := obind hm
 refine jn hm (fun v => ⟨[(4, dV v)], [], 32⟩) (fun v hm => ?_) ?_
 ·rcases bf hm with ⟨hb, hm⟩ | ⟨hb, hm⟩
  ·obtain ⟨r1, h1, hm⟩ := obind hm
   refine re G (hC 1 (zq9_c h) (hO 2 (.b true) (hP hb (hC 6 (ybag h1) h0)))) ?_
   exact wJ G hm
  ·refine re G (hC 1 (zq9_c h) (hO 2 (.b false) (hP hb h0))) ?_
   exact wJ G hm
 rintro v hm
 cases hm
 exact rt [] []
def yaoo : MS (Trip × Int) Bool := ⟨.x .r .b, fun x => zq36 x.1 x.2, fun y => dV y, fun _ => [], fun x _ => [bxO x.2]⟩
theorem yazz {x c1 y} (hm : zq36 x c1 = some y) : yaoo.C (x, c1) y := yaoo.c (x, c1) hm
theorem yawe : FnOK Tryz.prog 160 yaoo.S := by
 refine fm tt yaoo [] Tryz.call160 Tryz.func160 rfl Tryz.results160 Tryz.ntmps160 ?_
 rintro ⟨x, c1⟩ y cx G hm
 have hm : zq36 x c1 = some y := hm
 unfold zq36 at hm
 refine rg G (rg G ?_)
 cases hm
 exact rt [] []
def yahy : MS ((List Trip) × Int) Int := ⟨⟨[.rd, .fn 160 [.bx]], fun x => [Enc.e x.1, .agg [.sc undef]], fun x => [bxO x.2], 1, 1, fun _ => rfl, fun _ => rfl, rfl, (by
  rintro ⟨a0, a1⟩ ⟨b0, b1⟩ h hO
  have q0 : a0 = b0 := qI 0 h
  have q1 : a1 = b1 := Enc.inj _ _ (congrArg (fun l => (obD l 0).getD 0 (.sc undef)) hO)
  subst q0; subst q1; rfl)⟩, fun x => zq115 x.1 x.2, fun y => dV y, fun _ => [], fun x _ => [bxO x.2]⟩
theorem yaxu {s c1 y} (hm : zq115 s c1 = some y) : yahy.C (s, c1) y := yahy.c (s, c1) hm
theorem yatg : FnOK Tryz.prog 159 yahy.S := by
 refine fm tt yahy [fo yawe] Tryz.call159 Tryz.func159 rfl Tryz.results159 Tryz.ntmps159 ?_
 rintro ⟨s, c1⟩ y cx G hm
 have hm : zq115 s c1 = some y := hm
 obtain ⟨f, hf_f⟩ : ∃ q, (fun (z0 : Trip) => zq36 z0 c1) = q := ⟨_, rfl⟩
 have hm : zq114 s f = some y := by rw [← hf_f]; exact hm
 unfold zq114 at hm
 refine rg G (Ok_seq (rs G (hN 1 s h0) ?_))
 refine tF hm (fun _ => ⟨[(1, .fn 160 [.ref 0 0])], [bX 0 [dV c1]], 48⟩) (fun v1 hr hm => ?_) ?_
 ·refine Ok_block (lp G hm (fun v => ⟨[(0, dV s), (1, .fn 160 [.ref 0 0]), (7, dV (s.length : Int)), (8, dV v)], [bX 0 [dV c1]], 48⟩) ?_)
  rintro v r0 hb hm
  rw [yaej] at hm
  refine rg G (Ok_seq (cd hm (fun hm => ?_) (fun hm => ?_)))
  ·refine X_skip (thN (Ok_seq (Ok_block (rg G ?_))))
   obtain ⟨e, h, hm⟩ := obind hm
   obtain ⟨r, h1, hm⟩ := obind hm
   have h1 : zq36 e c1 = some r := by rw [← hf_f] at h1; exact h1
   refine rs G (hD 3 h (hC 5 (yazz h1) h0)) ?_
   refine cd hm (fun hm => ?_) (fun hm => ?_)
   ·refine rg G ?_
    have hm := eL hm hb hr
    cases hm
    exact rt [] []
   ·exact X_skip (ibN (thN (rh G (wL G hm))))
  ·exact Ok_exit (thE (thE (ibE (wE G hm hb))))
 rintro ⟨⟩ hm s1 hw
 refine thN (Ok_weak hw ?_)
 refine rg G ?_
 cases hm
 exact rt [] []
def yaop : MS (Timetable × Int) Int := ⟨.x .r .r, fun x => zq35 x.1 x.2, fun y => dV y, fun _ => [], fun _ _ => []⟩
theorem yawf {t id y} (hm : zq35 t id = some y) : yaop.C (t, id) y := yaop.c (t, id) hm
theorem yarh : FnOK Tryz.prog 81 yaop.S := by
 refine fm tt yaop [fo yatg] Tryz.call81 Tryz.func81 rfl Tryz.results81 Tryz.ntmps81 ?_
 rintro ⟨t, id⟩ y cx G hm
 have hm : zq35 t id = some y := hm
 unfold zq35 at hm
 refine rg G ?_
 obtain ⟨r, h, hm⟩ := obind hm
 refine rs G (hC 3 (yaxu h) h0) ?_
 cases hm
 exact rt [] []
def yaon : MS (Timetable × Int) Trip := ⟨.x .r .r, fun x => zq37 x.1 x.2, fun y => dV y, fun _ => [], fun _ _ => []⟩
theorem yake {t id y} (hm : zq37 t id = some y) : yaon.C (t, id) y := yaon.c (t, id) hm
theorem yakd : FnOK Tryz.prog 86 yaon.S := by
 refine fm tt yaon [fo yarh] Tryz.call86 Tryz.func86 rfl Tryz.results86 Tryz.ntmps86 ?_
 rintro ⟨t, id⟩ y cx G hm
 have hm : zq37 t id = some y := hm
 unfold zq37 at hm
 refine rg G ?_
 obtain ⟨r1, h2, hm⟩ := obind hm
 obtain ⟨e1, h3, hm⟩ := obind hm
 refine ds G [(7, [32])] (hC 4 (yawf h2) (hD 5 h3 h0)) ?_
 cases hm
 exact rt [] []
def yaot : MS (Timetable × Trip) Line := ⟨.x .r .r, fun x => zq31 x.1 x.2, fun y => dV y, fun _ => [], fun _ _ => []⟩
theorem yawi {t x y} (hm : zq31 t x = some y) : yaot.C (t, x) y := yaot.c (t, x) hm
theorem yarj : FnOK Tryz.prog 161 yaot.S := by
 refine fm tt yaot [] Tryz.call161 Tryz.func161 rfl Tryz.results161 Tryz.ntmps161 ?_
 rintro ⟨t, x⟩ y cx G hm
 have hm : zq31 t x = some y := hm
 unfold zq31 at hm
 refine rg G ?_
 obtain ⟨e, h, hm⟩ := obind hm
 refine rs G (hD 5 h h0) ?_
 cases hm
 exact rt [] []
def yaow : MS (Timetable × Trip) Int := ⟨.x .r .r, fun x => zq28 x.1 x.2, fun y => dV y, fun _ => [], fun _ _ => []⟩
theorem ybae {t x y} (hm : zq28 t x = some y) : yaow.C (t, x) y := yaow.c (t, x) hm
theorem yawl : FnOK Tryz.prog 166 yaow.S := by
 refine fm tt yaow [fo yarj] Tryz.call166 Tryz.func166 rfl Tryz.results166 Tryz.ntmps166 ?_
 rintro ⟨t, x⟩ y cx G hm
 have hm : zq28 t x = some y := hm
 unfold zq28 at hm
 refine rg G ?_
 obtain ⟨r, h, hm⟩ := obind hm
 refine rs G (hC 2 (yawi h) h0) ?_
 obtain ⟨e, h1, hm⟩ := obind hm
 refine rs G (hN 2 r.Stops (hD 4 h1 h0)) ?_
 cases hm
 exact rt [] []
def yapf : MS (Timetable × Trip) Int := ⟨.x .r .r, fun x => zq19 x.1 x.2, fun y => dV y, fun _ => [], fun _ _ => []⟩
theorem ybaj {t x y} (hm : zq19 t x = some y) : yapf.C (t, x) y := yapf.c (t, x) hm
theorem yawx : FnOK Tryz.prog 167 yapf.S := by
 refine fm tt yapf [fo yarj] Tryz.call167 Tryz.func167 rfl Tryz.results167 Tryz.ntmps167 ?_
 rintro ⟨t, x⟩ y cx G hm
 have hm : zq19 t x = some y := hm
 unfold zq19 at hm
 refine rg G ?_
 obtain ⟨r, h, hm⟩ := obind hm
 obtain ⟨e, h1, hm⟩ := obind hm
 refine rs G (hC 2 (yawi h) (hD 4 h1 h0)) ?_
 cases hm
 exact rt [] []
def yaph : MS (Timetable × Fleet × Trip × Trip) Int := ⟨.x .r (.x .r (.x .r .r)), fun x => zq17 x.1 x.2.1 x.2.2.1 x.2.2.2, fun y => dV y, fun _ => [], fun _ _ => []⟩
theorem yawy {t f a b y} (hm : zq17 t f a b = some y) : yaph.C (t, f, a, b) y := yaph.c (t, f, a, b) hm
theorem yarl : FnOK Tryz.prog 88 yaph.S := by
 refine fm tt yaph [fo yawl, fo yawx] Tryz.call88 Tryz.func88 rfl Tryz.results88 Tryz.ntmps88 ?_
 rintro ⟨t, f, a, b⟩ y cx G hm
 have hm : zq17 t f a b = some y := hm
 unfold zq17 at hm
 refine rg G ?_
 obtain ⟨r2, h4, hm⟩ := obind hm
 obtain ⟨e2, h5, hm⟩ := obind hm
 obtain ⟨r3, h6, hm⟩ := obind hm
 obtain ⟨e3, h7, hm⟩ := obind hm
 refine ds G [] (hC 4 (ybae h4) (hD 5 h5 (hC 9 (ybaj h6) (hD 10 h7 h0)))) ?_
 cases hm
 exact rt [] []
def yapi : MS (Timetable × Fleet × Trip × Trip) Bool := ⟨.x .r (.x .r (.x .r .r)), fun x => zq16 x.1 x.2.1 x.2.2.1 x.2.2.2, fun y => dV y, fun _ => [], fun _ _ => []⟩
theorem ybak {t f a b y} (hm : zq16 t f a b = some y) : yapi.C (t, f, a, b) y := yapi.c (t, f, a, b) hm
theorem yawz : FnOK Tryz.prog 171 yapi.S := by
 refine fm tt yapi [fo yakh, fo yarl] Tryz.call171 Tryz.func171 rfl Tryz.results171 Tryz.ntmps171 ?_
 rintro ⟨t, f, a, b⟩ y cx G hm
 have hm : zq16 t f a b = some y := hm
 unfold zq16 at hm
 refine rg G ?_
 obtain ⟨r2, h2, hm⟩ := obind hm
 obtain ⟨r3, h3, hm⟩ := obind hm
 refine ds G [] (hC 4 (yask h2) (hC 12 (yawy h3) h0)) ?_
 cases hm
 exact rt [] []
def yapo : MS (Timetable × Fleet × (List (List Int))) Bool := ⟨.x .r (.x .r .r), fun x => zq11 x.1 x.2.1 x.2.2, fun y => dV y, fun _ => [], fun _ _ => []⟩
theorem ybam {t f blocks y} (hm : zq11 t f blocks = some y) : yapo.C (t, f, blocks) y := yapo.c (t, f, blocks) hm
theorem yaxq : FnOK Tryz.prog 163 yapo.S := by
 refine fm tt yapo [fo yarh, fo yakd, fo yawz] Tryz.call163 Tryz.func163 rfl Tryz.results163 Tryz.ntmps163 ?_
 rintro ⟨t, f, blocks⟩ y cx G hm
 have hm : zq11 t f blocks = some y := hm
 unfold zq11 at hm
 refine rg G (rg G (rg G (Ok_seq (rs G (hN 1 blocks h0) ?_))))
 refine tF hm (fun block3 => ⟨[(3, .ref 16 0), (8, dV block3)], [bX 16 [dV t.Network.Stops, dV t.Network.Lines, dV t.Trips]], 48⟩) (fun v8 hr hm => ?_) ?_
 ·refine Ok_block (lp G hm (fun (block, k, v, v1) => ⟨[(3, .ref 16 0), (4, .ref 32 0), (7, .eref 48 1 0 0), (8, dV block), (9, dV k), (15, dV blocks), (16, dV (blocks.length : Int)), (17, dV v)], [bX 16 [dV t.Network.Stops, dV t.Network.Lines, dV t.Trips], bX 32 [dV f.Dead, dV f.Turn], aX 48 4 v1], 80⟩) ?_)
  rintro ⟨block, k, v, v1⟩ r0 hb hm
  rw [yabs] at hm
  refine rg G (Ok_seq (cd hm (fun hm => ?_) (fun hm => ?_)))
  ·refine X_skip (thN (Ok_seq (Ok_block ?_)))
   obtain ⟨e, h, hm⟩ := obind hm
   refine rs G (hD 0 h h0) ?_
   refine Ok_seq (jn hm (fun v2 => ⟨[(3, .ref 16 0), (4, .ref 32 0), (7, .eref 48 1 0 0), (8, dV block), (11, dV e), (15, dV blocks), (16, dV (blocks.length : Int)), (17, dV v), (30, dV v2)], [bX 16 [dV t.Network.Stops, dV t.Network.Lines, dV t.Trips], bX 32 [dV f.Dead, dV f.Turn], aX 48 4 v1], 80⟩) (fun v2 hm => ?_) ?_)
   ·rcases bf hm with ⟨hb1, hm⟩ | ⟨hb1, hm⟩
    ·refine re G (hN 1 e (hO 3 (.b true) (hP hb1 h0))) ?_
     exact wJ G hm
    ·obtain ⟨e1, h1, hm⟩ := obind hm
     refine re G (hN 1 e (hO 3 (.b false) (hP hb1 (hD 5 h1 h0)))) ?_
     exact wJ G hm
   rintro v2 hm
   refine cd hm (fun hm => ?_) (fun hm => ?_)
   ·refine rg G ?_
    have hm := eL hm hb hr
    cases hm
    exact rt [] []
   ·refine X_skip (thN ?_)
    obtain ⟨e3, h2, hm⟩ := obind hm
    refine rs G (hD 1 h2 h0) ?_
    refine rs G (hN 1 e h0) ?_
    refine tF hm (fun (block2, v6) => ⟨[(3, .ref 16 0), (4, .ref 32 0), (7, .eref 48 1 0 0), (8, dV block2), (9, dV e3), (15, dV blocks), (16, dV (blocks.length : Int)), (17, dV v)], [bX 16 [dV t.Network.Stops, dV t.Network.Lines, dV t.Trips], bX 32 [dV f.Dead, dV f.Turn], aX 48 4 v6], 80⟩) (fun v7 hr1 hm => ?_) ?_
    ·refine Ok_block (lp G hm (fun (block1, v3, v4) => ⟨[(3, .ref 16 0), (4, .ref 32 0), (7, .eref 48 1 0 0), (8, dV block1), (9, dV e3), (11, dV e), (15, dV blocks), (16, dV (blocks.length : Int)), (17, dV v), (34, dV e), (35, dV (e.length : Int)), (36, dV v3)], [bX 16 [dV t.Network.Stops, dV t.Network.Lines, dV t.Trips], bX 32 [dV f.Dead, dV f.Turn], aX 48 4 v4], 80⟩) ?_)
     rintro ⟨block1, v3, v4⟩ r0 hb2 hm
     rw [yabx] at hm
     refine rg G (Ok_seq (cd hm (fun hm => ?_) (fun hm => ?_)))
     ·refine X_skip (thN (Ok_seq (Ok_block ?_)))
      obtain ⟨e4, h3, hm⟩ := obind hm
      refine rs G (hD 1 h3 h0) ?_
      obtain ⟨r1, h4, hm⟩ := obind hm
      refine rs G (hC 2 (yawf h4) h0) ?_
      refine Ok_seq (jn hm (fun v5 => ⟨[(3, .ref 16 0), (4, .ref 32 0), (7, .eref 48 1 0 0), (8, dV block1), (9, dV e3), (11, dV e), (14, dV r1), (15, dV blocks), (16, dV (blocks.length : Int)), (17, dV v), (34, dV e), (35, dV (e.length : Int)), (36, dV v3), (72, dV v5)], [bX 16 [dV t.Network.Stops, dV t.Network.Lines, dV t.Trips], bX 32 [dV f.Dead, dV f.Turn], aX 48 4 v4], 80⟩) (fun v5 hm => ?_) ?_)
      ·rcases bf hm with ⟨hb3, hm⟩ | ⟨hb3, hm⟩
       ·refine de G [] (hO 2 (.b true) (hP hb3 h0)) ?_
        exact wJ G hm
       ·obtain ⟨u1, h12, hm⟩ := obind hm
        obtain ⟨e8, h11, hm⟩ := obind hm
        rcases bf hm with ⟨hb4, hm⟩ | ⟨hb4, hm⟩
        ·refine de G [] (hO 2 (.b false) (hP hb3 (hK h12 (hE 5 h11 (hO 7 (.b true) (hP hb4 h0)))))) ?_
         exact wJ G hm
        ·rcases bf hm with ⟨hb5, hm⟩ | ⟨hb5, hm⟩
         ·obtain ⟨e9, h13, hm⟩ := obind hm
          obtain ⟨r4, h14, hm⟩ := obind hm
          obtain ⟨e10, h15, hm⟩ := obind hm
          obtain ⟨r5, h16, hm⟩ := obind hm
          refine de G [] (hO 2 (.b false) (hP hb3 (hK h12 (hE 5 h11 (hO 7 (.b false) (hP hb4 (hO 10 (.b true) (hP hb5 (hD 17 h13 (hC 19 (yake h14) (hD 23 h15 (hC 25 (ybak h16) h0)))))))))))) ?_
          exact wJ G hm
         ·refine de G [] (hO 2 (.b false) (hP hb3 (hK h12 (hE 5 h11 (hO 7 (.b false) (hP hb4 (hO 10 (.b false) (hP hb5 h0)))))))) ?_
          exact wJ G hm
      rintro v5 hm
      refine cd hm (fun hm => ?_) (fun hm => ?_)
      ·refine rg G ?_
       have hm := eL hm hb2 hr1
       have hm := eL hm hb hr
       cases hm
       exact rt [] []
      ·refine X_skip (thN ?_)
       obtain ⟨u2, h18, hm⟩ := obind hm
       obtain ⟨e13, h17, hm⟩ := obind hm
       refine rs G (hK h18 (hS 2 h17 true h0)) ?_
       exact rh G (ibN (thN (rh G (wL G hm))))
     ·exact Ok_exit (thE (thE (ibE (wE G hm hb2))))
    rintro ⟨block2, v6⟩ hm s hw
    refine ibN (thN (Ok_weak hw ?_))
    exact rh G (wL G hm)
  ·exact Ok_exit (thE (thE (ibE (wE G hm hb))))
 rintro block3 hm s1 hw1
 refine thN (Ok_weak hw1 ?_)
 refine rs G (hN 3 t.Trips h0) ?_
 cases hm
 exact rt [] []
def zq5_M : MS (Timetable × Fleet × (List (List Int))) Bool := ⟨.x .r (.x .r .r), fun x => zq5 x.1 x.2.1 x.2.2, fun y => dV y, fun _ => [], fun _ _ => []⟩
theorem zq5_c {t f blocks y} (hm : zq5 t f blocks = some y) : zq5_M.C (t, f, blocks) y := zq5_M.c (t, f, blocks) hm
theorem yavm : FnOK Tryz.prog 84 zq5_M.S := by
 refine fm tt zq5_M [fo yawp, fo yaxq] Tryz.call84 Tryz.func84 rfl Tryz.results84 Tryz.ntmps84 ?_
 rintro ⟨t, f, blocks⟩ y cx G hm
 have hm : zq5 t f blocks = some y := hm
 unfold zq5 at hm
 refine rg G ?_
 obtain ⟨r, h, hm⟩ := obind hm
 refine jn hm (fun v => ⟨[(6, dV v)], [], 32⟩) (fun v hm => ?_) ?_
 ·rcases bf hm with ⟨hb, hm⟩ | ⟨hb, hm⟩
  ·obtain ⟨r1, h1, hm⟩ := obind hm
   refine re G (hC 2 (yawq h) (hO 3 (.b true) (hP hb (hC 7 (ybam h1) h0)))) ?_
   exact wJ G hm
  ·refine re G (hC 2 (yawq h) (hO 3 (.b false) (hP hb h0))) ?_
   exact wJ G hm
 rintro v hm
 cases hm
 exact rt [] []
def zq7_M : MS Rules Bool := ⟨.r, zq7, fun y => dV y, fun _ => [], fun _ _ => []⟩
theorem zq7_c {r y} (hm : zq7 r = some y) : zq7_M.C r y := zq7_M.c r hm
theorem yazb : FnOK Tryz.prog 50 zq7_M.S := by
 refine fm tt zq7_M [fo yadb] Tryz.call50 Tryz.func50 rfl Tryz.results50 Tryz.ntmps50 ?_
 rintro r y cx G hm
 have hm : zq7 r = some y := hm
 unfold zq7 at hm
 refine rg G (Ok_seq (rg G (tF hm (fun _ => ⟨[], [], 32⟩) (fun v1 hr hm => ?_) ?_)))
 ·refine Ok_block (lp G hm (fun v => ⟨[(17, .dat (.agg (flatE ([r.SignOn, r.SignOff, r.MaxDrive, r.MinBreak, r.PaidBreak, r.MaxLength] : List Int)))), (18, dV v)], [], 32⟩) ?_)
  rintro v r0 hb hm
  rw [yase] at hm
  refine rg G (Ok_seq (cd hm (fun hm => ?_) (fun hm => ?_)))
  ·refine X_skip (thN (Ok_seq (Ok_block ?_)))
   obtain ⟨u, h1, hm⟩ := obind hm
   obtain ⟨e, h, hm⟩ := obind hm
   refine ixS1 (ls := ([r.SignOn, r.SignOff, r.MaxDrive, r.MinBreak, r.PaidBreak, r.MaxLength] : List Int)) (t := 149) (el := 3) (kk := .i64) (T := tyE149) (E := tyE3) (len := 6) (e := e) G (chk_t h1) h h0 ?_ (fun _ => ⟨rfl, rfl⟩)
   obtain ⟨r1, h2, hm⟩ := obind hm
   refine rs G (hC 1 (yaby h2) h0) ?_
   refine cd hm (fun hm => ?_) (fun hm => ?_)
   ·refine rg G ?_
    have hm := eL hm hb hr
    cases hm
    exact rt [] []
   ·exact X_skip (ibN (thN (rh G (wL G hm))))
  ·exact Ok_exit (thE (thE (ibE (wE G hm hb))))
 rintro ⟨⟩ hm s hw
 refine thN (Ok_weak hw ?_)
 refine rg G ?_
 cases hm
 exact rt [] []
def yapl : MS (Timetable × Fleet × (List (List Int)) × Rules) Bool := ⟨.x .r (.x .r (.x .r .r)), fun x => zq13 x.1 x.2.1 x.2.2.1 x.2.2.2, fun y => dV y, fun _ => [], fun _ _ => []⟩
theorem yasl {t f blocks r y} (hm : zq13 t f blocks r = some y) : yapl.C (t, f, blocks, r) y := yapl.c (t, f, blocks, r) hm
theorem yakj : FnOK Tryz.prog 124 yapl.S := by
 refine fm tt yapl [fo yavm, fo yazb] Tryz.call124 Tryz.func124 rfl Tryz.results124 Tryz.ntmps124 ?_
 rintro ⟨t, f, blocks, r⟩ y cx G hm
 have hm : zq13 t f blocks r = some y := hm
 unfold zq13 at hm
 refine rg G ?_
 obtain ⟨r1, h, hm⟩ := obind hm
 refine jn hm (fun v => ⟨[(8, dV v)], [], 32⟩) (fun v hm => ?_) ?_
 ·rcases bf hm with ⟨hb, hm⟩ | ⟨hb, hm⟩
  ·obtain ⟨r2, h1, hm⟩ := obind hm
   refine re G (hC 3 (zq5_c h) (hO 4 (.b true) (hP hb (hC 6 (zq7_c h1) h0)))) ?_
   exact wJ G hm
  ·refine re G (hC 3 (zq5_c h) (hO 4 (.b false) (hP hb h0))) ?_
   exact wJ G hm
 rintro v hm
 cases hm
 exact rt [] []
def yaos : MS ((List (List Int)) × Int) (Int × Int) := ⟨.x .r .r, fun x => zq32 x.1 x.2, fun y => .tup [dV y.1, dV y.2], fun _ => [], fun _ _ => []⟩
theorem yawh {blocks id y} (hm : zq32 blocks id = some y) : yaos.C (blocks, id) y := yaos.c (blocks, id) hm
theorem yari : FnOK Tryz.prog 85 yaos.S := by
 refine fm tt yaos [fo yakp] Tryz.call85 Tryz.func85 rfl Tryz.results85 Tryz.ntmps85 ?_
 rintro ⟨blocks, id⟩ y cx G hm
 have hm : zq32 blocks id = some y := hm
 unfold zq32 at hm
 refine rg G (Ok_seq (rs G (hN 1 blocks h0) ?_))
 refine tF hm (fun _ => ⟨[], [], 32⟩) (fun v1 hr hm => ?_) ?_
 ·refine Ok_block (lp G hm (fun v => ⟨[(1, dV id), (9, dV blocks), (10, dV (blocks.length : Int)), (11, dV v)], [], 32⟩) ?_)
  rintro v r0 hb hm
  rw [yadc] at hm
  refine rg G (Ok_seq (cd hm (fun hm => ?_) (fun hm => ?_)))
  ·refine X_skip (thN (Ok_seq (Ok_block ?_)))
   obtain ⟨e, h, hm⟩ := obind hm
   refine rs G (hD 1 h h0) ?_
   obtain ⟨r, h1, hm⟩ := obind hm
   refine rs G (hC 2 (yarp h1) h0) ?_
   refine rg G (cd hm (fun hm => ?_) (fun hm => ?_))
   ·refine rg G ?_
    have hm := eL hm hb hr
    cases hm
    exact rt [] []
   ·exact X_skip (ibN (thN (rh G (wL G hm))))
  ·exact Ok_exit (thE (thE (ibE (wE G hm hb))))
 rintro ⟨⟩ hm s hw
 refine thN (Ok_weak hw ?_)
 refine rg G ?_
 cases hm
 exact rt [] []
def yaia : MS ((List Int)) ((List Int)) := ⟨.r, zq111, fun _ => .own 0, fun y => [arO 3 y], fun _ _ => []⟩
theorem yarr {s y} (hm : zq111 s = some y) : yaia.C s y := yaia.c s hm
theorem yakr : FnOK Tryz.prog 134 yaia.S := by
 refine fm tt yaia [] Tryz.call134 Tryz.func134 rfl Tryz.results134 Tryz.ntmps134 ?_
 rintro s y cx G hm
 have hm : zq111 s = some y := hm
 unfold zq111 at hm
 obtain ⟨u, h, hm⟩ := obind hm
 cases hm
 refine rg G (Ok_seq (X_nil_seq G.t.ty G.ok 1 (ds := List.map Enc.e s) (es := 1) [] .nil (by kernel_rfl) (by rfl) (by rfl) (by kernel_rfl) ?_))
 intro b hb
 refine X_cond b (by kernel_rfl) (fun hc => ?_) (fun hc => ?_)
 ·have hl : s = [] := by
   cases s with
   | nil => rfl
   | cons a r => have := hb (by simp); rw [hc] at this; cases this
  subst hl
  refine rg G (Ok_weak (Wk_J (x' := ⟨[(2, .own 16)], [(16, some (.arr 3 1 []))], 32⟩) G.hL ⟨[(2, [.o 16])], [], [(16, 3, 1, [])], 32⟩ (by kernel_rfl)) ?_)
  exact rt [16] []
 ·refine sN (rs G (hA 2 8 h h0) ?_)
  exact rt [96] []
def yaor : MS (Timetable × (List Int)) Span := ⟨.x .r .r, fun x => zq33 x.1 x.2, fun y => dV y, fun _ => [], fun _ _ => []⟩
theorem yaix {t ids y} (hm : zq33 t ids = some y) : yaor.C (t, ids) y := yaor.c (t, ids) hm
theorem yagw : FnOK Tryz.prog 135 yaor.S := by
 refine fm tt yaor [fo yakd, fo yakh] Tryz.call135 Tryz.func135 rfl Tryz.results135 Tryz.ntmps135 ?_
 rintro ⟨t, ids⟩ y cx G hm
 have hm : zq33 t ids = some y := hm
 unfold zq33 at hm
 refine rg G ?_
 obtain ⟨e2, h5, hm⟩ := obind hm
 obtain ⟨r3, h6, hm⟩ := obind hm
 obtain ⟨e3, h7, hm⟩ := obind hm
 obtain ⟨r4, h8, hm⟩ := obind hm
 obtain ⟨r5, h9, hm⟩ := obind hm
 refine ds G [(17, [32])] (hD 2 h5 (hC 4 (yake h6) (hN 10 ids (hD 12 h7 (hC 14 (yake h8) (hC 15 (yask h9) h0)))))) ?_
 cases hm
 exact rt [] []
def yapp : MS (Timetable × Fleet × (List (List Int)) × Rules × Int) ((List (List Int)) × Bool) := ⟨.x .r (.x .r (.x .r (.x .r .r))), fun x => zq10 x.1 x.2.1 x.2.2.1 x.2.2.2.1 x.2.2.2.2, fun y => .tup [dV y.1, dV y.2], fun _ => [], fun _ _ => []⟩
theorem yban {t f blocks r id y} (hm : zq10 t f blocks r id = some y) : yapp.C (t, f, blocks, r, id) y := yapp.c (t, f, blocks, r, id) hm
theorem yaxy : FnOK Tryz.prog 56 yapp.S := by
 refine fm tt yapp [fo yakj, fo yari, fo yakr, fo yagw] Tryz.call56 Tryz.func56 rfl Tryz.results56 Tryz.ntmps56 ?_
 rintro ⟨t, f, blocks, r, id⟩ y cx G hm
 have hm : zq10 t f blocks r id = some y := hm
 unfold zq10 at hm
 refine rg G (Ok_seq ?_)
 obtain ⟨r1, h, hm⟩ := obind hm
 refine rs G (hC 4 (yasl h) h0) ?_
 refine cd hm (fun hm => ?_) (fun hm => ?_)
 ·refine rg G ?_
  cases hm
  exact rt [] [[.z 1]]
 ·refine X_skip (thN ?_)
  obtain ⟨r2, h1, hm⟩ := obind hm
  refine rs G (hC 2 (yawh h1) h0) ?_
  refine Ok_seq (rg G (cd hm (fun hm => ?_) (fun hm => ?_)))
  ·refine rg G ?_
   cases hm
   exact rt [] [[.z 1]]
  ·refine X_skip (thN (rg G (Ok_seq (rg G (tl hm (fun v3 => ⟨[(14, .own 16)], [aX 16 35 v3], 48⟩) (fun v3 hm => ?_) ?_)))))
   ·refine Ok_block (lpP hm (fun (v, v1) => ⟨[(2, dV blocks), (5, .ref 16 0), (8, .ref 32 0), (12, dV r2.1), (13, dV r2.2), (14, .own 48), (15, dV v)], [bX 16 [dV t.Network.Stops, dV t.Network.Lines, dV t.Trips], bX 32 [dV r.SignOn, dV r.SignOff, dV r.MaxDrive, dV r.MinBreak, dV r.PaidBreak, dV r.MaxLength], aX 48 35 v1], 80⟩) (Wk_J G.hL ⟨[(2, []), (5, []), (8, []), (12, []), (13, []), (14, [.o 48]), (15, [])], [(16, 16, []), (32, 48, [])], [(48, 35, 1, [])], 80⟩ (by kernel_rfl)) ?_)
    rintro ⟨v, v1⟩ r0 hb hm
    rw [yadf] at hm
    refine Ok_seq ?_
    obtain ⟨e, h2, hm⟩ := obind hm
    refine rs G (hD 3 h2 (hN 5 e h0)) ?_
    refine cd hm (fun hm => ?_) (fun hm => ?_)
    ·refine X_skip (thN (jn hm (fun v2 => ⟨[(2, dV blocks), (5, .ref 16 0), (8, .ref 32 0), (12, dV r2.1), (13, dV r2.2), (14, .own 48), (15, dV v)], [bX 16 [dV t.Network.Stops, dV t.Network.Lines, dV t.Trips], bX 32 [dV r.SignOn, dV r.SignOff, dV r.MaxDrive, dV r.MinBreak, dV r.PaidBreak, dV r.MaxLength], aX 48 35 v2], 80⟩) (fun v2 hm => ?_) ?_))
     ·refine Ok_block ?_
      obtain ⟨e1, h3, hm⟩ := obind hm
      obtain ⟨u, h4, hm⟩ := obind hm
      obtain ⟨r3, h5, hm⟩ := obind hm
      refine rs G (hD 2 h3 (hU 6 h4 (hC 7 (yarr h5) h0))) ?_
      obtain ⟨r4, h6, hm⟩ := obind hm
      refine rs G (hC 2 (yaix h6) h0) ?_
      refine rg G (cd hm (fun hm => ?_) (fun hm => ?_))
      ·obtain ⟨u1, h7, hm⟩ := obind hm
       refine re G (hO 2 (.fz [304] [] []) (hA 3 24 h7 h0)) ?_
       exact ibN (wJ G hm)
      ·exact X_skip (ibN (wJ G hm))
     rintro v2 hm
     exact rh G (wL G hm)
    ·exact Ok_exit (thE (thE (ibE (wD G hm hb))))
   rintro v3 hm s hw
   refine thN (Ok_weak hw ?_)
   refine rg G ?_
   cases hm
   exact rt [] []
def yanv : MS ((List (List Int)) × Int) (Int × Int) := ⟨.x .r .r, fun x => zq52 x.1 x.2, fun y => .tup [dV y.1, dV y.2], fun _ => [], fun _ _ => []⟩
theorem yavt {blocks id y} (hm : zq52 blocks id = some y) : yanv.C (blocks, id) y := yanv.c (blocks, id) hm
theorem yare : FnOK Tryz.prog 89 yanv.S := by
 refine fm tt yanv [] Tryz.call89 Tryz.func89 rfl Tryz.results89 Tryz.ntmps89 ?_
 rintro ⟨blocks, id⟩ y cx G hm
 have hm : zq52 blocks id = some y := hm
 unfold zq52 at hm
 refine rg G (Ok_seq (rg G (tF hm (fun _ => ⟨[], [], 32⟩) (fun v3 hr hm => ?_) ?_)))
 ·refine Ok_block (lp G hm (fun v => ⟨[(0, dV blocks), (1, dV id), (6, dV v)], [], 32⟩) ?_)
  rintro v r0 hb hm
  rw [yagp] at hm
  refine Ok_seq (rs G (hN 2 blocks h0) ?_)
  refine cd hm (fun hm => ?_) (fun hm => ?_)
  ·refine X_skip (thN (Ok_seq (Ok_block (rg G (tF hm (fun _ => ⟨[(0, dV blocks), (1, dV id), (6, dV v)], [], 32⟩) (fun v2 hr1 hm => ?_) ?_)))))
   ·refine Ok_block (lp G hm (fun v1 => ⟨[(0, dV blocks), (1, dV id), (6, dV v), (7, dV v1)], [], 32⟩) ?_)
    rintro v1 r0 hb1 hm
    rw [yagq] at hm
    refine Ok_seq ?_
    obtain ⟨e, h, hm⟩ := obind hm
    refine rs G (hD 3 h (hN 5 e h0)) ?_
    refine cd hm (fun hm => ?_) (fun hm => ?_)
    ·refine X_skip (thN (Ok_seq (Ok_block ?_)))
     obtain ⟨e1, h1, hm⟩ := obind hm
     obtain ⟨e2, h2, hm⟩ := obind hm
     refine rs G (hD 2 h1 (hD 5 h2 h0)) ?_
     refine cd hm (fun hm => ?_) (fun hm => ?_)
     ·refine rg G ?_
      have hm := eL hm hb1 hr1
      have hm := eL hm hb hr
      cases hm
      exact rt [] []
     ·exact X_skip (ibN (thN (rh G (wL G hm))))
    ·exact Ok_exit (thE (thE (ibE (wE G hm hb1))))
   rintro ⟨⟩ hm s hw
   refine ibN (thN (Ok_weak hw ?_))
   exact rh G (wL G hm)
  ·exact Ok_exit (thE (thE (ibE (wE G hm hb))))
 rintro ⟨⟩ hm s1 hw1
 refine thN (Ok_weak hw1 ?_)
 refine rg G ?_
 cases hm
 exact rt [] []
def yaie : MS (Timetable × Int) Int := ⟨.x .r .r, fun x => zq107 x.1 x.2, fun y => dV y, fun _ => [], fun _ _ => []⟩
theorem yadg {t id y} (hm : zq107 t id = some y) : yaie.C (t, id) y := yaie.c (t, id) hm
theorem yaek : FnOK Tryz.prog 93 yaie.S := by
 refine fm tt yaie [] Tryz.call93 Tryz.func93 rfl Tryz.results93 Tryz.ntmps93 ?_
 rintro ⟨t, id⟩ y cx G hm
 have hm : zq107 t id = some y := hm
 unfold zq107 at hm
 refine rg G (Ok_seq (rg G (tF hm (fun _ => ⟨[], [], 32⟩) (fun v1 hr hm => ?_) ?_)))
 ·refine Ok_block (lp G hm (fun v => ⟨[(1, dV id), (2, .ref 16 0), (5, dV v)], [bX 16 [dV t.Network.Stops, dV t.Network.Lines, dV t.Trips]], 48⟩) ?_)
  rintro v r0 hb hm
  rw [yael] at hm
  refine Ok_seq (rs G (hN 3 t.Trips h0) ?_)
  refine cd hm (fun hm => ?_) (fun hm => ?_)
  ·refine X_skip (thN (Ok_seq (Ok_block ?_)))
   obtain ⟨e, h, hm⟩ := obind hm
   refine rs G (hD 3 h h0) ?_
   refine cd hm (fun hm => ?_) (fun hm => ?_)
   ·refine rg G ?_
    have hm := eL hm hb hr
    cases hm
    exact rt [] []
   ·exact X_skip (ibN (thN (rh G (wL G hm))))
  ·exact Ok_exit (thE (thE (ibE (wE G hm hb))))
 rintro ⟨⟩ hm s hw
 refine thN (Ok_weak hw ?_)
 refine rg G ?_
 cases hm
 exact rt [] []
def yamm : MS ((List Int) × Int) Bool := ⟨.x .r .r, fun x => zq85 x.1 x.2, fun y => dV y, fun _ => [], fun _ _ => []⟩
theorem yaml {l n y} (hm : zq85 l n = some y) : yamm.C (l, n) y := yamm.c (l, n) hm
theorem yaqr : FnOK Tryz.prog 150 yamm.S := by
 refine fm tt yamm [] Tryz.call150 Tryz.func150 rfl Tryz.results150 Tryz.ntmps150 ?_
 rintro ⟨l, n⟩ y cx G hm
 have hm : zq85 l n = some y := hm
 unfold zq85 at hm
 refine rg G (Ok_seq (rg G (tF hm (fun _ => ⟨[], [], 32⟩) (fun v1 hr hm => ?_) ?_)))
 ·refine Ok_block (lp G hm (fun v => ⟨[(0, dV l), (1, dV n), (5, dV v)], [], 32⟩) ?_)
  rintro v r0 hb hm
  rw [yagg] at hm
  refine Ok_seq (rs G (hN 2 l h0) ?_)
  refine cd hm (fun hm => ?_) (fun hm => ?_)
  ·refine X_skip (thN (Ok_seq (Ok_block ?_)))
   obtain ⟨e, h, hm⟩ := obind hm
   refine rs G (hD 2 h h0) ?_
   refine cd hm (fun hm => ?_) (fun hm => ?_)
   ·refine rg G ?_
    have hm := eL hm hb hr
    cases hm
    exact rt [] []
   ·exact X_skip (ibN (thN (rh G (wL G hm))))
  ·exact Ok_exit (thE (thE (ibE (wE G hm hb))))
 rintro ⟨⟩ hm s hw
 refine thN (Ok_weak hw ?_)
 refine rg G ?_
 cases hm
 exact rt [] []
def yaoc : MS (Timetable × Fleet × (List (List Int))) Bool := ⟨.x .r (.x .r .r), fun x => zq47 x.1 x.2.1 x.2.2, fun y => dV y, fun _ => [], fun _ _ => []⟩
theorem yazr {t f blocks y} (hm : zq47 t f blocks = some y) : yaoc.C (t, f, blocks) y := yaoc.c (t, f, blocks) hm
theorem yavw : FnOK Tryz.prog 91 yaoc.S := by
 refine fm tt yaoc [fo yaek, fo yaqr, fo yajw] Tryz.call91 Tryz.func91 rfl Tryz.results91 Tryz.ntmps91 ?_
 rintro ⟨t, f, blocks⟩ y cx G hm
 have hm : zq47 t f blocks = some y := hm
 unfold zq47 at hm
 refine rg G (rg G (Ok_seq (rg G (tF hm (fun at_3 => ⟨[(3, .ref 16 0), (7, .own 32)], [bX 16 [dV t.Network.Stops, dV t.Network.Lines, dV t.Trips], aX 32 3 at_3], 64⟩) (fun v5 hr hm => ?_) ?_))))
 ·refine Ok_block (lp G hm (fun (v, at_) => ⟨[(2, dV blocks), (3, .ref 16 0), (4, .ref 32 0), (7, .own 48), (8, dV v)], [bX 16 [dV t.Network.Stops, dV t.Network.Lines, dV t.Trips], bX 32 [dV f.Dead, dV f.Turn], aX 48 3 at_], 80⟩) ?_)
  rintro ⟨v, at_⟩ r0 hb hm
  rw [yabq] at hm
  refine Ok_seq (rs G (hN 2 blocks h0) ?_)
  refine cd hm (fun hm => ?_) (fun hm => ?_)
  ·refine X_skip (thN (Ok_seq (Ok_block (Ok_seq ?_))))
   obtain ⟨e5, h5, hm⟩ := obind hm
   refine jn hm (fun v1 => ⟨[(2, dV blocks), (3, .ref 16 0), (4, .ref 32 0), (7, .own 48), (8, dV v), (43, dV v1)], [bX 16 [dV t.Network.Stops, dV t.Network.Lines, dV t.Trips], bX 32 [dV f.Dead, dV f.Turn], aX 48 3 at_], 80⟩) (fun v1 hm => ?_) ?_
   ·rcases bf hm with ⟨hb1, hm⟩ | ⟨hb1, hm⟩
    ·refine de G [] (hD 2 h5 (hN 4 e5 (hO 6 (.b true) (hP hb1 h0)))) ?_
     exact wJ G hm
    ·rcases bf hm with ⟨hb2, hm⟩ | ⟨hb2, hm⟩
     ·obtain ⟨e6, h6, hm⟩ := obind hm
      obtain ⟨e7, h7, hm⟩ := obind hm
      obtain ⟨e8, h8, hm⟩ := obind hm
      obtain ⟨e9, h9, hm⟩ := obind hm
      refine de G [] (hD 2 h5 (hN 4 e5 (hO 6 (.b false) (hP hb1 (hO 9 (.b true) (hP hb2 (hD 13 h6 (hD 15 h7 (hD 19 h8 (hD 21 h9 h0)))))))))) ?_
      exact wJ G hm
     ·refine de G [] (hD 2 h5 (hN 4 e5 (hO 6 (.b false) (hP hb1 (hO 9 (.b false) (hP hb2 h0)))))) ?_
      exact wJ G hm
   rintro v1 hm
   refine cd hm (fun hm => ?_) (fun hm => ?_)
   ·refine rg G ?_
    have hm := eL hm hb hr
    cases hm
    exact rt [] []
   ·refine X_skip (thN (rg G (tF hm (fun at_2 => ⟨[(2, dV blocks), (3, .ref 16 0), (4, .ref 32 0), (7, .own 48), (8, dV v)], [bX 16 [dV t.Network.Stops, dV t.Network.Lines, dV t.Trips], bX 32 [dV f.Dead, dV f.Turn], aX 48 3 at_2], 80⟩) (fun v4 hr1 hm => ?_) ?_)))
    ·refine Ok_block (lp G hm (fun (v2, at_1) => ⟨[(2, dV blocks), (3, .ref 16 0), (4, .ref 32 0), (7, .own 48), (8, dV v), (9, dV v2)], [bX 16 [dV t.Network.Stops, dV t.Network.Lines, dV t.Trips], bX 32 [dV f.Dead, dV f.Turn], aX 48 3 at_1], 80⟩) ?_)
     rintro ⟨v2, at_1⟩ r0 hb3 hm
     rw [yabr] at hm
     refine Ok_seq ?_
     obtain ⟨e11, h10, hm⟩ := obind hm
     refine rs G (hD 3 h10 (hN 5 e11 h0)) ?_
     refine cd hm (fun hm => ?_) (fun hm => ?_)
     ·refine X_skip (thN (Ok_seq (Ok_block ?_)))
      obtain ⟨e14, h14, hm⟩ := obind hm
      obtain ⟨e15, h15, hm⟩ := obind hm
      obtain ⟨r2, h16, hm⟩ := obind hm
      refine ds G [] (hD 3 h14 (hD 6 h15 (hC 8 (yadg h16) h0))) ?_
      refine Ok_seq (jn hm (fun v3 => ⟨[(2, dV blocks), (3, .ref 16 0), (4, .ref 32 0), (7, .own 48), (8, dV v), (9, dV v2), (10, dV r2), (89, dV v3)], [bX 16 [dV t.Network.Stops, dV t.Network.Lines, dV t.Trips], bX 32 [dV f.Dead, dV f.Turn], aX 48 3 at_1], 80⟩) (fun v3 hm => ?_) ?_)
      ·rcases bf hm with ⟨hb4, hm⟩ | ⟨hb4, hm⟩
       ·refine de G [] (hO 2 (.b true) (hP hb4 h0)) ?_
        exact wJ G hm
       ·obtain ⟨r6, h22, hm⟩ := obind hm
        rcases bf hm with ⟨hb5, hm⟩ | ⟨hb5, hm⟩
        ·refine de G [] (hO 2 (.b false) (hP hb4 (hC 5 (yaml h22) (hO 7 (.b true) (hP hb5 h0))))) ?_
         exact wJ G hm
        ·rcases bf hm with ⟨hb6, hm⟩ | ⟨hb6, hm⟩
         ·obtain ⟨e18, h23, hm⟩ := obind hm
          obtain ⟨e19, h24, hm⟩ := obind hm
          obtain ⟨r7, h25, hm⟩ := obind hm
          obtain ⟨r8, h26, hm⟩ := obind hm
          refine de G [] (hO 2 (.b false) (hP hb4 (hC 5 (yaml h22) (hO 7 (.b false) (hP hb5 (hO 10 (.b true) (hP hb6 (hD 16 h23 (hD 20 h24 (hC 22 (yadg h25) (hC 24 (yanw h26) h0))))))))))) ?_
          exact wJ G hm
         ·refine de G [] (hO 2 (.b false) (hP hb4 (hC 5 (yaml h22) (hO 7 (.b false) (hP hb5 (hO 10 (.b false) (hP hb6 h0))))))) ?_
          exact wJ G hm
      rintro v3 hm
      refine cd hm (fun hm => ?_) (fun hm => ?_)
      ·refine rg G ?_
       have hm := eL hm hb3 hr1
       have hm := eL hm hb hr
       cases hm
       exact rt [] []
      ·refine X_skip (thN ?_)
       obtain ⟨u, h27, hm⟩ := obind hm
       refine re G (hA 3 8 h27 h0) ?_
       exact ibN (thN (rh G (wL G hm)))
     ·exact Ok_exit (thE (thE (ibE (wE G hm hb3))))
    rintro at_2 hm s hw
    refine ibN (thN (Ok_weak hw ?_))
    exact rh G (wL G hm)
  ·exact Ok_exit (thE (thE (ibE (wE G hm hb))))
 rintro at_3 hm s1 hw1
 refine thN (Ok_weak hw1 ?_)
 refine rs G (hN 1 at_3 (hN 4 t.Trips h0)) ?_
 cases hm
 exact rt [] []
def yant : MS (Timetable × Fleet × (List (List Int))) Bool := ⟨.x .r (.x .r .r), fun x => zq55 x.1 x.2.1 x.2.2, fun y => dV y, fun _ => [], fun _ _ => []⟩
theorem yavr {t f blocks y} (hm : zq55 t f blocks = some y) : yant.C (t, f, blocks) y := yant.c (t, f, blocks) hm
theorem yavq : FnOK Tryz.prog 152 yant.S := by
 refine fm tt yant [fo yarf, fo yavw] Tryz.call152 Tryz.func152 rfl Tryz.results152 Tryz.ntmps152 ?_
 rintro ⟨t, f, blocks⟩ y cx G hm
 have hm : zq55 t f blocks = some y := hm
 unfold zq55 at hm
 refine rg G ?_
 obtain ⟨r, h, hm⟩ := obind hm
 refine jn hm (fun v => ⟨[(6, dV v)], [], 32⟩) (fun v hm => ?_) ?_
 ·rcases bf hm with ⟨hb, hm⟩ | ⟨hb, hm⟩
  ·obtain ⟨r1, h1, hm⟩ := obind hm
   refine re G (hC 2 (yaoe h) (hO 3 (.b true) (hP hb (hC 7 (yazr h1) h0)))) ?_
   exact wJ G hm
  ·refine re G (hC 2 (yaoe h) (hO 3 (.b false) (hP hb h0))) ?_
   exact wJ G hm
 rintro v hm
 cases hm
 exact rt [] []
def yann : MS Int Bool := ⟨.r, zq60, fun y => dV y, fun _ => [], fun _ _ => []⟩
theorem yabn {x y} (hm : zq60 x = some y) : yann.C x y := yann.c x hm
theorem yavl : FnOK Tryz.prog 202 yann.S := by
 refine fm tt yann [fo yace] Tryz.call202 Tryz.func202 rfl Tryz.results202 Tryz.ntmps202 ?_
 rintro x y cx G hm
 have hm : zq60 x = some y := hm
 unfold zq60 at hm
 refine rg G ?_
 obtain ⟨r, h, hm⟩ := obind hm
 refine rs G (hC 1 (yabi h) h0) ?_
 cases hm
 exact rt [] []
def yank : MS Rules Bool := ⟨.r, zq63, fun y => dV y, fun _ => [], fun _ _ => []⟩
theorem yazi {r y} (hm : zq63 r = some y) : yank.C r y := yank.c r hm
theorem yavi : FnOK Tryz.prog 128 yank.S := by
 refine fm tt yank [fo yavl] Tryz.call128 Tryz.func128 rfl Tryz.results128 Tryz.ntmps128 ?_
 rintro r y cx G hm
 have hm : zq63 r = some y := hm
 unfold zq63 at hm
 refine rg G ?_
 obtain ⟨r1, h, hm⟩ := obind hm
 refine jn hm (fun v => ⟨[(2, dV v)], [], 32⟩) (fun v hm => ?_) ?_
 ·rcases bf hm with ⟨hb, hm⟩ | ⟨hb, hm⟩
  ·obtain ⟨r2, h1, hm⟩ := obind hm
   rcases bf hm with ⟨hb1, hm⟩ | ⟨hb1, hm⟩
   ·obtain ⟨r3, h2, hm⟩ := obind hm
    rcases bf hm with ⟨hb2, hm⟩ | ⟨hb2, hm⟩
    ·obtain ⟨r4, h3, hm⟩ := obind hm
     rcases bf hm with ⟨hb3, hm⟩ | ⟨hb3, hm⟩
     ·obtain ⟨r5, h4, hm⟩ := obind hm
      rcases bf hm with ⟨hb4, hm⟩ | ⟨hb4, hm⟩
      ·obtain ⟨r6, h5, hm⟩ := obind hm
       refine re G (hC 2 (yabn h) (hO 3 (.b true) (hP hb (hC 6 (yabn h1) (hO 8 (.b true) (hP hb1 (hC 11 (yabn h2) (hO 13 (.b true) (hP hb2 (hC 16 (yabn h3) (hO 18 (.b true) (hP hb3 (hC 21 (yabn h4) (hO 23 (.b true) (hP hb4 (hC 26 (yabn h5) h0)))))))))))))))) ?_
       exact wJ G hm
      ·refine re G (hC 2 (yabn h) (hO 3 (.b true) (hP hb (hC 6 (yabn h1) (hO 8 (.b true) (hP hb1 (hC 11 (yabn h2) (hO 13 (.b true) (hP hb2 (hC 16 (yabn h3) (hO 18 (.b true) (hP hb3 (hC 21 (yabn h4) (hO 23 (.b false) (hP hb4 h0))))))))))))))) ?_
       exact wJ G hm
     ·refine re G (hC 2 (yabn h) (hO 3 (.b true) (hP hb (hC 6 (yabn h1) (hO 8 (.b true) (hP hb1 (hC 11 (yabn h2) (hO 13 (.b true) (hP hb2 (hC 16 (yabn h3) (hO 18 (.b false) (hP hb3 h0)))))))))))) ?_
      exact wJ G hm
    ·refine re G (hC 2 (yabn h) (hO 3 (.b true) (hP hb (hC 6 (yabn h1) (hO 8 (.b true) (hP hb1 (hC 11 (yabn h2) (hO 13 (.b false) (hP hb2 h0))))))))) ?_
     exact wJ G hm
   ·refine re G (hC 2 (yabn h) (hO 3 (.b true) (hP hb (hC 6 (yabn h1) (hO 8 (.b false) (hP hb1 h0)))))) ?_
    exact wJ G hm
  ·refine re G (hC 2 (yabn h) (hO 3 (.b false) (hP hb h0))) ?_
   exact wJ G hm
 rintro v hm
 cases hm
 exact rt [] []
def yanu : MS (Timetable × Fleet × (List (List Int)) × Rules) Bool := ⟨.x .r (.x .r (.x .r .r)), fun x => zq54 x.1 x.2.1 x.2.2.1 x.2.2.2, fun y => dV y, fun _ => [], fun _ _ => []⟩
theorem yasf {t f blocks r y} (hm : zq54 t f blocks r = some y) : yanu.C (t, f, blocks, r) y := yanu.c (t, f, blocks, r) hm
theorem yarc : FnOK Tryz.prog 126 yanu.S := by
 refine fm tt yanu [fo yavq, fo yavi] Tryz.call126 Tryz.func126 rfl Tryz.results126 Tryz.ntmps126 ?_
 rintro ⟨t, f, blocks, r⟩ y cx G hm
 have hm : zq54 t f blocks r = some y := hm
 unfold zq54 at hm
 refine rg G ?_
 obtain ⟨r1, h, hm⟩ := obind hm
 refine jn hm (fun v => ⟨[(8, dV v)], [], 32⟩) (fun v hm => ?_) ?_
 ·rcases bf hm with ⟨hb, hm⟩ | ⟨hb, hm⟩
  ·obtain ⟨r2, h1, hm⟩ := obind hm
   refine re G (hC 3 (yavr h) (hO 4 (.b true) (hP hb (hC 6 (yazi h1) h0)))) ?_
   exact wJ G hm
  ·refine re G (hC 3 (yavr h) (hO 4 (.b false) (hP hb h0))) ?_
   exact wJ G hm
 rintro v hm
 cases hm
 exact rt [] []
end
end Go.Proofs.YtaegkodcjpgndaaGreat
