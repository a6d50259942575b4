/- Each function computes what its model says. Made by program (dec.py). -/
import Derived.Test.YtaegkodcjpgndaaGreatDuW1
namespace Go.Proofs.YtaegkodcjpgndaaGreat
open Go Go.Ab
set_option maxRecDepth 100000
set_option maxHeartbeats 4000000
set_option linter.unusedVariables false
set_option linter.unusedSimpArgs false
noncomputable section
def yaoi : MS ((IK .u64)) Int := ⟨.r, zq42, fun y => dV y, fun _ => [], fun _ _ => []⟩
theorem yazs {x y} (hm : zq42 x = some y) : yaoi.C x y := yaoi.c x hm
theorem yavv : FnOK Tryz.prog 247 yaoi.S := by
 refine fm tt yaoi [] Tryz.call247 Tryz.func247 rfl Tryz.results247 Tryz.ntmps247 ?_
 rintro x y cx G hm
 have hm : zq42 x = some y := hm
 unfold zq42 at hm
 refine rg G (jn hm (fun (x1, v) => ⟨[(0, kV .u64 x1), (2, dV v)], [], 32⟩) (fun vv2 hm => ?_) ?_)
 ·refine rg G (cd hm (fun hm => ?_) (fun hm => ?_))
  ·obtain ⟨u, h, hm⟩ := obind hm
   refine rs G (hK h h0) ?_
   exact rh G (wJ G hm)
  ·exact X_skip (wJ G hm)
 rintro ⟨x1, v⟩ hm
 refine jn hm (fun (x2, v1) => ⟨[(0, kV .u64 x2), (2, dV v1)], [], 32⟩) (fun vv1 hm => ?_) ?_
 ·refine rg G (cd hm (fun hm => ?_) (fun hm => ?_))
  ·obtain ⟨u1, h1, hm⟩ := obind hm
   refine rs G (hK h1 h0) ?_
   exact rh G (wJ G hm)
  ·exact X_skip (wJ G hm)
 rintro ⟨x2, v1⟩ hm
 refine jn hm (fun (x3, v2) => ⟨[(0, kV .u64 x3), (2, dV v2)], [], 32⟩) (fun vv hm => ?_) ?_
 ·refine rg G (cd hm (fun hm => ?_) (fun hm => ?_))
  ·obtain ⟨u2, h2, hm⟩ := obind hm
   refine rs G (hK h2 h0) ?_
   exact rh G (wJ G hm)
  ·exact X_skip (wJ G hm)
 rintro ⟨x3, v2⟩ hm
 obtain ⟨u3, h3, hm⟩ := obind hm
 refine rs G (hK h3 h0) ?_
 cases hm
 exact rt [] []
def yaoj : MS ((IK .u64)) Int := ⟨.r, zq41, fun y => dV y, fun _ => [], fun _ _ => []⟩
theorem yavw {x y} (hm : zq41 x = some y) : yaoj.C x y := yaoj.c x hm
theorem yard : FnOK Tryz.prog 225 yaoj.S := by
 refine fm tt yaoj [fo yavv] Tryz.call225 Tryz.func225 rfl Tryz.results225 Tryz.ntmps225 ?_
 rintro x y cx G hm
 have hm : zq41 x = some y := hm
 unfold zq41 at hm
 refine rg G (Ok_seq (cF (X_skip (thN ?_))))
 obtain ⟨r, h, hm⟩ := obind hm
 refine rs G (hC 1 (yazs h) h0) ?_
 cases hm
 exact rt [] []
def zq1_M : MS Int Bool := ⟨.r, zq1, fun y => dV y, fun _ => [], fun _ _ => []⟩
theorem zq1_c {x y} (hm : zq1 x = some y) : zq1_M.C x y := zq1_M.c x hm
theorem ybae : FnOK Tryz.prog 172 zq1_M.S := by
 refine fm tt zq1_M [] Tryz.call172 Tryz.func172 rfl Tryz.results172 Tryz.ntmps172 ?_
 rintro x y cx G hm
 have hm : zq1 x = some y := hm
 unfold zq1 at hm
 refine rg G (rg G ?_)
 cases hm
 exact rt [] []
def zq0_M : MS (Int × Int) Bool := ⟨.x .r .r, fun x => zq0 x.1 x.2, fun y => dV y, fun _ => [], fun _ _ => []⟩
theorem zq0_c {x y_ y} (hm : zq0 x y_ = some y) : zq0_M.C (x, y_) y := zq0_M.c (x, y_) hm
theorem yafn : FnOK Tryz.prog 254 zq0_M.S := by
 refine fm tt zq0_M [fo ybae] Tryz.call254 Tryz.func254 rfl Tryz.results254 Tryz.ntmps254 ?_
 rintro ⟨x, y_⟩ y cx G hm
 have hm : zq0 x y_ = some y := hm
 unfold zq0 at hm
 refine rg G ?_
 obtain ⟨r, h, hm⟩ := obind hm
 refine jn hm (fun v => ⟨[(4, dV v)], [], 32⟩) (fun v hm => ?_) ?_
 ·rcases bf hm with ⟨hb, hm⟩ | ⟨hb, hm⟩
  ·obtain ⟨r1, h1, hm⟩ := obind hm
   rcases bf hm with ⟨hb1, hm⟩ | ⟨hb1, hm⟩
   ·refine re G (hC 1 (zq1_c h) (hO 2 (.b true) (hP hb (hC 4 (zq1_c h1) (hO 7 (.b true) (hP hb1 h0)))))) ?_
    exact wJ G hm
   ·refine re G (hC 1 (zq1_c h) (hO 2 (.b true) (hP hb (hC 4 (zq1_c h1) (hO 7 (.b false) (hP hb1 h0)))))) ?_
    exact wJ G hm
  ·refine re G (hC 1 (zq1_c h) (hO 2 (.b false) (hP hb h0))) ?_
   exact wJ G hm
 rintro v hm
 cases hm
 exact rt [] []
def yahk : MS ((List Int) × Int × Int) ((List Int)) := ⟨.x (.s 3) (.x .r .r), fun x => zq124 x.1 x.2.1 x.2.2, fun _ => .tup [], fun _ => [], fun _ y => [arO 3 y]⟩
theorem yaxe {data a b y} (hm : zq124 data a b = some y) : yahk.C (data, a, b) y := yahk.c (data, a, b) hm
theorem yasu : FnOK Tryz.prog 248 yahk.S := by
 refine fm tt yahk [fo yafn] Tryz.call248 Tryz.func248 rfl Tryz.results248 Tryz.ntmps248 ?_
 rintro ⟨data, a, b⟩ y cx G hm
 have hm : zq124 data a b = some y := hm
 unfold zq124 at hm
 refine rg G (Ok_block (lp G hm (fun (v, data1) => ⟨[(0, .own 0), (1, dV a), (2, dV b), (6, dV v)], [aX 0 3 data1], 48⟩) ?_))
 rintro ⟨v, data1⟩ r0 hb hm
 rw [yaeb] at hm
 refine Ok_seq (rg G (cd hm (fun hm => ?_) (fun hm => ?_)))
 ·refine X_skip (thN (Ok_seq (Ok_block (rg G (tl hm (fun data3 => ⟨[(0, .own 0), (1, dV a), (2, dV b), (6, dV v)], [aX 0 3 data3], 48⟩) (fun data3 hm => ?_) ?_)))))
  ·refine Ok_block (lp G hm (fun (v1, data2) => ⟨[(0, .own 0), (1, dV a), (2, dV b), (6, dV v), (7, dV v1)], [aX 0 3 data2], 48⟩) ?_)
   rintro ⟨v1, data2⟩ r0 hb1 hm
   rw [yaec] at hm
   refine Ok_seq (jn hm (fun v2 => ⟨[(0, .own 0), (1, dV a), (2, dV b), (6, dV v), (7, dV v1), (30, dV v2)], [aX 0 3 data2], 48⟩) (fun v2 hm => ?_) ?_)
   ·rcases bf hm with ⟨hb2, hm⟩ | ⟨hb2, hm⟩
    ·obtain ⟨e2, h3, hm⟩ := obind hm
     obtain ⟨e3, h4, hm⟩ := obind hm
     obtain ⟨r1, h5, hm⟩ := obind hm
     refine de G [] (hO 3 (.b true) (hP hb2 (hD 6 h3 (hE 7 h3 (hD 11 h4 (hE 12 h4 (hC 13 (zq0_c h5) h0))))))) ?_
     exact wJ G hm
    ·refine de G [] (hO 3 (.b false) (hP hb2 h0)) ?_
     exact wJ G hm
   rintro v2 hm
   refine cd hm (fun hm => ?_) (fun hm => ?_)
   ·refine X_skip (thN (Ok_seq (Ok_block ?_)))
    obtain ⟨e8, h10, hm⟩ := obind hm
    obtain ⟨e9, h11, hm⟩ := obind hm
    obtain ⟨e10, h12, hm⟩ := obind hm
    obtain ⟨e11, h13, hm⟩ := obind hm
    refine de G [(15, [0]), (17, [0])] (hD 8 h10 (hE 9 h10 (hD 12 h11 (hE 13 h11 (hD 14 h12 (hS 15 h12 e8 (hD 16 h13 (hS 17 h13 e9 h0)))))))) ?_
    exact ibN (thN (rh G (wL G hm)))
   ·exact Ok_exit (thE (thE (ibE (wD G hm hb1))))
  rintro data3 hm s hw
  refine ibN (thN (Ok_weak hw ?_))
  exact rh G (wL G hm)
 ·have hm := eD hm hb
  refine Ok_exit (thE (thE (ibE ?_)))
  cases hm
  exact fN [] []
def yagz : MS ((List Int) × Int × Int × Int) ((List Int)) := ⟨.x (.s 3) (.x .r (.x .r .r)), fun x => zq134 x.1 x.2.1 x.2.2.1 x.2.2.2, fun _ => .tup [], fun _ => [], fun _ y => [arO 3 y]⟩
theorem yark {data lo hi first y} (hm : zq134 data lo hi first = some y) : yagz.C (data, lo, hi, first) y := yagz.c (data, lo, hi, first) hm
theorem yask : FnOK Tryz.prog 263 yagz.S := by
 refine fm tt yagz [fo yafn] Tryz.call263 Tryz.func263 rfl Tryz.results263 Tryz.ntmps263 ?_
 rintro ⟨data, lo, hi, first⟩ y cx G hm
 have hm : zq134 data lo hi first = some y := hm
 unfold zq134 at hm
 refine rg G (Ok_block (lp G hm (fun (v, data1) => ⟨[(0, .own 0), (2, dV hi), (3, dV first), (8, dV v)], [aX 0 3 data1], 48⟩) ?_))
 rintro ⟨v, data1⟩ r0 hb hm
 rw [yadm] at hm
 refine Ok_block (rg G (Ok_seq (rg G (cd hm (fun hm => ?_) (fun hm => ?_)))))
 ·have hm := eD hm hb
  refine Ok_exit (thE (ibX rfl (thE (ibE ?_))))
  cases hm
  exact fN [] []
 ·refine X_skip (thN (jn hm (fun v1 => ⟨[(0, .own 0), (2, dV hi), (3, dV first), (8, dV v), (9, dV v1)], [aX 0 3 data1], 48⟩) (fun v1 hm => ?_) ?_))
  ·refine jn hm (fun v2 => ⟨[(0, .own 0), (2, dV hi), (3, dV first), (8, dV v), (9, dV (w64 ((w64 (2 * v)) + 1))), (36, dV v2)], [aX 0 3 data1], 48⟩) (fun v2 hm => ?_) ?_
   ·rcases bf hm with ⟨hb1, hm⟩ | ⟨hb1, hm⟩
    ·obtain ⟨e3, h3, hm⟩ := obind hm
     obtain ⟨e4, h4, hm⟩ := obind hm
     obtain ⟨r2, h5, hm⟩ := obind hm
     refine de G [] (hO 4 (.b true) (hP hb1 (hD 9 h3 (hE 10 h3 (hD 16 h4 (hE 17 h4 (hC 18 (zq0_c h5) h0))))))) ?_
     exact wJ G hm
    ·refine de G [] (hO 4 (.b false) (hP hb1 h0)) ?_
     exact wJ G hm
   rintro v2 hm
   refine cd hm (fun hm => ?_) (fun hm => ?_)
   ·exact rh G (wJ G hm)
   ·exact X_skip (wJ G hm)
  rintro v1 hm
  refine Ok_seq ?_
  obtain ⟨e7, h9, hm⟩ := obind hm
  obtain ⟨e8, h10, hm⟩ := obind hm
  obtain ⟨r4, h11, hm⟩ := obind hm
  refine ds G [] (hD 4 h9 (hE 5 h9 (hD 10 h10 (hE 11 h10 (hC 12 (zq0_c h11) h0))))) ?_
  refine cd hm (fun hm => ?_) (fun hm => ?_)
  ·have hm := eD hm hb
   cases hm
   exact rt [] []
  ·refine X_skip (thN ?_)
   obtain ⟨e14, h16, hm⟩ := obind hm
   obtain ⟨e15, h17, hm⟩ := obind hm
   obtain ⟨e16, h18, hm⟩ := obind hm
   obtain ⟨e17, h19, hm⟩ := obind hm
   refine ds G [(21, [0]), (23, [0])] (hD 12 h16 (hE 13 h16 (hD 18 h17 (hE 19 h17 (hD 20 h18 (hS 21 h18 e14 (hD 22 h19 (hS 23 h19 e15 h0)))))))) ?_
   exact rh G (ibN (wL G hm))
def yahl : MS ((List Int) × Int × Int) ((List Int)) := ⟨.x (.s 3) (.x .r .r), fun x => zq123 x.1 x.2.1 x.2.2, fun _ => .tup [], fun _ => [], fun _ y => [arO 3 y]⟩
theorem yaxf {data a b y} (hm : zq123 data a b = some y) : yahl.C (data, a, b) y := yahl.c (data, a, b) hm
theorem yasv : FnOK Tryz.prog 249 yahl.S := by
 refine fm tt yahl [fo yask] Tryz.call249 Tryz.func249 rfl Tryz.results249 Tryz.ntmps249 ?_
 rintro ⟨data, a, b⟩ y cx G hm
 have hm : zq123 data a b = some y := hm
 unfold zq123 at hm
 refine rg G (rg G (rg G (Ok_seq ?_)))
 obtain ⟨u, h, hm⟩ := obind hm
 refine rs G (hK h h0) ?_
 refine tl hm (fun data2 => ⟨[(0, .own 0), (6, dV a), (7, kV .i64 0), (8, dV (w64 (b - a)))], [aX 0 3 data2], 48⟩) (fun data2 hm => ?_) ?_
 ·refine Ok_block (lp G hm (fun (v, data1) => ⟨[(0, .own 0), (6, dV a), (7, kV .i64 0), (8, dV (w64 (b - a))), (9, dV v)], [aX 0 3 data1], 48⟩) ?_)
  rintro ⟨v, data1⟩ r0 hb hm
  rw [yaee] at hm
  refine Ok_seq (rg G (cd hm (fun hm => ?_) (fun hm => ?_)))
  ·refine X_skip (thN (Ok_seq (Ok_block ?_)))
   obtain ⟨r, h1, hm⟩ := obind hm
   refine re G (hC 4 (yark h1) h0) ?_
   exact ibN (thN (rh G (wL G hm)))
  ·exact Ok_exit (thE (thE (ibE (wD G hm hb))))
 rintro data2 hm s hw
 refine thN (Ok_weak hw ?_)
 refine rg G (Ok_block (lp G hm (fun (v1, data3) => ⟨[(0, .own 0), (6, dV a), (7, kV .i64 0), (10, dV v1)], [aX 0 3 data3], 48⟩) ?_))
 rintro ⟨v1, data3⟩ r0 hb1 hm
 rw [yaed] at hm
 refine Ok_seq (rg G (cd hm (fun hm => ?_) (fun hm => ?_)))
 ·refine X_skip (thN (Ok_seq (Ok_block ?_)))
  obtain ⟨e4, h6, hm⟩ := obind hm
  obtain ⟨e5, h7, hm⟩ := obind hm
  obtain ⟨e6, h8, hm⟩ := obind hm
  obtain ⟨e7, h9, hm⟩ := obind hm
  refine ds G [(17, [0]), (19, [0])] (hD 10 h6 (hE 11 h6 (hD 14 h7 (hE 15 h7 (hD 16 h8 (hS 17 h8 e4 (hD 18 h9 (hS 19 h9 e5 h0)))))))) ?_
  obtain ⟨r1, h10, hm⟩ := obind hm
  refine re G (hC 4 (yark h10) h0) ?_
  exact ibN (thN (rh G (wL G hm)))
 ·have hm := eD hm hb1
  refine Ok_exit (thE (thE (ibE ?_)))
  cases hm
  exact fN [] []
def yahg : MS ((List Int) × Int × Int × Int) (Int × Int × Int) := ⟨.x .r (.x .r (.x .r .b)), fun x => zq128 x.1 x.2.1 x.2.2.1 x.2.2.2, fun y => .tup [dV y.1, dV y.2.1], fun _ => [], fun _ y => [bxO y.2.2]⟩
theorem yakl {data a b swaps y} (hm : zq128 data a b swaps = some y) : yahg.C (data, a, b, swaps) y := yahg.c (data, a, b, swaps) hm
theorem yasr : FnOK Tryz.prog 268 yahg.S := by
 refine fm tt yahg [fo yafn] Tryz.call268 Tryz.func268 rfl Tryz.results268 Tryz.ntmps268 ?_
 rintro ⟨data, a, b, swaps⟩ y cx G hm
 have hm : zq128 data a b swaps = some y := hm
 unfold zq128 at hm
 refine rg G (Ok_seq ?_)
 obtain ⟨e2, h3, hm⟩ := obind hm
 obtain ⟨e3, h4, hm⟩ := obind hm
 obtain ⟨r1, h5, hm⟩ := obind hm
 refine ds G [] (hD 2 h3 (hD 6 h4 (hC 8 (zq0_c h5) h0))) ?_
 refine cd hm (fun hm => ?_) (fun hm => ?_)
 ·refine rg G (rg G ?_)
  cases hm
  exact rt [] []
 ·refine X_skip (thN (rg G ?_))
  cases hm
  exact rt [] []
def yahi : MS ((List Int) × Int × Int × Int × Int) (Int × Int) := ⟨.x .r (.x .r (.x .r (.x .r .b))), fun x => zq126 x.1 x.2.1 x.2.2.1 x.2.2.2.1 x.2.2.2.2, fun y => dV y.1, fun _ => [], fun _ y => [bxO y.2]⟩
theorem yarl {data a b c swaps y} (hm : zq126 data a b c swaps = some y) : yahi.C (data, a, b, c, swaps) y := yahi.c (data, a, b, c, swaps) hm
theorem yakm : FnOK Tryz.prog 265 yahi.S := by
 refine fm tt yahi [fo yasr] Tryz.call265 Tryz.func265 rfl Tryz.results265 Tryz.ntmps265 ?_
 rintro ⟨data, a, b, c, swaps⟩ y cx G hm
 have hm : zq126 data a b c swaps = some y := hm
 unfold zq126 at hm
 refine rg G ?_
 obtain ⟨r, h, hm⟩ := obind hm
 refine rs G (hC 4 (yakl h) h0) ?_
 obtain ⟨r1, h1, hm⟩ := obind hm
 refine rs G (hC 4 (yakl h1) h0) ?_
 obtain ⟨r2, h2, hm⟩ := obind hm
 refine rs G (hC 4 (yakl h2) h0) ?_
 refine rg G ?_
 cases hm
 exact rt [] []
def yahj : MS ((List Int) × Int × Int) (Int × Int) := ⟨.x .r (.x .r .b), fun x => zq125 x.1 x.2.1 x.2.2, fun y => dV y.1, fun _ => [], fun _ y => [bxO y.2]⟩
theorem yakn {data a swaps y} (hm : zq125 data a swaps = some y) : yahj.C (data, a, swaps) y := yahj.c (data, a, swaps) hm
theorem yast : FnOK Tryz.prog 264 yahj.S := by
 refine fm tt yahj [fo yakm] Tryz.call264 Tryz.func264 rfl Tryz.results264 Tryz.ntmps264 ?_
 rintro ⟨data, a, swaps⟩ y cx G hm
 have hm : zq125 data a swaps = some y := hm
 unfold zq125 at hm
 refine rg G ?_
 obtain ⟨r, h, hm⟩ := obind hm
 refine rs G (hC 7 (yarl h) h0) ?_
 cases hm
 exact rt [] []
def yahm : MS ((List Int) × Int × Int) (Int × Int) := ⟨.x .r (.x .r .r), fun x => zq122 x.1 x.2.1 x.2.2, fun y => .tup [dV y.1, dV y.2], fun _ => [], fun _ _ => []⟩
theorem yaxg {data a b y} (hm : zq122 data a b = some y) : yahm.C (data, a, b) y := yahm.c (data, a, b) hm
theorem yasw : FnOK Tryz.prog 251 yahm.S := by
 refine fm tt yahm [fo yast, fo yakm] Tryz.call251 Tryz.func251 rfl Tryz.results251 Tryz.ntmps251 ?_
 rintro ⟨data, a, b⟩ y cx G hm
 have hm : zq122 data a b = some y := hm
 unfold zq122 at hm
 refine rg G (rg G (rg G ?_))
 obtain ⟨u, h, hm⟩ := obind hm
 refine rs G (hK h h0) ?_
 obtain ⟨u1, h1, hm⟩ := obind hm
 refine rs G (hK h1 h0) ?_
 obtain ⟨u2, h2, hm⟩ := obind hm
 refine rs G (hK h2 h0) ?_
 refine jn hm (fun (v, v1) => ⟨[(9, .ref 16 0), (11, dV v)], [bX 16 [dV v1]], 48⟩) (fun vv1 hm => ?_) ?_
 ·refine rg G (cd hm (fun hm => ?_) (fun hm => ?_))
  ·refine jn hm (fun (v2, v3, v4, v5) => ⟨[(0, dV data), (9, .ref 16 0), (10, dV v2), (11, dV v3), (12, dV v4)], [bX 16 [dV v5]], 48⟩) (fun vv hm => ?_) ?_
   ·refine rg G (cd hm (fun hm => ?_) (fun hm => ?_))
    ·obtain ⟨r, h3, hm⟩ := obind hm
     refine rs G (hC 2 (yakn h3) h0) ?_
     obtain ⟨r1, h4, hm⟩ := obind hm
     refine rs G (hC 2 (yakn h4) h0) ?_
     obtain ⟨r2, h5, hm⟩ := obind hm
     refine re G (hC 2 (yakn h5) h0) ?_
     exact wJ G hm
    ·exact X_skip (wJ G hm)
   rintro ⟨v2, v3, v4, v5⟩ hm
   obtain ⟨r3, h6, hm⟩ := obind hm
   refine re G (hC 4 (yarl h6) h0) ?_
   exact wJ G hm
  ·exact X_skip (wJ G hm)
 rintro ⟨v, v1⟩ hm
 refine rg G (Ok_block (rg G (cd hm (fun hm => ?_) (fun hm => ?_))))
 ·refine rg G ?_
  cases hm
  exact rt [] []
 ·refine rg G (cd hm (fun hm => ?_) (fun hm => ?_))
  ·refine rg G ?_
   cases hm
   exact rt [] []
  ·refine rg G ?_
   cases hm
   exact rt [] []
def yaha : MS ((List Int) × Int × Int) ((List Int)) := ⟨.x (.s 3) (.x .r .r), fun x => zq133 x.1 x.2.1 x.2.2, fun _ => .tup [], fun _ => [], fun _ y => [arO 3 y]⟩
theorem yawx {data a b y} (hm : zq133 data a b = some y) : yaha.C (data, a, b) y := yaha.c (data, a, b) hm
theorem yasl : FnOK Tryz.prog 252 yaha.S := by
 refine fm tt yaha [] Tryz.call252 Tryz.func252 rfl Tryz.results252 Tryz.ntmps252 ?_
 rintro ⟨data, a, b⟩ y cx G hm
 have hm : zq133 data a b = some y := hm
 unfold zq133 at hm
 refine rg G (rg G (Ok_block (lp G hm (fun (v, v1, data1) => ⟨[(0, .own 0), (6, dV v), (7, dV v1)], [aX 0 3 data1], 48⟩) ?_)))
 rintro ⟨v, v1, data1⟩ r0 hb hm
 rw [yadn] at hm
 refine Ok_seq (rg G (cd hm (fun hm => ?_) (fun hm => ?_)))
 ·refine X_skip (thN (Ok_block ?_))
  obtain ⟨e4, h4, hm⟩ := obind hm
  obtain ⟨e5, h5, hm⟩ := obind hm
  obtain ⟨e6, h6, hm⟩ := obind hm
  obtain ⟨e7, h7, hm⟩ := obind hm
  refine ds G [(13, [0]), (15, [0])] (hD 6 h4 (hE 7 h4 (hD 10 h5 (hE 11 h5 (hD 12 h6 (hS 13 h6 e4 (hD 14 h7 (hS 15 h7 e5 h0)))))))) ?_
  exact rg G (rh G (ibN (wL G hm)))
 ·have hm := eD hm hb
  refine Ok_exit (thE (thE (ibE ?_)))
  cases hm
  exact fN [] []
def yahf : MS ((List Int) × Int × Int) (Bool × (List Int)) := ⟨.x (.s 3) (.x .r .r), fun x => zq129 x.1 x.2.1 x.2.2, fun y => dV y.1, fun _ => [], fun _ y => [arO 3 y.2]⟩
theorem yaxc {data a b y} (hm : zq129 data a b = some y) : yahf.C (data, a, b) y := yahf.c (data, a, b) hm
theorem yasq : FnOK Tryz.prog 253 yahf.S := by
 refine fm tt yahf [fo yafn] Tryz.call253 Tryz.func253 rfl Tryz.results253 Tryz.ntmps253 ?_
 rintro ⟨data, a, b⟩ y cx G hm
 have hm : zq129 data a b = some y := hm
 unfold zq129 at hm
 refine rg G (rg G (Ok_seq (rg G (tF hm (fun data8 => ⟨[(0, .own 0)], [aX 0 3 data8], 48⟩) (fun v5 hr hm => ?_) ?_))))
 ·refine Ok_block (lp G hm (fun (j, v, data1) => ⟨[(0, .own 0), (1, dV a), (2, dV b), (7, dV j), (8, dV v)], [aX 0 3 data1], 48⟩) ?_)
  rintro ⟨j, v, data1⟩ r0 hb hm
  rw [yadx] at hm
  refine Ok_seq (rg G (cd hm (fun hm => ?_) (fun hm => ?_)))
  ·refine X_skip (thN (jF hm (fun (j1, data2) => ⟨[(0, .own 0), (1, dV a), (2, dV b), (7, dV j1), (8, dV v)], [aX 0 3 data2], 48⟩) (fun v4 hr1 hm => ?_) ?_))
   ·refine Ok_block (jn hm (fun j3 => ⟨[(0, .own 0), (1, dV a), (2, dV b), (7, dV j3), (8, dV v)], [aX 0 3 data1], 48⟩) (fun j3 hm => ?_) ?_)
    ·refine Ok_block (lp G hm (fun j2 => ⟨[(0, .own 0), (1, dV a), (2, dV b), (7, dV j2), (8, dV v)], [aX 0 3 data1], 48⟩) ?_)
     rintro j2 r0 hb1 hm
     rw [yaea] at hm
     refine Ok_seq (jn hm (fun v1 => ⟨[(0, .own 0), (1, dV a), (2, dV b), (7, dV j2), (8, dV v), (32, dV v1)], [aX 0 3 data1], 48⟩) (fun v1 hm => ?_) ?_)
     ·rcases bf hm with ⟨hb2, hm⟩ | ⟨hb2, hm⟩
      ·obtain ⟨e2, h3, hm⟩ := obind hm
       obtain ⟨e3, h4, hm⟩ := obind hm
       obtain ⟨r1, h5, hm⟩ := obind hm
       refine de G [] (hO 3 (.b true) (hP hb2 (hD 6 h3 (hE 7 h3 (hD 11 h4 (hE 12 h4 (hC 13 (zq0_c h5) h0))))))) ?_
       exact wJ G hm
      ·refine de G [] (hO 3 (.b false) (hP hb2 h0)) ?_
       exact wJ G hm
     rintro v1 hm
     refine cd hm (fun hm => ?_) (fun hm => ?_)
     ·exact X_skip (thN (Ok_block (rh G (ibN (wL G hm)))))
     ·exact Ok_exit (thE (thE (ibE (wD G hm hb1))))
    rintro j3 hm
    refine Ok_seq (rg G (cd hm (fun hm => ?_) (fun hm => ?_)))
    ·refine rg G ?_
     have hm := eR hm hr1
     have hm := eL hm hb hr
     cases hm
     exact rt [] []
    ·refine X_skip (thN (Ok_seq (rg G (cd hm (fun hm => ?_) (fun hm => ?_)))))
     ·refine rg G ?_
      have hm := eR hm hr1
      have hm := eL hm hb hr
      cases hm
      exact rt [] []
     ·refine X_skip (thN ?_)
      obtain ⟨e12, h10, hm⟩ := obind hm
      obtain ⟨e13, h11, hm⟩ := obind hm
      obtain ⟨e14, h12, hm⟩ := obind hm
      obtain ⟨e15, h13, hm⟩ := obind hm
      refine ds G [(15, [0]), (17, [0])] (hD 8 h10 (hE 9 h10 (hD 12 h11 (hE 13 h11 (hD 14 h12 (hS 15 h12 e12 (hD 16 h13 (hS 17 h13 e13 h0)))))))) ?_
      refine jn hm (fun data3 => ⟨[(0, .own 0), (1, dV a), (2, dV b), (7, dV j3), (8, dV v)], [aX 0 3 data3], 48⟩) (fun data3 hm => ?_) ?_
      ·refine rg G (cd hm (fun hm => ?_) (fun hm => ?_))
       ·refine rg G (tl hm (fun data5 => ⟨[(0, .own 0), (1, dV a), (2, dV b), (7, dV j3), (8, dV v)], [aX 0 3 data5], 48⟩) (fun data5 hm => ?_) ?_)
        ·refine Ok_block (lp G hm (fun (v2, data4) => ⟨[(0, .own 0), (1, dV a), (2, dV b), (7, dV j3), (8, dV v), (9, dV v2)], [aX 0 3 data4], 48⟩) ?_)
         rintro ⟨v2, data4⟩ r0 hb3 hm
         rw [yadz] at hm
         refine Ok_seq (rg G (cd hm (fun hm => ?_) (fun hm => ?_)))
         ·refine X_skip (thN (Ok_seq (Ok_block (Ok_seq ?_))))
          obtain ⟨e18, h17, hm⟩ := obind hm
          obtain ⟨e19, h18, hm⟩ := obind hm
          obtain ⟨r7, h19, hm⟩ := obind hm
          refine ds G [] (hD 2 h17 (hE 3 h17 (hD 7 h18 (hE 8 h18 (hC 9 (zq0_c h19) h0))))) ?_
          refine cd hm (fun hm => ?_) (fun hm => ?_)
          ·exact Ok_exit (thE (ibX rfl (thE (thE (ibE (wD G hm hb3))))))
          ·refine X_skip (thN ?_)
           obtain ⟨e24, h24, hm⟩ := obind hm
           obtain ⟨e25, h25, hm⟩ := obind hm
           obtain ⟨e26, h26, hm⟩ := obind hm
           obtain ⟨e27, h27, hm⟩ := obind hm
           refine de G [(15, [0]), (17, [0])] (hD 8 h24 (hE 9 h24 (hD 12 h25 (hE 13 h25 (hD 14 h26 (hS 15 h26 e24 (hD 16 h27 (hS 17 h27 e25 h0)))))))) ?_
           exact ibN (thN (rh G (wL G hm)))
         ·exact Ok_exit (thE (thE (ibE (wD G hm hb3))))
        rintro data5 hm s hw
        exact wJp hm (Wk.trans hw (Wk_J G.hL ⟨[(0, []), (1, []), (2, []), (7, []), (8, [])], [(0, 0, [])], [], 48⟩ (by kernel_rfl)))
       ·exact X_skip (wJ G hm)
      rintro data3 hm
      refine rg G (cd hm (fun hm => ?_) (fun hm => ?_))
      ·refine rg G (tl hm (fun data7 => ⟨[(0, .own 0), (1, dV a), (2, dV b), (7, dV j3), (8, dV v)], [aX 0 3 data7], 48⟩) (fun data7 hm => ?_) ?_)
       ·refine Ok_block (lp G hm (fun (v3, data6) => ⟨[(0, .own 0), (1, dV a), (2, dV b), (7, dV j3), (8, dV v), (10, dV v3)], [aX 0 3 data6], 48⟩) ?_)
        rintro ⟨v3, data6⟩ r0 hb4 hm
        rw [yady] at hm
        refine Ok_seq (rg G (cd hm (fun hm => ?_) (fun hm => ?_)))
        ·refine X_skip (thN (Ok_seq (Ok_block (Ok_seq ?_))))
         obtain ⟨e30, h31, hm⟩ := obind hm
         obtain ⟨e31, h32, hm⟩ := obind hm
         obtain ⟨r9, h33, hm⟩ := obind hm
         refine ds G [] (hD 2 h31 (hE 3 h31 (hD 7 h32 (hE 8 h32 (hC 9 (zq0_c h33) h0))))) ?_
         refine cd hm (fun hm => ?_) (fun hm => ?_)
         ·exact Ok_exit (thE (ibX rfl (thE (thE (ibE (wD G hm hb4))))))
         ·refine X_skip (thN ?_)
          obtain ⟨e36, h38, hm⟩ := obind hm
          obtain ⟨e37, h39, hm⟩ := obind hm
          obtain ⟨e38, h40, hm⟩ := obind hm
          obtain ⟨e39, h41, hm⟩ := obind hm
          refine de G [(15, [0]), (17, [0])] (hD 8 h38 (hE 9 h38 (hD 12 h39 (hE 13 h39 (hD 14 h40 (hS 15 h40 e36 (hD 16 h41 (hS 17 h41 e37 h0)))))))) ?_
          exact ibN (thN (rh G (wL G hm)))
        ·exact Ok_exit (thE (thE (ibE (wD G hm hb4))))
       rintro data7 hm s1 hw1
       exact ibN (wFp hm (Wk.trans hw1 (Wk_J G.hL ⟨[(0, []), (1, []), (2, []), (7, []), (8, [])], [(0, 0, [])], [], 48⟩ (by kernel_rfl))))
      ·exact X_skip (ibN (wF G hm))
   rintro ⟨j1, data2⟩ hm
   exact rh G (wL G hm)
  ·exact Ok_exit (thE (thE (ibE (wE G hm hb))))
 rintro data8 hm s2 hw2
 refine thN (Ok_weak hw2 ?_)
 refine rg G ?_
 cases hm
 exact rt [] []
def yahd : MS ((List Int) × Int × Int × Int) (Int × (List Int)) := ⟨.x (.s 3) (.x .r (.x .r .r)), fun x => zq130 x.1 x.2.1 x.2.2.1 x.2.2.2, fun y => dV y.1, fun _ => [], fun _ y => [arO 3 y.2]⟩
theorem yaxa {data a b pivot y} (hm : zq130 data a b pivot = some y) : yahd.C (data, a, b, pivot) y := yahd.c (data, a, b, pivot) hm
theorem yaso : FnOK Tryz.prog 255 yahd.S := by
 refine fm tt yahd [fo yafn] Tryz.call255 Tryz.func255 rfl Tryz.results255 Tryz.ntmps255 ?_
 rintro ⟨data, a, b, pivot⟩ y cx G hm
 have hm : zq130 data a b pivot = some y := hm
 unfold zq130 at hm
 refine rg G ?_
 obtain ⟨e4, h4, hm⟩ := obind hm
 obtain ⟨e5, h5, hm⟩ := obind hm
 obtain ⟨e6, h6, hm⟩ := obind hm
 obtain ⟨e7, h7, hm⟩ := obind hm
 refine ds G [(13, [0]), (15, [0])] (hD 6 h4 (hE 7 h4 (hD 10 h5 (hE 11 h5 (hD 12 h6 (hS 13 h6 e4 (hD 14 h7 (hS 15 h7 e5 h0)))))))) ?_
 refine rg G (jn hm (fun (v8, data2) => ⟨[(0, .own 0), (9, dV v8)], [aX 0 3 data2], 48⟩) (fun vv hm => ?_) ?_)
 ·refine Ok_block (lp G hm (fun (v, v1, data1) => ⟨[(0, .own 0), (1, dV a), (9, dV v), (10, dV v1)], [aX 0 3 data1], 48⟩) ?_)
  rintro ⟨v, v1, data1⟩ r0 hb hm
  rw [yadu] at hm
  refine Ok_block (jn hm (fun v4 => ⟨[(0, .own 0), (1, dV a), (9, dV v4), (10, dV v1)], [aX 0 3 data1], 48⟩) (fun v4 hm => ?_) ?_)
  ·refine Ok_block (lp G hm (fun v2 => ⟨[(0, .own 0), (1, dV a), (9, dV v2), (10, dV v1)], [aX 0 3 data1], 48⟩) ?_)
   rintro v2 r0 hb1 hm
   rw [yadw] at hm
   refine Ok_seq (jn hm (fun v3 => ⟨[(0, .own 0), (1, dV a), (9, dV v2), (10, dV v1), (43, dV v3)], [aX 0 3 data1], 48⟩) (fun v3 hm => ?_) ?_)
   ·rcases bf hm with ⟨hb2, hm⟩ | ⟨hb2, hm⟩
    ·obtain ⟨e10, h11, hm⟩ := obind hm
     obtain ⟨e11, h12, hm⟩ := obind hm
     obtain ⟨r1, h13, hm⟩ := obind hm
     refine de G [] (hO 3 (.b true) (hP hb2 (hD 6 h11 (hE 7 h11 (hD 10 h12 (hE 11 h12 (hC 12 (zq0_c h13) h0))))))) ?_
     exact wJ G hm
    ·refine de G [] (hO 3 (.b false) (hP hb2 h0)) ?_
     exact wJ G hm
   rintro v3 hm
   refine cd hm (fun hm => ?_) (fun hm => ?_)
   ·exact X_skip (thN (Ok_block (rh G (ibN (wL G hm)))))
   ·exact Ok_exit (thE (thE (ibE (wD G hm hb1))))
  rintro v4 hm
  refine jn hm (fun v7 => ⟨[(0, .own 0), (1, dV a), (9, dV v4), (10, dV v7)], [aX 0 3 data1], 48⟩) (fun v7 hm => ?_) ?_
  ·refine Ok_block (lp G hm (fun v5 => ⟨[(0, .own 0), (1, dV a), (9, dV v4), (10, dV v5)], [aX 0 3 data1], 48⟩) ?_)
   rintro v5 r0 hb3 hm
   rw [yadv] at hm
   refine Ok_seq (jn hm (fun v6 => ⟨[(0, .own 0), (1, dV a), (9, dV v4), (10, dV v5), (59, dV v6)], [aX 0 3 data1], 48⟩) (fun v6 hm => ?_) ?_)
   ·rcases bf hm with ⟨hb4, hm⟩ | ⟨hb4, hm⟩
    ·obtain ⟨e14, h17, hm⟩ := obind hm
     obtain ⟨e15, h18, hm⟩ := obind hm
     obtain ⟨r3, h19, hm⟩ := obind hm
     refine de G [] (hO 3 (.b true) (hP hb4 (hD 6 h17 (hE 7 h17 (hD 10 h18 (hE 11 h18 (hC 12 (zq0_c h19) h0))))))) ?_
     exact wJ G hm
    ·refine de G [] (hO 3 (.b false) (hP hb4 h0)) ?_
     exact wJ G hm
   rintro v6 hm
   refine cd hm (fun hm => ?_) (fun hm => ?_)
   ·exact X_skip (thN (Ok_block (rh G (ibN (wL G hm)))))
   ·exact Ok_exit (thE (thE (ibE (wD G hm hb3))))
  rintro v7 hm
  refine Ok_seq (rg G (cd hm (fun hm => ?_) (fun hm => ?_)))
  ·exact Ok_exit (thE (ibX rfl (thE (ibE (wD G hm hb)))))
  ·refine X_skip (thN ?_)
   obtain ⟨e20, h24, hm⟩ := obind hm
   obtain ⟨e21, h25, hm⟩ := obind hm
   obtain ⟨e22, h26, hm⟩ := obind hm
   obtain ⟨e23, h27, hm⟩ := obind hm
   refine ds G [(13, [0]), (15, [0])] (hD 6 h24 (hE 7 h24 (hD 10 h25 (hE 11 h25 (hD 12 h26 (hS 13 h26 e20 (hD 14 h27 (hS 15 h27 e21 h0)))))))) ?_
   exact rg G (rh G (ibN (wL G hm)))
 rintro ⟨v8, data2⟩ hm
 refine rg G ?_
 cases hm
 exact rt [] []
def yahc : MS ((List Int) × Int × Int × Int) (Int × Bool × (List Int)) := ⟨.x (.s 3) (.x .r (.x .r .r)), fun x => zq131 x.1 x.2.1 x.2.2.1 x.2.2.2, fun y => .tup [dV y.1, dV y.2.1], fun _ => [], fun _ y => [arO 3 y.2.2]⟩
theorem yawz {data a b pivot y} (hm : zq131 data a b pivot = some y) : yahc.C (data, a, b, pivot) y := yahc.c (data, a, b, pivot) hm
theorem yasn : FnOK Tryz.prog 256 yahc.S := by
 refine fm tt yahc [fo yafn] Tryz.call256 Tryz.func256 rfl Tryz.results256 Tryz.ntmps256 ?_
 rintro ⟨data, a, b, pivot⟩ y cx G hm
 have hm : zq131 data a b pivot = some y := hm
 unfold zq131 at hm
 refine rg G ?_
 obtain ⟨e4, h4, hm⟩ := obind hm
 obtain ⟨e5, h5, hm⟩ := obind hm
 obtain ⟨e6, h6, hm⟩ := obind hm
 obtain ⟨e7, h7, hm⟩ := obind hm
 refine ds G [(13, [0]), (15, [0])] (hD 6 h4 (hE 7 h4 (hD 10 h5 (hE 11 h5 (hD 12 h6 (hS 13 h6 e4 (hD 14 h7 (hS 15 h7 e5 h0)))))))) ?_
 refine rg G (jn hm (fun v2 => ⟨[(0, .own 0), (1, dV a), (10, dV v2), (11, dV (w64 (b - 1)))], [aX 0 3 ((data.set a.toNat e4).set pivot.toNat e5)], 48⟩) (fun v2 hm => ?_) ?_)
 ·refine Ok_block (lp G hm (fun v => ⟨[(0, .own 0), (1, dV a), (10, dV v), (11, dV (w64 (b - 1)))], [aX 0 3 ((data.set a.toNat e4).set pivot.toNat e5)], 48⟩) ?_)
  rintro v r0 hb hm
  rw [yadt] at hm
  refine Ok_seq (jn hm (fun v1 => ⟨[(0, .own 0), (1, dV a), (10, dV v), (11, dV (w64 (b - 1))), (43, dV v1)], [aX 0 3 ((data.set a.toNat e4).set pivot.toNat e5)], 48⟩) (fun v1 hm => ?_) ?_)
  ·rcases bf hm with ⟨hb1, hm⟩ | ⟨hb1, hm⟩
   ·obtain ⟨e10, h11, hm⟩ := obind hm
    obtain ⟨e11, h12, hm⟩ := obind hm
    obtain ⟨r1, h13, hm⟩ := obind hm
    refine de G [] (hO 3 (.b true) (hP hb1 (hD 6 h11 (hE 7 h11 (hD 10 h12 (hE 11 h12 (hC 12 (zq0_c h13) h0))))))) ?_
    exact wJ G hm
   ·refine de G [] (hO 3 (.b false) (hP hb1 h0)) ?_
    exact wJ G hm
  rintro v1 hm
  refine cd hm (fun hm => ?_) (fun hm => ?_)
  ·exact X_skip (thN (Ok_block (rh G (ibN (wL G hm)))))
  ·exact Ok_exit (thE (thE (ibE (wD G hm hb))))
 rintro v2 hm
 refine jn hm (fun v5 => ⟨[(0, .own 0), (1, dV a), (10, dV v2), (11, dV v5)], [aX 0 3 ((data.set a.toNat e4).set pivot.toNat e5)], 48⟩) (fun v5 hm => ?_) ?_
 ·refine Ok_block (lp G hm (fun v3 => ⟨[(0, .own 0), (1, dV a), (10, dV v2), (11, dV v3)], [aX 0 3 ((data.set a.toNat e4).set pivot.toNat e5)], 48⟩) ?_)
  rintro v3 r0 hb2 hm
  rw [yads] at hm
  refine Ok_seq (jn hm (fun v4 => ⟨[(0, .own 0), (1, dV a), (10, dV v2), (11, dV v3), (60, dV v4)], [aX 0 3 ((data.set a.toNat e4).set pivot.toNat e5)], 48⟩) (fun v4 hm => ?_) ?_)
  ·rcases bf hm with ⟨hb3, hm⟩ | ⟨hb3, hm⟩
   ·obtain ⟨e14, h17, hm⟩ := obind hm
    obtain ⟨e15, h18, hm⟩ := obind hm
    obtain ⟨r3, h19, hm⟩ := obind hm
    refine de G [] (hO 3 (.b true) (hP hb3 (hD 6 h17 (hE 7 h17 (hD 10 h18 (hE 11 h18 (hC 12 (zq0_c h19) h0))))))) ?_
    exact wJ G hm
   ·refine de G [] (hO 3 (.b false) (hP hb3 h0)) ?_
    exact wJ G hm
  rintro v4 hm
  refine cd hm (fun hm => ?_) (fun hm => ?_)
  ·exact X_skip (thN (Ok_block (rh G (ibN (wL G hm)))))
  ·exact Ok_exit (thE (thE (ibE (wD G hm hb2))))
 rintro v5 hm
 refine Ok_seq (rg G (cd hm (fun hm => ?_) (fun hm => ?_)))
 ·obtain ⟨e20, h24, hm⟩ := obind hm
  obtain ⟨e21, h25, hm⟩ := obind hm
  obtain ⟨e22, h26, hm⟩ := obind hm
  obtain ⟨e23, h27, hm⟩ := obind hm
  refine ds G [(13, [0]), (15, [0])] (hD 6 h24 (hE 7 h24 (hD 10 h25 (hE 11 h25 (hD 12 h26 (hS 13 h26 e20 (hD 14 h27 (hS 15 h27 e21 h0)))))))) ?_
  refine rg G ?_
  cases hm
  exact rt [] []
 ·refine X_skip (thN ?_)
  obtain ⟨e28, h32, hm⟩ := obind hm
  obtain ⟨e29, h33, hm⟩ := obind hm
  obtain ⟨e30, h34, hm⟩ := obind hm
  obtain ⟨e31, h35, hm⟩ := obind hm
  refine ds G [(13, [0]), (15, [0])] (hD 6 h32 (hE 7 h32 (hD 10 h33 (hE 11 h33 (hD 12 h34 (hS 13 h34 e28 (hD 14 h35 (hS 15 h35 e29 h0)))))))) ?_
  refine rg G (rg G (jn hm (fun (v14, data2) => ⟨[(0, .own 0), (1, dV a), (11, dV v14)], [aX 0 3 data2], 48⟩) (fun vv hm => ?_) ?_))
  ·refine Ok_block (lp G hm (fun (v6, v7, data1) => ⟨[(0, .own 0), (1, dV a), (10, dV v6), (11, dV v7)], [aX 0 3 data1], 48⟩) ?_)
   rintro ⟨v6, v7, data1⟩ r0 hb4 hm
   rw [yadp] at hm
   refine Ok_block (jn hm (fun v10 => ⟨[(0, .own 0), (1, dV a), (10, dV v10), (11, dV v7)], [aX 0 3 data1], 48⟩) (fun v10 hm => ?_) ?_)
   ·refine Ok_block (lp G hm (fun v8 => ⟨[(0, .own 0), (1, dV a), (10, dV v8), (11, dV v7)], [aX 0 3 data1], 48⟩) ?_)
    rintro v8 r0 hb5 hm
    rw [yadr] at hm
    refine Ok_seq (jn hm (fun v9 => ⟨[(0, .own 0), (1, dV a), (10, dV v8), (11, dV v7), (112, dV v9)], [aX 0 3 data1], 48⟩) (fun v9 hm => ?_) ?_)
    ·rcases bf hm with ⟨hb6, hm⟩ | ⟨hb6, hm⟩
     ·obtain ⟨e34, h39, hm⟩ := obind hm
      obtain ⟨e35, h40, hm⟩ := obind hm
      obtain ⟨r5, h41, hm⟩ := obind hm
      refine de G [] (hO 3 (.b true) (hP hb6 (hD 6 h39 (hE 7 h39 (hD 10 h40 (hE 11 h40 (hC 12 (zq0_c h41) h0))))))) ?_
      exact wJ G hm
     ·refine de G [] (hO 3 (.b false) (hP hb6 h0)) ?_
      exact wJ G hm
    rintro v9 hm
    refine cd hm (fun hm => ?_) (fun hm => ?_)
    ·exact X_skip (thN (Ok_block (rh G (ibN (wL G hm)))))
    ·exact Ok_exit (thE (thE (ibE (wD G hm hb5))))
   rintro v10 hm
   refine jn hm (fun v13 => ⟨[(0, .own 0), (1, dV a), (10, dV v10), (11, dV v13)], [aX 0 3 data1], 48⟩) (fun v13 hm => ?_) ?_
   ·refine Ok_block (lp G hm (fun v11 => ⟨[(0, .own 0), (1, dV a), (10, dV v10), (11, dV v11)], [aX 0 3 data1], 48⟩) ?_)
    rintro v11 r0 hb7 hm
    rw [yadq] at hm
    refine Ok_seq (jn hm (fun v12 => ⟨[(0, .own 0), (1, dV a), (10, dV v10), (11, dV v11), (129, dV v12)], [aX 0 3 data1], 48⟩) (fun v12 hm => ?_) ?_)
    ·rcases bf hm with ⟨hb8, hm⟩ | ⟨hb8, hm⟩
     ·obtain ⟨e38, h45, hm⟩ := obind hm
      obtain ⟨e39, h46, hm⟩ := obind hm
      obtain ⟨r7, h47, hm⟩ := obind hm
      refine de G [] (hO 3 (.b true) (hP hb8 (hD 6 h45 (hE 7 h45 (hD 10 h46 (hE 11 h46 (hC 12 (zq0_c h47) h0))))))) ?_
      exact wJ G hm
     ·refine de G [] (hO 3 (.b false) (hP hb8 h0)) ?_
      exact wJ G hm
    rintro v12 hm
    refine cd hm (fun hm => ?_) (fun hm => ?_)
    ·exact X_skip (thN (Ok_block (rh G (ibN (wL G hm)))))
    ·exact Ok_exit (thE (thE (ibE (wD G hm hb7))))
   rintro v13 hm
   refine Ok_seq (rg G (cd hm (fun hm => ?_) (fun hm => ?_)))
   ·exact Ok_exit (thE (ibX rfl (thE (ibE (wD G hm hb4)))))
   ·refine X_skip (thN ?_)
    obtain ⟨e44, h52, hm⟩ := obind hm
    obtain ⟨e45, h53, hm⟩ := obind hm
    obtain ⟨e46, h54, hm⟩ := obind hm
    obtain ⟨e47, h55, hm⟩ := obind hm
    refine ds G [(13, [0]), (15, [0])] (hD 6 h52 (hE 7 h52 (hD 10 h53 (hE 11 h53 (hD 12 h54 (hS 13 h54 e44 (hD 14 h55 (hS 15 h55 e45 h0)))))))) ?_
    exact rg G (rh G (ibN (wL G hm)))
  rintro ⟨v14, data2⟩ hm
  obtain ⟨e52, h60, hm⟩ := obind hm
  obtain ⟨e53, h61, hm⟩ := obind hm
  obtain ⟨e54, h62, hm⟩ := obind hm
  obtain ⟨e55, h63, hm⟩ := obind hm
  refine ds G [(13, [0]), (15, [0])] (hD 6 h60 (hE 7 h60 (hD 10 h61 (hE 11 h61 (hD 12 h62 (hS 13 h62 e52 (hD 14 h63 (hS 15 h63 e53 h0)))))))) ?_
  refine rg G ?_
  cases hm
  exact rt [] []
def yahh : MS Int ((IK .u64)) := ⟨.r, zq127, fun y => dV y, fun _ => [], fun _ _ => []⟩
theorem yaxd {length y} (hm : zq127 length = some y) : yahh.C length y := yahh.c length hm
theorem yass : FnOK Tryz.prog 259 yahh.S := by
 refine fm tt yahh [fo yard] Tryz.call259 Tryz.func259 rfl Tryz.results259 Tryz.ntmps259 ?_
 rintro length y cx G hm
 have hm : zq127 length = some y := hm
 unfold zq127 at hm
 refine rg G ?_
 obtain ⟨r, h, hm⟩ := obind hm
 obtain ⟨u, h1, hm⟩ := obind hm
 refine rs G (hC 2 (yavw h) (hK h1 h0)) ?_
 cases hm
 exact rt [] []
def yagy : MS ((IK .u64)) ((IK .u64) × (IK .u64)) := ⟨.b, zq135, fun y => dV y.1, fun _ => [], fun _ y => [bxO y.2]⟩
theorem yaww {r y} (hm : zq135 r = some y) : yagy.C r y := yagy.c r hm
theorem yasj : FnOK Tryz.prog 260 yagy.S := by
 refine fm tt yagy [] Tryz.call260 Tryz.func260 rfl Tryz.results260 Tryz.ntmps260 ?_
 rintro r y cx G hm
 have hm : zq135 r = some y := hm
 unfold zq135 at hm
 refine rg G ?_
 obtain ⟨u1, h1, hm⟩ := obind hm
 refine ds G [(9, [0])] (hK h1 h0) ?_
 obtain ⟨u3, h3, hm⟩ := obind hm
 refine ds G [(9, [0])] (hK h3 h0) ?_
 obtain ⟨u5, h5, hm⟩ := obind hm
 refine ds G [(9, [0])] (hK h5 h0) ?_
 refine rg G ?_
 cases hm
 exact rt [] []
def yahn : MS ((List Int) × Int × Int) ((List Int)) := ⟨.x (.s 3) (.x .r .r), fun x => zq121 x.1 x.2.1 x.2.2, fun _ => .tup [], fun _ => [], fun _ y => [arO 3 y]⟩
theorem yaxh {data a b y} (hm : zq121 data a b = some y) : yahn.C (data, a, b) y := yahn.c (data, a, b) hm
theorem yasx : FnOK Tryz.prog 250 yahn.S := by
 refine fm tt yahn [fo yass, fo yasj] Tryz.call250 Tryz.func250 rfl Tryz.results250 Tryz.ntmps250 ?_
 rintro ⟨data, a, b⟩ y cx G hm
 have hm : zq121 data a b = some y := hm
 unfold zq121 at hm
 refine rg G (rg G (cd hm (fun hm => ?_) (fun hm => ?_)))
 ·refine rg G ?_
  obtain ⟨r, h, hm⟩ := obind hm
  refine rs G (hC 1 (yaxd h) h0) ?_
  obtain ⟨u, h1, hm⟩ := obind hm
  refine rs G (hK h1 h0) ?_
  refine Ok_block (lp G hm (fun (v, data1, v1) => ⟨[(0, .own 0), (1, dV a), (6, dV (w64 (b - a))), (7, .ref 32 0), (8, kV .u64 r.v), (9, dV v)], [aX 0 3 data1, bX 32 [kV .u64 v1]], 64⟩) ?_)
  rintro ⟨v, data1, v1⟩ r0 hb hm
  rw [yaef] at hm
  refine Ok_seq ?_
  obtain ⟨u1, h2, hm⟩ := obind hm
  refine rs G (hK h2 h0) ?_
  refine cd hm (fun hm => ?_) (fun hm => ?_)
  ·refine X_skip (thN (Ok_seq (Ok_block ?_)))
   obtain ⟨r1, h3, hm⟩ := obind hm
   refine rs G (hC 0 (yaww h3) h0) ?_
   refine jn hm (fun v2 => ⟨[(0, .own 0), (1, dV a), (6, dV (w64 (b - a))), (7, .ref 32 0), (8, kV .u64 r.v), (9, dV v), (10, dV v2)], [aX 0 3 data1, bX 32 [kV .u64 r1.2.v]], 64⟩) (fun v2 hm => ?_) ?_
   ·refine rg G (cd hm (fun hm => ?_) (fun hm => ?_))
    ·exact rh G (wJ G hm)
    ·exact X_skip (wJ G hm)
   rintro v2 hm
   obtain ⟨e4, h8, hm⟩ := obind hm
   obtain ⟨e5, h9, hm⟩ := obind hm
   obtain ⟨e6, h10, hm⟩ := obind hm
   obtain ⟨e7, h11, hm⟩ := obind hm
   refine de G [(17, [0]), (19, [0])] (hD 10 h8 (hE 11 h8 (hD 14 h9 (hE 15 h9 (hD 16 h10 (hS 17 h10 e4 (hD 18 h11 (hS 19 h11 e5 h0)))))))) ?_
   exact ibN (thN (rh G (wL G hm)))
  ·have hm := eD hm hb
   refine Ok_exit (thE (thE (ibE ?_)))
   cases hm
   exact fN [] []
 ·refine X_skip ?_
  cases hm
  exact fN [] []
def yabz (rec_ : (List Int) → Int → Int → Int → Option ((List Int))) : MS ((List Int) × Int × Int × Int) ((List Int)) := ⟨.x (.s 3) (.x .r (.x .r .r)), fun x => rec_ x.1 x.2.1 x.2.2.1 x.2.2.2, fun _ => .tup [], fun _ => [], fun _ y => [arO 3 y]⟩
def yakk : MS ((List Int) × Int × Int × Int) ((List Int)) := yabz zq132
theorem yawy {data a b limit y} (hm : zq132 data a b limit = some y) : yakk.C (data, a, b, limit) y := yakk.c (data, a, b, limit) hm
theorem yakj {rec_ : (List Int) → Int → Int → Int → Option ((List Int))} {data a b limit y} (hm : rec_ data a b limit = some y) : (yabz rec_).C (data, a, b, limit) y := (yabz rec_).c (data, a, b, limit) hm
theorem yapm {rec_ : (List Int) → Int → Int → Int → Option ((List Int))} (hrec : FnOK Tryz.prog 229 (yabz rec_).S) : FnOK Tryz.prog 229 (yabz (yacf rec_)).S := by
 refine fm tt (yabz (yacf rec_)) [fo hrec, fo yasu, fo yasv, fo yasx, fo yasw, fo yasl, fo yasq, fo yafn, fo yaso, fo yasn] Tryz.call229 Tryz.func229 rfl Tryz.results229 Tryz.ntmps229 ?_
 rintro ⟨data, a, b, limit⟩ y cx G hm
 have hm : yacf rec_ data a b limit = some y := hm
 unfold yacf at hm
 refine rg G (rg G (Ok_block (lp G hm (fun (a1, b1, limit1, hint, mid, data1) => ⟨[(0, .own 0), (1, dV a1), (2, dV b1), (3, dV limit1), (8, dV hint), (9, dV mid)], [aX 0 3 data1], 48⟩) ?_)))
 rintro ⟨a1, b1, limit1, hint, mid, data1⟩ r0 hb hm
 rw [yado] at hm
 refine Ok_block (rg G (Ok_seq (rg G (cd hm (fun hm => ?_) (fun hm => ?_)))))
 ·obtain ⟨r, h, hm⟩ := obind hm
  refine rs G (hC 3 (yaxe h) h0) ?_
  have hm := eD hm hb
  cases hm
  exact rt [] []
 ·refine X_skip (thN (Ok_seq (rg G (cd hm (fun hm => ?_) (fun hm => ?_)))))
  ·obtain ⟨r2, h1, hm⟩ := obind hm
   refine rs G (hC 3 (yaxf h1) h0) ?_
   have hm := eD hm hb
   cases hm
   exact rt [] []
  ·refine X_skip (thN (jn hm (fun (limit2, data2) => ⟨[(0, .own 0), (1, dV a1), (2, dV b1), (3, dV limit2), (8, dV hint), (9, dV mid), (10, dV (w64 (b1 - a1)))], [aX 0 3 data2], 48⟩) (fun vv1 hm => ?_) ?_))
   ·refine rg G (cd hm (fun hm => ?_) (fun hm => ?_))
    ·obtain ⟨r4, h2, hm⟩ := obind hm
     refine rs G (hC 3 (yaxh h2) h0) ?_
     exact rh G (wJ G hm)
    ·exact X_skip (wJ G hm)
   rintro ⟨limit2, data2⟩ hm
   obtain ⟨r5, h3, hm⟩ := obind hm
   refine rs G (hC 3 (yaxg h3) h0) ?_
   refine jn hm (fun (alreadyPartitioned, leftLen, data3) => ⟨[(0, .own 0), (1, dV a1), (2, dV b1), (3, dV limit2), (8, dV hint), (9, dV mid), (10, dV (w64 (b1 - a1))), (11, dV alreadyPartitioned), (12, dV leftLen)], [aX 0 3 data3], 48⟩) (fun vv hm => ?_) ?_
   ·refine rg G (cd hm (fun hm => ?_) (fun hm => ?_))
    ·obtain ⟨r6, h4, hm⟩ := obind hm
     refine rs G (hC 3 (yawx h4) h0) ?_
     exact rg G (rh G (wJ G hm))
    ·exact X_skip (wJ G hm)
   rintro ⟨alreadyPartitioned, leftLen, data3⟩ hm
   refine jF hm (fun data4 => ⟨[(0, .own 0), (1, dV a1), (2, dV b1), (3, dV limit2), (8, dV hint), (9, dV mid), (10, dV (w64 (b1 - a1))), (11, dV alreadyPartitioned)], [aX 0 3 data4], 48⟩) (fun v2 hr3 hm => ?_) ?_
   ·refine jn hm (fun v => ⟨[(0, .own 0), (1, dV a1), (2, dV b1), (3, dV limit2), (8, dV hint), (9, dV mid), (10, dV (w64 (b1 - a1))), (11, dV alreadyPartitioned), (68, dV v)], [aX 0 3 data3], 48⟩) (fun v hm => ?_) ?_
    ·rcases bf hm with ⟨hb1, hm⟩ | ⟨hb1, hm⟩
     ·rcases bf hm with ⟨hb2, hm⟩ | ⟨hb2, hm⟩
      ·refine re G (hO 1 (.b true) (hP hb1 (hO 4 (.b true) (hP hb2 h0)))) ?_
       exact wJ G hm
      ·refine re G (hO 1 (.b true) (hP hb1 (hO 4 (.b false) (hP hb2 h0)))) ?_
       exact wJ G hm
     ·refine re G (hO 1 (.b false) (hP hb1 h0)) ?_
      exact wJ G hm
    rintro v hm
    refine cd hm (fun hm => ?_) (fun hm => ?_)
    ·obtain ⟨r7, h5, hm⟩ := obind hm
     refine rs G (hC 3 (yaxc h5) h0) ?_
     refine cd hm (fun hm => ?_) (fun hm => ?_)
     ·have hm := eR hm hr3
      have hm := eD hm hb
      cases hm
      exact rt [] []
     ·exact X_skip (wF G hm)
    ·exact X_skip (wF G hm)
   rintro data4 hm
   refine Ok_seq (jn hm (fun v1 => ⟨[(0, .own 0), (1, dV a1), (2, dV b1), (3, dV limit2), (8, dV hint), (9, dV mid), (10, dV (w64 (b1 - a1))), (11, dV alreadyPartitioned), (87, dV v1)], [aX 0 3 data4], 48⟩) (fun v1 hm => ?_) ?_)
   ·rcases bf hm with ⟨hb3, hm⟩ | ⟨hb3, hm⟩
    ·obtain ⟨e6, h9, hm⟩ := obind hm
     obtain ⟨e7, h10, hm⟩ := obind hm
     obtain ⟨r11, h11, hm⟩ := obind hm
     refine de G [] (hO 2 (.b true) (hP hb3 (hD 6 h9 (hE 7 h9 (hD 10 h10 (hE 11 h10 (hC 12 (zq0_c h11) h0))))))) ?_
     exact wJ G hm
    ·refine de G [] (hO 2 (.b false) (hP hb3 h0)) ?_
     exact wJ G hm
   rintro v1 hm
   refine cd hm (fun hm => ?_) (fun hm => ?_)
   ·obtain ⟨r12, h12, hm⟩ := obind hm
    refine rs G (hC 4 (yaxa h12) h0) ?_
    exact rg G (Ok_exit (thE (ibE (wL G hm))))
   ·refine X_skip (thN ?_)
    obtain ⟨r13, h13, hm⟩ := obind hm
    refine rs G (hC 4 (yawz h13) h0) ?_
    refine rg G (rg G ?_)
    obtain ⟨u, h14, hm⟩ := obind hm
    refine rs G (hK h14 h0) ?_
    refine rg G (cd hm (fun hm => ?_) (fun hm => ?_))
    ·refine rg G ?_
     obtain ⟨r14, h15, hm⟩ := obind hm
     refine rs G (hC 4 (yakj h15) h0) ?_
     exact rh G (ibN (wL G hm))
    ·refine rg G ?_
     obtain ⟨r15, h16, hm⟩ := obind hm
     refine rs G (hC 5 (yakj h16) h0) ?_
     exact rh G (ibN (wL G hm))
theorem yahb : ∀ k, FnOK Tryz.prog 229 (yabz (yaev k)).S
 | 0 => ⟨fun args w => Tryz.call229 args w, fun vs w F ds obs κ hp => by obtain ⟨x, y, _, _, h⟩ := hp; cases h⟩
 | k + 1 => yapm (yahb k)
theorem yasm : FnOK Tryz.prog 229 yakk.S := yahb 4294967296
def yaho : MS ((List Int)) ((List Int)) := ⟨.s 3, zq120, fun _ => .tup [], fun _ => [], fun _ y => [arO 3 y]⟩
theorem yaxi {x y} (hm : zq120 x = some y) : yaho.C x y := yaho.c x hm
theorem yasy : FnOK Tryz.prog 197 yaho.S := by
 refine fm tt yaho [fo yard, fo yasm] Tryz.call197 Tryz.func197 rfl Tryz.results197 Tryz.ntmps197 ?_
 rintro x y cx G hm
 have hm : zq120 x = some y := hm
 unfold zq120 at hm
 refine rs G (hN 1 x h0) ?_
 obtain ⟨r, h, hm⟩ := obind hm
 obtain ⟨r1, h1, hm⟩ := obind hm
 refine re G (hC 4 (yavw h) (hC 5 (yawy h1) h0)) ?_
 cases hm
 exact fN [] []
def yaht : MS ((List Int)) ((List Int)) := ⟨.r, zq113, fun _ => .own 0, fun y => [arO 3 y], fun _ _ => []⟩
theorem yaxp {s y} (hm : zq113 s = some y) : yaht.C s y := yaht.c s hm
theorem yatd : FnOK Tryz.prog 134 yaht.S := by
 refine fm tt yaht [] Tryz.call134 Tryz.func134 rfl Tryz.results134 Tryz.ntmps134 ?_
 rintro s y cx G hm
 have hm : zq113 s = some y := hm
 unfold zq113 at hm
 obtain ⟨u, h, hm⟩ := obind hm
 cases hm
 refine rg G (Ok_seq (X_nil_seq G.t.ty G.ok 1 (ds := List.map Enc.e s) (es := 1) [] .nil (by kernel_rfl) (by rfl) (by rfl) (by kernel_rfl) ?_))
 intro b hb
 refine X_cond b (by kernel_rfl) (fun hc => ?_) (fun hc => ?_)
 ·have hl : s = [] := by
   cases s with
   | nil => rfl
   | cons a r => have := hb (by simp); rw [hc] at this; cases this
  subst hl
  refine rg G (Ok_weak (Wk_J (x' := ⟨[(2, .own 16)], [(16, some (.arr 3 1 []))], 32⟩) G.hL ⟨[(2, [.o 16])], [], [(16, 3, 1, [])], 32⟩ (by kernel_rfl)) ?_)
  exact rt [16] []
 ·refine sN (rs G (hA 2 8 h h0) ?_)
  exact rt [96] []
def yakp : MS ((List Int)) ((List Int)) := ⟨.m 3, zq114, fun _ => .own 0, fun y => [arO 3 y], fun _ _ => []⟩
theorem yaxn {s y} (hm : zq114 s = some y) : yakp.C s y := yakp.c s hm
def yarn : Go.Shelf.Ren := ⟨fun x => bif Nat.beq x 20 then 198 else x, fun x => bif Nat.beq x 22 then 35 else bif Nat.beq x 3 then 3 else bif Nat.beq x 4 then 4 else x, fun x => x⟩
theorem yaxo : Tryz.f198 = Go.Proofs.Body2.n20 yarn := by kernel_rfl
theorem yatc : FnOK Tryz.prog 198 yakp.S := comOK tt yarn Tryz.call198 (Tryz.func198.trans (congrArg some yaxo)) (b0 := 0) (e0 := false) ⟨Tryz.underlying0, Tryz.t0, Tryz.type0, rfl, rfl, rfl, fun h => by cases h⟩ (by kernel_rfl) (by kernel_rfl) (by kernel_rfl)
def yaop : MS (Timetable × (List Int)) Span := ⟨.x .r .r, fun x => zq35 x.1 x.2, fun y => dV y, fun _ => [], fun _ _ => []⟩
theorem yais {t ids y} (hm : zq35 t ids = some y) : yaop.C (t, ids) y := yaop.c (t, ids) hm
theorem yagr : FnOK Tryz.prog 135 yaop.S := by
 refine fm tt yaop [fo yajz, fo yakh] Tryz.call135 Tryz.func135 rfl Tryz.results135 Tryz.ntmps135 ?_
 rintro ⟨t, ids⟩ y cx G hm
 have hm : zq35 t ids = some y := hm
 unfold zq35 at hm
 refine rg G ?_
 obtain ⟨e2, h5, hm⟩ := obind hm
 obtain ⟨r3, h6, hm⟩ := obind hm
 obtain ⟨e3, h7, hm⟩ := obind hm
 obtain ⟨r4, h8, hm⟩ := obind hm
 obtain ⟨r5, h9, hm⟩ := obind hm
 refine ds G [(17, [32])] (hD 2 h5 (hC 4 (yaka h6) (hN 10 ids (hD 12 h7 (hC 14 (yaka h8) (hC 15 (yasg h9) h0)))))) ?_
 cases hm
 exact rt [] []
def yape : MS (Timetable × Fleet × (List (List Int))) ((List Int)) := ⟨.x .r (.x .r .r), fun x => zq20 x.1 x.2.1 x.2.2, fun _ => .own 0, fun y => [arO 3 y], fun _ _ => []⟩
theorem yasf {t f pieces y} (hm : zq20 t f pieces = some y) : yape.C (t, f, pieces) y := yape.c (t, f, pieces) hm
theorem yakf : FnOK Tryz.prog 132 yape.S := by
 refine fm tt yape [fo yagr, fo yajz, fo yarh] Tryz.call132 Tryz.func132 rfl Tryz.results132 Tryz.ntmps132 ?_
 rintro ⟨t, f, pieces⟩ y cx G hm
 have hm : zq20 t f pieces = some y := hm
 unfold zq20 at hm
 refine rg G (rg G (Ok_seq (rg G (tl hm (fun b1 => ⟨[(7, .own 16)], [aX 16 3 b1], 48⟩) (fun b1 hm => ?_) ?_))))
 ·refine Ok_block (lpP hm (fun (v, b) => ⟨[(2, dV pieces), (3, .ref 16 0), (4, .ref 32 0), (7, .own 48), (8, dV v)], [bX 16 [dV t.Network.Stops, dV t.Network.Lines, dV t.Trips], bX 32 [dV f.Dead, dV f.Turn], aX 48 3 b], 80⟩) (Wk_J G.hL ⟨[(2, []), (3, []), (4, []), (7, [.o 48]), (8, [])], [(16, 16, []), (32, 32, [])], [(48, 3, 1, [])], 80⟩ (by kernel_rfl)) ?_)
  rintro ⟨v, b⟩ r0 hb hm
  rw [yakg] at hm
  refine Ok_seq (rs G (hN 2 pieces h0) ?_)
  refine cd hm (fun hm => ?_) (fun hm => ?_)
  ·refine X_skip (thN (Ok_seq (Ok_block ?_)))
   obtain ⟨e2, h2, hm⟩ := obind hm
   obtain ⟨e3, h3, hm⟩ := obind hm
   refine ds G [] (hD 3 h2 (hD 7 h3 h0)) ?_
   obtain ⟨r5, h12, hm⟩ := obind hm
   obtain ⟨r6, h13, hm⟩ := obind hm
   obtain ⟨e6, h14, hm⟩ := obind hm
   obtain ⟨r7, h15, hm⟩ := obind hm
   obtain ⟨e7, h16, hm⟩ := obind hm
   obtain ⟨r8, h17, hm⟩ := obind hm
   obtain ⟨r9, h18, hm⟩ := obind hm
   obtain ⟨u1, h19, hm⟩ := obind hm
   refine de G [(28, [48, 752])] (hC 3 (yais h12) (hC 7 (yais h13) (hN 15 e2 (hD 17 h14 (hC 19 (yaka h15) (hD 22 h16 (hC 24 (yaka h17) (hC 25 (yawr h18) (hA 28 8 h19 h0))))))))) ?_
   exact ibN (thN (rh G (wL G hm)))
  ·exact Ok_exit (thE (thE (ibE (wD G hm hb))))
 rintro b1 hm s hw
 refine thN (Ok_weak hw ?_)
 refine rg G ?_
 cases hm
 exact rt [16] []
def yaou : MS (Timetable × Rules × Duty) Int := ⟨.x .r (.x .r .r), fun x => zq30 x.1 x.2.1 x.2.2, fun y => dV y, fun _ => [], fun _ _ => []⟩
theorem yawe {t r d y} (hm : zq30 t r d = some y) : yaou.C (t, r, d) y := yaou.c (t, r, d) hm
theorem yarg : FnOK Tryz.prog 130 yaou.S := by
 refine fm tt yaou [fo yagr] Tryz.call130 Tryz.func130 rfl Tryz.results130 Tryz.ntmps130 ?_
 rintro ⟨t, r, d⟩ y cx G hm
 have hm : zq30 t r d = some y := hm
 unfold zq30 at hm
 refine rg G ?_
 obtain ⟨e2, h4, hm⟩ := obind hm
 obtain ⟨r3, h5, hm⟩ := obind hm
 obtain ⟨e3, h6, hm⟩ := obind hm
 obtain ⟨r4, h7, hm⟩ := obind hm
 refine ds G [] (hN 7 d.Pieces (hD 9 h4 (hC 11 (yais h5) (hD 17 h6 (hC 19 (yais h7) h0))))) ?_
 cases hm
 exact rt [] []
def yapj : MS (Timetable × Fleet × (List (List Int)) × Rules × Duty) Int := ⟨.x .r (.x .r (.x .r (.x .r .r))), fun x => zq15 x.1 x.2.1 x.2.2.1 x.2.2.2.1 x.2.2.2.2, fun y => dV y, fun _ => [], fun _ _ => []⟩
theorem yawt {t f blocks r d y} (hm : zq15 t f blocks r d = some y) : yapj.C (t, f, blocks, r, d) y := yapj.c (t, f, blocks, r, d) hm
theorem yari : FnOK Tryz.prog 125 yapj.S := by
 refine fm tt yapj [fo yadf, fo yawl, fo yasy, fo yatd, fo yatc, fo yagr, fo yakf, fo yarg] Tryz.call125 Tryz.func125 rfl Tryz.results125 Tryz.ntmps125 ?_
 rintro ⟨t, f, blocks, r, d⟩ y cx G hm
 have hm : zq15 t f blocks r d = some y := hm
 unfold zq15 at hm
 refine rg G (Ok_seq ?_)
 obtain ⟨r1, h, hm⟩ := obind hm
 refine rs G (hN 2 d.Pieces (hC 3 (yaby h) h0)) ?_
 refine cd hm (fun hm => ?_) (fun hm => ?_)
 ·refine rg G ?_
  cases hm
  exact rt [] []
 ·refine X_skip (thN (rg G (Ok_seq (rs G (hN 2 d.Pieces h0) ?_))))
  refine tF hm (fun s1 => ⟨[(5, .ref 16 0), (6, .ref 32 0), (8, .ref 48 0), (9, .ref 64 0), (11, .own 80)], [bX 16 [dV t.Network.Stops, dV t.Network.Lines, dV t.Trips], bX 32 [dV f.Dead, dV f.Turn], bX 48 [dV r.SignOn, dV r.SignOff, dV r.MaxDrive, dV r.MinBreak, dV r.PaidBreak, dV r.MaxLength], bX 64 [dV d.Pieces], aX 80 3 s1], 112⟩) (fun v5 hr hm => ?_) ?_
  ·refine Ok_block (lpP hm (fun (v, s) => ⟨[(2, dV blocks), (5, .ref 16 0), (6, .ref 32 0), (8, .ref 48 0), (9, .ref 64 0), (11, .own 80), (25, dV d.Pieces), (26, dV (d.Pieces.length : Int)), (27, dV v)], [bX 16 [dV t.Network.Stops, dV t.Network.Lines, dV t.Trips], bX 32 [dV f.Dead, dV f.Turn], bX 48 [dV r.SignOn, dV r.SignOff, dV r.MaxDrive, dV r.MinBreak, dV r.PaidBreak, dV r.MaxLength], bX 64 [dV d.Pieces], aX 80 3 s], 112⟩) (Wk_J G.hL ⟨[(2, []), (5, []), (6, []), (8, []), (9, []), (11, [.o 80]), (25, []), (26, []), (27, [])], [(16, 16, []), (32, 32, []), (48, 48, []), (64, 64, [])], [(80, 3, 1, [])], 112⟩ (by kernel_rfl)) ?_)
   rintro ⟨v, s⟩ r0 hb hm
   rw [yagw] at hm
   refine rg G (Ok_seq (cd hm (fun hm => ?_) (fun hm => ?_)))
   ·refine X_skip (thN (Ok_seq (Ok_block ?_)))
    obtain ⟨e, h1, hm⟩ := obind hm
    refine rs G (hD 0 h1 h0) ?_
    refine Ok_seq ?_
    obtain ⟨r2, h2, hm⟩ := obind hm
    refine rs G (hC 2 (ybac h2) h0) ?_
    refine cd hm (fun hm => ?_) (fun hm => ?_)
    ·refine rg G ?_
     have hm := eL hm hb hr
     cases hm
     exact rt [] []
    ·refine X_skip (thN ?_)
     obtain ⟨u, h3, hm⟩ := obind hm
     refine re G (hA 2 8 h3 h0) ?_
     exact ibN (thN (rh G (wL G hm)))
   ·exact Ok_exit (thE (thE (ibE (wE G hm hb))))
  rintro s1 hm s2 hw
  refine thN (Ok_weak hw ?_)
  obtain ⟨r4, h4, hm⟩ := obind hm
  refine rs G (hC 1 (yaxi h4) h0) ?_
  refine Ok_seq ?_
  obtain ⟨r5, h5, hm⟩ := obind hm
  obtain ⟨r6, h6, hm⟩ := obind hm
  refine rs G (hF 1 (yaxp h5) ⟨(flat_cons flat_arr flat_nil), flat_nil⟩ (hC 2 (yaxn h6) (hN 3 r6 (hN 5 r4 h0)))) ?_
  refine cd hm (fun hm => ?_) (fun hm => ?_)
  ·refine rg G ?_
   cases hm
   exact rt [] []
  ·refine X_skip (thN (Ok_seq (rs G (hN 2 d.Pieces h0) ?_)))
   refine tF hm (fun _ => ⟨[(5, .ref 16 0), (6, .ref 32 0), (8, .ref 48 0), (9, .ref 64 0)], [bX 16 [dV t.Network.Stops, dV t.Network.Lines, dV t.Trips], bX 32 [dV f.Dead, dV f.Turn], bX 48 [dV r.SignOn, dV r.SignOff, dV r.MaxDrive, dV r.MinBreak, dV r.PaidBreak, dV r.MaxLength], bX 64 [dV d.Pieces]], 96⟩) (fun v4 hr1 hm => ?_) ?_
   ·refine Ok_block (lp G hm (fun v1 => ⟨[(5, .ref 16 0), (6, .ref 32 0), (8, .ref 48 0), (9, .ref 64 0), (49, dV d.Pieces), (50, dV (d.Pieces.length : Int)), (51, dV v1)], [bX 16 [dV t.Network.Stops, dV t.Network.Lines, dV t.Trips], bX 32 [dV f.Dead, dV f.Turn], bX 48 [dV r.SignOn, dV r.SignOff, dV r.MaxDrive, dV r.MinBreak, dV r.PaidBreak, dV r.MaxLength], bX 64 [dV d.Pieces]], 96⟩) ?_)
    rintro v1 r0 hb1 hm
    rw [yadi] at hm
    refine rg G (Ok_seq (cd hm (fun hm => ?_) (fun hm => ?_)))
    ·refine X_skip (thN (Ok_seq (Ok_block ?_)))
     obtain ⟨e2, h7, hm⟩ := obind hm
     refine rs G (hD 0 h7 h0) ?_
     obtain ⟨r7, h8, hm⟩ := obind hm
     refine rs G (hC 2 (yais h8) h0) ?_
     refine rg G (cd hm (fun hm => ?_) (fun hm => ?_))
     ·refine rg G ?_
      have hm := eL hm hb1 hr1
      cases hm
      exact rt [] []
     ·exact X_skip (ibN (thN (rh G (wL G hm))))
    ·exact Ok_exit (thE (thE (ibE (wE G hm hb1))))
   rintro ⟨⟩ hm s3 hw1
   refine thN (Ok_weak hw1 ?_)
   refine Ok_seq ?_
   obtain ⟨r9, h9, hm⟩ := obind hm
   refine rs G (hC 4 (yasf h9) (hN 5 r9 h0)) ?_
   refine tF hm (fun _ => ⟨[(5, .ref 16 0), (8, .ref 32 0), (9, .ref 48 0)], [bX 16 [dV t.Network.Stops, dV t.Network.Lines, dV t.Trips], bX 32 [dV r.SignOn, dV r.SignOff, dV r.MaxDrive, dV r.MinBreak, dV r.PaidBreak, dV r.MaxLength], bX 48 [dV d.Pieces]], 80⟩) (fun v3 hr2 hm => ?_) ?_
   ·refine Ok_block (lp G hm (fun v2 => ⟨[(5, .ref 16 0), (8, .ref 32 0), (9, .ref 48 0), (71, .own 64), (72, dV (r9.length : Int)), (73, dV v2)], [bX 16 [dV t.Network.Stops, dV t.Network.Lines, dV t.Trips], bX 32 [dV r.SignOn, dV r.SignOff, dV r.MaxDrive, dV r.MinBreak, dV r.PaidBreak, dV r.MaxLength], bX 48 [dV d.Pieces], aX 64 3 r9], 96⟩) ?_)
    rintro v2 r0 hb2 hm
    rw [yadh] at hm
    refine rg G (Ok_seq (cd hm (fun hm => ?_) (fun hm => ?_)))
    ·refine X_skip (thN (Ok_seq (Ok_block ?_)))
     obtain ⟨e4, h10, hm⟩ := obind hm
     refine rs G (hD 0 h10 (hE 1 h10 h0)) ?_
     refine rg G (cd hm (fun hm => ?_) (fun hm => ?_))
     ·refine rg G ?_
      have hm := eL hm hb2 hr2
      cases hm
      exact rt [] []
     ·exact X_skip (ibN (thN (rh G (wL G hm))))
    ·exact Ok_exit (thE (thE (ibE (wE G hm hb2))))
   rintro ⟨⟩ hm s4 hw2
   refine thN (Ok_weak hw2 ?_)
   refine Ok_seq ?_
   obtain ⟨r12, h12, hm⟩ := obind hm
   refine ds G [] (hC 3 (yawe h12) h0) ?_
   refine cd hm (fun hm => ?_) (fun hm => ?_)
   ·refine rg G ?_
    cases hm
    exact rt [] []
   ·refine X_skip (thN (rg G ?_))
    cases hm
    exact rt [] []
def zq2_M : MS (Timetable × Fleet × (List (List Int)) × Rules × Duty) (Int × Bool) := ⟨.x .r (.x .r (.x .r (.x .r .r))), fun x => zq2 x.1 x.2.1 x.2.2.1 x.2.2.2.1 x.2.2.2.2, fun y => .tup [dV y.1, dV y.2], fun _ => [], fun _ _ => []⟩
theorem zq2_c {t f blocks r d y} (hm : zq2 t f blocks r d = some y) : zq2_M.C (t, f, blocks, r, d) y := zq2_M.c (t, f, blocks, r, d) hm
theorem yazz : FnOK Tryz.prog 48 zq2_M.S := by
 refine fm tt zq2_M [fo yarj, fo yari] Tryz.call48 Tryz.func48 rfl Tryz.results48 Tryz.ntmps48 ?_
 rintro ⟨t, f, blocks, r, d⟩ y cx G hm
 have hm : zq2 t f blocks r d = some y := hm
 unfold zq2 at hm
 refine rg G (Ok_seq ?_)
 obtain ⟨r1, h, hm⟩ := obind hm
 refine rs G (hC 4 (yash h) h0) ?_
 refine cd hm (fun hm => ?_) (fun hm => ?_)
 ·refine rg G ?_
  cases hm
  exact rt [] []
 ·refine X_skip (thN ?_)
  obtain ⟨r2, h1, hm⟩ := obind hm
  refine rs G (hC 5 (yawt h1) h0) ?_
  cases hm
  exact rt [] []
def yamm : MS ((List Int) × Int) Bool := ⟨.x .r .r, fun x => zq87 x.1 x.2, fun y => dV y, fun _ => [], fun _ _ => []⟩
theorem yaml {l n y} (hm : zq87 l n = some y) : yamm.C (l, n) y := yamm.c (l, n) hm
theorem yaqs : FnOK Tryz.prog 150 yamm.S := by
 refine fm tt yamm [] Tryz.call150 Tryz.func150 rfl Tryz.results150 Tryz.ntmps150 ?_
 rintro ⟨l, n⟩ y cx G hm
 have hm : zq87 l n = some y := hm
 unfold zq87 at hm
 refine rg G (Ok_seq (rg G (tF hm (fun _ => ⟨[], [], 32⟩) (fun v1 hr hm => ?_) ?_)))
 ·refine Ok_block (lp G hm (fun v => ⟨[(0, dV l), (1, dV n), (5, dV v)], [], 32⟩) ?_)
  rintro v r0 hb hm
  rw [yagc] at hm
  refine Ok_seq (rs G (hN 2 l h0) ?_)
  refine cd hm (fun hm => ?_) (fun hm => ?_)
  ·refine X_skip (thN (Ok_seq (Ok_block ?_)))
   obtain ⟨e, h, hm⟩ := obind hm
   refine rs G (hD 2 h h0) ?_
   refine cd hm (fun hm => ?_) (fun hm => ?_)
   ·refine rg G ?_
    have hm := eL hm hb hr
    cases hm
    exact rt [] []
   ·exact X_skip (ibN (thN (rh G (wL G hm))))
  ·exact Ok_exit (thE (thE (ibE (wE G hm hb))))
 rintro ⟨⟩ hm s hw
 refine thN (Ok_weak hw ?_)
 refine rg G ?_
 cases hm
 exact rt [] []
def yaob : MS (Timetable × Fleet × (List (List Int))) Bool := ⟨.x .r (.x .r .r), fun x => zq48 x.1 x.2.1 x.2.2, fun y => dV y, fun _ => [], fun _ _ => []⟩
theorem yazn {t f blocks y} (hm : zq48 t f blocks = some y) : yaob.C (t, f, blocks) y := yaob.c (t, f, blocks) hm
theorem yavq : FnOK Tryz.prog 91 yaob.S := by
 refine fm tt yaob [fo yacq, fo yaqs, fo yajs] Tryz.call91 Tryz.func91 rfl Tryz.results91 Tryz.ntmps91 ?_
 rintro ⟨t, f, blocks⟩ y cx G hm
 have hm : zq48 t f blocks = some y := hm
 unfold zq48 at hm
 refine rg G (rg G (Ok_seq (rg G (tF hm (fun at_3 => ⟨[(3, .ref 16 0), (7, .own 32)], [bX 16 [dV t.Network.Stops, dV t.Network.Lines, dV t.Trips], aX 32 3 at_3], 64⟩) (fun v5 hr hm => ?_) ?_))))
 ·refine Ok_block (lp G hm (fun (v, at_) => ⟨[(2, dV blocks), (3, .ref 16 0), (4, .ref 32 0), (7, .own 48), (8, dV v)], [bX 16 [dV t.Network.Stops, dV t.Network.Lines, dV t.Trips], bX 32 [dV f.Dead, dV f.Turn], aX 48 3 at_], 80⟩) ?_)
  rintro ⟨v, at_⟩ r0 hb hm
  rw [yabp] at hm
  refine Ok_seq (rs G (hN 2 blocks h0) ?_)
  refine cd hm (fun hm => ?_) (fun hm => ?_)
  ·refine X_skip (thN (Ok_seq (Ok_block (Ok_seq ?_))))
   obtain ⟨e5, h5, hm⟩ := obind hm
   refine jn hm (fun v1 => ⟨[(2, dV blocks), (3, .ref 16 0), (4, .ref 32 0), (7, .own 48), (8, dV v), (43, dV v1)], [bX 16 [dV t.Network.Stops, dV t.Network.Lines, dV t.Trips], bX 32 [dV f.Dead, dV f.Turn], aX 48 3 at_], 80⟩) (fun v1 hm => ?_) ?_
   ·rcases bf hm with ⟨hb1, hm⟩ | ⟨hb1, hm⟩
    ·refine de G [] (hD 2 h5 (hN 4 e5 (hO 6 (.b true) (hP hb1 h0)))) ?_
     exact wJ G hm
    ·rcases bf hm with ⟨hb2, hm⟩ | ⟨hb2, hm⟩
     ·obtain ⟨e6, h6, hm⟩ := obind hm
      obtain ⟨e7, h7, hm⟩ := obind hm
      obtain ⟨e8, h8, hm⟩ := obind hm
      obtain ⟨e9, h9, hm⟩ := obind hm
      refine de G [] (hD 2 h5 (hN 4 e5 (hO 6 (.b false) (hP hb1 (hO 9 (.b true) (hP hb2 (hD 13 h6 (hD 15 h7 (hD 19 h8 (hD 21 h9 h0)))))))))) ?_
      exact wJ G hm
     ·refine de G [] (hD 2 h5 (hN 4 e5 (hO 6 (.b false) (hP hb1 (hO 9 (.b false) (hP hb2 h0)))))) ?_
      exact wJ G hm
   rintro v1 hm
   refine cd hm (fun hm => ?_) (fun hm => ?_)
   ·refine rg G ?_
    have hm := eL hm hb hr
    cases hm
    exact rt [] []
   ·refine X_skip (thN (rg G (tF hm (fun at_2 => ⟨[(2, dV blocks), (3, .ref 16 0), (4, .ref 32 0), (7, .own 48), (8, dV v)], [bX 16 [dV t.Network.Stops, dV t.Network.Lines, dV t.Trips], bX 32 [dV f.Dead, dV f.Turn], aX 48 3 at_2], 80⟩) (fun v4 hr1 hm => ?_) ?_)))
    ·refine Ok_block (lp G hm (fun (v2, at_1) => ⟨[(2, dV blocks), (3, .ref 16 0), (4, .ref 32 0), (7, .own 48), (8, dV v), (9, dV v2)], [bX 16 [dV t.Network.Stops, dV t.Network.Lines, dV t.Trips], bX 32 [dV f.Dead, dV f.Turn], aX 48 3 at_1], 80⟩) ?_)
     rintro ⟨v2, at_1⟩ r0 hb3 hm
     rw [yabq] at hm
     refine Ok_seq ?_
     obtain ⟨e11, h10, hm⟩ := obind hm
     refine rs G (hD 3 h10 (hN 5 e11 h0)) ?_
     refine cd hm (fun hm => ?_) (fun hm => ?_)
     ·refine X_skip (thN (Ok_seq (Ok_block ?_)))
      obtain ⟨e14, h14, hm⟩ := obind hm
      obtain ⟨e15, h15, hm⟩ := obind hm
      obtain ⟨r2, h16, hm⟩ := obind hm
      refine ds G [] (hD 3 h14 (hD 6 h15 (hC 8 (yabs h16) h0))) ?_
      refine Ok_seq (jn hm (fun v3 => ⟨[(2, dV blocks), (3, .ref 16 0), (4, .ref 32 0), (7, .own 48), (8, dV v), (9, dV v2), (10, dV r2), (89, dV v3)], [bX 16 [dV t.Network.Stops, dV t.Network.Lines, dV t.Trips], bX 32 [dV f.Dead, dV f.Turn], aX 48 3 at_1], 80⟩) (fun v3 hm => ?_) ?_)
      ·rcases bf hm with ⟨hb4, hm⟩ | ⟨hb4, hm⟩
       ·refine de G [] (hO 2 (.b true) (hP hb4 h0)) ?_
        exact wJ G hm
       ·obtain ⟨r6, h22, hm⟩ := obind hm
        rcases bf hm with ⟨hb5, hm⟩ | ⟨hb5, hm⟩
        ·refine de G [] (hO 2 (.b false) (hP hb4 (hC 5 (yaml h22) (hO 7 (.b true) (hP hb5 h0))))) ?_
         exact wJ G hm
        ·rcases bf hm with ⟨hb6, hm⟩ | ⟨hb6, hm⟩
         ·obtain ⟨e18, h23, hm⟩ := obind hm
          obtain ⟨e19, h24, hm⟩ := obind hm
          obtain ⟨r7, h25, hm⟩ := obind hm
          obtain ⟨r8, h26, hm⟩ := obind hm
          refine de G [] (hO 2 (.b false) (hP hb4 (hC 5 (yaml h22) (hO 7 (.b false) (hP hb5 (hO 10 (.b true) (hP hb6 (hD 16 h23 (hD 20 h24 (hC 22 (yabs h25) (hC 24 (yanv h26) h0))))))))))) ?_
          exact wJ G hm
         ·refine de G [] (hO 2 (.b false) (hP hb4 (hC 5 (yaml h22) (hO 7 (.b false) (hP hb5 (hO 10 (.b false) (hP hb6 h0))))))) ?_
          exact wJ G hm
      rintro v3 hm
      refine cd hm (fun hm => ?_) (fun hm => ?_)
      ·refine rg G ?_
       have hm := eL hm hb3 hr1
       have hm := eL hm hb hr
       cases hm
       exact rt [] []
      ·refine X_skip (thN ?_)
       obtain ⟨u, h27, hm⟩ := obind hm
       refine re G (hA 3 8 h27 h0) ?_
       exact ibN (thN (rh G (wL G hm)))
     ·exact Ok_exit (thE (thE (ibE (wE G hm hb3))))
    rintro at_2 hm s hw
    refine ibN (thN (Ok_weak hw ?_))
    exact rh G (wL G hm)
  ·exact Ok_exit (thE (thE (ibE (wE G hm hb))))
 rintro at_3 hm s1 hw1
 refine thN (Ok_weak hw1 ?_)
 refine rs G (hN 1 at_3 (hN 4 t.Trips h0)) ?_
 cases hm
 exact rt [] []
def yans : MS (Timetable × Fleet × (List (List Int))) Bool := ⟨.x .r (.x .r .r), fun x => zq56 x.1 x.2.1 x.2.2, fun y => dV y, fun _ => [], fun _ _ => []⟩
theorem yavk {t f blocks y} (hm : zq56 t f blocks = some y) : yans.C (t, f, blocks) y := yans.c (t, f, blocks) hm
theorem yavj : FnOK Tryz.prog 152 yans.S := by
 refine fm tt yans [fo yarc, fo yavq] Tryz.call152 Tryz.func152 rfl Tryz.results152 Tryz.ntmps152 ?_
 rintro ⟨t, f, blocks⟩ y cx G hm
 have hm : zq56 t f blocks = some y := hm
 unfold zq56 at hm
 refine rg G ?_
 obtain ⟨r, h, hm⟩ := obind hm
 refine jn hm (fun v => ⟨[(6, dV v)], [], 32⟩) (fun v hm => ?_) ?_
 ·rcases bf hm with ⟨hb, hm⟩ | ⟨hb, hm⟩
  ·obtain ⟨r1, h1, hm⟩ := obind hm
   refine re G (hC 2 (yaod h) (hO 3 (.b true) (hP hb (hC 7 (yazn h1) h0)))) ?_
   exact wJ G hm
  ·refine re G (hC 2 (yaod h) (hO 3 (.b false) (hP hb h0))) ?_
   exact wJ G hm
 rintro v hm
 cases hm
 exact rt [] []
def yann : MS Int Bool := ⟨.r, zq61, fun y => dV y, fun _ => [], fun _ _ => []⟩
theorem yabm {x y} (hm : zq61 x = some y) : yann.C x y := yann.c x hm
theorem yavf : FnOK Tryz.prog 202 yann.S := by
 refine fm tt yann [fo yace] Tryz.call202 Tryz.func202 rfl Tryz.results202 Tryz.ntmps202 ?_
 rintro x y cx G hm
 have hm : zq61 x = some y := hm
 unfold zq61 at hm
 refine rg G ?_
 obtain ⟨r, h, hm⟩ := obind hm
 refine rs G (hC 1 (yabh h) h0) ?_
 cases hm
 exact rt [] []
def yank : MS Rules Bool := ⟨.r, zq64, fun y => dV y, fun _ => [], fun _ _ => []⟩
theorem yavd {r y} (hm : zq64 r = some y) : yank.C r y := yank.c r hm
theorem yaqz : FnOK Tryz.prog 128 yank.S := by
 refine fm tt yank [fo yavf] Tryz.call128 Tryz.func128 rfl Tryz.results128 Tryz.ntmps128 ?_
 rintro r y cx G hm
 have hm : zq64 r = some y := hm
 unfold zq64 at hm
 refine rg G ?_
 obtain ⟨r1, h, hm⟩ := obind hm
 refine jn hm (fun v => ⟨[(2, dV v)], [], 32⟩) (fun v hm => ?_) ?_
 ·rcases bf hm with ⟨hb, hm⟩ | ⟨hb, hm⟩
  ·obtain ⟨r2, h1, hm⟩ := obind hm
   rcases bf hm with ⟨hb1, hm⟩ | ⟨hb1, hm⟩
   ·obtain ⟨r3, h2, hm⟩ := obind hm
    rcases bf hm with ⟨hb2, hm⟩ | ⟨hb2, hm⟩
    ·obtain ⟨r4, h3, hm⟩ := obind hm
     rcases bf hm with ⟨hb3, hm⟩ | ⟨hb3, hm⟩
     ·obtain ⟨r5, h4, hm⟩ := obind hm
      rcases bf hm with ⟨hb4, hm⟩ | ⟨hb4, hm⟩
      ·obtain ⟨r6, h5, hm⟩ := obind hm
       refine re G (hC 2 (yabm h) (hO 3 (.b true) (hP hb (hC 6 (yabm h1) (hO 8 (.b true) (hP hb1 (hC 11 (yabm h2) (hO 13 (.b true) (hP hb2 (hC 16 (yabm h3) (hO 18 (.b true) (hP hb3 (hC 21 (yabm h4) (hO 23 (.b true) (hP hb4 (hC 26 (yabm h5) h0)))))))))))))))) ?_
       exact wJ G hm
      ·refine re G (hC 2 (yabm h) (hO 3 (.b true) (hP hb (hC 6 (yabm h1) (hO 8 (.b true) (hP hb1 (hC 11 (yabm h2) (hO 13 (.b true) (hP hb2 (hC 16 (yabm h3) (hO 18 (.b true) (hP hb3 (hC 21 (yabm h4) (hO 23 (.b false) (hP hb4 h0))))))))))))))) ?_
       exact wJ G hm
     ·refine re G (hC 2 (yabm h) (hO 3 (.b true) (hP hb (hC 6 (yabm h1) (hO 8 (.b true) (hP hb1 (hC 11 (yabm h2) (hO 13 (.b true) (hP hb2 (hC 16 (yabm h3) (hO 18 (.b false) (hP hb3 h0)))))))))))) ?_
      exact wJ G hm
    ·refine re G (hC 2 (yabm h) (hO 3 (.b true) (hP hb (hC 6 (yabm h1) (hO 8 (.b true) (hP hb1 (hC 11 (yabm h2) (hO 13 (.b false) (hP hb2 h0))))))))) ?_
     exact wJ G hm
   ·refine re G (hC 2 (yabm h) (hO 3 (.b true) (hP hb (hC 6 (yabm h1) (hO 8 (.b false) (hP hb1 h0)))))) ?_
    exact wJ G hm
  ·refine re G (hC 2 (yabm h) (hO 3 (.b false) (hP hb h0))) ?_
   exact wJ G hm
 rintro v hm
 cases hm
 exact rt [] []
def yant : MS (Timetable × Fleet × (List (List Int)) × Rules) Bool := ⟨.x .r (.x .r (.x .r .r)), fun x => zq55 x.1 x.2.1 x.2.2.1 x.2.2.2, fun y => dV y, fun _ => [], fun _ _ => []⟩
theorem yazi {t f blocks r y} (hm : zq55 t f blocks r = some y) : yant.C (t, f, blocks, r) y := yant.c (t, f, blocks, r) hm
theorem yavl : FnOK Tryz.prog 126 yant.S := by
 refine fm tt yant [fo yavj, fo yaqz] Tryz.call126 Tryz.func126 rfl Tryz.results126 Tryz.ntmps126 ?_
 rintro ⟨t, f, blocks, r⟩ y cx G hm
 have hm : zq55 t f blocks r = some y := hm
 unfold zq55 at hm
 refine rg G ?_
 obtain ⟨r1, h, hm⟩ := obind hm
 refine jn hm (fun v => ⟨[(8, dV v)], [], 32⟩) (fun v hm => ?_) ?_
 ·rcases bf hm with ⟨hb, hm⟩ | ⟨hb, hm⟩
  ·obtain ⟨r2, h1, hm⟩ := obind hm
   refine re G (hC 3 (yavk h) (hO 4 (.b true) (hP hb (hC 6 (yavd h1) h0)))) ?_
   exact wJ G hm
  ·refine re G (hC 3 (yavk h) (hO 4 (.b false) (hP hb h0))) ?_
   exact wJ G hm
 rintro v hm
 cases hm
 exact rt [] []
def yanl : MS ((List (List Int)) × Duty) Bool := ⟨.x .r .r, fun x => zq63 x.1 x.2, fun y => dV y, fun _ => [], fun _ _ => []⟩
theorem yazd {blocks d y} (hm : zq63 blocks d = some y) : yanl.C (blocks, d) y := yanl.c (blocks, d) hm
theorem yave : FnOK Tryz.prog 199 yanl.S := by
 refine fm tt yanl [fo yara, fo yaqs, fo yace] Tryz.call199 Tryz.func199 rfl Tryz.results199 Tryz.ntmps199 ?_
 rintro ⟨blocks, d⟩ y cx G hm
 have hm : zq63 blocks d = some y := hm
 unfold zq63 at hm
 refine rg G (rg G (Ok_seq (rg G (tF hm (fun _ => ⟨[(3, .ref 16 0)], [bX 16 [dV d.Pieces]], 48⟩) (fun v3 hr hm => ?_) ?_))))
 ·refine Ok_block (lp G hm (fun (v, k) => ⟨[(0, dV blocks), (3, .ref 16 0), (5, .own 32), (6, dV v)], [bX 16 [dV d.Pieces], aX 32 3 k], 64⟩) ?_)
  rintro ⟨v, k⟩ r0 hb hm
  rw [yagi] at hm
  refine Ok_seq (rs G (hN 3 d.Pieces h0) ?_)
  refine cd hm (fun hm => ?_) (fun hm => ?_)
  ·refine X_skip (thN (Ok_seq (Ok_block (Ok_seq ?_))))
   obtain ⟨e, h, hm⟩ := obind hm
   obtain ⟨r, h1, hm⟩ := obind hm
   refine rs G (hD 4 h (hC 6 (yada h1) h0)) ?_
   refine cd hm (fun hm => ?_) (fun hm => ?_)
   ·refine rg G ?_
    have hm := eL hm hb hr
    cases hm
    exact rt [] []
   ·refine X_skip (thN (rg G (tF hm (fun k2 => ⟨[(0, dV blocks), (3, .ref 16 0), (5, .own 32), (6, dV v)], [bX 16 [dV d.Pieces], aX 32 3 k2], 64⟩) (fun v2 hr1 hm => ?_) ?_)))
    ·refine Ok_block (lp G hm (fun (v1, k1) => ⟨[(0, dV blocks), (3, .ref 16 0), (5, .own 32), (6, dV v), (7, dV v1)], [bX 16 [dV d.Pieces], aX 32 3 k1], 64⟩) ?_)
     rintro ⟨v1, k1⟩ r0 hb1 hm
     rw [yagj] at hm
     refine Ok_seq ?_
     obtain ⟨e2, h2, hm⟩ := obind hm
     refine rs G (hD 4 h2 (hN 6 e2 h0)) ?_
     refine cd hm (fun hm => ?_) (fun hm => ?_)
     ·refine X_skip (thN (Ok_seq (Ok_block (Ok_seq ?_))))
      obtain ⟨e3, h3, hm⟩ := obind hm
      obtain ⟨e4, h4, hm⟩ := obind hm
      obtain ⟨r2, h5, hm⟩ := obind hm
      refine rs G (hD 4 h3 (hD 7 h4 (hC 9 (yaml h5) h0))) ?_
      refine cd hm (fun hm => ?_) (fun hm => ?_)
      ·refine rg G ?_
       have hm := eL hm hb1 hr1
       have hm := eL hm hb hr
       cases hm
       exact rt [] []
      ·refine X_skip (thN ?_)
       obtain ⟨e7, h6, hm⟩ := obind hm
       obtain ⟨e8, h7, hm⟩ := obind hm
       obtain ⟨u, h8, hm⟩ := obind hm
       refine re G (hD 4 h6 (hD 7 h7 (hA 10 8 h8 h0))) ?_
       exact ibN (thN (rh G (wL G hm)))
     ·exact Ok_exit (thE (thE (ibE (wE G hm hb1))))
    rintro k2 hm s hw
    refine ibN (thN (Ok_weak hw ?_))
    exact rh G (wL G hm)
  ·exact Ok_exit (thE (thE (ibE (wE G hm hb))))
 rintro ⟨⟩ hm s1 hw1
 refine thN (Ok_weak hw1 ?_)
 obtain ⟨r5, h9, hm⟩ := obind hm
 refine rs G (hN 2 d.Pieces (hC 3 (yabh h9) h0)) ?_
 cases hm
 exact rt [] []
def yanq : MS (Timetable × (List Int)) Int := ⟨.x .r .r, fun x => zq58 x.1 x.2, fun y => dV y, fun _ => [], fun _ _ => []⟩
theorem yarz {t piece y} (hm : zq58 t piece = some y) : yanq.C (t, piece) y := yanq.c (t, piece) hm
theorem yajo : FnOK Tryz.prog 137 yanq.S := by
 refine fm tt yanq [fo yacq, fo yafk] Tryz.call137 Tryz.func137 rfl Tryz.results137 Tryz.ntmps137 ?_
 rintro ⟨t, piece⟩ y cx G hm
 have hm : zq58 t piece = some y := hm
 unfold zq58 at hm
 refine rg G ?_
 obtain ⟨e1, h3, hm⟩ := obind hm
 obtain ⟨r2, h4, hm⟩ := obind hm
 obtain ⟨r3, h5, hm⟩ := obind hm
 refine ds G [] (hN 4 piece (hD 6 h3 (hC 8 (yabs h4) (hC 9 (yaew h5) h0)))) ?_
 cases hm
 exact rt [] []
def yanp : MS (Timetable × Fleet × (List Int) × (List Int)) Int := ⟨.x .r (.x .r (.x .r .r)), fun x => zq59 x.1 x.2.1 x.2.2.1 x.2.2.2, fun y => dV y, fun _ => [], fun _ _ => []⟩
theorem yazg {t f a b y} (hm : zq59 t f a b = some y) : yanp.C (t, f, a, b) y := yanp.c (t, f, a, b) hm
theorem yavh : FnOK Tryz.prog 200 yanp.S := by
 refine fm tt yanp [fo yagh, fo yajo, fo yacq, fo yagn] Tryz.call200 Tryz.func200 rfl Tryz.results200 Tryz.ntmps200 ?_
 rintro ⟨t, f, a, b⟩ y cx G hm
 have hm : zq59 t f a b = some y := hm
 unfold zq59 at hm
 refine rg G ?_
 obtain ⟨r5, h7, hm⟩ := obind hm
 obtain ⟨r6, h8, hm⟩ := obind hm
 obtain ⟨e2, h9, hm⟩ := obind hm
 obtain ⟨r7, h10, hm⟩ := obind hm
 obtain ⟨e3, h11, hm⟩ := obind hm
 obtain ⟨r8, h12, hm⟩ := obind hm
 obtain ⟨r9, h13, hm⟩ := obind hm
 refine ds G [] (hC 2 (yajn h7) (hC 5 (yarz h8) (hN 12 a (hD 14 h9 (hC 16 (yabs h10) (hD 19 h11 (hC 21 (yabs h12) (hC 22 (yany h13) h0)))))))) ?_
 cases hm
 exact rt [] []
def yano : MS (Timetable × Rules × Duty) Int := ⟨.x .r (.x .r .r), fun x => zq60 x.1 x.2.1 x.2.2, fun y => dV y, fun _ => [], fun _ _ => []⟩
theorem yaze {t r d y} (hm : zq60 t r d = some y) : yano.C (t, r, d) y := yano.c (t, r, d) hm
theorem yavg : FnOK Tryz.prog 201 yano.S := by
 refine fm tt yano [fo yajo, fo yagh] Tryz.call201 Tryz.func201 rfl Tryz.results201 Tryz.ntmps201 ?_
 rintro ⟨t, r, d⟩ y cx G hm
 have hm : zq60 t r d = some y := hm
 unfold zq60 at hm
 refine rg G ?_
 obtain ⟨e2, h4, hm⟩ := obind hm
 obtain ⟨r3, h5, hm⟩ := obind hm
 obtain ⟨e3, h6, hm⟩ := obind hm
 obtain ⟨r4, h7, hm⟩ := obind hm
 refine ds G [] (hN 7 d.Pieces (hD 9 h4 (hC 11 (yarz h5) (hD 16 h6 (hC 18 (yajn h7) h0))))) ?_
 cases hm
 exact rt [] []
def yanr : MS (Timetable × Fleet × (List (List Int)) × Rules × Duty) Int := ⟨.x .r (.x .r (.x .r (.x .r .r))), fun x => zq57 x.1 x.2.1 x.2.2.1 x.2.2.2.1 x.2.2.2.2, fun y => dV y, fun _ => [], fun _ _ => []⟩
theorem yazh {t f blocks r d y} (hm : zq57 t f blocks r d = some y) : yanr.C (t, f, blocks, r, d) y := yanr.c (t, f, blocks, r, d) hm
theorem yavi : FnOK Tryz.prog 127 yanr.S := by
 refine fm tt yanr [fo yave, fo yajo, fo yagh, fo yavh, fo yavg] Tryz.call127 Tryz.func127 rfl Tryz.results127 Tryz.ntmps127 ?_
 rintro ⟨t, f, blocks, r, d⟩ y cx G hm
 have hm : zq57 t f blocks r d = some y := hm
 unfold zq57 at hm
 refine rg G (Ok_seq ?_)
 obtain ⟨r1, h, hm⟩ := obind hm
 refine rs G (hC 2 (yazd h) h0) ?_
 refine cd hm (fun hm => ?_) (fun hm => ?_)
 ·refine rg G ?_
  cases hm
  exact rt [] []
 ·refine X_skip (thN (Ok_seq (rg G (tF hm (fun _ => ⟨[(5, .ref 16 0), (6, .ref 32 0), (8, .ref 48 0), (9, .ref 64 0)], [bX 16 [dV t.Network.Stops, dV t.Network.Lines, dV t.Trips], bX 32 [dV f.Dead, dV f.Turn], bX 48 [dV r.SignOn, dV r.SignOff, dV r.MaxDrive, dV r.MinBreak, dV r.PaidBreak, dV r.MaxLength], bX 64 [dV d.Pieces]], 96⟩) (fun v3 hr hm => ?_) ?_))))
  ·refine Ok_block (lp G hm (fun v => ⟨[(5, .ref 16 0), (6, .ref 32 0), (8, .ref 48 0), (9, .ref 64 0), (11, dV v)], [bX 16 [dV t.Network.Stops, dV t.Network.Lines, dV t.Trips], bX 32 [dV f.Dead, dV f.Turn], bX 48 [dV r.SignOn, dV r.SignOff, dV r.MaxDrive, dV r.MinBreak, dV r.PaidBreak, dV r.MaxLength], bX 64 [dV d.Pieces]], 96⟩) ?_)
   rintro v r0 hb hm
   rw [yade] at hm
   refine Ok_seq (rs G (hN 3 d.Pieces h0) ?_)
   refine cd hm (fun hm => ?_) (fun hm => ?_)
   ·refine X_skip (thN (Ok_seq (Ok_block ?_)))
    obtain ⟨e2, h5, hm⟩ := obind hm
    obtain ⟨r4, h6, hm⟩ := obind hm
    obtain ⟨e3, h7, hm⟩ := obind hm
    obtain ⟨r5, h8, hm⟩ := obind hm
    refine ds G [] (hD 4 h5 (hC 6 (yarz h6) (hD 11 h7 (hC 13 (yajn h8) h0)))) ?_
    refine cd hm (fun hm => ?_) (fun hm => ?_)
    ·refine rg G ?_
     have hm := eL hm hb hr
     cases hm
     exact rt [] []
    ·exact X_skip (ibN (thN (rh G (wL G hm))))
   ·exact Ok_exit (thE (thE (ibE (wE G hm hb))))
  rintro ⟨⟩ hm s hw
  refine thN (Ok_weak hw ?_)
  refine Ok_seq (rg G (tF hm (fun _ => ⟨[(5, .ref 16 0), (8, .ref 32 0), (9, .ref 48 0)], [bX 16 [dV t.Network.Stops, dV t.Network.Lines, dV t.Trips], bX 32 [dV r.SignOn, dV r.SignOff, dV r.MaxDrive, dV r.MinBreak, dV r.PaidBreak, dV r.MaxLength], bX 48 [dV d.Pieces]], 80⟩) (fun v2 hr1 hm => ?_) ?_))
  ·refine Ok_block (lp G hm (fun v1 => ⟨[(5, .ref 16 0), (6, .ref 32 0), (8, .ref 48 0), (9, .ref 64 0), (12, dV v1)], [bX 16 [dV t.Network.Stops, dV t.Network.Lines, dV t.Trips], bX 32 [dV f.Dead, dV f.Turn], bX 48 [dV r.SignOn, dV r.SignOff, dV r.MaxDrive, dV r.MinBreak, dV r.PaidBreak, dV r.MaxLength], bX 64 [dV d.Pieces]], 96⟩) ?_)
   rintro v1 r0 hb1 hm
   rw [yadd] at hm
   refine Ok_seq (rs G (hN 3 d.Pieces h0) ?_)
   refine cd hm (fun hm => ?_) (fun hm => ?_)
   ·refine X_skip (thN (Ok_seq (Ok_block ?_)))
    obtain ⟨e7, h12, hm⟩ := obind hm
    obtain ⟨e8, h13, hm⟩ := obind hm
    obtain ⟨r8, h14, hm⟩ := obind hm
    refine ds G [] (hD 6 h12 (hD 11 h13 (hC 13 (yazg h14) h0))) ?_
    refine cd hm (fun hm => ?_) (fun hm => ?_)
    ·refine rg G ?_
     have hm := eL hm hb1 hr1
     cases hm
     exact rt [] []
    ·exact X_skip (ibN (thN (rh G (wL G hm))))
   ·exact Ok_exit (thE (thE (ibE (wE G hm hb1))))
  rintro ⟨⟩ hm s1 hw1
  refine thN (Ok_weak hw1 ?_)
  refine Ok_seq ?_
  obtain ⟨r11, h16, hm⟩ := obind hm
  refine ds G [] (hC 3 (yaze h16) h0) ?_
  refine cd hm (fun hm => ?_) (fun hm => ?_)
  ·refine rg G ?_
   cases hm
   exact rt [] []
  ·refine X_skip (thN (rg G ?_))
   cases hm
   exact rt [] []
def yaoh : MS (Timetable × Fleet × (List (List Int)) × Rules × Duty) (Int × Bool) := ⟨.x .r (.x .r (.x .r (.x .r .r))), fun x => zq43 x.1 x.2.1 x.2.2.1 x.2.2.2.1 x.2.2.2.2, fun y => .tup [dV y.1, dV y.2], fun _ => [], fun _ _ => []⟩
theorem yazr {t f blocks r d y} (hm : zq43 t f blocks r d = some y) : yaoh.C (t, f, blocks, r, d) y := yaoh.c (t, f, blocks, r, d) hm
theorem yavu : FnOK Tryz.prog 49 yaoh.S := by
 refine fm tt yaoh [fo yavl, fo yavi] Tryz.call49 Tryz.func49 rfl Tryz.results49 Tryz.ntmps49 ?_
 rintro ⟨t, f, blocks, r, d⟩ y cx G hm
 have hm : zq43 t f blocks r d = some y := hm
 unfold zq43 at hm
 refine rg G (Ok_seq ?_)
 obtain ⟨r1, h, hm⟩ := obind hm
 refine rs G (hC 4 (yazi h) h0) ?_
 refine cd hm (fun hm => ?_) (fun hm => ?_)
 ·refine rg G ?_
  cases hm
  exact rt [] []
 ·refine X_skip (thN ?_)
  obtain ⟨r2, h1, hm⟩ := obind hm
  refine rs G (hC 5 (yazh h1) h0) ?_
  cases hm
  exact rt [] []
def yaof : MS Rules Bool := ⟨.r, zq45, fun y => dV y, fun _ => [], fun _ _ => []⟩
theorem yazp {r y} (hm : zq45 r = some y) : yaof.C r y := yaof.c r hm
theorem yavs : FnOK Tryz.prog 51 yaof.S := by
 refine fm tt yaof [fo yaqz] Tryz.call51 Tryz.func51 rfl Tryz.results51 Tryz.ntmps51 ?_
 rintro r y cx G hm
 have hm : zq45 r = some y := hm
 unfold zq45 at hm
 refine rg G ?_
 obtain ⟨r1, h, hm⟩ := obind hm
 refine rs G (hC 1 (yavd h) h0) ?_
 cases hm
 exact rt [] []
def yapd : MS (Timetable × Fleet × (List (List Int)) × Rules × Duty) Bool := ⟨.x .r (.x .r (.x .r (.x .r .r))), fun x => zq21 x.1 x.2.1 x.2.2.1 x.2.2.2.1 x.2.2.2.2, fun y => dV y, fun _ => [], fun _ _ => []⟩
theorem yase {t f blocks r d y} (hm : zq21 t f blocks r d = some y) : yapd.C (t, f, blocks, r, d) y := yapd.c (t, f, blocks, r, d) hm
theorem yake : FnOK Tryz.prog 129 yapd.S := by
 refine fm tt yapd [fo yarj, fo yari] Tryz.call129 Tryz.func129 rfl Tryz.results129 Tryz.ntmps129 ?_
 rintro ⟨t, f, blocks, r, d⟩ y cx G hm
 have hm : zq21 t f blocks r d = some y := hm
 unfold zq21 at hm
 refine rg G ?_
 obtain ⟨r1, h, hm⟩ := obind hm
 refine jn hm (fun v => ⟨[(10, dV v)], [], 32⟩) (fun v hm => ?_) ?_
 ·rcases bf hm with ⟨hb, hm⟩ | ⟨hb, hm⟩
  ·obtain ⟨r2, h1, hm⟩ := obind hm
   refine re G (hC 4 (yash h) (hO 5 (.b true) (hP hb (hC 11 (yawt h1) h0)))) ?_
   exact wJ G hm
  ·refine re G (hC 4 (yash h) (hO 5 (.b false) (hP hb h0))) ?_
   exact wJ G hm
 rintro v hm
 cases hm
 exact rt [] []
def zq3_M : MS (Timetable × Fleet × (List (List Int)) × Rules × Duty) (Int × Bool) := ⟨.x .r (.x .r (.x .r (.x .r .r))), fun x => zq3 x.1 x.2.1 x.2.2.1 x.2.2.2.1 x.2.2.2.2, fun y => .tup [dV y.1, dV y.2], fun _ => [], fun _ _ => []⟩
theorem zq3_c {t f blocks r d y} (hm : zq3 t f blocks r d = some y) : zq3_M.C (t, f, blocks, r, d) y := zq3_M.c (t, f, blocks, r, d) hm
theorem yazt : FnOK Tryz.prog 52 zq3_M.S := by
 refine fm tt zq3_M [fo yake, fo yarg] Tryz.call52 Tryz.func52 rfl Tryz.results52 Tryz.ntmps52 ?_
 rintro ⟨t, f, blocks, r, d⟩ y cx G hm
 have hm : zq3 t f blocks r d = some y := hm
 unfold zq3 at hm
 refine rg G (Ok_seq ?_)
 obtain ⟨r1, h, hm⟩ := obind hm
 refine rs G (hC 5 (yase h) h0) ?_
 refine cd hm (fun hm => ?_) (fun hm => ?_)
 ·refine rg G ?_
  cases hm
  exact rt [] []
 ·refine X_skip (thN ?_)
  obtain ⟨r2, h1, hm⟩ := obind hm
  refine rs G (hC 3 (yawe h1) h0) ?_
  cases hm
  exact rt [] []
def yaor : MS (Timetable × Fleet × Rules × Duty) Int := ⟨.x .r (.x .r (.x .r .r)), fun x => zq33 x.1 x.2.1 x.2.2.1 x.2.2.2, fun y => dV y, fun _ => [], fun _ _ => []⟩
theorem yazx {t f r d y} (hm : zq33 t f r d = some y) : yaor.C (t, f, r, d) y := yaor.c (t, f, r, d) hm
theorem yawb : FnOK Tryz.prog 131 yaor.S := by
 refine fm tt yaor [fo yagr, fo yakf] Tryz.call131 Tryz.func131 rfl Tryz.results131 Tryz.ntmps131 ?_
 rintro ⟨t, f, r, d⟩ y cx G hm
 have hm : zq33 t f r d = some y := hm
 unfold zq33 at hm
 refine rg G (rg G (Ok_seq (rs G (hN 2 d.Pieces h0) ?_)))
 refine tl hm (fun v2 => ⟨[(4, .ref 16 0), (5, .ref 32 0), (6, .ref 48 0), (7, .ref 64 0), (9, dV v2)], [bX 16 [dV t.Network.Stops, dV t.Network.Lines, dV t.Trips], bX 32 [dV f.Dead, dV f.Turn], bX 48 [dV r.SignOn, dV r.SignOff, dV r.MaxDrive, dV r.MinBreak, dV r.PaidBreak, dV r.MaxLength], bX 64 [dV d.Pieces]], 96⟩) (fun v2 hm => ?_) ?_
 ·refine Ok_block (lp G hm (fun (v, v1) => ⟨[(4, .ref 16 0), (5, .ref 32 0), (6, .ref 48 0), (7, .ref 64 0), (9, dV v), (21, dV d.Pieces), (22, dV (d.Pieces.length : Int)), (23, dV v1)], [bX 16 [dV t.Network.Stops, dV t.Network.Lines, dV t.Trips], bX 32 [dV f.Dead, dV f.Turn], bX 48 [dV r.SignOn, dV r.SignOff, dV r.MaxDrive, dV r.MinBreak, dV r.PaidBreak, dV r.MaxLength], bX 64 [dV d.Pieces]], 96⟩) ?_)
  rintro ⟨v, v1⟩ r0 hb hm
  rw [yakc] at hm
  refine rg G (Ok_seq (cd hm (fun hm => ?_) (fun hm => ?_)))
  ·refine X_skip (thN (Ok_seq (Ok_block ?_)))
   obtain ⟨e, h, hm⟩ := obind hm
   refine rs G (hD 0 h h0) ?_
   obtain ⟨r1, h1, hm⟩ := obind hm
   refine rs G (hC 2 (yais h1) h0) ?_
   exact rh G (ibN (thN (rh G (wL G hm))))
  ·exact Ok_exit (thE (thE (ibE (wD G hm hb))))
 rintro v2 hm s hw
 refine thN (Ok_weak hw ?_)
 refine Ok_seq ?_
 obtain ⟨r2, h2, hm⟩ := obind hm
 refine rs G (hC 4 (yasf h2) (hN 5 r2 h0)) ?_
 refine tl hm (fun v5 => ⟨[(9, dV v5)], [], 32⟩) (fun v5 hm => ?_) ?_
 ·refine Ok_block (lp G hm (fun (v3, v4) => ⟨[(6, .ref 16 0), (9, dV v3), (42, .own 32), (43, dV (r2.length : Int)), (44, dV v4)], [bX 16 [dV r.SignOn, dV r.SignOff, dV r.MaxDrive, dV r.MinBreak, dV r.PaidBreak, dV r.MaxLength], aX 32 3 r2], 64⟩) ?_)
  rintro ⟨v3, v4⟩ r0 hb1 hm
  rw [yakb] at hm
  refine rg G (Ok_seq (cd hm (fun hm => ?_) (fun hm => ?_)))
  ·refine X_skip (thN (Ok_seq (Ok_block ?_)))
   obtain ⟨e1, h3, hm⟩ := obind hm
   refine rs G (hD 0 h3 (hE 1 h3 h0)) ?_
   exact rh G (ibN (thN (rh G (wL G hm))))
  ·exact Ok_exit (thE (thE (ibE (wD G hm hb1))))
 rintro v5 hm s1 hw1
 refine thN (Ok_weak hw1 ?_)
 refine rg G ?_
 cases hm
 exact rt [] []
def yapp : MS (Timetable × Fleet × (List (List Int)) × Rules × Duty) (Int × Bool) := ⟨.x .r (.x .r (.x .r (.x .r .r))), fun x => zq10 x.1 x.2.1 x.2.2.1 x.2.2.2.1 x.2.2.2.2, fun y => .tup [dV y.1, dV y.2], fun _ => [], fun _ _ => []⟩
theorem ybaj {t f blocks r d y} (hm : zq10 t f blocks r d = some y) : yapp.C (t, f, blocks, r, d) y := yapp.c (t, f, blocks, r, d) hm
theorem yaxq : FnOK Tryz.prog 53 yapp.S := by
 refine fm tt yapp [fo yake, fo yawb] Tryz.call53 Tryz.func53 rfl Tryz.results53 Tryz.ntmps53 ?_
 rintro ⟨t, f, blocks, r, d⟩ y cx G hm
 have hm : zq10 t f blocks r d = some y := hm
 unfold zq10 at hm
 refine rg G (Ok_seq ?_)
 obtain ⟨r1, h, hm⟩ := obind hm
 refine rs G (hC 5 (yase h) h0) ?_
 refine cd hm (fun hm => ?_) (fun hm => ?_)
 ·refine rg G ?_
  cases hm
  exact rt [] []
 ·refine X_skip (thN ?_)
  obtain ⟨r2, h1, hm⟩ := obind hm
  refine rs G (hC 4 (yazx h1) h0) ?_
  cases hm
  exact rt [] []
def zq4_M : MS (Timetable × Fleet × (List (List Int)) × Rules × Duty) ((List Int) × Bool) := ⟨.x .r (.x .r (.x .r (.x .r .r))), fun x => zq4 x.1 x.2.1 x.2.2.1 x.2.2.2.1 x.2.2.2.2, fun y => .tup [dV y.1, dV y.2], fun _ => [], fun _ _ => []⟩
theorem zq4_c {t f blocks r d y} (hm : zq4 t f blocks r d = some y) : zq4_M.C (t, f, blocks, r, d) y := zq4_M.c (t, f, blocks, r, d) hm
theorem yazl : FnOK Tryz.prog 54 zq4_M.S := by
 refine fm tt zq4_M [fo yake, fo yakf] Tryz.call54 Tryz.func54 rfl Tryz.results54 Tryz.ntmps54 ?_
 rintro ⟨t, f, blocks, r, d⟩ y cx G hm
 have hm : zq4 t f blocks r d = some y := hm
 unfold zq4 at hm
 refine rg G (Ok_seq ?_)
 obtain ⟨r1, h, hm⟩ := obind hm
 refine rs G (hC 5 (yase h) h0) ?_
 refine cd hm (fun hm => ?_) (fun hm => ?_)
 ·refine rg G ?_
  cases hm
  exact rt [] [[.z 1]]
 ·refine X_skip (thN ?_)
  obtain ⟨r2, h1, hm⟩ := obind hm
  refine rs G (hC 4 (yasf h1) h0) ?_
  cases hm
  exact rt [] []
def yaey : MS ((List UInt8)) Bool := ⟨.r, yact, fun y => dV y, fun _ => [], fun _ _ => []⟩
theorem v_FnDuty_ok : FnOK Tryz.prog 7 yaey.S := by
 refine fm tt yaey [fo yasi, fo yavt, fo yazz, fo yavu, fo yaup, fo yavs, fo yazt, fo yaxq, fo yazl] Tryz.call7 Tryz.func7 rfl Tryz.results7 Tryz.ntmps7 ?_
 rintro code y cx G hm
 have hm : yact code = some y := hm
 unfold yact at hm
 refine rg G (Ok_seq ?_)
 obtain ⟨r, h, hm⟩ := obind hm
 refine rs G (hC 1 (yawv h) h0) ?_
 refine cd hm (fun hm => ?_) (fun hm => ?_)
 ·refine rg G ?_
  cases hm
  exact rt [] []
 ·refine X_skip (thN ?_)
  obtain ⟨r1, h1, hm⟩ := obind hm
  refine rs G (hC 1 (yazq h1) h0) ?_
  obtain ⟨r2, h2, hm⟩ := obind hm
  refine rs G (hC 5 (zq2_c h2) h0) ?_
  refine Ok_seq ?_
  obtain ⟨r3, h3, hm⟩ := obind hm
  refine rs G (hC 5 (yazr h3) h0) ?_
  refine jn hm (fun v => ⟨[(3, .ref 16 0), (4, .ref 32 0), (5, .own 48), (6, .ref 64 0), (7, .ref 80 0), (8, dV r2.1), (9, dV r2.2), (62, dV v)], [bX 16 [dV r1.1.Network.Stops, dV r1.1.Network.Lines, dV r1.1.Trips], bX 32 [dV r1.2.1.Dead, dV r1.2.1.Turn], aX 48 35 r1.2.2.1, bX 64 [dV r1.2.2.2.1.SignOn, dV r1.2.2.2.1.SignOff, dV r1.2.2.2.1.MaxDrive, dV r1.2.2.2.1.MinBreak, dV r1.2.2.2.1.PaidBreak, dV r1.2.2.2.1.MaxLength], bX 80 [.own 96], aX 96 35 r1.2.2.2.2.Pieces], 128⟩) (fun v hm => ?_) ?_
  ·rcases bf hm with ⟨hb, hm⟩ | ⟨hb, hm⟩
   ·refine de G [] (hO 3 (.b true) (hP hb h0)) ?_
    exact wJ G hm
   ·rcases bf hm with ⟨hb1, hm⟩ | ⟨hb1, hm⟩
    ·refine de G [] (hO 3 (.b false) (hP hb (hO 8 (.b true) (hP hb1 h0)))) ?_
     exact wJ G hm
    ·obtain ⟨r6, h6, hm⟩ := obind hm
     obtain ⟨r7, h7, hm⟩ := obind hm
     refine de G [] (hO 3 (.b false) (hP hb (hO 8 (.b false) (hP hb1 (hC 10 (zq7_c h6) (hC 12 (yazp h7) h0)))))) ?_
     exact wJ G hm
  rintro v hm
  refine cd hm (fun hm => ?_) (fun hm => ?_)
  ·refine rg G ?_
   cases hm
   exact rt [] []
  ·refine X_skip (thN ?_)
   obtain ⟨r8, h8, hm⟩ := obind hm
   refine rs G (hC 5 (zq3_c h8) h0) ?_
   obtain ⟨r9, h9, hm⟩ := obind hm
   refine rs G (hC 5 (ybaj h9) h0) ?_
   obtain ⟨r10, h10, hm⟩ := obind hm
   refine rs G (hO 5 (.fz [48, 96] [] []) (hC 5 (zq4_c h10) h0)) ?_
   refine jn hm (fun i => ⟨[(6, .ref 16 0), (7, .ref 32 0), (12, dV r8.1), (13, dV r8.2), (14, dV r9.1), (15, dV r9.2), (16, dV r10.1), (17, dV r10.2), (18, dV i)], [bX 16 [dV r1.2.2.2.1.SignOn, dV r1.2.2.2.1.SignOff, dV r1.2.2.2.1.MaxDrive, dV r1.2.2.2.1.MinBreak, dV r1.2.2.2.1.PaidBreak, dV r1.2.2.2.1.MaxLength], bX 32 [dV r1.2.2.2.2.Pieces]], 64⟩) (fun i hm => ?_) ?_
   ·rcases bf hm with ⟨hb2, hm⟩ | ⟨hb2, hm⟩
    ·refine re G (hO 1 (.b true) (hP hb2 h0)) ?_
     exact wJ G hm
    ·refine re G (hO 1 (.b false) (hP hb2 h0)) ?_
     exact wJ G hm
   rintro i hm
   refine Ok_seq (jn hm (fun v1 => ⟨[(6, .ref 16 0), (7, .ref 32 0), (12, dV r8.1), (14, dV r9.1), (16, dV r10.1), (18, dV i), (107, dV v1)], [bX 16 [dV r1.2.2.2.1.SignOn, dV r1.2.2.2.1.SignOff, dV r1.2.2.2.1.MaxDrive, dV r1.2.2.2.1.MinBreak, dV r1.2.2.2.1.PaidBreak, dV r1.2.2.2.1.MaxLength], bX 32 [dV r1.2.2.2.2.Pieces]], 64⟩) (fun v1 hm => ?_) ?_)
   ·rcases bf hm with ⟨hb3, hm⟩ | ⟨hb3, hm⟩
    ·refine re G (hO 3 (.b true) (hP hb3 h0)) ?_
     exact wJ G hm
    ·rcases bf hm with ⟨hb4, hm⟩ | ⟨hb4, hm⟩
     ·refine re G (hO 3 (.b false) (hP hb3 (hO 8 (.b true) (hP hb4 h0)))) ?_
      exact wJ G hm
     ·refine re G (hO 3 (.b false) (hP hb3 (hO 8 (.b false) (hP hb4 h0)))) ?_
      exact wJ G hm
   rintro v1 hm
   refine cd hm (fun hm => ?_) (fun hm => ?_)
   ·refine rg G ?_
    cases hm
    exact rt [] []
   ·refine X_skip (thN (Ok_seq (rg G (cd hm (fun hm => ?_) (fun hm => ?_)))))
    ·refine jn hm (fun t => ⟨[(2, dV t)], [], 32⟩) (fun t hm => ?_) ?_
     ·rcases bf hm with ⟨hb5, hm⟩ | ⟨hb5, hm⟩
      ·refine re G (hO 2 (.b true) (hP hb5 h0)) ?_
       exact wJ G hm
      ·refine re G (hO 2 (.b false) (hP hb5 h0)) ?_
       exact wJ G hm
     rintro t hm
     cases hm
     exact rt [] []
    ·refine X_skip (thN (Ok_seq (rg G (tF hm (fun _ => ⟨[(6, .ref 16 0), (7, .ref 32 0), (12, dV r8.1), (14, dV r9.1), (16, dV r10.1)], [bX 16 [dV r1.2.2.2.1.SignOn, dV r1.2.2.2.1.SignOff, dV r1.2.2.2.1.MaxDrive, dV r1.2.2.2.1.MinBreak, dV r1.2.2.2.1.PaidBreak, dV r1.2.2.2.1.MaxLength], bX 32 [dV r1.2.2.2.2.Pieces]], 64⟩) (fun v3 hr hm => ?_) ?_))))
     ·refine Ok_block (lp G hm (fun v2 => ⟨[(6, .ref 16 0), (7, .ref 32 0), (12, dV r8.1), (14, dV r9.1), (16, dV r10.1), (19, dV v2)], [bX 16 [dV r1.2.2.2.1.SignOn, dV r1.2.2.2.1.SignOff, dV r1.2.2.2.1.MaxDrive, dV r1.2.2.2.1.MinBreak, dV r1.2.2.2.1.PaidBreak, dV r1.2.2.2.1.MaxLength], bX 32 [dV r1.2.2.2.2.Pieces]], 64⟩) ?_)
      rintro v2 r0 hb6 hm
      rw [yabw] at hm
      refine Ok_seq (rs G (hN 2 r10.1 h0) ?_)
      refine cd hm (fun hm => ?_) (fun hm => ?_)
      ·refine X_skip (thN (Ok_seq (Ok_block ?_)))
       obtain ⟨e1, h12, hm⟩ := obind hm
       refine ds G [] (hD 2 h12 h0) ?_
       refine cd hm (fun hm => ?_) (fun hm => ?_)
       ·refine rg G ?_
        have hm := eL hm hb6 hr
        cases hm
        exact rt [] []
       ·exact X_skip (ibN (thN (rh G (wL G hm))))
      ·exact Ok_exit (thE (thE (ibE (wE G hm hb6))))
     rintro ⟨⟩ hm s hw
     refine thN (Ok_weak hw ?_)
     refine jn hm (fun t1 => ⟨[(2, dV t1)], [], 32⟩) (fun t1 hm => ?_) ?_
     ·rcases bf hm with ⟨hb7, hm⟩ | ⟨hb7, hm⟩
      ·rcases bf hm with ⟨hb8, hm⟩ | ⟨hb8, hm⟩
       ·refine re G (hO 4 (.b true) (hP hb7 (hN 6 r10.1 (hN 9 r1.2.2.2.2.Pieces (hO 13 (.b true) (hP hb8 h0)))))) ?_
        exact wJ G hm
       ·refine re G (hO 4 (.b true) (hP hb7 (hN 6 r10.1 (hN 9 r1.2.2.2.2.Pieces (hO 13 (.b false) (hP hb8 h0)))))) ?_
        exact wJ G hm
      ·refine re G (hO 4 (.b false) (hP hb7 h0)) ?_
       exact wJ G hm
     rintro t1 hm
     cases hm
     exact rt [] []
end
end Go.Proofs.YtaegkodcjpgndaaGreat
