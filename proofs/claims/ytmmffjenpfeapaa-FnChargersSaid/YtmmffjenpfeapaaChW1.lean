/- Each function computes what its model says. Made by program (dec.py). -/
import Derived.Test.YtmmffjenpfeapaaTy
import Derived.Test.YtmmffjenpfeapaaAbC
import Derived.Test.YtmmffjenpfeapaaChM
namespace Go.Proofs.Ytmmffjenpfeapaa
open Go Go.Ab
set_option maxRecDepth 100000
set_option maxHeartbeats 4000000
set_option linter.unusedVariables false
set_option linter.unusedSimpArgs false
theorem tt : TT Try.prog ty := ⟨by kernel_rfl, ty_ok⟩
abbrev tJ : Inv := .none
noncomputable def zq62_M : MS ((List UInt8)) Bool := ⟨.r, zq62, fun y => dV y, fun _ => [], fun _ _ => []⟩
theorem zq62_c {code y} (hm : zq62 code = some y) : zq62_M.C code y := zq62_M.c code hm
theorem zq62_ok : FnOK Try.prog tJ 10 zq62_M.S := by
 refine fm tt zq62_M [] Try.call10 Try.func10 rfl Try.results10 Try.ntmps10 ?_
 rintro code y cx G hm
 have hm : zq62 code = some y := hm
 unfold zq62 at hm
 refine rg G (rs G (hN 1 code h0) ?_)
 cases hm
 exact rt [] []
noncomputable def zq22_M : MS l1Cur (Int × l1Cur) := ⟨.b 150, zq22, fun y => dV y.1, fun _ => [], fun _ y => [bxO 150 y.2]⟩
theorem zq22_c {c y} (hm : zq22 c = some y) : zq22_M.C c y := zq22_M.c c hm
theorem zq22_ok : FnOK Try.prog tJ 217 zq22_M.S := by
 refine fm tt zq22_M [] Try.call217 Try.func217 rfl Try.results217 Try.ntmps217 ?_
 rintro c y cx G hm
 have hm : zq22 c = some y := hm
 unfold zq22 at hm
 refine rg G (rg G (jn hm (fun v => ⟨[(0, .ref 0 0), (3, dV v)], [bX 0 150 [dV c.code_, dV c.at_, kV .u64 c.seed_.v]], 48⟩) (fun v hm => ?_) ?_))
 ·refine ds G [] (hN 8 c.code_ h0) ?_
  refine cd hm (fun hm => ?_) (fun hm => ?_)
  ·obtain ⟨e1, h1, hm⟩ := obind hm
   refine de G [] (hD 8 h1 h0) ?_
   exact wJ G hm
  ·exact X_skip (wJ G hm)
 rintro v hm
 refine rg G (rg G (Ok_seq (ds G [] (hN 8 c.code_ h0) ?_)))
 refine cd hm (fun hm => ?_) (fun hm => ?_)
 ·refine rg G ?_
  cases hm
  exact rt [] []
 ·refine X_skip (thN ?_)
  obtain ⟨u, h2, hm⟩ := obind hm
  refine rs G (hK h2 h0) ?_
  cases hm
  exact rt [] []
noncomputable def zq23_M : MS (l1Cur × Int) (Int × l1Cur) := ⟨.x (.b 150) .r, fun x => zq23 x.1 x.2, fun y => dV y.1, fun _ => [], fun _ y => [bxO 150 y.2]⟩
theorem zq23_c {c n y} (hm : zq23 c n = some y) : zq23_M.C (c, n) y := zq23_M.c (c, n) hm
theorem zq23_ok : FnOK Try.prog tJ 101 zq23_M.S := by
 refine fm tt zq23_M [fo zq22_ok] Try.call101 Try.func101 rfl Try.results101 Try.ntmps101 ?_
 rintro ⟨c, n⟩ y cx G hm
 have hm : zq23 c n = some y := hm
 unfold zq23 at hm
 refine rg G (Ok_seq (rg G (cd hm (fun hm => ?_) (fun hm => ?_))))
 ·refine rg G ?_
  cases hm
  exact rt [] []
 ·refine X_skip (thN ?_)
  obtain ⟨r, h, hm⟩ := obind hm
  refine rs G (hC 1 (zq22_c h) h0) ?_
  refine jn hm (fun (v, v1, v2, v3) => ⟨[(0, .ref 0 0), (1, dV n), (5, dV v)], [bX 0 150 [dV v1, dV v2, kV .u64 v3]], 48⟩) (fun vv hm => ?_) ?_
  ·refine rg G (cd hm (fun hm => ?_) (fun hm => ?_))
   ·obtain ⟨r1, h1, hm⟩ := obind hm
    refine re G (hC 3 (zq22_c h1) h0) ?_
    exact wJ G hm
   ·exact X_skip (wJ G hm)
  rintro ⟨v, v1, v2, v3⟩ hm
  obtain ⟨u, h2, hm⟩ := obind hm
  refine rs G (hK h2 h0) ?_
  cases hm
  exact rt [] []
noncomputable def zq20_M : MS (l1Cur × (List Int)) (Int × l1Cur) := ⟨.x (.b 150) .r, fun x => zq20 x.1 x.2, fun y => dV y.1, fun _ => [], fun _ y => [bxO 150 y.2]⟩
theorem zq20_c {c list y} (hm : zq20 c list = some y) : zq20_M.C (c, list) y := zq20_M.c (c, list) hm
theorem zq20_ok : FnOK Try.prog tJ 96 zq20_M.S := by
 refine fm tt zq20_M [fo zq23_ok] Try.call96 Try.func96 rfl Try.results96 Try.ntmps96 ?_
 rintro ⟨c, list⟩ y cx G hm
 have hm : zq20 c list = some y := hm
 unfold zq20 at hm
 refine rg G ?_
 obtain ⟨r, h, hm⟩ := obind hm
 obtain ⟨e, h1, hm⟩ := obind hm
 refine rs G (hN 3 list (hC 4 (zq23_c h) (hD 5 h1 h0))) ?_
 cases hm
 exact rt [] []
noncomputable def zq21_M : MS l1Cur ((List Span) × l1Cur) := ⟨.b 150, zq21, fun _ => .own 0, fun y => [arO 114 y.1], fun _ y => [bxO 150 y.2]⟩
theorem zq21_c {c y} (hm : zq21 c = some y) : zq21_M.C c y := zq21_M.c c hm
theorem zq21_ok : FnOK Try.prog tJ 165 zq21_M.S := by
 refine fm tt zq21_M [fo zq23_ok, fo zq20_ok] Try.call165 Try.func165 rfl Try.results165 Try.ntmps165 ?_
 rintro c y cx G hm
 have hm : zq21 c = some y := hm
 unfold zq21 at hm
 refine rg G (rg G (Ok_seq ?_))
 obtain ⟨r, h, hm⟩ := obind hm
 refine rs G (hC 1 (zq23_c h) h0) ?_
 refine tl hm (fun (v3, v4, v5, n1) => ⟨[(0, .ref 0 0), (3, .own 32)], [bX 0 150 [dV v3, dV v4, kV .u64 v5], aX 32 114 n1], 64⟩) (fun vv2 hm => ?_) ?_
 ·refine Ok_block (lp G hm (fun (from_, v, v1, v2, n) => ⟨[(0, .ref 0 0), (3, .own 32), (4, dV from_)], [bX 0 150 [dV v, dV v1, kV .u64 v2], aX 32 114 n], 64⟩) ?_)
  rintro ⟨from_, v, v1, v2, n⟩ r0 hb hm
  rw [zq21_L1] at hm
  refine Ok_seq (rg G (cd hm (fun hm => ?_) (fun hm => ?_)))
  ·refine X_skip (thN (Ok_seq (Ok_block ?_)))
   obtain ⟨r1, h1, hm⟩ := obind hm
   refine rs G (hO 2 (.fz [112] [] []) (hC 2 (zq20_c h1) h0)) ?_
   obtain ⟨r2, h2, hm⟩ := obind hm
   obtain ⟨u, h3, hm⟩ := obind hm
   refine re G (hO 5 (.fz [224] [] []) (hC 5 (zq20_c h2) (hA 9 16 h3 h0))) ?_
   exact ibN (thN (rh G (wL G hm)))
  ·exact Ok_exit (thE (thE (ibE (wD G hm hb))))
 rintro ⟨v3, v4, v5, n1⟩ hm s hw
 refine thN (Ok_weak hw ?_)
 refine jn hm (fun (v6, v7, v8, n2) => ⟨[(0, .ref 0 0), (3, .own 32)], [bX 0 150 [dV v6, dV v7, kV .u64 v8], aX 32 114 n2], 64⟩) (fun vv1 hm => ?_) ?_
 ·obtain ⟨r3, h4, hm⟩ := obind hm
  refine rs G (hC 1 (zq23_c h4) h0) ?_
  refine Ok_block (rg G (cd hm (fun hm => ?_) (fun hm => ?_)))
  ·obtain ⟨r4, h5, hm⟩ := obind hm
   obtain ⟨u1, h6, hm⟩ := obind hm
   refine re G (hO 3 (.fz [160] [] []) (hC 3 (zq20_c h5) (hA 6 16 h6 h0))) ?_
   exact ibN (wJ G hm)
  ·refine rg G (cd hm (fun hm => ?_) (fun hm => ?_))
   ·refine tl hm (fun (v12, v13, v14, n4) => ⟨[(0, .ref 0 0), (3, .own 32)], [bX 0 150 [dV v12, dV v13, kV .u64 v14], aX 32 114 n4], 64⟩) (fun vv hm => ?_) ?_
    ·refine Ok_block (lp G hm (fun (v9, v10, v11, n3) => ⟨[(0, .ref 0 0), (3, .own 32)], [bX 0 150 [dV v9, dV v10, kV .u64 v11], aX 32 114 n3], 64⟩) ?_)
     rintro ⟨v9, v10, v11, n3⟩ r0 hb1 hm
     rw [zq21_L2] at hm
     refine Ok_seq ?_
     obtain ⟨r5, h7, hm⟩ := obind hm
     refine rs G (hN 1 n3 (hC 3 (zq23_c h7) h0)) ?_
     refine cd hm (fun hm => ?_) (fun hm => ?_)
     ·refine X_skip (thN (Ok_block ?_))
      obtain ⟨u2, h8, hm⟩ := obind hm
      refine re G (hA 3 16 h8 h0) ?_
      exact ibN (wL G hm)
     ·exact Ok_exit (thE (thE (ibE (wD G hm hb1))))
    rintro ⟨v12, v13, v14, n4⟩ hm s1 hw1
    exact ibN (wJp hm (Wk.trans hw1 (Wk_J G.hL ⟨[(0, []), (3, [])], [(0, 0, []), (32, 32, [])], [], 64⟩ (by kernel_rfl))))
   ·exact X_skip (ibN (wJ G hm))
 rintro ⟨v6, v7, v8, n2⟩ hm
 refine rg G ?_
 cases hm
 exact rt [32] []
noncomputable def zq18_M : MS ((List UInt8)) ((List Span) × Int) := ⟨.r, zq18, fun y => .tup [.own 0, dV y.2], fun y => [arO 114 y.1], fun _ _ => []⟩
theorem zq18_c {code y} (hm : zq18 code = some y) : zq18_M.C code y := zq18_M.c code hm
theorem zq18_ok : FnOK Try.prog tJ 61 zq18_M.S := by
 refine fm tt zq18_M [fo zq21_ok, fo zq23_ok, fo zq20_ok] Try.call61 Try.func61 rfl Try.results61 Try.ntmps61 ?_
 rintro code y cx G hm
 have hm : zq18 code = some y := hm
 unfold zq18 at hm
 refine rg G (rg G ?_)
 obtain ⟨r, h, hm⟩ := obind hm
 refine rs G (hC 1 (zq21_c h) h0) ?_
 obtain ⟨r1, h1, hm⟩ := obind hm
 obtain ⟨u, h2, hm⟩ := obind hm
 obtain ⟨u1, h3, hm⟩ := obind hm
 obtain ⟨r2, h4, hm⟩ := obind hm
 refine rs G (hC 4 (zq23_c h1) (hK h2 (hO 7 (.fz [192] [] []) (hU 7 h3 (hC 8 (zq20_c h4) h0))))) ?_
 cases hm
 exact rt [128] []
noncomputable def zq12_M : MS (Int × Int × Int) Bool := ⟨.x .r (.x .r .r), fun x => zq12 x.1 x.2.1 x.2.2, fun y => dV y, fun _ => [], fun _ _ => []⟩
theorem zq12_c {n lo hi y} (hm : zq12 n lo hi = some y) : zq12_M.C (n, lo, hi) y := zq12_M.c (n, lo, hi) hm
theorem zq12_ok : FnOK Try.prog tJ 114 zq12_M.S := by
 refine fm tt zq12_M [] Try.call114 Try.func114 rfl Try.results114 Try.ntmps114 ?_
 rintro ⟨n, lo, hi⟩ y cx G hm
 have hm : zq12 n lo hi = some y := hm
 unfold zq12 at hm
 refine rg G (jn hm (fun v => ⟨[(6, dV v)], [], 32⟩) (fun v hm => ?_) ?_)
 ·rcases bf hm with ⟨hb, hm⟩ | ⟨hb, hm⟩
  ·refine re G (hO 3 (.b true) (hP hb h0)) ?_
   exact wJ G hm
  ·refine re G (hO 3 (.b false) (hP hb h0)) ?_
   exact wJ G hm
 rintro v hm
 cases hm
 exact rt [] []
noncomputable def zq9_M : MS Int Bool := ⟨.r, zq9, fun y => dV y, fun _ => [], fun _ _ => []⟩
theorem zq9_c {t y} (hm : zq9 t = some y) : zq9_M.C t y := zq9_M.c t hm
theorem zq9_ok : FnOK Try.prog tJ 172 zq9_M.S := by
 refine fm tt zq9_M [fo zq12_ok] Try.call172 Try.func172 rfl Try.results172 Try.ntmps172 ?_
 rintro t y cx G hm
 have hm : zq9 t = some y := hm
 unfold zq9 at hm
 refine rg G ?_
 obtain ⟨r, h, hm⟩ := obind hm
 refine rs G (hC 1 (zq12_c h) h0) ?_
 cases hm
 exact rt [] []
noncomputable def zq11_M : MS Span Bool := ⟨.r, zq11, fun y => dV y, fun _ => [], fun _ _ => []⟩
theorem zq11_c {s y} (hm : zq11 s = some y) : zq11_M.C s y := zq11_M.c s hm
theorem zq11_ok : FnOK Try.prog tJ 241 zq11_M.S := by
 refine fm tt zq11_M [fo zq9_ok] Try.call241 Try.func241 rfl Try.results241 Try.ntmps241 ?_
 rintro s y cx G hm
 have hm : zq11 s = some y := hm
 unfold zq11 at hm
 refine rg G ?_
 obtain ⟨r, h, hm⟩ := obind hm
 refine jn hm (fun v => ⟨[(2, dV v)], [], 32⟩) (fun v hm => ?_) ?_
 ·rcases bf hm with ⟨hb, hm⟩ | ⟨hb, hm⟩
  ·obtain ⟨r1, h1, hm⟩ := obind hm
   rcases bf hm with ⟨hb1, hm⟩ | ⟨hb1, hm⟩
   ·refine re G (hC 2 (zq9_c h) (hO 3 (.b true) (hP hb (hC 6 (zq9_c h1) (hO 8 (.b true) (hP hb1 h0)))))) ?_
    exact wJ G hm
   ·refine re G (hC 2 (zq9_c h) (hO 3 (.b true) (hP hb (hC 6 (zq9_c h1) (hO 8 (.b false) (hP hb1 h0)))))) ?_
    exact wJ G hm
  ·refine re G (hC 2 (zq9_c h) (hO 3 (.b false) (hP hb h0))) ?_
   exact wJ G hm
 rintro v hm
 cases hm
 exact rt [] []
noncomputable def zq10_M : MS ((List Span)) Bool := ⟨.r, zq10, fun y => dV y, fun _ => [], fun _ _ => []⟩
theorem zq10_c {list y} (hm : zq10 list = some y) : zq10_M.C list y := zq10_M.c list hm
theorem zq10_ok : FnOK Try.prog tJ 166 zq10_M.S := by
 refine fm tt zq10_M [fo zq11_ok] Try.call166 Try.func166 rfl Try.results166 Try.ntmps166 ?_
 rintro list y cx G hm
 have hm : zq10 list = some y := hm
 unfold zq10 at hm
 refine rg G (Ok_seq (rs G (hN 1 list h0) ?_))
 refine cd hm (fun hm => ?_) (fun hm => ?_)
 ·refine rg G ?_
  cases hm
  exact rt [] []
 ·refine X_skip (thN (Ok_seq (rs G (hN 1 list h0) ?_)))
  refine tF hm (fun _ => ⟨[], [], 32⟩) (fun v1 hr hm => ?_) ?_
  ·refine Ok_block (lp G hm (fun v => ⟨[(8, dV list), (9, dV (list.length : Int)), (10, dV v)], [], 32⟩) ?_)
   rintro v r0 hb hm
   rw [zq10_L1] at hm
   refine rg G (Ok_seq (cd hm (fun hm => ?_) (fun hm => ?_)))
   ·refine X_skip (thN (Ok_seq (Ok_block ?_)))
    obtain ⟨e, h, hm⟩ := obind hm
    refine rs G (hD 0 h h0) ?_
    obtain ⟨r, h1, hm⟩ := obind hm
    refine rs G (hC 1 (zq11_c h1) h0) ?_
    refine cd hm (fun hm => ?_) (fun hm => ?_)
    ·refine rg G ?_
     have hm := eL hm hb hr
     cases hm
     exact rt [] []
    ·exact X_skip (ibN (thN (rh G (wL G hm))))
   ·exact Ok_exit (thE (thE (ibE (wE G hm hb))))
  rintro ⟨⟩ hm s hw
  refine thN (Ok_weak hw ?_)
  refine rg G ?_
  cases hm
  exact rt [] []
noncomputable def zq2_M : MS Int Bool := ⟨.r, zq2, fun y => dV y, fun _ => [], fun _ _ => []⟩
theorem zq2_c {x y} (hm : zq2 x = some y) : zq2_M.C x y := zq2_M.c x hm
theorem zq2_ok : FnOK Try.prog tJ 243 zq2_M.S := by
 refine fm tt zq2_M [] Try.call243 Try.func243 rfl Try.results243 Try.ntmps243 ?_
 rintro x y cx G hm
 have hm : zq2 x = some y := hm
 unfold zq2 at hm
 refine rg G (rg G ?_)
 cases hm
 exact rt [] []
noncomputable def zq0_M : MS (Int × Int) Int := ⟨.x .r .r, fun x => zq0 x.1 x.2, fun y => dV y, fun _ => [], fun _ _ => []⟩
theorem zq0_c {x y_ y} (hm : zq0 x y_ = some y) : zq0_M.C (x, y_) y := zq0_M.c (x, y_) hm
theorem zq0_ok : FnOK Try.prog tJ 169 zq0_M.S := by
 refine fm tt zq0_M [fo zq2_ok] Try.call169 Try.func169 rfl Try.results169 Try.ntmps169 ?_
 rintro ⟨x, y_⟩ y cx G hm
 have hm : zq0 x y_ = some y := hm
 unfold zq0 at hm
 refine rg G ?_
 obtain ⟨r, h, hm⟩ := obind hm
 refine rs G (hC 1 (zq2_c h) h0) ?_
 obtain ⟨r1, h1, hm⟩ := obind hm
 refine rs G (hC 1 (zq2_c h1) h0) ?_
 refine Ok_seq (rg G (cd hm (fun hm => ?_) (fun hm => ?_)))
 ·refine Ok_seq (rg G (cd hm (fun hm => ?_) (fun hm => ?_)))
  ·refine rg G ?_
   cases hm
   exact rt [] []
  ·refine X_skip (thN (rg G ?_))
   cases hm
   exact rt [] []
 ·refine X_skip (thN (Ok_seq (rg G (cd hm (fun hm => ?_) (fun hm => ?_)))))
  ·refine rg G ?_
   cases hm
   exact rt [] []
  ·refine X_skip (thN (Ok_seq (rg G (cd hm (fun hm => ?_) (fun hm => ?_)))))
   ·refine rg G ?_
    cases hm
    exact rt [] []
   ·refine X_skip (thN (Ok_seq (rg G (cd hm (fun hm => ?_) (fun hm => ?_)))))
    ·refine rg G ?_
     cases hm
     exact rt [] []
    ·refine X_skip (thN (rg G ?_))
     cases hm
     exact rt [] []
noncomputable def zq6_M : MS (Int × Int × (List Span)) Int := ⟨.x .r (.x .r (.b 109)), fun x => zq6 x.1 x.2.1 x.2.2, fun y => dV y, fun _ => [], fun x _ => [bxO 109 x.2.2]⟩
theorem zq6_c {a b c1 y} (hm : zq6 a b c1 = some y) : zq6_M.C (a, b, c1) y := zq6_M.c (a, b, c1) hm
theorem zq6_ok : FnOK Try.prog tJ 168 zq6_M.S := by
 refine fm tt zq6_M [fo zq0_ok] Try.call168 Try.func168 rfl Try.results168 Try.ntmps168 ?_
 rintro ⟨a, b, c1⟩ y cx G hm
 have hm : zq6 a b c1 = some y := hm
 unfold zq6 at hm
 refine rg G ?_
 obtain ⟨e2, h3, hm⟩ := obind hm
 obtain ⟨e3, h4, hm⟩ := obind hm
 obtain ⟨r1, h5, hm⟩ := obind hm
 refine ds G [] (hD 2 h3 (hD 7 h4 (hC 10 (zq0_c h5) h0))) ?_
 cases hm
 exact rt [] []
noncomputable def zq38_M : MS ((List Int) × Int × Int × (List Span)) ((List Int)) := ⟨⟨[.sl, .rd, .rd, .fn 168 [.bx]], fun x => [.sc undef, Enc.e x.2.1, Enc.e x.2.2.1, .agg [.sc undef]], fun x => [arO 3 x.1, bxO 109 x.2.2.2], 2, 2, fun _ => rfl, fun _ => rfl, rfl, (by
  rintro ⟨a0, a1, a2, a3⟩ ⟨b0, b1, b2, b3⟩ h hO
  have q0 : a0 = b0 := Enc.inj _ _ (congrArg (fun l => D.sl 1 (obL l 0)) hO)
  have q1 : a1 = b1 := qI 1 h
  have q2 : a2 = b2 := qI 2 h
  have q3 : a3 = b3 := Enc.inj _ _ (congrArg (fun l => (obD l 1).getD 0 (.sc undef)) hO)
  subst q0; subst q1; subst q2; subst q3; rfl)⟩, fun x => zq38 x.1 x.2.1 x.2.2.1 x.2.2.2, fun _ => .tup [], fun _ => [], fun x y => [arO 3 y, bxO 109 x.2.2.2]⟩
theorem zq38_c {data a b c1 y} (hm : zq38 data a b c1 = some y) : zq38_M.C (data, a, b, c1) y := zq38_M.c (data, a, b, c1) hm
theorem zq38_ok : FnOK Try.prog tJ 283 zq38_M.S := by
 refine fm tt zq38_M [fo zq6_ok] Try.call283 Try.func283 rfl Try.results283 Try.ntmps283 ?_
 rintro ⟨data, a, b, c1⟩ y cx G hm
 have hm : zq38 data a b c1 = some y := hm
 obtain ⟨cmp, hf_cmp⟩ : ∃ q, (fun (z0 : Int) (z1 : Int) => zq6 z0 z1 c1) = q := ⟨_, rfl⟩
 have hm : zq37 data a b cmp = some y := by rw [← hf_cmp]; exact hm
 unfold zq37 at hm
 refine rg G (Ok_block (lp G hm (fun (v, data1) => ⟨[(0, .own 0), (1, dV a), (2, dV b), (3, .fn 168 [.ref 1 0]), (8, dV v)], [aX 0 3 data1, bX 1 109 [dV c1]], 48⟩) ?_))
 rintro ⟨v, data1⟩ r0 hb hm
 rw [zq37_L2] at hm
 refine Ok_seq (rg G (cd hm (fun hm => ?_) (fun hm => ?_)))
 ·refine X_skip (thN (Ok_seq (Ok_block (rg G (tl hm (fun data3 => ⟨[(0, .own 0), (1, dV a), (2, dV b), (3, .fn 168 [.ref 1 0]), (8, dV v)], [aX 0 3 data3, bX 1 109 [dV c1]], 48⟩) (fun data3 hm => ?_) ?_)))))
  ·refine Ok_block (lp G hm (fun (v1, data2) => ⟨[(0, .own 0), (1, dV a), (2, dV b), (3, .fn 168 [.ref 1 0]), (8, dV v), (9, dV v1)], [aX 0 3 data2, bX 1 109 [dV c1]], 48⟩) ?_)
   rintro ⟨v1, data2⟩ r0 hb1 hm
   rw [zq37_L1] at hm
   refine Ok_seq (jn hm (fun v2 => ⟨[(0, .own 0), (1, dV a), (2, dV b), (3, .fn 168 [.ref 1 0]), (8, dV v), (9, dV v1), (34, dV v2)], [aX 0 3 data2, bX 1 109 [dV c1]], 48⟩) (fun v2 hm => ?_) ?_)
   ·rcases bf hm with ⟨hb2, hm⟩ | ⟨hb2, hm⟩
    ·obtain ⟨e2, h3, hm⟩ := obind hm
     obtain ⟨e3, h4, hm⟩ := obind hm
     obtain ⟨r1, h5, hm⟩ := obind hm
     have h5 : zq6 e2 e3 c1 = some r1 := by rw [← hf_cmp] at h5; exact h5
     refine de G [(14, [1])] (hO 3 (.b true) (hP hb2 (hD 7 h3 (hE 8 h3 (hD 12 h4 (hE 13 h4 (hC 14 (zq6_c h5) h0))))))) ?_
     exact wJ G hm
    ·refine de G [(14, [1])] (hO 3 (.b false) (hP hb2 h0)) ?_
     exact wJ G hm
   rintro v2 hm
   refine cd hm (fun hm => ?_) (fun hm => ?_)
   ·refine X_skip (thN (Ok_seq (Ok_block ?_)))
    obtain ⟨e8, h10, hm⟩ := obind hm
    obtain ⟨e9, h11, hm⟩ := obind hm
    obtain ⟨e10, h12, hm⟩ := obind hm
    obtain ⟨e11, h13, hm⟩ := obind hm
    refine de G [(15, [0]), (17, [0])] (hD 8 h10 (hE 9 h10 (hD 12 h11 (hE 13 h11 (hD 14 h12 (hS 15 h12 e8 (hD 16 h13 (hS 17 h13 e9 h0)))))))) ?_
    exact ibN (thN (rh G (wL G hm)))
   ·exact Ok_exit (thE (thE (ibE (wD G hm hb1))))
  rintro data3 hm s hw
  refine ibN (thN (Ok_weak hw ?_))
  exact rh G (wL G hm)
 ·have hm := eD hm hb
  refine Ok_exit (thE (thE (ibE ?_)))
  cases hm
  exact fN [] []
noncomputable def zq57_M : MS ((List Int) × Int × Int × Int × (List Span)) ((List Int)) := ⟨⟨[.sl, .rd, .rd, .rd, .fn 168 [.bx]], fun x => [.sc undef, Enc.e x.2.1, Enc.e x.2.2.1, Enc.e x.2.2.2.1, .agg [.sc undef]], fun x => [arO 3 x.1, bxO 109 x.2.2.2.2], 2, 2, fun _ => rfl, fun _ => rfl, rfl, (by
  rintro ⟨a0, a1, a2, a3, a4⟩ ⟨b0, b1, b2, b3, b4⟩ h hO
  have q0 : a0 = b0 := Enc.inj _ _ (congrArg (fun l => D.sl 1 (obL l 0)) hO)
  have q1 : a1 = b1 := qI 1 h
  have q2 : a2 = b2 := qI 2 h
  have q3 : a3 = b3 := qI 3 h
  have q4 : a4 = b4 := Enc.inj _ _ (congrArg (fun l => (obD l 1).getD 0 (.sc undef)) hO)
  subst q0; subst q1; subst q2; subst q3; subst q4; rfl)⟩, fun x => zq57 x.1 x.2.1 x.2.2.1 x.2.2.2.1 x.2.2.2.2, fun _ => .tup [], fun _ => [], fun x y => [arO 3 y, bxO 109 x.2.2.2.2]⟩
theorem zq57_c {data a b n c1 y} (hm : zq57 data a b n c1 = some y) : zq57_M.C (data, a, b, n, c1) y := zq57_M.c (data, a, b, n, c1) hm
theorem zq57_ok : FnOK Try.prog tJ 313 zq57_M.S := by
 refine fm tt zq57_M [] Try.call313 Try.func313 rfl Try.results313 Try.ntmps313 ?_
 rintro ⟨data, a, b, n, c1⟩ y cx G hm
 have hm : zq57 data a b n c1 = some y := hm
 obtain ⟨cmp, hf_cmp⟩ : ∃ q, (fun (z0 : Int) (z1 : Int) => zq6 z0 z1 c1) = q := ⟨_, rfl⟩
 have hm : zq56 data a b n cmp = some y := by rw [← hf_cmp]; exact hm
 unfold zq56 at hm
 refine rg G (Ok_block (lp G hm (fun (v, data1) => ⟨[(0, .own 0), (1, dV a), (2, dV b), (3, dV n), (4, .fn 168 [.ref 1 0]), (10, dV v)], [aX 0 3 data1, bX 1 109 [dV c1]], 48⟩) ?_))
 rintro ⟨v, data1⟩ r0 hb hm
 rw [zq56_L1] at hm
 refine Ok_seq (rg G (cd hm (fun hm => ?_) (fun hm => ?_)))
 ·refine X_skip (thN (Ok_seq (Ok_block ?_)))
  obtain ⟨e4, h4, hm⟩ := obind hm
  obtain ⟨e5, h5, hm⟩ := obind hm
  obtain ⟨e6, h6, hm⟩ := obind hm
  obtain ⟨e7, h7, hm⟩ := obind hm
  refine de G [(21, [0]), (23, [0])] (hD 12 h4 (hE 13 h4 (hD 18 h5 (hE 19 h5 (hD 20 h6 (hS 21 h6 e4 (hD 22 h7 (hS 23 h7 e5 h0)))))))) ?_
  exact ibN (thN (rh G (wL G hm)))
 ·have hm := eD hm hb
  refine Ok_exit (thE (thE (ibE ?_)))
  cases hm
  exact fN [] []
noncomputable def zq51_M : MS ((List Int) × Int × Int × Int × (List Span)) ((List Int)) := ⟨⟨[.sl, .rd, .rd, .rd, .fn 168 [.bx]], fun x => [.sc undef, Enc.e x.2.1, Enc.e x.2.2.1, Enc.e x.2.2.2.1, .agg [.sc undef]], fun x => [arO 3 x.1, bxO 109 x.2.2.2.2], 2, 2, fun _ => rfl, fun _ => rfl, rfl, (by
  rintro ⟨a0, a1, a2, a3, a4⟩ ⟨b0, b1, b2, b3, b4⟩ h hO
  have q0 : a0 = b0 := Enc.inj _ _ (congrArg (fun l => D.sl 1 (obL l 0)) hO)
  have q1 : a1 = b1 := qI 1 h
  have q2 : a2 = b2 := qI 2 h
  have q3 : a3 = b3 := qI 3 h
  have q4 : a4 = b4 := Enc.inj _ _ (congrArg (fun l => (obD l 1).getD 0 (.sc undef)) hO)
  subst q0; subst q1; subst q2; subst q3; subst q4; rfl)⟩, fun x => zq51 x.1 x.2.1 x.2.2.1 x.2.2.2.1 x.2.2.2.2, fun _ => .tup [], fun _ => [], fun x y => [arO 3 y, bxO 109 x.2.2.2.2]⟩
theorem zq51_c {data a m b c1 y} (hm : zq51 data a m b c1 = some y) : zq51_M.C (data, a, m, b, c1) y := zq51_M.c (data, a, m, b, c1) hm
theorem zq51_ok : FnOK Try.prog tJ 306 zq51_M.S := by
 refine fm tt zq51_M [fo zq57_ok] Try.call306 Try.func306 rfl Try.results306 Try.ntmps306 ?_
 rintro ⟨data, a, m, b, c1⟩ y cx G hm
 have hm : zq51 data a m b c1 = some y := hm
 obtain ⟨cmp, hf_cmp⟩ : ∃ q, (fun (z0 : Int) (z1 : Int) => zq6 z0 z1 c1) = q := ⟨_, rfl⟩
 have hm : zq50 data a m b cmp = some y := by rw [← hf_cmp]; exact hm
 unfold zq50 at hm
 refine rg G (rg G (jn hm (fun (v2, data2) => ⟨[(0, .own 0), (2, dV m), (4, .fn 168 [.ref 1 0]), (10, dV v2)], [aX 0 3 data2, bX 1 109 [dV c1]], 48⟩) (fun vv hm => ?_) ?_))
 ·refine Ok_block (lp G hm (fun (v, v1, data1) => ⟨[(0, .own 0), (2, dV m), (4, .fn 168 [.ref 1 0]), (10, dV v), (11, dV v1)], [aX 0 3 data1, bX 1 109 [dV c1]], 48⟩) ?_)
  rintro ⟨v, v1, data1⟩ r0 hb hm
  rw [zq50_L1] at hm
  refine Ok_seq (rg G (cd hm (fun hm => ?_) (fun hm => ?_)))
  ·refine X_skip (thN (Ok_block (rg G (cd hm (fun hm => ?_) (fun hm => ?_)))))
   ·obtain ⟨r, h, hm⟩ := obind hm
    have h : zq57 data1 (w64 (m - v)) m v1 c1 = some r := by rw [← hf_cmp] at h; exact h
    refine rs G (hC 7 (zq57_c h) h0) ?_
    exact rh G (ibN (wL G hm))
   ·obtain ⟨r1, h1, hm⟩ := obind hm
    have h1 : zq57 data1 (w64 (m - v)) (w64 ((w64 (m + v1)) - v)) v c1 = some r1 := by rw [← hf_cmp] at h1; exact h1
    refine rs G (hC 11 (zq57_c h1) h0) ?_
    exact rh G (ibN (wL G hm))
  ·exact Ok_exit (thE (thE (ibE (wD G hm hb))))
 rintro ⟨v2, data2⟩ hm
 obtain ⟨r2, h2, hm⟩ := obind hm
 have h2 : zq57 data2 (w64 (m - v2)) m v2 c1 = some r2 := by rw [← hf_cmp] at h2; exact h2
 refine re G (hC 7 (zq57_c h2) h0) ?_
 cases hm
 exact fN [] []
noncomputable def zq59_MR (rec_ : (List Int) → Int → Int → Int → (List Span) → Option ((List Int))) : MS ((List Int) × Int × Int × Int × (List Span)) ((List Int)) := ⟨⟨[.sl, .rd, .rd, .rd, .fn 168 [.bx]], fun x => [.sc undef, Enc.e x.2.1, Enc.e x.2.2.1, Enc.e x.2.2.2.1, .agg [.sc undef]], fun x => [arO 3 x.1, bxO 109 x.2.2.2.2], 2, 2, fun _ => rfl, fun _ => rfl, rfl, (by
  rintro ⟨a0, a1, a2, a3, a4⟩ ⟨b0, b1, b2, b3, b4⟩ h hO
  have q0 : a0 = b0 := Enc.inj _ _ (congrArg (fun l => D.sl 1 (obL l 0)) hO)
  have q1 : a1 = b1 := qI 1 h
  have q2 : a2 = b2 := qI 2 h
  have q3 : a3 = b3 := qI 3 h
  have q4 : a4 = b4 := Enc.inj _ _ (congrArg (fun l => (obD l 1).getD 0 (.sc undef)) hO)
  subst q0; subst q1; subst q2; subst q3; subst q4; rfl)⟩, fun x => rec_ x.1 x.2.1 x.2.2.1 x.2.2.2.1 x.2.2.2.2, fun _ => .tup [], fun _ => [], fun x y => [arO 3 y, bxO 109 x.2.2.2.2]⟩
noncomputable def zq59_M : MS ((List Int) × Int × Int × Int × (List Span)) ((List Int)) := zq59_MR zq59
theorem zq59_c {data a m b c1 y} (hm : zq59 data a m b c1 = some y) : zq59_M.C (data, a, m, b, c1) y := zq59_M.c (data, a, m, b, c1) hm
theorem zq59_cR {rec_ : (List Int) → Int → Int → Int → (List Span) → Option ((List Int))} {data a m b c1 y} (hm : rec_ data a m b c1 = some y) : (zq59_MR rec_).C (data, a, m, b, c1) y := (zq59_MR rec_).c (data, a, m, b, c1) hm
theorem zq59_okF {rec_ : (List Int) → Int → Int → Int → (List Span) → Option ((List Int))} (hrec : FnOK Try.prog tJ 284 (zq59_MR rec_).S) : FnOK Try.prog tJ 284 (zq59_MR (zq59_F rec_)).S := by
 refine fm tt (zq59_MR (zq59_F rec_)) [fo hrec, fo zq6_ok, fo zq51_ok] Try.call284 Try.func284 rfl Try.results284 Try.ntmps284 ?_
 rintro ⟨data, a, m, b, c1⟩ y cx G hm
 have hm : zq59_F rec_ data a m b c1 = some y := hm
 unfold zq59_F at hm
 refine Ok_seq (rg G (cd hm (fun hm => ?_) (fun hm => ?_)))
 ·refine rg G (rg G (jn hm (fun j1 => ⟨[(0, .own 0), (1, dV a), (4, .fn 168 [.ref 1 0]), (10, dV j1)], [aX 0 3 data, bX 1 109 [dV c1]], 48⟩) (fun j1 hm => ?_) ?_))
  ·refine Ok_block (lp G hm (fun (j, h) => ⟨[(0, .own 0), (1, dV a), (4, .fn 168 [.ref 1 0]), (10, dV j), (11, dV h)], [aX 0 3 data, bX 1 109 [dV c1]], 48⟩) ?_)
   rintro ⟨j, h⟩ r0 hb hm
   rw [zq59_L1] at hm
   refine Ok_seq (rg G (cd hm (fun hm => ?_) (fun hm => ?_)))
   ·refine X_skip (thN (Ok_block ?_))
    obtain ⟨u, h1, hm⟩ := obind hm
    refine rs G (hK h1 h0) ?_
    obtain ⟨e2, h5, hm⟩ := obind hm
    obtain ⟨e3, h6, hm⟩ := obind hm
    obtain ⟨r1, h7, hm⟩ := obind hm
    refine ds G [(9, [1])] (hD 3 h5 (hE 4 h5 (hD 7 h6 (hE 8 h6 (hC 9 (zq6_c h7) h0))))) ?_
    refine cd hm (fun hm => ?_) (fun hm => ?_)
    ·exact rh G (ibN (wL G hm))
    ·exact rh G (ibN (wL G hm))
   ·exact Ok_exit (thE (thE (ibE (wD G hm hb))))
  rintro j1 hm
  refine Ok_seq (rg G (tl hm (fun data2 => ⟨[(0, .own 0), (4, .fn 168 [.ref 1 0])], [aX 0 3 data2, bX 1 109 [dV c1]], 48⟩) (fun data2 hm => ?_) ?_))
  ·refine Ok_block (lp G hm (fun (mid, data1) => ⟨[(0, .own 0), (4, .fn 168 [.ref 1 0]), (10, dV j1), (13, dV mid)], [aX 0 3 data1, bX 1 109 [dV c1]], 48⟩) ?_)
   rintro ⟨mid, data1⟩ r0 hb1 hm
   rw [zq59_L2] at hm
   refine Ok_seq (rg G (cd hm (fun hm => ?_) (fun hm => ?_)))
   ·refine X_skip (thN (Ok_seq (Ok_block ?_)))
    obtain ⟨e8, h12, hm⟩ := obind hm
    obtain ⟨e9, h13, hm⟩ := obind hm
    obtain ⟨e10, h14, hm⟩ := obind hm
    obtain ⟨e11, h15, hm⟩ := obind hm
    refine de G [(15, [0]), (17, [0])] (hD 8 h12 (hE 9 h12 (hD 12 h13 (hE 13 h13 (hD 14 h14 (hS 15 h14 e8 (hD 16 h15 (hS 17 h15 e9 h0)))))))) ?_
    exact ibN (thN (rh G (wL G hm)))
   ·exact Ok_exit (thE (thE (ibE (wD G hm hb1))))
  rintro data2 hm s hw
  refine thN (Ok_weak hw ?_)
  cases hm
  exact rt [] []
 ·refine X_skip (thN (Ok_seq (rg G (cd hm (fun hm => ?_) (fun hm => ?_)))))
  ·refine rg G (rg G (jn hm (fun n1 => ⟨[(0, .own 0), (2, dV m), (4, .fn 168 [.ref 1 0]), (14, dV n1)], [aX 0 3 data, bX 1 109 [dV c1]], 48⟩) (fun n1 hm => ?_) ?_))
   ·refine Ok_block (lp G hm (fun (n, start) => ⟨[(0, .own 0), (2, dV m), (4, .fn 168 [.ref 1 0]), (14, dV n), (15, dV start)], [aX 0 3 data, bX 1 109 [dV c1]], 48⟩) ?_)
    rintro ⟨n, start⟩ r0 hb2 hm
    rw [zq59_L3] at hm
    refine Ok_seq (rg G (cd hm (fun hm => ?_) (fun hm => ?_)))
    ·refine X_skip (thN (Ok_block ?_))
     obtain ⟨u1, h16, hm⟩ := obind hm
     refine rs G (hK h16 h0) ?_
     obtain ⟨e14, h20, hm⟩ := obind hm
     obtain ⟨e15, h21, hm⟩ := obind hm
     obtain ⟨r3, h22, hm⟩ := obind hm
     refine ds G [(9, [1])] (hD 3 h20 (hE 4 h20 (hD 7 h21 (hE 8 h21 (hC 9 (zq6_c h22) h0))))) ?_
     refine cd hm (fun hm => ?_) (fun hm => ?_)
     ·exact rh G (ibN (wL G hm))
     ·exact rh G (ibN (wL G hm))
    ·exact Ok_exit (thE (thE (ibE (wD G hm hb2))))
   rintro n1 hm
   refine Ok_seq (rg G (tl hm (fun data4 => ⟨[(0, .own 0), (4, .fn 168 [.ref 1 0])], [aX 0 3 data4, bX 1 109 [dV c1]], 48⟩) (fun data4 hm => ?_) ?_))
   ·refine Ok_block (lp G hm (fun (p, data3) => ⟨[(0, .own 0), (4, .fn 168 [.ref 1 0]), (14, dV n1), (17, dV p)], [aX 0 3 data3, bX 1 109 [dV c1]], 48⟩) ?_)
    rintro ⟨p, data3⟩ r0 hb3 hm
    rw [zq59_L4] at hm
    refine Ok_seq (rg G (cd hm (fun hm => ?_) (fun hm => ?_)))
    ·refine X_skip (thN (Ok_seq (Ok_block ?_)))
     obtain ⟨e20, h27, hm⟩ := obind hm
     obtain ⟨e21, h28, hm⟩ := obind hm
     obtain ⟨e22, h29, hm⟩ := obind hm
     obtain ⟨e23, h30, hm⟩ := obind hm
     refine de G [(15, [0]), (17, [0])] (hD 8 h27 (hE 9 h27 (hD 12 h28 (hE 13 h28 (hD 14 h29 (hS 15 h29 e20 (hD 16 h30 (hS 17 h30 e21 h0)))))))) ?_
     exact ibN (thN (rh G (wL G hm)))
    ·exact Ok_exit (thE (thE (ibE (wD G hm hb3))))
   rintro data4 hm s1 hw1
   refine thN (Ok_weak hw1 ?_)
   cases hm
   exact rt [] []
  ·refine X_skip (thN ?_)
   obtain ⟨u2, h31, hm⟩ := obind hm
   refine rs G (hK h31 h0) ?_
   refine rg G (rg G (jn hm (fun (v, v1) => ⟨[(0, .own 0), (1, dV a), (2, dV m), (3, dV b), (4, .fn 168 [.ref 1 0]), (18, dV (w64 (((IntKind.u64.wrap ((w64 (a + b)))).fdiv (2 ^ (min (1 : Int).toNat (IntKind.u64).bits)))))), (19, dV (w64 ((w64 (((IntKind.u64.wrap ((w64 (a + b)))).fdiv (2 ^ (min (1 : Int).toNat (IntKind.u64).bits))))) + m))), (20, dV v), (21, dV v1)], [aX 0 3 data, bX 1 109 [dV c1]], 48⟩) (fun vv hm => ?_) ?_))
   ·refine rg G (cd hm (fun hm => ?_) (fun hm => ?_))
    ·exact rg G (rh G (wJ G hm))
    ·exact rg G (rh G (wJ G hm))
   rintro ⟨v, v1⟩ hm
   refine rg G (jn hm (fun v4 => ⟨[(0, .own 0), (1, dV a), (2, dV m), (3, dV b), (4, .fn 168 [.ref 1 0]), (18, dV (w64 (((IntKind.u64.wrap ((w64 (a + b)))).fdiv (2 ^ (min (1 : Int).toNat (IntKind.u64).bits)))))), (19, dV (w64 ((w64 (((IntKind.u64.wrap ((w64 (a + b)))).fdiv (2 ^ (min (1 : Int).toNat (IntKind.u64).bits))))) + m))), (20, dV v4)], [aX 0 3 data, bX 1 109 [dV c1]], 48⟩) (fun v4 hm => ?_) ?_)
   ·refine Ok_block (lp G hm (fun (v2, v3) => ⟨[(0, .own 0), (1, dV a), (2, dV m), (3, dV b), (4, .fn 168 [.ref 1 0]), (18, dV (w64 (((IntKind.u64.wrap ((w64 (a + b)))).fdiv (2 ^ (min (1 : Int).toNat (IntKind.u64).bits)))))), (19, dV (w64 ((w64 (((IntKind.u64.wrap ((w64 (a + b)))).fdiv (2 ^ (min (1 : Int).toNat (IntKind.u64).bits))))) + m))), (20, dV v2), (21, dV v3), (22, dV (w64 ((w64 ((w64 (((IntKind.u64.wrap ((w64 (a + b)))).fdiv (2 ^ (min (1 : Int).toNat (IntKind.u64).bits))))) + m)) - 1)))], [aX 0 3 data, bX 1 109 [dV c1]], 48⟩) ?_)
    rintro ⟨v2, v3⟩ r0 hb4 hm
    rw [zq59_L5] at hm
    refine Ok_seq (rg G (cd hm (fun hm => ?_) (fun hm => ?_)))
    ·refine X_skip (thN (Ok_block ?_))
     obtain ⟨u3, h32, hm⟩ := obind hm
     refine rs G (hK h32 h0) ?_
     obtain ⟨e26, h36, hm⟩ := obind hm
     obtain ⟨e27, h37, hm⟩ := obind hm
     obtain ⟨r5, h38, hm⟩ := obind hm
     refine ds G [(11, [1])] (hD 5 h36 (hE 6 h36 (hD 9 h37 (hE 10 h37 (hC 11 (zq6_c h38) h0))))) ?_
     refine cd hm (fun hm => ?_) (fun hm => ?_)
     ·exact rh G (ibN (wL G hm))
     ·exact rh G (ibN (wL G hm))
    ·exact Ok_exit (thE (thE (ibE (wD G hm hb4))))
   rintro v4 hm
   refine rg G (jn hm (fun data5 => ⟨[(0, .own 0), (1, dV a), (3, dV b), (4, .fn 168 [.ref 1 0]), (18, dV (w64 (((IntKind.u64.wrap ((w64 (a + b)))).fdiv (2 ^ (min (1 : Int).toNat (IntKind.u64).bits)))))), (20, dV v4), (24, dV (w64 ((w64 ((w64 (((IntKind.u64.wrap ((w64 (a + b)))).fdiv (2 ^ (min (1 : Int).toNat (IntKind.u64).bits))))) + m)) - v4)))], [aX 0 3 data5, bX 1 109 [dV c1]], 48⟩) (fun data5 hm => ?_) ?_)
   ·refine jn hm (fun v5 => ⟨[(0, .own 0), (1, dV a), (2, dV m), (3, dV b), (4, .fn 168 [.ref 1 0]), (18, dV (w64 (((IntKind.u64.wrap ((w64 (a + b)))).fdiv (2 ^ (min (1 : Int).toNat (IntKind.u64).bits)))))), (20, dV v4), (24, dV (w64 ((w64 ((w64 (((IntKind.u64.wrap ((w64 (a + b)))).fdiv (2 ^ (min (1 : Int).toNat (IntKind.u64).bits))))) + m)) - v4))), (185, dV v5)], [aX 0 3 data, bX 1 109 [dV c1]], 48⟩) (fun v5 hm => ?_) ?_
    ·rcases bf hm with ⟨hb5, hm⟩ | ⟨hb5, hm⟩
     ·refine re G (hO 3 (.b true) (hP hb5 h0)) ?_
      exact wJ G hm
     ·refine re G (hO 3 (.b false) (hP hb5 h0)) ?_
      exact wJ G hm
    rintro v5 hm
    refine cd hm (fun hm => ?_) (fun hm => ?_)
    ·obtain ⟨r6, h39, hm⟩ := obind hm
     refine re G (hC 5 (zq51_c h39) h0) ?_
     exact wJ G hm
    ·exact X_skip (wJ G hm)
   rintro data5 hm
   refine jn hm (fun data6 => ⟨[(0, .own 0), (3, dV b), (4, .fn 168 [.ref 1 0]), (18, dV (w64 (((IntKind.u64.wrap ((w64 (a + b)))).fdiv (2 ^ (min (1 : Int).toNat (IntKind.u64).bits)))))), (24, dV (w64 ((w64 ((w64 (((IntKind.u64.wrap ((w64 (a + b)))).fdiv (2 ^ (min (1 : Int).toNat (IntKind.u64).bits))))) + m)) - v4)))], [aX 0 3 data6, bX 1 109 [dV c1]], 48⟩) (fun data6 hm => ?_) ?_
   ·refine jn hm (fun v6 => ⟨[(0, .own 0), (1, dV a), (3, dV b), (4, .fn 168 [.ref 1 0]), (18, dV (w64 (((IntKind.u64.wrap ((w64 (a + b)))).fdiv (2 ^ (min (1 : Int).toNat (IntKind.u64).bits)))))), (20, dV v4), (24, dV (w64 ((w64 ((w64 (((IntKind.u64.wrap ((w64 (a + b)))).fdiv (2 ^ (min (1 : Int).toNat (IntKind.u64).bits))))) + m)) - v4))), (199, dV v6)], [aX 0 3 data5, bX 1 109 [dV c1]], 48⟩) (fun v6 hm => ?_) ?_
    ·rcases bf hm with ⟨hb6, hm⟩ | ⟨hb6, hm⟩
     ·refine re G (hO 3 (.b true) (hP hb6 h0)) ?_
      exact wJ G hm
     ·refine re G (hO 3 (.b false) (hP hb6 h0)) ?_
      exact wJ G hm
    rintro v6 hm
    refine cd hm (fun hm => ?_) (fun hm => ?_)
    ·obtain ⟨r7, h40, hm⟩ := obind hm
     refine re G (hC 5 (zq59_cR h40) h0) ?_
     exact wJ G hm
    ·exact X_skip (wJ G hm)
   rintro data6 hm
   refine jn hm (fun v7 => ⟨[(0, .own 0), (3, dV b), (4, .fn 168 [.ref 1 0]), (18, dV (w64 (((IntKind.u64.wrap ((w64 (a + b)))).fdiv (2 ^ (min (1 : Int).toNat (IntKind.u64).bits)))))), (24, dV (w64 ((w64 ((w64 (((IntKind.u64.wrap ((w64 (a + b)))).fdiv (2 ^ (min (1 : Int).toNat (IntKind.u64).bits))))) + m)) - v4))), (213, dV v7)], [aX 0 3 data6, bX 1 109 [dV c1]], 48⟩) (fun v7 hm => ?_) ?_
   ·rcases bf hm with ⟨hb7, hm⟩ | ⟨hb7, hm⟩
    ·refine re G (hO 3 (.b true) (hP hb7 h0)) ?_
     exact wJ G hm
    ·refine re G (hO 3 (.b false) (hP hb7 h0)) ?_
     exact wJ G hm
   rintro v7 hm
   refine cd hm (fun hm => ?_) (fun hm => ?_)
   ·obtain ⟨r8, h41, hm⟩ := obind hm
    refine re G (hC 5 (zq59_cR h41) h0) ?_
    cases hm
    exact fN [] []
   ·refine X_skip ?_
    cases hm
    exact fN [] []
theorem zq59_okn : ∀ k, FnOK Try.prog tJ 284 (zq59_MR (zq59_k k)).S
 | 0 => ⟨fun args w => Try.call284 args w, fun vs w F ds obs κ hp => by obtain ⟨x, y, _, _, h⟩ := hp; cases h⟩
 | k + 1 => zq59_okF (zq59_okn k)
theorem zq59_ok : FnOK Try.prog tJ 284 zq59_M.S := zq59_okn 4294967296
noncomputable def zq54_M : MS ((List Int) × Int × (List Span)) ((List Int)) := ⟨⟨[.sl, .rd, .fn 168 [.bx]], fun x => [.sc undef, Enc.e x.2.1, .agg [.sc undef]], fun x => [arO 3 x.1, bxO 109 x.2.2], 2, 2, fun _ => rfl, fun _ => rfl, rfl, (by
  rintro ⟨a0, a1, a2⟩ ⟨b0, b1, b2⟩ h hO
  have q0 : a0 = b0 := Enc.inj _ _ (congrArg (fun l => D.sl 1 (obL l 0)) hO)
  have q1 : a1 = b1 := qI 1 h
  have q2 : a2 = b2 := Enc.inj _ _ (congrArg (fun l => (obD l 1).getD 0 (.sc undef)) hO)
  subst q0; subst q1; subst q2; rfl)⟩, fun x => zq54 x.1 x.2.1 x.2.2, fun _ => .tup [], fun _ => [], fun x y => [arO 3 y, bxO 109 x.2.2]⟩
theorem zq54_c {data n c1 y} (hm : zq54 data n c1 = some y) : zq54_M.C (data, n, c1) y := zq54_M.c (data, n, c1) hm
theorem zq54_ok : FnOK Try.prog tJ 242 zq54_M.S := by
 refine fm tt zq54_M [fo zq38_ok, fo zq59_ok] Try.call242 Try.func242 rfl Try.results242 Try.ntmps242 ?_
 rintro ⟨data, n, c1⟩ y cx G hm
 have hm : zq54 data n c1 = some y := hm
 unfold zq54 at hm
 refine rg G (rg G (jn hm (fun (v2, data2) => ⟨[(0, .own 0), (1, dV n), (2, .fn 168 [.ref 1 0]), (6, kV .i64 20), (7, dV v2)], [aX 0 3 data2, bX 1 109 [dV c1]], 48⟩) (fun vv1 hm => ?_) ?_))
 ·refine Ok_block (lp G hm (fun (v, v1, data1) => ⟨[(0, .own 0), (1, dV n), (2, .fn 168 [.ref 1 0]), (6, kV .i64 20), (7, dV v), (8, dV v1)], [aX 0 3 data1, bX 1 109 [dV c1]], 48⟩) ?_)
  rintro ⟨v, v1, data1⟩ r0 hb hm
  rw [zq54_L1] at hm
  refine Ok_seq (rg G (cd hm (fun hm => ?_) (fun hm => ?_)))
  ·refine X_skip (thN (Ok_block ?_))
   obtain ⟨r, h, hm⟩ := obind hm
   refine rs G (hC 4 (zq38_c h) h0) ?_
   exact rg G (rh G (ibN (wL G hm)))
  ·exact Ok_exit (thE (thE (ibE (wD G hm hb))))
 rintro ⟨v2, data2⟩ hm
 obtain ⟨r1, h1, hm⟩ := obind hm
 refine rs G (hC 4 (zq38_c h1) h0) ?_
 refine Ok_block (lp G hm (fun (m, data3) => ⟨[(0, .own 0), (1, dV n), (2, .fn 168 [.ref 1 0]), (6, dV m)], [aX 0 3 data3, bX 1 109 [dV c1]], 48⟩) ?_)
 rintro ⟨m, data3⟩ r0 hb1 hm
 rw [zq54_L3] at hm
 refine Ok_seq (rg G (cd hm (fun hm => ?_) (fun hm => ?_)))
 ·refine X_skip (thN (Ok_block (rg G (jn hm (fun (v5, data5) => ⟨[(0, .own 0), (1, dV n), (2, .fn 168 [.ref 1 0]), (6, dV m), (7, dV v5)], [aX 0 3 data5, bX 1 109 [dV c1]], 48⟩) (fun vv hm => ?_) ?_))))
  ·refine Ok_block (lp G hm (fun (v3, v4, data4) => ⟨[(0, .own 0), (1, dV n), (2, .fn 168 [.ref 1 0]), (6, dV m), (7, dV v3), (8, dV v4)], [aX 0 3 data4, bX 1 109 [dV c1]], 48⟩) ?_)
   rintro ⟨v3, v4, data4⟩ r0 hb2 hm
   rw [zq54_L2] at hm
   refine Ok_seq (rg G (cd hm (fun hm => ?_) (fun hm => ?_)))
   ·refine X_skip (thN (Ok_block ?_))
    obtain ⟨r2, h2, hm⟩ := obind hm
    refine rs G (hC 7 (zq59_c h2) h0) ?_
    exact rg G (rh G (ibN (wL G hm)))
   ·exact Ok_exit (thE (thE (ibE (wD G hm hb2))))
  rintro ⟨v5, data5⟩ hm
  refine jn hm (fun data6 => ⟨[(0, .own 0), (1, dV n), (2, .fn 168 [.ref 1 0]), (6, dV m)], [aX 0 3 data6, bX 1 109 [dV c1]], 48⟩) (fun data6 hm => ?_) ?_
  ·refine rg G (rg G (cd hm (fun hm => ?_) (fun hm => ?_)))
   ·obtain ⟨r3, h3, hm⟩ := obind hm
    refine re G (hC 5 (zq59_c h3) h0) ?_
    exact wJ G hm
   ·exact X_skip (wJ G hm)
  rintro data6 hm
  exact rh G (ibN (wL G hm))
 ·have hm := eD hm hb1
  refine Ok_exit (thE (thE (ibE ?_)))
  cases hm
  exact fN [] []
noncomputable def zq31_M : MS ((List Int) × (List Span)) ((List Int)) := ⟨⟨[.sl, .fn 168 [.bx]], fun x => [.sc undef, .agg [.sc undef]], fun x => [arO 3 x.1, bxO 109 x.2], 2, 2, fun _ => rfl, fun _ => rfl, rfl, (by
  rintro ⟨a0, a1⟩ ⟨b0, b1⟩ h hO
  have q0 : a0 = b0 := Enc.inj _ _ (congrArg (fun l => D.sl 1 (obL l 0)) hO)
  have q1 : a1 = b1 := Enc.inj _ _ (congrArg (fun l => (obD l 1).getD 0 (.sc undef)) hO)
  subst q0; subst q1; rfl)⟩, fun x => zq31 x.1 x.2, fun _ => .tup [], fun _ => [], fun x y => [arO 3 y, bxO 109 x.2]⟩
theorem zq31_c {x c1 y} (hm : zq31 x c1 = some y) : zq31_M.C (x, c1) y := zq31_M.c (x, c1) hm
theorem zq31_ok : FnOK Try.prog tJ 167 zq31_M.S := by
 refine fm tt zq31_M [fo zq54_ok] Try.call167 Try.func167 rfl Try.results167 Try.ntmps167 ?_
 rintro ⟨x, c1⟩ y cx G hm
 have hm : zq31 x c1 = some y := hm
 unfold zq31 at hm
 obtain ⟨r, h, hm⟩ := obind hm
 refine re G (hN 2 x (hC 4 (zq54_c h) h0)) ?_
 cases hm
 exact fN [] []
noncomputable def zq5_M : MS ((List Span) × Int) ((List Int) × Bool) := ⟨.x .r .r, fun x => zq5 x.1 x.2, fun y => .tup [dV y.1, dV y.2], fun _ => [], fun _ _ => []⟩
theorem zq5_c {list chargers y} (hm : zq5 list chargers = some y) : zq5_M.C (list, chargers) y := zq5_M.c (list, chargers) hm
theorem zq5_ok : FnOK Try.prog tJ 62 zq5_M.S := by
 refine fm tt zq5_M [fo zq10_ok, fo zq12_ok, fo zq31_ok] Try.call62 Try.func62 rfl Try.results62 Try.ntmps62 ?_
 rintro ⟨list, chargers⟩ y cx G hm
 have hm : zq5 list chargers = some y := hm
 unfold zq5 at hm
 refine rg G (Ok_seq ?_)
 obtain ⟨r, h, hm⟩ := obind hm
 refine jn hm (fun v => ⟨[(1, dV chargers), (2, .ref 16 0), (22, dV v)], [bX 16 109 [dV list]], 48⟩) (fun v hm => ?_) ?_
 ·rcases bf hm with ⟨hb, hm⟩ | ⟨hb, hm⟩
  ·refine re G (hC 1 (zq10_c h) (hO 3 (.b true) (hP hb h0))) ?_
   exact wJ G hm
  ·obtain ⟨r1, h1, hm⟩ := obind hm
   refine re G (hC 1 (zq10_c h) (hO 3 (.b false) (hP hb (hC 5 (zq12_c h1) h0)))) ?_
   exact wJ G hm
 rintro v hm
 refine cd hm (fun hm => ?_) (fun hm => ?_)
 ·refine rg G ?_
  cases hm
  exact rt [] [[.z 1]]
 ·refine X_skip (thN ?_)
  obtain ⟨u, h2, hm⟩ := obind hm
  refine rs G (hN 1 list (hO 2 (.l (List.map Enc.e (List.replicate (list.length : Int).toNat (0 : Int)))) (hP (mk_p (b := 8) (chk_t h2) rfl) (hP (rep_m Enc.e (list.length : Int).toNat (0 : Int)) h0)))) ?_
  refine Ok_seq (rs G (hN 1 (List.replicate (list.length : Int).toNat (0 : Int)) h0) ?_)
  refine tl hm (fun free1 => ⟨[(1, dV chargers), (2, .ref 16 0), (6, .own 32)], [bX 16 109 [dV list], aX 32 3 free1], 64⟩) (fun free1 hm => ?_) ?_
  ·refine Ok_block (lp G hm (fun (v1, free) => ⟨[(1, dV chargers), (2, .ref 16 0), (6, .own 32), (27, dV ((List.replicate (list.length : Int).toNat (0 : Int)).length : Int)), (28, dV v1)], [bX 16 109 [dV list], aX 32 3 free], 64⟩) ?_)
   rintro ⟨v1, free⟩ r0 hb1 hm
   rw [zq5_L1] at hm
   refine rg G (Ok_seq (cd hm (fun hm => ?_) (fun hm => ?_)))
   ·refine X_skip (thN (Ok_seq (Ok_block (rg G ?_))))
    obtain ⟨e, h3, hm⟩ := obind hm
    refine re G (hD 3 h3 (hS 4 h3 v1 h0)) ?_
    exact ibN (thN (rh G (wL G hm)))
   ·exact Ok_exit (thE (thE (ibE (wD G hm hb1))))
  rintro free1 hm s hw
  refine thN (Ok_weak hw ?_)
  obtain ⟨r2, h4, hm⟩ := obind hm
  refine rs G (hC 2 (zq31_c h4) h0) ?_
  obtain ⟨u1, h5, hm⟩ := obind hm
  refine rs G (hO 1 (.l (List.map Enc.e (List.replicate chargers.toNat (0 : Int)))) (hP (mk_p (b := 8) (chk_t h5) rfl) (hP (rep_m Enc.e chargers.toNat (0 : Int)) h0))) ?_
  obtain ⟨u2, h6, hm⟩ := obind hm
  refine rs G (hN 1 list (hO 2 (.l (List.map Enc.e (List.replicate (list.length : Int).toNat (0 : Int)))) (hP (mk_p (b := 8) (chk_t h6) rfl) (hP (rep_m Enc.e (list.length : Int).toNat (0 : Int)) h0)))) ?_
  refine rg G (Ok_seq (rs G (hN 1 r2 h0) ?_))
  refine tF hm (fun v8 => ⟨[(9, .own 16)], [aX 16 3 v8], 48⟩) (fun v9 hr1 hm => ?_) ?_
  ·refine Ok_block (lp G hm (fun (i, v2, last, v3) => ⟨[(2, .ref 16 0), (8, .own 32), (9, .own 48), (10, dV i), (44, .own 64), (45, dV (r2.length : Int)), (46, dV v2)], [bX 16 109 [dV list], aX 32 3 last, aX 48 3 v3, aX 64 3 r2], 96⟩) ?_)
   rintro ⟨i, v2, last, v3⟩ r0 hb2 hm
   rw [zq5_L3] at hm
   refine rg G (Ok_seq (cd hm (fun hm => ?_) (fun hm => ?_)))
   ·refine X_skip (thN (Ok_seq (Ok_block ?_)))
    obtain ⟨e1, h7, hm⟩ := obind hm
    refine rs G (hD 0 h7 (hE 1 h7 h0)) ?_
    refine rg G (Ok_seq (rs G (hN 1 last h0) ?_))
    refine tl hm (fun v7 => ⟨[(2, .ref 16 0), (8, .own 32), (9, .own 48), (10, dV i), (12, dV e1), (13, dV v7), (44, .own 64), (45, dV (r2.length : Int)), (46, dV v2)], [bX 16 109 [dV list], aX 32 3 last, aX 48 3 v3, aX 64 3 r2], 96⟩) (fun v7 hm => ?_) ?_
    ·refine Ok_block (lp G hm (fun (v4, v5) => ⟨[(2, .ref 16 0), (8, .own 32), (9, .own 48), (10, dV i), (12, dV e1), (13, dV v4), (44, .own 64), (45, dV (r2.length : Int)), (46, dV v2), (51, dV (last.length : Int)), (52, dV v5)], [bX 16 109 [dV list], aX 32 3 last, aX 48 3 v3, aX 64 3 r2], 96⟩) ?_)
     rintro ⟨v4, v5⟩ r0 hb3 hm
     rw [zq5_L2] at hm
     refine rg G (Ok_seq (cd hm (fun hm => ?_) (fun hm => ?_)))
     ·refine X_skip (thN (jn hm (fun v6 => ⟨[(2, .ref 16 0), (8, .own 32), (9, .own 48), (10, dV i), (12, dV e1), (13, dV v6), (44, .own 64), (45, dV (r2.length : Int)), (46, dV v2), (51, dV (last.length : Int)), (52, dV v5)], [bX 16 109 [dV list], aX 32 3 last, aX 48 3 v3, aX 64 3 r2], 96⟩) (fun v6 hm => ?_) ?_))
      ·refine Ok_block (rg G ?_)
       obtain ⟨e4, h10, hm⟩ := obind hm
       obtain ⟨e5, h11, hm⟩ := obind hm
       refine ds G [] (hD 2 h10 (hE 3 h10 (hD 6 h11 (hE 7 h11 h0)))) ?_
       refine cd hm (fun hm => ?_) (fun hm => ?_)
       ·exact rh G (ibN (wJ G hm))
       ·exact X_skip (ibN (wJ G hm))
      rintro v6 hm
      exact rh G (wL G hm)
     ·exact Ok_exit (thE (thE (ibE (wD G hm hb3))))
    rintro v7 hm s1 hw1
    refine thN (Ok_weak hw1 ?_)
    obtain ⟨e8, h14, hm⟩ := obind hm
    obtain ⟨e9, h15, hm⟩ := obind hm
    refine ds G [] (hD 3 h14 (hD 8 h15 (hE 9 h15 h0))) ?_
    refine Ok_seq (rg G (cd hm (fun hm => ?_) (fun hm => ?_)))
    ·refine rg G ?_
     have hm := eL hm hb2 hr1
     cases hm
     exact rt [] [[.z 1]]
    ·refine X_skip (thN ?_)
     obtain ⟨e11, h16, hm⟩ := obind hm
     refine rs G (hD 3 h16 (hS 4 h16 (if e9 > (if e8.From > i then e8.From else i) then e9 else (if e8.From > i then e8.From else i)) h0)) ?_
     obtain ⟨e15, h20, hm⟩ := obind hm
     obtain ⟨e16, h21, hm⟩ := obind hm
     obtain ⟨e17, h22, hm⟩ := obind hm
     refine de G [(16, [32])] (hD 5 h20 (hD 11 h21 (hD 15 h22 (hS 16 h22 (w64 ((w64 ((if e9 > (if e8.From > i then e8.From else i) then e9 else (if e8.From > i then e8.From else i)) + e15.To)) - e16.From)) h0)))) ?_
     exact ibN (thN (rh G (wL G hm)))
   ·exact Ok_exit (thE (thE (ibE (wE G hm hb2))))
  rintro v8 hm s2 hw2
  refine thN (Ok_weak hw2 ?_)
  refine rg G ?_
  cases hm
  exact rt [] []
noncomputable def zq24_M : MS (Int × Int × Int) Bool := ⟨.x .r (.x .r .r), fun x => zq24 x.1 x.2.1 x.2.2, fun y => dV y, fun _ => [], fun _ _ => []⟩
theorem zq24_c {x a b y} (hm : zq24 x a b = some y) : zq24_M.C (x, a, b) y := zq24_M.c (x, a, b) hm
theorem zq24_ok : FnOK Try.prog tJ 117 zq24_M.S := by
 refine fm tt zq24_M [] Try.call117 Try.func117 rfl Try.results117 Try.ntmps117 ?_
 rintro ⟨x, a, b⟩ y cx G hm
 have hm : zq24 x a b = some y := hm
 unfold zq24 at hm
 refine rg G (jn hm (fun v => ⟨[(6, dV v)], [], 32⟩) (fun v hm => ?_) ?_)
 ·rcases bf hm with ⟨hb, hm⟩ | ⟨hb, hm⟩
  ·refine re G (hO 3 (.b true) (hP hb h0)) ?_
   exact wJ G hm
  ·refine re G (hO 3 (.b false) (hP hb h0)) ?_
   exact wJ G hm
 rintro v hm
 cases hm
 exact rt [] []
noncomputable def zq29_M : MS Int Bool := ⟨.r, zq29, fun y => dV y, fun _ => [], fun _ _ => []⟩
theorem zq29_c {t y} (hm : zq29 t = some y) : zq29_M.C t y := zq29_M.c t hm
theorem zq29_ok : FnOK Try.prog tJ 175 zq29_M.S := by
 refine fm tt zq29_M [fo zq24_ok] Try.call175 Try.func175 rfl Try.results175 Try.ntmps175 ?_
 rintro t y cx G hm
 have hm : zq29 t = some y := hm
 unfold zq29 at hm
 refine rg G ?_
 obtain ⟨r, h, hm⟩ := obind hm
 refine rs G (hC 1 (zq24_c h) h0) ?_
 cases hm
 exact rt [] []
noncomputable def zq28_M : MS Span Bool := ⟨.r, zq28, fun y => dV y, fun _ => [], fun _ _ => []⟩
theorem zq28_c {x y} (hm : zq28 x = some y) : zq28_M.C x y := zq28_M.c x hm
theorem zq28_ok : FnOK Try.prog tJ 170 zq28_M.S := by
 refine fm tt zq28_M [fo zq29_ok] Try.call170 Try.func170 rfl Try.results170 Try.ntmps170 ?_
 rintro x y cx G hm
 have hm : zq28 x = some y := hm
 unfold zq28 at hm
 refine rg G ?_
 obtain ⟨r, h, hm⟩ := obind hm
 refine jn hm (fun v => ⟨[(2, dV v)], [], 32⟩) (fun v hm => ?_) ?_
 ·rcases bf hm with ⟨hb, hm⟩ | ⟨hb, hm⟩
  ·obtain ⟨r1, h1, hm⟩ := obind hm
   rcases bf hm with ⟨hb1, hm⟩ | ⟨hb1, hm⟩
   ·refine re G (hC 2 (zq29_c h) (hO 3 (.b true) (hP hb (hC 6 (zq29_c h1) (hO 8 (.b true) (hP hb1 h0)))))) ?_
    exact wJ G hm
   ·refine re G (hC 2 (zq29_c h) (hO 3 (.b true) (hP hb (hC 6 (zq29_c h1) (hO 8 (.b false) (hP hb1 h0)))))) ?_
    exact wJ G hm
  ·refine re G (hC 2 (zq29_c h) (hO 3 (.b false) (hP hb h0))) ?_
   exact wJ G hm
 rintro v hm
 cases hm
 exact rt [] []
noncomputable def zq26_M : MS (Int × Int) Int := ⟨.x .r .r, fun x => zq26 x.1 x.2, fun y => dV y, fun _ => [], fun _ _ => []⟩
theorem zq26_c {a b y} (hm : zq26 a b = some y) : zq26_M.C (a, b) y := zq26_M.c (a, b) hm
theorem zq26_ok : FnOK Try.prog tJ 112 zq26_M.S := by
 refine fm tt zq26_M [] Try.call112 Try.func112 rfl Try.results112 Try.ntmps112 ?_
 rintro ⟨a, b⟩ y cx G hm
 have hm : zq26 a b = some y := hm
 unfold zq26 at hm
 refine rg G (Ok_seq (rg G (cd hm (fun hm => ?_) (fun hm => ?_))))
 ·refine rg G ?_
  cases hm
  exact rt [] []
 ·refine X_skip (thN (rg G ?_))
  cases hm
  exact rt [] []
noncomputable def zq16_M : MS ((List Span) × Int) ((List Int) × Bool) := ⟨.x .r .r, fun x => zq16 x.1 x.2, fun y => .tup [.own 0, dV y.2], fun y => [arO 3 y.1], fun _ _ => []⟩
theorem zq16_c {list chargers y} (hm : zq16 list chargers = some y) : zq16_M.C (list, chargers) y := zq16_M.c (list, chargers) hm
theorem zq16_ok : FnOK Try.prog tJ 63 zq16_M.S := by
 refine fm tt zq16_M [fo zq24_ok, fo zq28_ok, fo zq26_ok] Try.call63 Try.func63 rfl Try.results63 Try.ntmps63 ?_
 rintro ⟨list, chargers⟩ y cx G hm
 have hm : zq16 list chargers = some y := hm
 unfold zq16 at hm
 refine rg G (Ok_seq (jn hm (fun v => ⟨[(0, dV list), (1, dV chargers), (24, dV v)], [], 32⟩) (fun v hm => ?_) ?_))
 ·rcases bf hm with ⟨hb, hm⟩ | ⟨hb, hm⟩
  ·refine re G (hN 1 list (hO 3 (.b true) (hP hb h0))) ?_
   exact wJ G hm
  ·obtain ⟨r, h, hm⟩ := obind hm
   refine re G (hN 1 list (hO 3 (.b false) (hP hb (hC 5 (zq24_c h) h0)))) ?_
   exact wJ G hm
 rintro v hm
 refine cd hm (fun hm => ?_) (fun hm => ?_)
 ·refine rg G ?_
  cases hm
  exact rt [32] []
 ·refine X_skip (thN (rg G (Ok_seq (rg G (tF hm (fun k1 => ⟨[(0, dV list), (1, dV chargers), (6, .own 16)], [aX 16 3 k1], 48⟩) (fun v4 hr hm => ?_) ?_)))))
  ·refine Ok_block (lp G hm (fun (out, k) => ⟨[(0, dV list), (1, dV chargers), (6, .own 16), (7, dV out)], [aX 16 3 k], 48⟩) ?_)
   rintro ⟨out, k⟩ r0 hb1 hm
   rw [zq16_L2] at hm
   refine Ok_seq (rs G (hN 2 list h0) ?_)
   refine cd hm (fun hm => ?_) (fun hm => ?_)
   ·refine X_skip (thN (Ok_seq (Ok_block (Ok_seq ?_))))
    obtain ⟨e, h1, hm⟩ := obind hm
    obtain ⟨r1, h2, hm⟩ := obind hm
    refine rs G (hD 2 h1 (hC 4 (zq28_c h2) h0)) ?_
    refine cd hm (fun hm => ?_) (fun hm => ?_)
    ·refine rg G ?_
     have hm := eL hm hb1 hr
     cases hm
     exact rt [208] []
    ·refine X_skip (thN (rs G (hN 1 k h0) ?_))
     refine jn hm (fun free1 => ⟨[(0, dV list), (1, dV chargers), (6, .own 16), (7, dV out), (8, dV free1)], [aX 16 3 k], 48⟩) (fun free1 hm => ?_) ?_
     ·refine Ok_block (lp G hm (fun free => ⟨[(0, dV list), (1, dV chargers), (6, .own 16), (7, dV out), (8, dV free)], [aX 16 3 k], 48⟩) ?_)
      rintro free r0 hb2 hm
      rw [zq16_L1] at hm
      refine Ok_seq (jn hm (fun v1 => ⟨[(0, dV list), (1, dV chargers), (6, .own 16), (7, dV out), (8, dV free), (60, dV v1)], [aX 16 3 k], 48⟩) (fun v1 hm => ?_) ?_)
      ·rcases bf hm with ⟨hb3, hm⟩ | ⟨hb3, hm⟩
       ·obtain ⟨e5, h6, hm⟩ := obind hm
        obtain ⟨e6, h7, hm⟩ := obind hm
        obtain ⟨e7, h8, hm⟩ := obind hm
        refine de G [] (hO 2 (.b true) (hP hb3 (hD 7 h6 (hE 8 h6 (hD 9 h7 (hD 14 h8 h0)))))) ?_
        exact wJ G hm
       ·refine de G [] (hO 2 (.b false) (hP hb3 h0)) ?_
        exact wJ G hm
      rintro v1 hm
      refine cd hm (fun hm => ?_) (fun hm => ?_)
      ·exact X_skip (thN (Ok_block (rh G (ibN (wL G hm)))))
      ·exact Ok_exit (thE (thE (ibE (wD G hm hb2))))
     rintro free1 hm
     refine Ok_weak (Wk_J (x' := (⟨[(0, dV list), (1, dV chargers), (6, dV k), (7, dV out), (8, dV free1)], [], 32⟩ : X)) G.hL ⟨[(0, []), (1, []), (6, []), (7, []), (8, [])], [], [], 32⟩ (by kernel_rfl)) ?_
     obtain ⟨u5, h14, hm⟩ := obind hm
     obtain ⟨u6, h15, hm⟩ := obind hm
     obtain ⟨u7, h16, hm⟩ := obind hm
     obtain ⟨u8, h17, hm⟩ := obind hm
     obtain ⟨u9, h18, hm⟩ := obind hm
     refine de G [(3, []), (4, [32]), (7, [96, 128]), (10, []), (11, [144])] (hU 3 h14 (hA 4 8 h15 (hA 7 8 h16 (hV 10 h17 (hA 11 8 h18 h0))))) ?_
     exact ibN (thN (rh G (wL G hm)))
   ·exact Ok_exit (thE (thE (ibE (wE G hm hb1))))
  rintro k1 hm s hw
  refine thN (Ok_weak hw ?_)
  obtain ⟨u10, h19, hm⟩ := obind hm
  refine rs G (hN 1 list (hO 2 (.l (List.map Enc.e (List.replicate (list.length : Int).toNat (0 : Int)))) (hP (mk_p (b := 8) (chk_t h19) rfl) (hP (rep_m Enc.e (list.length : Int).toNat (0 : Int)) h0)))) ?_
  obtain ⟨u11, h20, hm⟩ := obind hm
  refine rs G (hO 1 (.l (List.map Enc.e (List.replicate chargers.toNat (0 : Int)))) (hP (mk_p (b := 8) (chk_t h20) rfl) (hP (rep_m Enc.e chargers.toNat (0 : Int)) h0))) ?_
  refine rg G (Ok_seq (rg G (tF hm (fun last1 => ⟨[(9, .own 16)], [aX 16 3 last1], 48⟩) (fun v3 hr2 hm => ?_) ?_)))
  ·refine Ok_block (lp G hm (fun (x, best, last, k2) => ⟨[(0, dV list), (1, dV chargers), (6, .own 16), (9, .own 32), (10, .own 48), (11, dV x), (12, dV best)], [aX 16 3 k1, aX 32 3 last, aX 48 3 k2], 80⟩) ?_)
   rintro ⟨x, best, last, k2⟩ r0 hb4 hm
   rw [zq16_L4] at hm
   refine Ok_seq (rs G (hN 2 k1 h0) ?_)
   refine cd hm (fun hm => ?_) (fun hm => ?_)
   ·refine X_skip (thN (Ok_seq (Ok_block ?_)))
    obtain ⟨e8, h21, hm⟩ := obind hm
    obtain ⟨e9, h22, hm⟩ := obind hm
    refine rs G (hD 3 h21 (hE 4 h21 (hD 5 h22 h0))) ?_
    refine rg G (Ok_seq (rg G (tl hm (fun t2 => ⟨[(0, dV list), (1, dV chargers), (6, .own 16), (9, .own 32), (10, .own 48), (11, dV x), (12, dV best), (13, .ref 64 0), (14, dV t2)], [aX 16 3 k1, aX 32 3 last, aX 48 3 k2, bX 64 114 [dV e9.From, dV e9.To]], 96⟩) (fun t2 hm => ?_) ?_)))
    ·refine Ok_block (lp G hm (fun (t, v2) => ⟨[(0, dV list), (1, dV chargers), (6, .own 16), (9, .own 32), (10, .own 48), (11, dV x), (12, dV best), (13, .ref 64 0), (14, dV t), (15, dV v2)], [aX 16 3 k1, aX 32 3 last, aX 48 3 k2, bX 64 114 [dV e9.From, dV e9.To]], 96⟩) ?_)
     rintro ⟨t, v2⟩ r0 hb5 hm
     rw [zq16_L3] at hm
     refine Ok_seq (rg G (cd hm (fun hm => ?_) (fun hm => ?_)))
     ·refine X_skip (thN (jn hm (fun t1 => ⟨[(0, dV list), (1, dV chargers), (6, .own 16), (9, .own 32), (10, .own 48), (11, dV x), (12, dV best), (13, .ref 64 0), (14, dV t1), (15, dV v2)], [aX 16 3 k1, aX 32 3 last, aX 48 3 k2, bX 64 114 [dV e9.From, dV e9.To]], 96⟩) (fun t1 hm => ?_) ?_))
      ·refine Ok_block ?_
       obtain ⟨e12, h25, hm⟩ := obind hm
       obtain ⟨e13, h26, hm⟩ := obind hm
       refine ds G [] (hD 2 h25 (hE 3 h25 (hD 6 h26 (hE 7 h26 h0)))) ?_
       refine cd hm (fun hm => ?_) (fun hm => ?_)
       ·exact rh G (ibN (wJ G hm))
       ·exact X_skip (ibN (wJ G hm))
      rintro t1 hm
      exact rh G (wL G hm)
     ·exact Ok_exit (thE (thE (ibE (wD G hm hb5))))
    rintro t2 hm s1 hw1
    refine thN (Ok_weak hw1 ?_)
    obtain ⟨e15, h30, hm⟩ := obind hm
    obtain ⟨r5, h31, hm⟩ := obind hm
    obtain ⟨r6, h32, hm⟩ := obind hm
    refine ds G [] (hD 4 h30 (hE 5 h30 (hC 6 (zq26_c h31) (hC 8 (zq26_c h32) h0)))) ?_
    refine Ok_seq (rg G (cd hm (fun hm => ?_) (fun hm => ?_)))
    ·refine rg G ?_
     have hm := eL hm hb4 hr2
     cases hm
     exact rt [288] []
    ·refine X_skip (thN ?_)
     obtain ⟨e17, h33, hm⟩ := obind hm
     obtain ⟨e18, h34, hm⟩ := obind hm
     refine rs G (hD 3 h33 (hE 4 h33 (hD 6 h34 (hS 7 h34 r6 h0)))) ?_
     obtain ⟨e19, h35, hm⟩ := obind hm
     refine rs G (hD 9 h35 (hS 10 h35 (w64 ((w64 (r6 + e9.To)) - e9.From)) h0)) ?_
     exact rh G (ibN (thN (rh G (wL G hm))))
   ·exact Ok_exit (thE (thE (ibE (wE G hm hb4))))
  rintro last1 hm s2 hw2
  refine thN (Ok_weak hw2 ?_)
  refine rg G ?_
  cases hm
  exact rt [16] []
noncomputable def zq63_M : MS ((List Int) × (List Int)) Bool := ⟨.x .r .r, fun x => zq63 x.1 x.2, fun y => dV y, fun _ => [], fun _ _ => []⟩
theorem zq63_c {a b y} (hm : zq63 a b = some y) : zq63_M.C (a, b) y := zq63_M.c (a, b) hm
theorem zq63_ok : FnOK Try.prog tJ 23 zq63_M.S := by
 refine fm tt zq63_M [] Try.call23 Try.func23 rfl Try.results23 Try.ntmps23 ?_
 rintro ⟨a, b⟩ y cx G hm
 have hm : zq63 a b = some y := hm
 unfold zq63 at hm
 refine rg G (Ok_seq (rs G (hN 1 a (hN 3 b h0)) ?_))
 refine cd hm (fun hm => ?_) (fun hm => ?_)
 ·refine rg G ?_
  cases hm
  exact rt [] []
 ·refine X_skip (thN (Ok_seq (rg G (tF hm (fun _ => ⟨[], [], 32⟩) (fun v1 hr hm => ?_) ?_))))
  ·refine Ok_block (lp G hm (fun v => ⟨[(0, dV a), (1, dV b), (5, dV v)], [], 32⟩) ?_)
   rintro v r0 hb hm
   rw [zq63_L1] at hm
   refine Ok_seq (rs G (hN 2 a h0) ?_)
   refine cd hm (fun hm => ?_) (fun hm => ?_)
   ·refine X_skip (thN (Ok_seq (Ok_block ?_)))
    obtain ⟨e2, h2, hm⟩ := obind hm
    obtain ⟨e3, h3, hm⟩ := obind hm
    refine ds G [] (hD 2 h2 (hD 6 h3 h0)) ?_
    refine cd hm (fun hm => ?_) (fun hm => ?_)
    ·refine rg G ?_
     have hm := eL hm hb hr
     cases hm
     exact rt [] []
    ·exact X_skip (ibN (thN (rh G (wL G hm))))
   ·exact Ok_exit (thE (thE (ibE (wE G hm hb))))
  rintro ⟨⟩ hm s hw
  refine thN (Ok_weak hw ?_)
  refine rg G ?_
  cases hm
  exact rt [] []
noncomputable def zq3_M : MS ((List Span)) (Int × Int × Bool) := ⟨.r, zq3, fun y => .tup [dV y.1, dV y.2.1, dV y.2.2], fun _ => [], fun _ _ => []⟩
theorem zq3_c {list y} (hm : zq3 list = some y) : zq3_M.C list y := zq3_M.c list hm
theorem zq3_ok : FnOK Try.prog tJ 171 zq3_M.S := by
 refine fm tt zq3_M [fo zq10_ok] Try.call171 Try.func171 rfl Try.results171 Try.ntmps171 ?_
 rintro list y cx G hm
 have hm : zq3 list = some y := hm
 unfold zq3 at hm
 refine rg G (Ok_seq ?_)
 obtain ⟨r, h, hm⟩ := obind hm
 refine rs G (hC 1 (zq10_c h) h0) ?_
 refine cd hm (fun hm => ?_) (fun hm => ?_)
 ·refine rg G ?_
  cases hm
  exact rt [] []
 ·refine X_skip (thN (rg G (Ok_seq (rs G (hN 1 list h0) ?_))))
  refine tl hm (fun (most2, v9) => ⟨[(5, dV most2), (6, dV v9)], [], 32⟩) (fun vv1 hm => ?_) ?_
  ·refine Ok_block (lp G hm (fun (most, v, v1) => ⟨[(0, dV list), (5, dV most), (6, dV v), (15, dV list), (16, dV (list.length : Int)), (17, dV v1)], [], 32⟩) ?_)
   rintro ⟨most, v, v1⟩ r0 hb hm
   rw [zq3_L2] at hm
   refine rg G (Ok_seq (cd hm (fun hm => ?_) (fun hm => ?_)))
   ·refine X_skip (thN (jn hm (fun (most1, v2) => ⟨[(0, dV list), (5, dV most1), (6, dV v2), (15, dV list), (16, dV (list.length : Int)), (17, dV v1)], [], 32⟩) (fun vv hm => ?_) ?_))
    ·refine Ok_block ?_
     obtain ⟨e, h1, hm⟩ := obind hm
     refine rs G (hD 0 h1 h0) ?_
     refine rg G (Ok_seq (rs G (hN 1 list h0) ?_))
     refine tl hm (fun v7 => ⟨[(0, dV list), (5, dV most), (6, dV v), (8, .ref 16 0), (9, dV v7), (15, dV list), (16, dV (list.length : Int)), (17, dV v1)], [bX 16 114 [dV e.From, dV e.To]], 48⟩) (fun v7 hm => ?_) ?_
     ·refine Ok_block (lp G hm (fun (v3, v4) => ⟨[(0, dV list), (5, dV most), (6, dV v), (8, .ref 16 0), (9, dV v3), (15, dV list), (16, dV (list.length : Int)), (17, dV v1), (21, dV list), (22, dV (list.length : Int)), (23, dV v4)], [bX 16 114 [dV e.From, dV e.To]], 48⟩) ?_)
      rintro ⟨v3, v4⟩ r0 hb1 hm
      rw [zq3_L1] at hm
      refine rg G (Ok_seq (cd hm (fun hm => ?_) (fun hm => ?_)))
      ·refine X_skip (thN (jn hm (fun v5 => ⟨[(0, dV list), (5, dV most), (6, dV v), (8, .ref 16 0), (9, dV v5), (15, dV list), (16, dV (list.length : Int)), (17, dV v1), (21, dV list), (22, dV (list.length : Int)), (23, dV v4)], [bX 16 114 [dV e.From, dV e.To]], 48⟩) (fun v5 hm => ?_) ?_))
       ·refine Ok_block ?_
        obtain ⟨e1, h2, hm⟩ := obind hm
        refine rs G (hD 0 h2 h0) ?_
        refine jn hm (fun v6 => ⟨[(0, dV list), (5, dV most), (6, dV v), (8, .ref 16 0), (9, dV v3), (15, dV list), (16, dV (list.length : Int)), (17, dV v1), (21, dV list), (22, dV (list.length : Int)), (23, dV v4), (38, dV v6)], [bX 16 114 [dV e.From, dV e.To]], 48⟩) (fun v6 hm => ?_) ?_
        ·rcases bf hm with ⟨hb2, hm⟩ | ⟨hb2, hm⟩
         ·refine re G (hO 5 (.b true) (hP hb2 h0)) ?_
          exact wJ G hm
         ·refine re G (hO 5 (.b false) (hP hb2 h0)) ?_
          exact wJ G hm
        rintro v6 hm
        refine cd hm (fun hm => ?_) (fun hm => ?_)
        ·exact rh G (ibN (wJ G hm))
        ·exact X_skip (ibN (wJ G hm))
       rintro v5 hm
       exact rh G (wL G hm)
      ·exact Ok_exit (thE (thE (ibE (wD G hm hb1))))
     rintro v7 hm s hw
     refine thN (Ok_weak hw ?_)
     refine jn hm (fun v8 => ⟨[(0, dV list), (5, dV most), (6, dV v), (8, .ref 16 0), (9, dV v7), (15, dV list), (16, dV (list.length : Int)), (17, dV v1), (59, dV v8)], [bX 16 114 [dV e.From, dV e.To]], 48⟩) (fun v8 hm => ?_) ?_
     ·rcases bf hm with ⟨hb3, hm⟩ | ⟨hb3, hm⟩
      ·refine re G (hO 3 (.b true) (hP hb3 h0)) ?_
       exact wJ G hm
      ·rcases bf hm with ⟨hb4, hm⟩ | ⟨hb4, hm⟩
       ·rcases bf hm with ⟨hb5, hm⟩ | ⟨hb5, hm⟩
        ·refine re G (hO 3 (.b false) (hP hb3 (hO 7 (.b true) (hP hb4 (hO 11 (.b true) (hP hb5 h0)))))) ?_
         exact wJ G hm
        ·refine re G (hO 3 (.b false) (hP hb3 (hO 7 (.b true) (hP hb4 (hO 11 (.b false) (hP hb5 h0)))))) ?_
         exact wJ G hm
       ·refine re G (hO 3 (.b false) (hP hb3 (hO 7 (.b false) (hP hb4 h0)))) ?_
        exact wJ G hm
     rintro v8 hm
     refine cd hm (fun hm => ?_) (fun hm => ?_)
     ·exact rh G (ibN (wJ G hm))
     ·exact X_skip (ibN (wJ G hm))
    rintro ⟨most1, v2⟩ hm
    exact rh G (wL G hm)
   ·exact Ok_exit (thE (thE (ibE (wD G hm hb))))
  rintro ⟨most2, v9⟩ hm s1 hw1
  refine thN (Ok_weak hw1 ?_)
  refine rg G ?_
  cases hm
  exact rt [] []
noncomputable def zq4_M : MS ((List Span)) (Int × Int × Bool) := ⟨.r, zq4, fun y => .tup [dV y.1, dV y.2.1, dV y.2.2], fun _ => [], fun _ _ => []⟩
theorem zq4_c {list y} (hm : zq4 list = some y) : zq4_M.C list y := zq4_M.c list hm
theorem zq4_ok : FnOK Try.prog tJ 64 zq4_M.S := by
 refine fm tt zq4_M [fo zq3_ok] Try.call64 Try.func64 rfl Try.results64 Try.ntmps64 ?_
 rintro list y cx G hm
 have hm : zq4 list = some y := hm
 unfold zq4 at hm
 refine rg G ?_
 obtain ⟨r, h, hm⟩ := obind hm
 refine rs G (hC 1 (zq3_c h) h0) ?_
 refine rg G ?_
 cases hm
 exact rt [] []
noncomputable def zq15_M : MS ((List Span)) (Int × Int × Bool) := ⟨.r, zq15, fun y => .tup [dV y.1, dV y.2.1, dV y.2.2], fun _ => [], fun _ _ => []⟩
theorem zq15_c {list y} (hm : zq15 list = some y) : zq15_M.C list y := zq15_M.c list hm
theorem zq15_ok : FnOK Try.prog tJ 65 zq15_M.S := by
 refine fm tt zq15_M [fo zq28_ok] Try.call65 Try.func65 rfl Try.results65 Try.ntmps65 ?_
 rintro list y cx G hm
 have hm : zq15 list = some y := hm
 unfold zq15 at hm
 refine rg G (Ok_seq (rs G (hN 1 list h0) ?_))
 refine cd hm (fun hm => ?_) (fun hm => ?_)
 ·refine rg G ?_
  cases hm
  exact rt [] []
 ·refine X_skip (thN (Ok_seq (rg G (tF hm (fun _ => ⟨[(0, dV list)], [], 32⟩) (fun v2 hr hm => ?_) ?_))))
  ·refine Ok_block (lp G hm (fun most => ⟨[(0, dV list), (5, dV most)], [], 32⟩) ?_)
   rintro most r0 hb hm
   rw [zq15_L1] at hm
   refine Ok_seq (rs G (hN 2 list h0) ?_)
   refine cd hm (fun hm => ?_) (fun hm => ?_)
   ·refine X_skip (thN (Ok_seq (Ok_block ?_)))
    obtain ⟨e, h, hm⟩ := obind hm
    obtain ⟨r, h1, hm⟩ := obind hm
    refine rs G (hD 2 h (hC 4 (zq28_c h1) h0)) ?_
    refine cd hm (fun hm => ?_) (fun hm => ?_)
    ·refine rg G ?_
     have hm := eL hm hb hr
     cases hm
     exact rt [] []
    ·exact X_skip (ibN (thN (rh G (wL G hm))))
   ·exact Ok_exit (thE (thE (ibE (wE G hm hb))))
  rintro ⟨⟩ hm s hw
  refine thN (Ok_weak hw ?_)
  refine rg G (Ok_seq (rg G (tl hm (fun (first2, t2) => ⟨[(6, dV first2), (7, dV t2)], [], 32⟩) (fun vv1 hm => ?_) ?_)))
  ·refine Ok_block (lp G hm (fun (first, t, n) => ⟨[(0, dV list), (6, dV first), (7, dV t), (8, dV n)], [], 32⟩) ?_)
   rintro ⟨first, t, n⟩ r0 hb1 hm
   rw [zq15_L3] at hm
   refine Ok_seq (rg G (cd hm (fun hm => ?_) (fun hm => ?_)))
   ·refine X_skip (thN (jn hm (fun (first1, t1) => ⟨[(0, dV list), (6, dV first1), (7, dV t1), (8, dV n)], [], 32⟩) (fun vv hm => ?_) ?_))
    ·refine Ok_block (rg G (Ok_seq (rg G (tl hm (fun i2 => ⟨[(0, dV list), (6, dV first), (7, dV t), (8, dV n), (9, dV i2)], [], 32⟩) (fun i2 hm => ?_) ?_))))
     ·refine Ok_block (lp G hm (fun (i, v) => ⟨[(0, dV list), (6, dV first), (7, dV t), (8, dV n), (9, dV i), (10, dV v)], [], 32⟩) ?_)
      rintro ⟨i, v⟩ r0 hb2 hm
      rw [zq15_L2] at hm
      refine Ok_seq (rs G (hN 2 list h0) ?_)
      refine cd hm (fun hm => ?_) (fun hm => ?_)
      ·refine X_skip (thN (jn hm (fun i1 => ⟨[(0, dV list), (6, dV first), (7, dV t), (8, dV n), (9, dV i1), (10, dV v)], [], 32⟩) (fun i1 hm => ?_) ?_))
       ·refine Ok_block ?_
        obtain ⟨e2, h2, hm⟩ := obind hm
        refine jn hm (fun v1 => ⟨[(0, dV list), (6, dV first), (7, dV t), (8, dV n), (9, dV i), (10, dV v), (51, dV v1)], [], 32⟩) (fun v1 hm => ?_) ?_
        ·rcases bf hm with ⟨hb3, hm⟩ | ⟨hb3, hm⟩
         ·obtain ⟨e3, h3, hm⟩ := obind hm
          refine re G (hD 2 h2 (hO 7 (.b true) (hP hb3 (hD 11 h3 h0)))) ?_
          exact wJ G hm
         ·refine re G (hD 2 h2 (hO 7 (.b false) (hP hb3 h0))) ?_
          exact wJ G hm
        rintro v1 hm
        refine cd hm (fun hm => ?_) (fun hm => ?_)
        ·exact rh G (ibN (wJ G hm))
        ·exact X_skip (ibN (wJ G hm))
       rintro i1 hm
       exact rh G (wL G hm)
      ·exact Ok_exit (thE (thE (ibE (wD G hm hb2))))
     rintro i2 hm s1 hw1
     refine thN (Ok_weak hw1 ?_)
     refine rg G (cd hm (fun hm => ?_) (fun hm => ?_))
     ·exact rg G (rh G (ibN (wJ G hm)))
     ·exact X_skip (ibN (wJ G hm))
    rintro ⟨first1, t1⟩ hm
    exact rh G (wL G hm)
   ·exact Ok_exit (thE (thE (ibE (wD G hm hb1))))
  rintro ⟨first2, t2⟩ hm s2 hw2
  refine thN (Ok_weak hw2 ?_)
  refine rg G ?_
  cases hm
  exact rt [] []
noncomputable def zq19_M : MS ((List UInt8)) ((List Int) × Int × Int × Int) := ⟨.r, zq19, fun y => .tup [dV y.1, dV y.2.1, dV y.2.2.1, dV y.2.2.2], fun _ => [], fun _ _ => []⟩
theorem zq19_c {code y} (hm : zq19 code = some y) : zq19_M.C code y := zq19_M.c code hm
theorem zq19_ok : FnOK Try.prog tJ 66 zq19_M.S := by
 refine fm tt zq19_M [fo zq20_ok, fo zq23_ok] Try.call66 Try.func66 rfl Try.results66 Try.ntmps66 ?_
 rintro code y cx G hm
 have hm : zq19 code = some y := hm
 unfold zq19 at hm
 refine rg G (rg G (rg G (Ok_seq (rg G (tl hm (fun (v3, v4, v5, i1) => ⟨[(6, .ref 16 0), (7, .own 32)], [bX 16 150 [dV v3, dV v4, kV .u64 v5], aX 32 3 i1], 64⟩) (fun vv1 hm => ?_) ?_)))))
 ·refine Ok_block (lp G hm (fun (from_, v, v1, v2, i) => ⟨[(6, .ref 16 0), (7, .own 32), (8, dV from_)], [bX 16 150 [dV v, dV v1, kV .u64 v2], aX 32 3 i], 64⟩) ?_)
  rintro ⟨from_, v, v1, v2, i⟩ r0 hb hm
  rw [zq19_L1] at hm
  refine Ok_seq (rg G (cd hm (fun hm => ?_) (fun hm => ?_)))
  ·refine X_skip (thN (Ok_seq (Ok_block ?_)))
   obtain ⟨r, h, hm⟩ := obind hm
   obtain ⟨u, h1, hm⟩ := obind hm
   refine re G (hO 3 (.fz [128] [] []) (hC 3 (zq20_c h) (hA 5 8 h1 h0))) ?_
   exact ibN (thN (rh G (wL G hm)))
  ·exact Ok_exit (thE (thE (ibE (wD G hm hb))))
 rintro ⟨v3, v4, v5, i1⟩ hm s hw
 refine thN (Ok_weak hw ?_)
 refine jn hm (fun (i2, v6, v7, v8) => ⟨[(6, .ref 16 0), (7, dV i2)], [bX 16 150 [dV v6, dV v7, kV .u64 v8]], 48⟩) (fun vv hm => ?_) ?_
 ·obtain ⟨r1, h2, hm⟩ := obind hm
  refine rs G (hC 1 (zq23_c h2) h0) ?_
  refine Ok_block (rg G (cd hm (fun hm => ?_) (fun hm => ?_)))
  ·obtain ⟨u1, h3, hm⟩ := obind hm
   refine re G (hO 1 (.fz [32] [] []) (hV 1 h3 h0)) ?_
   exact ibN (wJ G hm)
  ·refine rg G (cd hm (fun hm => ?_) (fun hm => ?_))
   ·obtain ⟨r2, h4, hm⟩ := obind hm
    obtain ⟨e, h5, hm⟩ := obind hm
    refine re G (hO 3 (.fz [192] [] []) (hC 3 (zq20_c h4) (hD 4 h5 (hS 5 h5 r2.1 h0)))) ?_
    exact ibN (wJ G hm)
   ·exact X_skip (ibN (wJ G hm))
 rintro ⟨i2, v6, v7, v8⟩ hm
 obtain ⟨r3, h6, hm⟩ := obind hm
 refine rs G (hO 2 (.fz [64] [] []) (hC 2 (zq20_c h6) h0)) ?_
 obtain ⟨r4, h7, hm⟩ := obind hm
 refine rs G (hO 2 (.fz [128] [] []) (hC 2 (zq20_c h7) h0)) ?_
 obtain ⟨r5, h8, hm⟩ := obind hm
 refine rs G (hO 5 (.fz [240] [] []) (hC 5 (zq20_c h8) h0)) ?_
 cases hm
 exact rt [] []
noncomputable def zq8_M : MS (Int × Int × (List Int)) Int := ⟨.x .r (.x .r (.b 37)), fun x => zq8 x.1 x.2.1 x.2.2, fun y => dV y, fun _ => [], fun x _ => [bxO 37 x.2.2]⟩
theorem zq8_c {a b c1 y} (hm : zq8 a b c1 = some y) : zq8_M.C (a, b, c1) y := zq8_M.c (a, b, c1) hm
theorem zq8_ok : FnOK Try.prog tJ 173 zq8_M.S := by
 refine fm tt zq8_M [fo zq0_ok] Try.call173 Try.func173 rfl Try.results173 Try.ntmps173 ?_
 rintro ⟨a, b, c1⟩ y cx G hm
 have hm : zq8 a b c1 = some y := hm
 unfold zq8 at hm
 refine rg G ?_
 obtain ⟨u2, h5, hm⟩ := obind hm
 obtain ⟨e2, h6, hm⟩ := obind hm
 obtain ⟨u3, h7, hm⟩ := obind hm
 obtain ⟨e3, h8, hm⟩ := obind hm
 obtain ⟨r1, h9, hm⟩ := obind hm
 refine ds G [] (hK h5 (hD 3 h6 (hK h7 (hD 8 h8 (hC 10 (zq0_c h9) h0))))) ?_
 cases hm
 exact rt [] []
noncomputable def zq39_M : MS ((List Int) × Int × Int × (List Int)) ((List Int)) := ⟨⟨[.sl, .rd, .rd, .fn 173 [.bx]], fun x => [.sc undef, Enc.e x.2.1, Enc.e x.2.2.1, .agg [.sc undef]], fun x => [arO 3 x.1, bxO 37 x.2.2.2], 2, 2, fun _ => rfl, fun _ => rfl, rfl, (by
  rintro ⟨a0, a1, a2, a3⟩ ⟨b0, b1, b2, b3⟩ h hO
  have q0 : a0 = b0 := Enc.inj _ _ (congrArg (fun l => D.sl 1 (obL l 0)) hO)
  have q1 : a1 = b1 := qI 1 h
  have q2 : a2 = b2 := qI 2 h
  have q3 : a3 = b3 := Enc.inj _ _ (congrArg (fun l => (obD l 1).getD 0 (.sc undef)) hO)
  subst q0; subst q1; subst q2; subst q3; rfl)⟩, fun x => zq39 x.1 x.2.1 x.2.2.1 x.2.2.2, fun _ => .tup [], fun _ => [], fun x y => [arO 3 y, bxO 37 x.2.2.2]⟩
theorem zq39_c {data a b c1 y} (hm : zq39 data a b c1 = some y) : zq39_M.C (data, a, b, c1) y := zq39_M.c (data, a, b, c1) hm
theorem zq39_ok : FnOK Try.prog tJ 283 zq39_M.S := by
 refine fm tt zq39_M [fo zq8_ok] Try.call283 Try.func283 rfl Try.results283 Try.ntmps283 ?_
 rintro ⟨data, a, b, c1⟩ y cx G hm
 have hm : zq39 data a b c1 = some y := hm
 obtain ⟨cmp, hf_cmp⟩ : ∃ q, (fun (z0 : Int) (z1 : Int) => zq8 z0 z1 c1) = q := ⟨_, rfl⟩
 have hm : zq37 data a b cmp = some y := by rw [← hf_cmp]; exact hm
 unfold zq37 at hm
 refine rg G (Ok_block (lp G hm (fun (v, data1) => ⟨[(0, .own 0), (1, dV a), (2, dV b), (3, .fn 173 [.ref 1 0]), (8, dV v)], [aX 0 3 data1, bX 1 37 [dV c1]], 48⟩) ?_))
 rintro ⟨v, data1⟩ r0 hb hm
 rw [zq37_L2] at hm
 refine Ok_seq (rg G (cd hm (fun hm => ?_) (fun hm => ?_)))
 ·refine X_skip (thN (Ok_seq (Ok_block (rg G (tl hm (fun data3 => ⟨[(0, .own 0), (1, dV a), (2, dV b), (3, .fn 173 [.ref 1 0]), (8, dV v)], [aX 0 3 data3, bX 1 37 [dV c1]], 48⟩) (fun data3 hm => ?_) ?_)))))
  ·refine Ok_block (lp G hm (fun (v1, data2) => ⟨[(0, .own 0), (1, dV a), (2, dV b), (3, .fn 173 [.ref 1 0]), (8, dV v), (9, dV v1)], [aX 0 3 data2, bX 1 37 [dV c1]], 48⟩) ?_)
   rintro ⟨v1, data2⟩ r0 hb1 hm
   rw [zq37_L1] at hm
   refine Ok_seq (jn hm (fun v2 => ⟨[(0, .own 0), (1, dV a), (2, dV b), (3, .fn 173 [.ref 1 0]), (8, dV v), (9, dV v1), (34, dV v2)], [aX 0 3 data2, bX 1 37 [dV c1]], 48⟩) (fun v2 hm => ?_) ?_)
   ·rcases bf hm with ⟨hb2, hm⟩ | ⟨hb2, hm⟩
    ·obtain ⟨e2, h3, hm⟩ := obind hm
     obtain ⟨e3, h4, hm⟩ := obind hm
     obtain ⟨r1, h5, hm⟩ := obind hm
     have h5 : zq8 e2 e3 c1 = some r1 := by rw [← hf_cmp] at h5; exact h5
     refine de G [(14, [1])] (hO 3 (.b true) (hP hb2 (hD 7 h3 (hE 8 h3 (hD 12 h4 (hE 13 h4 (hC 14 (zq8_c h5) h0))))))) ?_
     exact wJ G hm
    ·refine de G [(14, [1])] (hO 3 (.b false) (hP hb2 h0)) ?_
     exact wJ G hm
   rintro v2 hm
   refine cd hm (fun hm => ?_) (fun hm => ?_)
   ·refine X_skip (thN (Ok_seq (Ok_block ?_)))
    obtain ⟨e8, h10, hm⟩ := obind hm
    obtain ⟨e9, h11, hm⟩ := obind hm
    obtain ⟨e10, h12, hm⟩ := obind hm
    obtain ⟨e11, h13, hm⟩ := obind hm
    refine de G [(15, [0]), (17, [0])] (hD 8 h10 (hE 9 h10 (hD 12 h11 (hE 13 h11 (hD 14 h12 (hS 15 h12 e8 (hD 16 h13 (hS 17 h13 e9 h0)))))))) ?_
    exact ibN (thN (rh G (wL G hm)))
   ·exact Ok_exit (thE (thE (ibE (wD G hm hb1))))
  rintro data3 hm s hw
  refine ibN (thN (Ok_weak hw ?_))
  exact rh G (wL G hm)
 ·have hm := eD hm hb
  refine Ok_exit (thE (thE (ibE ?_)))
  cases hm
  exact fN [] []
noncomputable def zq58_M : MS ((List Int) × Int × Int × Int × (List Int)) ((List Int)) := ⟨⟨[.sl, .rd, .rd, .rd, .fn 173 [.bx]], fun x => [.sc undef, Enc.e x.2.1, Enc.e x.2.2.1, Enc.e x.2.2.2.1, .agg [.sc undef]], fun x => [arO 3 x.1, bxO 37 x.2.2.2.2], 2, 2, fun _ => rfl, fun _ => rfl, rfl, (by
  rintro ⟨a0, a1, a2, a3, a4⟩ ⟨b0, b1, b2, b3, b4⟩ h hO
  have q0 : a0 = b0 := Enc.inj _ _ (congrArg (fun l => D.sl 1 (obL l 0)) hO)
  have q1 : a1 = b1 := qI 1 h
  have q2 : a2 = b2 := qI 2 h
  have q3 : a3 = b3 := qI 3 h
  have q4 : a4 = b4 := Enc.inj _ _ (congrArg (fun l => (obD l 1).getD 0 (.sc undef)) hO)
  subst q0; subst q1; subst q2; subst q3; subst q4; rfl)⟩, fun x => zq58 x.1 x.2.1 x.2.2.1 x.2.2.2.1 x.2.2.2.2, fun _ => .tup [], fun _ => [], fun x y => [arO 3 y, bxO 37 x.2.2.2.2]⟩
theorem zq58_c {data a b n c1 y} (hm : zq58 data a b n c1 = some y) : zq58_M.C (data, a, b, n, c1) y := zq58_M.c (data, a, b, n, c1) hm
theorem zq58_ok : FnOK Try.prog tJ 313 zq58_M.S := by
 refine fm tt zq58_M [] Try.call313 Try.func313 rfl Try.results313 Try.ntmps313 ?_
 rintro ⟨data, a, b, n, c1⟩ y cx G hm
 have hm : zq58 data a b n c1 = some y := hm
 obtain ⟨cmp, hf_cmp⟩ : ∃ q, (fun (z0 : Int) (z1 : Int) => zq8 z0 z1 c1) = q := ⟨_, rfl⟩
 have hm : zq56 data a b n cmp = some y := by rw [← hf_cmp]; exact hm
 unfold zq56 at hm
 refine rg G (Ok_block (lp G hm (fun (v, data1) => ⟨[(0, .own 0), (1, dV a), (2, dV b), (3, dV n), (4, .fn 173 [.ref 1 0]), (10, dV v)], [aX 0 3 data1, bX 1 37 [dV c1]], 48⟩) ?_))
 rintro ⟨v, data1⟩ r0 hb hm
 rw [zq56_L1] at hm
 refine Ok_seq (rg G (cd hm (fun hm => ?_) (fun hm => ?_)))
 ·refine X_skip (thN (Ok_seq (Ok_block ?_)))
  obtain ⟨e4, h4, hm⟩ := obind hm
  obtain ⟨e5, h5, hm⟩ := obind hm
  obtain ⟨e6, h6, hm⟩ := obind hm
  obtain ⟨e7, h7, hm⟩ := obind hm
  refine de G [(21, [0]), (23, [0])] (hD 12 h4 (hE 13 h4 (hD 18 h5 (hE 19 h5 (hD 20 h6 (hS 21 h6 e4 (hD 22 h7 (hS 23 h7 e5 h0)))))))) ?_
  exact ibN (thN (rh G (wL G hm)))
 ·have hm := eD hm hb
  refine Ok_exit (thE (thE (ibE ?_)))
  cases hm
  exact fN [] []
noncomputable def zq52_M : MS ((List Int) × Int × Int × Int × (List Int)) ((List Int)) := ⟨⟨[.sl, .rd, .rd, .rd, .fn 173 [.bx]], fun x => [.sc undef, Enc.e x.2.1, Enc.e x.2.2.1, Enc.e x.2.2.2.1, .agg [.sc undef]], fun x => [arO 3 x.1, bxO 37 x.2.2.2.2], 2, 2, fun _ => rfl, fun _ => rfl, rfl, (by
  rintro ⟨a0, a1, a2, a3, a4⟩ ⟨b0, b1, b2, b3, b4⟩ h hO
  have q0 : a0 = b0 := Enc.inj _ _ (congrArg (fun l => D.sl 1 (obL l 0)) hO)
  have q1 : a1 = b1 := qI 1 h
  have q2 : a2 = b2 := qI 2 h
  have q3 : a3 = b3 := qI 3 h
  have q4 : a4 = b4 := Enc.inj _ _ (congrArg (fun l => (obD l 1).getD 0 (.sc undef)) hO)
  subst q0; subst q1; subst q2; subst q3; subst q4; rfl)⟩, fun x => zq52 x.1 x.2.1 x.2.2.1 x.2.2.2.1 x.2.2.2.2, fun _ => .tup [], fun _ => [], fun x y => [arO 3 y, bxO 37 x.2.2.2.2]⟩
theorem zq52_c {data a m b c1 y} (hm : zq52 data a m b c1 = some y) : zq52_M.C (data, a, m, b, c1) y := zq52_M.c (data, a, m, b, c1) hm
theorem zq52_ok : FnOK Try.prog tJ 306 zq52_M.S := by
 refine fm tt zq52_M [fo zq58_ok] Try.call306 Try.func306 rfl Try.results306 Try.ntmps306 ?_
 rintro ⟨data, a, m, b, c1⟩ y cx G hm
 have hm : zq52 data a m b c1 = some y := hm
 obtain ⟨cmp, hf_cmp⟩ : ∃ q, (fun (z0 : Int) (z1 : Int) => zq8 z0 z1 c1) = q := ⟨_, rfl⟩
 have hm : zq50 data a m b cmp = some y := by rw [← hf_cmp]; exact hm
 unfold zq50 at hm
 refine rg G (rg G (jn hm (fun (v2, data2) => ⟨[(0, .own 0), (2, dV m), (4, .fn 173 [.ref 1 0]), (10, dV v2)], [aX 0 3 data2, bX 1 37 [dV c1]], 48⟩) (fun vv hm => ?_) ?_))
 ·refine Ok_block (lp G hm (fun (v, v1, data1) => ⟨[(0, .own 0), (2, dV m), (4, .fn 173 [.ref 1 0]), (10, dV v), (11, dV v1)], [aX 0 3 data1, bX 1 37 [dV c1]], 48⟩) ?_)
  rintro ⟨v, v1, data1⟩ r0 hb hm
  rw [zq50_L1] at hm
  refine Ok_seq (rg G (cd hm (fun hm => ?_) (fun hm => ?_)))
  ·refine X_skip (thN (Ok_block (rg G (cd hm (fun hm => ?_) (fun hm => ?_)))))
   ·obtain ⟨r, h, hm⟩ := obind hm
    have h : zq58 data1 (w64 (m - v)) m v1 c1 = some r := by rw [← hf_cmp] at h; exact h
    refine rs G (hC 7 (zq58_c h) h0) ?_
    exact rh G (ibN (wL G hm))
   ·obtain ⟨r1, h1, hm⟩ := obind hm
    have h1 : zq58 data1 (w64 (m - v)) (w64 ((w64 (m + v1)) - v)) v c1 = some r1 := by rw [← hf_cmp] at h1; exact h1
    refine rs G (hC 11 (zq58_c h1) h0) ?_
    exact rh G (ibN (wL G hm))
  ·exact Ok_exit (thE (thE (ibE (wD G hm hb))))
 rintro ⟨v2, data2⟩ hm
 obtain ⟨r2, h2, hm⟩ := obind hm
 have h2 : zq58 data2 (w64 (m - v2)) m v2 c1 = some r2 := by rw [← hf_cmp] at h2; exact h2
 refine re G (hC 7 (zq58_c h2) h0) ?_
 cases hm
 exact fN [] []
noncomputable def zq60_MR (rec_ : (List Int) → Int → Int → Int → (List Int) → Option ((List Int))) : MS ((List Int) × Int × Int × Int × (List Int)) ((List Int)) := ⟨⟨[.sl, .rd, .rd, .rd, .fn 173 [.bx]], fun x => [.sc undef, Enc.e x.2.1, Enc.e x.2.2.1, Enc.e x.2.2.2.1, .agg [.sc undef]], fun x => [arO 3 x.1, bxO 37 x.2.2.2.2], 2, 2, fun _ => rfl, fun _ => rfl, rfl, (by
  rintro ⟨a0, a1, a2, a3, a4⟩ ⟨b0, b1, b2, b3, b4⟩ h hO
  have q0 : a0 = b0 := Enc.inj _ _ (congrArg (fun l => D.sl 1 (obL l 0)) hO)
  have q1 : a1 = b1 := qI 1 h
  have q2 : a2 = b2 := qI 2 h
  have q3 : a3 = b3 := qI 3 h
  have q4 : a4 = b4 := Enc.inj _ _ (congrArg (fun l => (obD l 1).getD 0 (.sc undef)) hO)
  subst q0; subst q1; subst q2; subst q3; subst q4; rfl)⟩, fun x => rec_ x.1 x.2.1 x.2.2.1 x.2.2.2.1 x.2.2.2.2, fun _ => .tup [], fun _ => [], fun x y => [arO 3 y, bxO 37 x.2.2.2.2]⟩
noncomputable def zq60_M : MS ((List Int) × Int × Int × Int × (List Int)) ((List Int)) := zq60_MR zq60
theorem zq60_c {data a m b c1 y} (hm : zq60 data a m b c1 = some y) : zq60_M.C (data, a, m, b, c1) y := zq60_M.c (data, a, m, b, c1) hm
theorem zq60_cR {rec_ : (List Int) → Int → Int → Int → (List Int) → Option ((List Int))} {data a m b c1 y} (hm : rec_ data a m b c1 = some y) : (zq60_MR rec_).C (data, a, m, b, c1) y := (zq60_MR rec_).c (data, a, m, b, c1) hm
theorem zq60_okF {rec_ : (List Int) → Int → Int → Int → (List Int) → Option ((List Int))} (hrec : FnOK Try.prog tJ 284 (zq60_MR rec_).S) : FnOK Try.prog tJ 284 (zq60_MR (zq60_F rec_)).S := by
 refine fm tt (zq60_MR (zq60_F rec_)) [fo hrec, fo zq8_ok, fo zq52_ok] Try.call284 Try.func284 rfl Try.results284 Try.ntmps284 ?_
 rintro ⟨data, a, m, b, c1⟩ y cx G hm
 have hm : zq60_F rec_ data a m b c1 = some y := hm
 unfold zq60_F at hm
 refine Ok_seq (rg G (cd hm (fun hm => ?_) (fun hm => ?_)))
 ·refine rg G (rg G (jn hm (fun j1 => ⟨[(0, .own 0), (1, dV a), (4, .fn 173 [.ref 1 0]), (10, dV j1)], [aX 0 3 data, bX 1 37 [dV c1]], 48⟩) (fun j1 hm => ?_) ?_))
  ·refine Ok_block (lp G hm (fun (j, h) => ⟨[(0, .own 0), (1, dV a), (4, .fn 173 [.ref 1 0]), (10, dV j), (11, dV h)], [aX 0 3 data, bX 1 37 [dV c1]], 48⟩) ?_)
   rintro ⟨j, h⟩ r0 hb hm
   rw [zq60_L1] at hm
   refine Ok_seq (rg G (cd hm (fun hm => ?_) (fun hm => ?_)))
   ·refine X_skip (thN (Ok_block ?_))
    obtain ⟨u, h1, hm⟩ := obind hm
    refine rs G (hK h1 h0) ?_
    obtain ⟨e2, h5, hm⟩ := obind hm
    obtain ⟨e3, h6, hm⟩ := obind hm
    obtain ⟨r1, h7, hm⟩ := obind hm
    refine ds G [(9, [1])] (hD 3 h5 (hE 4 h5 (hD 7 h6 (hE 8 h6 (hC 9 (zq8_c h7) h0))))) ?_
    refine cd hm (fun hm => ?_) (fun hm => ?_)
    ·exact rh G (ibN (wL G hm))
    ·exact rh G (ibN (wL G hm))
   ·exact Ok_exit (thE (thE (ibE (wD G hm hb))))
  rintro j1 hm
  refine Ok_seq (rg G (tl hm (fun data2 => ⟨[(0, .own 0), (4, .fn 173 [.ref 1 0])], [aX 0 3 data2, bX 1 37 [dV c1]], 48⟩) (fun data2 hm => ?_) ?_))
  ·refine Ok_block (lp G hm (fun (mid, data1) => ⟨[(0, .own 0), (4, .fn 173 [.ref 1 0]), (10, dV j1), (13, dV mid)], [aX 0 3 data1, bX 1 37 [dV c1]], 48⟩) ?_)
   rintro ⟨mid, data1⟩ r0 hb1 hm
   rw [zq60_L2] at hm
   refine Ok_seq (rg G (cd hm (fun hm => ?_) (fun hm => ?_)))
   ·refine X_skip (thN (Ok_seq (Ok_block ?_)))
    obtain ⟨e8, h12, hm⟩ := obind hm
    obtain ⟨e9, h13, hm⟩ := obind hm
    obtain ⟨e10, h14, hm⟩ := obind hm
    obtain ⟨e11, h15, hm⟩ := obind hm
    refine de G [(15, [0]), (17, [0])] (hD 8 h12 (hE 9 h12 (hD 12 h13 (hE 13 h13 (hD 14 h14 (hS 15 h14 e8 (hD 16 h15 (hS 17 h15 e9 h0)))))))) ?_
    exact ibN (thN (rh G (wL G hm)))
   ·exact Ok_exit (thE (thE (ibE (wD G hm hb1))))
  rintro data2 hm s hw
  refine thN (Ok_weak hw ?_)
  cases hm
  exact rt [] []
 ·refine X_skip (thN (Ok_seq (rg G (cd hm (fun hm => ?_) (fun hm => ?_)))))
  ·refine rg G (rg G (jn hm (fun n1 => ⟨[(0, .own 0), (2, dV m), (4, .fn 173 [.ref 1 0]), (14, dV n1)], [aX 0 3 data, bX 1 37 [dV c1]], 48⟩) (fun n1 hm => ?_) ?_))
   ·refine Ok_block (lp G hm (fun (n, start) => ⟨[(0, .own 0), (2, dV m), (4, .fn 173 [.ref 1 0]), (14, dV n), (15, dV start)], [aX 0 3 data, bX 1 37 [dV c1]], 48⟩) ?_)
    rintro ⟨n, start⟩ r0 hb2 hm
    rw [zq60_L3] at hm
    refine Ok_seq (rg G (cd hm (fun hm => ?_) (fun hm => ?_)))
    ·refine X_skip (thN (Ok_block ?_))
     obtain ⟨u1, h16, hm⟩ := obind hm
     refine rs G (hK h16 h0) ?_
     obtain ⟨e14, h20, hm⟩ := obind hm
     obtain ⟨e15, h21, hm⟩ := obind hm
     obtain ⟨r3, h22, hm⟩ := obind hm
     refine ds G [(9, [1])] (hD 3 h20 (hE 4 h20 (hD 7 h21 (hE 8 h21 (hC 9 (zq8_c h22) h0))))) ?_
     refine cd hm (fun hm => ?_) (fun hm => ?_)
     ·exact rh G (ibN (wL G hm))
     ·exact rh G (ibN (wL G hm))
    ·exact Ok_exit (thE (thE (ibE (wD G hm hb2))))
   rintro n1 hm
   refine Ok_seq (rg G (tl hm (fun data4 => ⟨[(0, .own 0), (4, .fn 173 [.ref 1 0])], [aX 0 3 data4, bX 1 37 [dV c1]], 48⟩) (fun data4 hm => ?_) ?_))
   ·refine Ok_block (lp G hm (fun (p, data3) => ⟨[(0, .own 0), (4, .fn 173 [.ref 1 0]), (14, dV n1), (17, dV p)], [aX 0 3 data3, bX 1 37 [dV c1]], 48⟩) ?_)
    rintro ⟨p, data3⟩ r0 hb3 hm
    rw [zq60_L4] at hm
    refine Ok_seq (rg G (cd hm (fun hm => ?_) (fun hm => ?_)))
    ·refine X_skip (thN (Ok_seq (Ok_block ?_)))
     obtain ⟨e20, h27, hm⟩ := obind hm
     obtain ⟨e21, h28, hm⟩ := obind hm
     obtain ⟨e22, h29, hm⟩ := obind hm
     obtain ⟨e23, h30, hm⟩ := obind hm
     refine de G [(15, [0]), (17, [0])] (hD 8 h27 (hE 9 h27 (hD 12 h28 (hE 13 h28 (hD 14 h29 (hS 15 h29 e20 (hD 16 h30 (hS 17 h30 e21 h0)))))))) ?_
     exact ibN (thN (rh G (wL G hm)))
    ·exact Ok_exit (thE (thE (ibE (wD G hm hb3))))
   rintro data4 hm s1 hw1
   refine thN (Ok_weak hw1 ?_)
   cases hm
   exact rt [] []
  ·refine X_skip (thN ?_)
   obtain ⟨u2, h31, hm⟩ := obind hm
   refine rs G (hK h31 h0) ?_
   refine rg G (rg G (jn hm (fun (v, v1) => ⟨[(0, .own 0), (1, dV a), (2, dV m), (3, dV b), (4, .fn 173 [.ref 1 0]), (18, dV (w64 (((IntKind.u64.wrap ((w64 (a + b)))).fdiv (2 ^ (min (1 : Int).toNat (IntKind.u64).bits)))))), (19, dV (w64 ((w64 (((IntKind.u64.wrap ((w64 (a + b)))).fdiv (2 ^ (min (1 : Int).toNat (IntKind.u64).bits))))) + m))), (20, dV v), (21, dV v1)], [aX 0 3 data, bX 1 37 [dV c1]], 48⟩) (fun vv hm => ?_) ?_))
   ·refine rg G (cd hm (fun hm => ?_) (fun hm => ?_))
    ·exact rg G (rh G (wJ G hm))
    ·exact rg G (rh G (wJ G hm))
   rintro ⟨v, v1⟩ hm
   refine rg G (jn hm (fun v4 => ⟨[(0, .own 0), (1, dV a), (2, dV m), (3, dV b), (4, .fn 173 [.ref 1 0]), (18, dV (w64 (((IntKind.u64.wrap ((w64 (a + b)))).fdiv (2 ^ (min (1 : Int).toNat (IntKind.u64).bits)))))), (19, dV (w64 ((w64 (((IntKind.u64.wrap ((w64 (a + b)))).fdiv (2 ^ (min (1 : Int).toNat (IntKind.u64).bits))))) + m))), (20, dV v4)], [aX 0 3 data, bX 1 37 [dV c1]], 48⟩) (fun v4 hm => ?_) ?_)
   ·refine Ok_block (lp G hm (fun (v2, v3) => ⟨[(0, .own 0), (1, dV a), (2, dV m), (3, dV b), (4, .fn 173 [.ref 1 0]), (18, dV (w64 (((IntKind.u64.wrap ((w64 (a + b)))).fdiv (2 ^ (min (1 : Int).toNat (IntKind.u64).bits)))))), (19, dV (w64 ((w64 (((IntKind.u64.wrap ((w64 (a + b)))).fdiv (2 ^ (min (1 : Int).toNat (IntKind.u64).bits))))) + m))), (20, dV v2), (21, dV v3), (22, dV (w64 ((w64 ((w64 (((IntKind.u64.wrap ((w64 (a + b)))).fdiv (2 ^ (min (1 : Int).toNat (IntKind.u64).bits))))) + m)) - 1)))], [aX 0 3 data, bX 1 37 [dV c1]], 48⟩) ?_)
    rintro ⟨v2, v3⟩ r0 hb4 hm
    rw [zq60_L5] at hm
    refine Ok_seq (rg G (cd hm (fun hm => ?_) (fun hm => ?_)))
    ·refine X_skip (thN (Ok_block ?_))
     obtain ⟨u3, h32, hm⟩ := obind hm
     refine rs G (hK h32 h0) ?_
     obtain ⟨e26, h36, hm⟩ := obind hm
     obtain ⟨e27, h37, hm⟩ := obind hm
     obtain ⟨r5, h38, hm⟩ := obind hm
     refine ds G [(11, [1])] (hD 5 h36 (hE 6 h36 (hD 9 h37 (hE 10 h37 (hC 11 (zq8_c h38) h0))))) ?_
     refine cd hm (fun hm => ?_) (fun hm => ?_)
     ·exact rh G (ibN (wL G hm))
     ·exact rh G (ibN (wL G hm))
    ·exact Ok_exit (thE (thE (ibE (wD G hm hb4))))
   rintro v4 hm
   refine rg G (jn hm (fun data5 => ⟨[(0, .own 0), (1, dV a), (3, dV b), (4, .fn 173 [.ref 1 0]), (18, dV (w64 (((IntKind.u64.wrap ((w64 (a + b)))).fdiv (2 ^ (min (1 : Int).toNat (IntKind.u64).bits)))))), (20, dV v4), (24, dV (w64 ((w64 ((w64 (((IntKind.u64.wrap ((w64 (a + b)))).fdiv (2 ^ (min (1 : Int).toNat (IntKind.u64).bits))))) + m)) - v4)))], [aX 0 3 data5, bX 1 37 [dV c1]], 48⟩) (fun data5 hm => ?_) ?_)
   ·refine jn hm (fun v5 => ⟨[(0, .own 0), (1, dV a), (2, dV m), (3, dV b), (4, .fn 173 [.ref 1 0]), (18, dV (w64 (((IntKind.u64.wrap ((w64 (a + b)))).fdiv (2 ^ (min (1 : Int).toNat (IntKind.u64).bits)))))), (20, dV v4), (24, dV (w64 ((w64 ((w64 (((IntKind.u64.wrap ((w64 (a + b)))).fdiv (2 ^ (min (1 : Int).toNat (IntKind.u64).bits))))) + m)) - v4))), (185, dV v5)], [aX 0 3 data, bX 1 37 [dV c1]], 48⟩) (fun v5 hm => ?_) ?_
    ·rcases bf hm with ⟨hb5, hm⟩ | ⟨hb5, hm⟩
     ·refine re G (hO 3 (.b true) (hP hb5 h0)) ?_
      exact wJ G hm
     ·refine re G (hO 3 (.b false) (hP hb5 h0)) ?_
      exact wJ G hm
    rintro v5 hm
    refine cd hm (fun hm => ?_) (fun hm => ?_)
    ·obtain ⟨r6, h39, hm⟩ := obind hm
     refine re G (hC 5 (zq52_c h39) h0) ?_
     exact wJ G hm
    ·exact X_skip (wJ G hm)
   rintro data5 hm
   refine jn hm (fun data6 => ⟨[(0, .own 0), (3, dV b), (4, .fn 173 [.ref 1 0]), (18, dV (w64 (((IntKind.u64.wrap ((w64 (a + b)))).fdiv (2 ^ (min (1 : Int).toNat (IntKind.u64).bits)))))), (24, dV (w64 ((w64 ((w64 (((IntKind.u64.wrap ((w64 (a + b)))).fdiv (2 ^ (min (1 : Int).toNat (IntKind.u64).bits))))) + m)) - v4)))], [aX 0 3 data6, bX 1 37 [dV c1]], 48⟩) (fun data6 hm => ?_) ?_
   ·refine jn hm (fun v6 => ⟨[(0, .own 0), (1, dV a), (3, dV b), (4, .fn 173 [.ref 1 0]), (18, dV (w64 (((IntKind.u64.wrap ((w64 (a + b)))).fdiv (2 ^ (min (1 : Int).toNat (IntKind.u64).bits)))))), (20, dV v4), (24, dV (w64 ((w64 ((w64 (((IntKind.u64.wrap ((w64 (a + b)))).fdiv (2 ^ (min (1 : Int).toNat (IntKind.u64).bits))))) + m)) - v4))), (199, dV v6)], [aX 0 3 data5, bX 1 37 [dV c1]], 48⟩) (fun v6 hm => ?_) ?_
    ·rcases bf hm with ⟨hb6, hm⟩ | ⟨hb6, hm⟩
     ·refine re G (hO 3 (.b true) (hP hb6 h0)) ?_
      exact wJ G hm
     ·refine re G (hO 3 (.b false) (hP hb6 h0)) ?_
      exact wJ G hm
    rintro v6 hm
    refine cd hm (fun hm => ?_) (fun hm => ?_)
    ·obtain ⟨r7, h40, hm⟩ := obind hm
     refine re G (hC 5 (zq60_cR h40) h0) ?_
     exact wJ G hm
    ·exact X_skip (wJ G hm)
   rintro data6 hm
   refine jn hm (fun v7 => ⟨[(0, .own 0), (3, dV b), (4, .fn 173 [.ref 1 0]), (18, dV (w64 (((IntKind.u64.wrap ((w64 (a + b)))).fdiv (2 ^ (min (1 : Int).toNat (IntKind.u64).bits)))))), (24, dV (w64 ((w64 ((w64 (((IntKind.u64.wrap ((w64 (a + b)))).fdiv (2 ^ (min (1 : Int).toNat (IntKind.u64).bits))))) + m)) - v4))), (213, dV v7)], [aX 0 3 data6, bX 1 37 [dV c1]], 48⟩) (fun v7 hm => ?_) ?_
   ·rcases bf hm with ⟨hb7, hm⟩ | ⟨hb7, hm⟩
    ·refine re G (hO 3 (.b true) (hP hb7 h0)) ?_
     exact wJ G hm
    ·refine re G (hO 3 (.b false) (hP hb7 h0)) ?_
     exact wJ G hm
   rintro v7 hm
   refine cd hm (fun hm => ?_) (fun hm => ?_)
   ·obtain ⟨r8, h41, hm⟩ := obind hm
    refine re G (hC 5 (zq60_cR h41) h0) ?_
    cases hm
    exact fN [] []
   ·refine X_skip ?_
    cases hm
    exact fN [] []
theorem zq60_okn : ∀ k, FnOK Try.prog tJ 284 (zq60_MR (zq60_k k)).S
 | 0 => ⟨fun args w => Try.call284 args w, fun vs w F ds obs κ hp => by obtain ⟨x, y, _, _, h⟩ := hp; cases h⟩
 | k + 1 => zq60_okF (zq60_okn k)
theorem zq60_ok : FnOK Try.prog tJ 284 zq60_M.S := zq60_okn 4294967296
noncomputable def zq55_M : MS ((List Int) × Int × (List Int)) ((List Int)) := ⟨⟨[.sl, .rd, .fn 173 [.bx]], fun x => [.sc undef, Enc.e x.2.1, .agg [.sc undef]], fun x => [arO 3 x.1, bxO 37 x.2.2], 2, 2, fun _ => rfl, fun _ => rfl, rfl, (by
  rintro ⟨a0, a1, a2⟩ ⟨b0, b1, b2⟩ h hO
  have q0 : a0 = b0 := Enc.inj _ _ (congrArg (fun l => D.sl 1 (obL l 0)) hO)
  have q1 : a1 = b1 := qI 1 h
  have q2 : a2 = b2 := Enc.inj _ _ (congrArg (fun l => (obD l 1).getD 0 (.sc undef)) hO)
  subst q0; subst q1; subst q2; rfl)⟩, fun x => zq55 x.1 x.2.1 x.2.2, fun _ => .tup [], fun _ => [], fun x y => [arO 3 y, bxO 37 x.2.2]⟩
theorem zq55_c {data n c1 y} (hm : zq55 data n c1 = some y) : zq55_M.C (data, n, c1) y := zq55_M.c (data, n, c1) hm
theorem zq55_ok : FnOK Try.prog tJ 242 zq55_M.S := by
 refine fm tt zq55_M [fo zq39_ok, fo zq60_ok] Try.call242 Try.func242 rfl Try.results242 Try.ntmps242 ?_
 rintro ⟨data, n, c1⟩ y cx G hm
 have hm : zq55 data n c1 = some y := hm
 unfold zq55 at hm
 refine rg G (rg G (jn hm (fun (v2, data2) => ⟨[(0, .own 0), (1, dV n), (2, .fn 173 [.ref 1 0]), (6, kV .i64 20), (7, dV v2)], [aX 0 3 data2, bX 1 37 [dV c1]], 48⟩) (fun vv1 hm => ?_) ?_))
 ·refine Ok_block (lp G hm (fun (v, v1, data1) => ⟨[(0, .own 0), (1, dV n), (2, .fn 173 [.ref 1 0]), (6, kV .i64 20), (7, dV v), (8, dV v1)], [aX 0 3 data1, bX 1 37 [dV c1]], 48⟩) ?_)
  rintro ⟨v, v1, data1⟩ r0 hb hm
  rw [zq55_L1] at hm
  refine Ok_seq (rg G (cd hm (fun hm => ?_) (fun hm => ?_)))
  ·refine X_skip (thN (Ok_block ?_))
   obtain ⟨r, h, hm⟩ := obind hm
   refine rs G (hC 4 (zq39_c h) h0) ?_
   exact rg G (rh G (ibN (wL G hm)))
  ·exact Ok_exit (thE (thE (ibE (wD G hm hb))))
 rintro ⟨v2, data2⟩ hm
 obtain ⟨r1, h1, hm⟩ := obind hm
 refine rs G (hC 4 (zq39_c h1) h0) ?_
 refine Ok_block (lp G hm (fun (m, data3) => ⟨[(0, .own 0), (1, dV n), (2, .fn 173 [.ref 1 0]), (6, dV m)], [aX 0 3 data3, bX 1 37 [dV c1]], 48⟩) ?_)
 rintro ⟨m, data3⟩ r0 hb1 hm
 rw [zq55_L3] at hm
 refine Ok_seq (rg G (cd hm (fun hm => ?_) (fun hm => ?_)))
 ·refine X_skip (thN (Ok_block (rg G (jn hm (fun (v5, data5) => ⟨[(0, .own 0), (1, dV n), (2, .fn 173 [.ref 1 0]), (6, dV m), (7, dV v5)], [aX 0 3 data5, bX 1 37 [dV c1]], 48⟩) (fun vv hm => ?_) ?_))))
  ·refine Ok_block (lp G hm (fun (v3, v4, data4) => ⟨[(0, .own 0), (1, dV n), (2, .fn 173 [.ref 1 0]), (6, dV m), (7, dV v3), (8, dV v4)], [aX 0 3 data4, bX 1 37 [dV c1]], 48⟩) ?_)
   rintro ⟨v3, v4, data4⟩ r0 hb2 hm
   rw [zq55_L2] at hm
   refine Ok_seq (rg G (cd hm (fun hm => ?_) (fun hm => ?_)))
   ·refine X_skip (thN (Ok_block ?_))
    obtain ⟨r2, h2, hm⟩ := obind hm
    refine rs G (hC 7 (zq60_c h2) h0) ?_
    exact rg G (rh G (ibN (wL G hm)))
   ·exact Ok_exit (thE (thE (ibE (wD G hm hb2))))
  rintro ⟨v5, data5⟩ hm
  refine jn hm (fun data6 => ⟨[(0, .own 0), (1, dV n), (2, .fn 173 [.ref 1 0]), (6, dV m)], [aX 0 3 data6, bX 1 37 [dV c1]], 48⟩) (fun data6 hm => ?_) ?_
  ·refine rg G (rg G (cd hm (fun hm => ?_) (fun hm => ?_)))
   ·obtain ⟨r3, h3, hm⟩ := obind hm
    refine re G (hC 5 (zq60_c h3) h0) ?_
    exact wJ G hm
   ·exact X_skip (wJ G hm)
  rintro data6 hm
  exact rh G (ibN (wL G hm))
 ·have hm := eD hm hb1
  refine Ok_exit (thE (thE (ibE ?_)))
  cases hm
  exact fN [] []
noncomputable def zq32_M : MS ((List Int) × (List Int)) ((List Int)) := ⟨⟨[.sl, .fn 173 [.bx]], fun x => [.sc undef, .agg [.sc undef]], fun x => [arO 3 x.1, bxO 37 x.2], 2, 2, fun _ => rfl, fun _ => rfl, rfl, (by
  rintro ⟨a0, a1⟩ ⟨b0, b1⟩ h hO
  have q0 : a0 = b0 := Enc.inj _ _ (congrArg (fun l => D.sl 1 (obL l 0)) hO)
  have q1 : a1 = b1 := Enc.inj _ _ (congrArg (fun l => (obD l 1).getD 0 (.sc undef)) hO)
  subst q0; subst q1; rfl)⟩, fun x => zq32 x.1 x.2, fun _ => .tup [], fun _ => [], fun x y => [arO 3 y, bxO 37 x.2]⟩
theorem zq32_c {x c1 y} (hm : zq32 x c1 = some y) : zq32_M.C (x, c1) y := zq32_M.c (x, c1) hm
theorem zq32_ok : FnOK Try.prog tJ 167 zq32_M.S := by
 refine fm tt zq32_M [fo zq55_ok] Try.call167 Try.func167 rfl Try.results167 Try.ntmps167 ?_
 rintro ⟨x, c1⟩ y cx G hm
 have hm : zq32 x c1 = some y := hm
 unfold zq32 at hm
 obtain ⟨r, h, hm⟩ := obind hm
 refine re G (hN 2 x (hC 4 (zq55_c h) h0)) ?_
 cases hm
 exact fN [] []
noncomputable def zq30_M : MS ((List Int)) ((List Int)) := ⟨.r, zq30, fun _ => .own 0, fun y => [arO 3 y], fun _ _ => []⟩
theorem zq30_c {s y} (hm : zq30 s = some y) : zq30_M.C s y := zq30_M.c s hm
theorem zq30_ok : FnOK Try.prog tJ 157 zq30_M.S := by
 refine fm tt zq30_M [] Try.call157 Try.func157 rfl Try.results157 Try.ntmps157 ?_
 rintro s y cx G hm
 have hm : zq30 s = some y := hm
 unfold zq30 at hm
 obtain ⟨u, h, hm⟩ := obind hm
 cases hm
 refine rg G (Ok_seq (X_nil_seq G.t.ty G.ok 1 (ds := List.map Enc.e s) (es := 1) [] .nil (by kernel_rfl) (by rfl) (by rfl) (by kernel_rfl) ?_))
 intro b hb
 refine X_cond b (by kernel_rfl) (fun hc => ?_) (fun hc => ?_)
 ·have hl : s = [] := by
   cases s with
   | nil => rfl
   | cons a r => have := hb (by simp); rw [hc] at this; cases this
  subst hl
  refine rg G (Ok_weak (Wk_J (x' := ⟨[(2, .own 16)], [(16, some (.arr 3 1 []))], 32⟩) G.hL ⟨[(2, [.o 16])], [], [(16, 3, 1, [])], 32⟩ (by kernel_rfl)) ?_)
  exact rt [16] []
 ·refine sN (rs G (hA 2 8 h h0) ?_)
  exact rt [96] []
noncomputable def zq14_M : MS ((IK .u64)) Int := ⟨.r, zq14, fun y => dV y, fun _ => [], fun _ _ => []⟩
theorem zq14_c {x y} (hm : zq14 x = some y) : zq14_M.C x y := zq14_M.c x hm
theorem zq14_ok : FnOK Try.prog tJ 295 zq14_M.S := by
 refine fm tt zq14_M [] Try.call295 Try.func295 rfl Try.results295 Try.ntmps295 ?_
 rintro x y cx G hm
 have hm : zq14 x = some y := hm
 unfold zq14 at hm
 refine rg G (jn hm (fun (x1, v) => ⟨[(0, kV .u64 x1), (2, dV v)], [], 32⟩) (fun vv2 hm => ?_) ?_)
 ·refine rg G (cd hm (fun hm => ?_) (fun hm => ?_))
  ·obtain ⟨u, h, hm⟩ := obind hm
   refine rs G (hK h h0) ?_
   exact rh G (wJ G hm)
  ·exact X_skip (wJ G hm)
 rintro ⟨x1, v⟩ hm
 refine jn hm (fun (x2, v1) => ⟨[(0, kV .u64 x2), (2, dV v1)], [], 32⟩) (fun vv1 hm => ?_) ?_
 ·refine rg G (cd hm (fun hm => ?_) (fun hm => ?_))
  ·obtain ⟨u1, h1, hm⟩ := obind hm
   refine rs G (hK h1 h0) ?_
   exact rh G (wJ G hm)
  ·exact X_skip (wJ G hm)
 rintro ⟨x2, v1⟩ hm
 refine jn hm (fun (x3, v2) => ⟨[(0, kV .u64 x3), (2, dV v2)], [], 32⟩) (fun vv hm => ?_) ?_
 ·refine rg G (cd hm (fun hm => ?_) (fun hm => ?_))
  ·obtain ⟨u2, h2, hm⟩ := obind hm
   refine rs G (hK h2 h0) ?_
   exact rh G (wJ G hm)
  ·exact X_skip (wJ G hm)
 rintro ⟨x3, v2⟩ hm
 obtain ⟨u3, h3, hm⟩ := obind hm
 refine rs G (hK h3 h0) ?_
 cases hm
 exact rt [] []
noncomputable def zq13_M : MS ((IK .u64)) Int := ⟨.r, zq13, fun y => dV y, fun _ => [], fun _ _ => []⟩
theorem zq13_c {x y} (hm : zq13 x = some y) : zq13_M.C x y := zq13_M.c x hm
theorem zq13_ok : FnOK Try.prog tJ 245 zq13_M.S := by
 refine fm tt zq13_M [fo zq14_ok] Try.call245 Try.func245 rfl Try.results245 Try.ntmps245 ?_
 rintro x y cx G hm
 have hm : zq13 x = some y := hm
 unfold zq13 at hm
 refine rg G (Ok_seq (cF (X_skip (thN ?_))))
 obtain ⟨r, h, hm⟩ := obind hm
 refine rs G (hC 1 (zq14_c h) h0) ?_
 cases hm
 exact rt [] []
noncomputable def zq1_M : MS (Int × Int) Bool := ⟨.x .r .r, fun x => zq1 x.1 x.2, fun y => dV y, fun _ => [], fun _ _ => []⟩
theorem zq1_c {x y_ y} (hm : zq1 x y_ = some y) : zq1_M.C (x, y_) y := zq1_M.c (x, y_) hm
theorem zq1_ok : FnOK Try.prog tJ 291 zq1_M.S := by
 refine fm tt zq1_M [fo zq2_ok] Try.call291 Try.func291 rfl Try.results291 Try.ntmps291 ?_
 rintro ⟨x, y_⟩ y cx G hm
 have hm : zq1 x y_ = some y := hm
 unfold zq1 at hm
 refine rg G ?_
 obtain ⟨r, h, hm⟩ := obind hm
 refine jn hm (fun v => ⟨[(4, dV v)], [], 32⟩) (fun v hm => ?_) ?_
 ·rcases bf hm with ⟨hb, hm⟩ | ⟨hb, hm⟩
  ·obtain ⟨r1, h1, hm⟩ := obind hm
   rcases bf hm with ⟨hb1, hm⟩ | ⟨hb1, hm⟩
   ·refine re G (hC 1 (zq2_c h) (hO 2 (.b true) (hP hb (hC 4 (zq2_c h1) (hO 7 (.b true) (hP hb1 h0)))))) ?_
    exact wJ G hm
   ·refine re G (hC 1 (zq2_c h) (hO 2 (.b true) (hP hb (hC 4 (zq2_c h1) (hO 7 (.b false) (hP hb1 h0)))))) ?_
    exact wJ G hm
  ·refine re G (hC 1 (zq2_c h) (hO 2 (.b false) (hP hb h0))) ?_
   exact wJ G hm
 rintro v hm
 cases hm
 exact rt [] []
noncomputable def zq40_M : MS ((List Int) × Int × Int) ((List Int)) := ⟨.x (.s 3) (.x .r .r), fun x => zq40 x.1 x.2.1 x.2.2, fun _ => .tup [], fun _ => [], fun _ y => [arO 3 y]⟩
theorem zq40_c {data a b y} (hm : zq40 data a b = some y) : zq40_M.C (data, a, b) y := zq40_M.c (data, a, b) hm
theorem zq40_ok : FnOK Try.prog tJ 285 zq40_M.S := by
 refine fm tt zq40_M [fo zq1_ok] Try.call285 Try.func285 rfl Try.results285 Try.ntmps285 ?_
 rintro ⟨data, a, b⟩ y cx G hm
 have hm : zq40 data a b = some y := hm
 unfold zq40 at hm
 refine rg G (Ok_block (lp G hm (fun (v, data1) => ⟨[(0, .own 0), (1, dV a), (2, dV b), (6, dV v)], [aX 0 3 data1], 48⟩) ?_))
 rintro ⟨v, data1⟩ r0 hb hm
 rw [zq40_L2] at hm
 refine Ok_seq (rg G (cd hm (fun hm => ?_) (fun hm => ?_)))
 ·refine X_skip (thN (Ok_seq (Ok_block (rg G (tl hm (fun data3 => ⟨[(0, .own 0), (1, dV a), (2, dV b), (6, dV v)], [aX 0 3 data3], 48⟩) (fun data3 hm => ?_) ?_)))))
  ·refine Ok_block (lp G hm (fun (v1, data2) => ⟨[(0, .own 0), (1, dV a), (2, dV b), (6, dV v), (7, dV v1)], [aX 0 3 data2], 48⟩) ?_)
   rintro ⟨v1, data2⟩ r0 hb1 hm
   rw [zq40_L1] at hm
   refine Ok_seq (jn hm (fun v2 => ⟨[(0, .own 0), (1, dV a), (2, dV b), (6, dV v), (7, dV v1), (30, dV v2)], [aX 0 3 data2], 48⟩) (fun v2 hm => ?_) ?_)
   ·rcases bf hm with ⟨hb2, hm⟩ | ⟨hb2, hm⟩
    ·obtain ⟨e2, h3, hm⟩ := obind hm
     obtain ⟨e3, h4, hm⟩ := obind hm
     obtain ⟨r1, h5, hm⟩ := obind hm
     refine de G [] (hO 3 (.b true) (hP hb2 (hD 6 h3 (hE 7 h3 (hD 11 h4 (hE 12 h4 (hC 13 (zq1_c h5) h0))))))) ?_
     exact wJ G hm
    ·refine de G [] (hO 3 (.b false) (hP hb2 h0)) ?_
     exact wJ G hm
   rintro v2 hm
   refine cd hm (fun hm => ?_) (fun hm => ?_)
   ·refine X_skip (thN (Ok_seq (Ok_block ?_)))
    obtain ⟨e8, h10, hm⟩ := obind hm
    obtain ⟨e9, h11, hm⟩ := obind hm
    obtain ⟨e10, h12, hm⟩ := obind hm
    obtain ⟨e11, h13, hm⟩ := obind hm
    refine de G [(15, [0]), (17, [0])] (hD 8 h10 (hE 9 h10 (hD 12 h11 (hE 13 h11 (hD 14 h12 (hS 15 h12 e8 (hD 16 h13 (hS 17 h13 e9 h0)))))))) ?_
    exact ibN (thN (rh G (wL G hm)))
   ·exact Ok_exit (thE (thE (ibE (wD G hm hb1))))
  rintro data3 hm s hw
  refine ibN (thN (Ok_weak hw ?_))
  exact rh G (wL G hm)
 ·have hm := eD hm hb
  refine Ok_exit (thE (thE (ibE ?_)))
  cases hm
  exact fN [] []
noncomputable def zq53_M : MS ((List Int) × Int × Int × Int) ((List Int)) := ⟨.x (.s 3) (.x .r (.x .r .r)), fun x => zq53 x.1 x.2.1 x.2.2.1 x.2.2.2, fun _ => .tup [], fun _ => [], fun _ y => [arO 3 y]⟩
theorem zq53_c {data lo hi first y} (hm : zq53 data lo hi first = some y) : zq53_M.C (data, lo, hi, first) y := zq53_M.c (data, lo, hi, first) hm
theorem zq53_ok : FnOK Try.prog tJ 307 zq53_M.S := by
 refine fm tt zq53_M [fo zq1_ok] Try.call307 Try.func307 rfl Try.results307 Try.ntmps307 ?_
 rintro ⟨data, lo, hi, first⟩ y cx G hm
 have hm : zq53 data lo hi first = some y := hm
 unfold zq53 at hm
 refine rg G (Ok_block (lp G hm (fun (v, data1) => ⟨[(0, .own 0), (2, dV hi), (3, dV first), (8, dV v)], [aX 0 3 data1], 48⟩) ?_))
 rintro ⟨v, data1⟩ r0 hb hm
 rw [zq53_L1] at hm
 refine Ok_block (rg G (Ok_seq (rg G (cd hm (fun hm => ?_) (fun hm => ?_)))))
 ·have hm := eD hm hb
  refine Ok_exit (thE (ibX rfl (thE (ibE ?_))))
  cases hm
  exact fN [] []
 ·refine X_skip (thN (jn hm (fun v1 => ⟨[(0, .own 0), (2, dV hi), (3, dV first), (8, dV v), (9, dV v1)], [aX 0 3 data1], 48⟩) (fun v1 hm => ?_) ?_))
  ·refine jn hm (fun v2 => ⟨[(0, .own 0), (2, dV hi), (3, dV first), (8, dV v), (9, dV (w64 ((w64 (2 * v)) + 1))), (36, dV v2)], [aX 0 3 data1], 48⟩) (fun v2 hm => ?_) ?_
   ·rcases bf hm with ⟨hb1, hm⟩ | ⟨hb1, hm⟩
    ·obtain ⟨e3, h3, hm⟩ := obind hm
     obtain ⟨e4, h4, hm⟩ := obind hm
     obtain ⟨r2, h5, hm⟩ := obind hm
     refine de G [] (hO 4 (.b true) (hP hb1 (hD 9 h3 (hE 10 h3 (hD 16 h4 (hE 17 h4 (hC 18 (zq1_c h5) h0))))))) ?_
     exact wJ G hm
    ·refine de G [] (hO 4 (.b false) (hP hb1 h0)) ?_
     exact wJ G hm
   rintro v2 hm
   refine cd hm (fun hm => ?_) (fun hm => ?_)
   ·exact rh G (wJ G hm)
   ·exact X_skip (wJ G hm)
  rintro v1 hm
  refine Ok_seq ?_
  obtain ⟨e7, h9, hm⟩ := obind hm
  obtain ⟨e8, h10, hm⟩ := obind hm
  obtain ⟨r4, h11, hm⟩ := obind hm
  refine ds G [] (hD 4 h9 (hE 5 h9 (hD 10 h10 (hE 11 h10 (hC 12 (zq1_c h11) h0))))) ?_
  refine cd hm (fun hm => ?_) (fun hm => ?_)
  ·have hm := eD hm hb
   cases hm
   exact rt [] []
  ·refine X_skip (thN ?_)
   obtain ⟨e14, h16, hm⟩ := obind hm
   obtain ⟨e15, h17, hm⟩ := obind hm
   obtain ⟨e16, h18, hm⟩ := obind hm
   obtain ⟨e17, h19, hm⟩ := obind hm
   refine ds G [(21, [0]), (23, [0])] (hD 12 h16 (hE 13 h16 (hD 18 h17 (hE 19 h17 (hD 20 h18 (hS 21 h18 e14 (hD 22 h19 (hS 23 h19 e15 h0)))))))) ?_
   exact rh G (ibN (wL G hm))
noncomputable def zq36_M : MS ((List Int) × Int × Int) ((List Int)) := ⟨.x (.s 3) (.x .r .r), fun x => zq36 x.1 x.2.1 x.2.2, fun _ => .tup [], fun _ => [], fun _ y => [arO 3 y]⟩
theorem zq36_c {data a b y} (hm : zq36 data a b = some y) : zq36_M.C (data, a, b) y := zq36_M.c (data, a, b) hm
theorem zq36_ok : FnOK Try.prog tJ 286 zq36_M.S := by
 refine fm tt zq36_M [fo zq53_ok] Try.call286 Try.func286 rfl Try.results286 Try.ntmps286 ?_
 rintro ⟨data, a, b⟩ y cx G hm
 have hm : zq36 data a b = some y := hm
 unfold zq36 at hm
 refine rg G (rg G (rg G (Ok_seq ?_)))
 obtain ⟨u, h, hm⟩ := obind hm
 refine rs G (hK h h0) ?_
 refine tl hm (fun data2 => ⟨[(0, .own 0), (6, dV a), (7, kV .i64 0), (8, dV (w64 (b - a)))], [aX 0 3 data2], 48⟩) (fun data2 hm => ?_) ?_
 ·refine Ok_block (lp G hm (fun (v, data1) => ⟨[(0, .own 0), (6, dV a), (7, kV .i64 0), (8, dV (w64 (b - a))), (9, dV v)], [aX 0 3 data1], 48⟩) ?_)
  rintro ⟨v, data1⟩ r0 hb hm
  rw [zq36_L1] at hm
  refine Ok_seq (rg G (cd hm (fun hm => ?_) (fun hm => ?_)))
  ·refine X_skip (thN (Ok_seq (Ok_block ?_)))
   obtain ⟨r, h1, hm⟩ := obind hm
   refine re G (hC 4 (zq53_c h1) h0) ?_
   exact ibN (thN (rh G (wL G hm)))
  ·exact Ok_exit (thE (thE (ibE (wD G hm hb))))
 rintro data2 hm s hw
 refine thN (Ok_weak hw ?_)
 refine rg G (Ok_block (lp G hm (fun (v1, data3) => ⟨[(0, .own 0), (6, dV a), (7, kV .i64 0), (10, dV v1)], [aX 0 3 data3], 48⟩) ?_))
 rintro ⟨v1, data3⟩ r0 hb1 hm
 rw [zq36_L2] at hm
 refine Ok_seq (rg G (cd hm (fun hm => ?_) (fun hm => ?_)))
 ·refine X_skip (thN (Ok_seq (Ok_block ?_)))
  obtain ⟨e4, h6, hm⟩ := obind hm
  obtain ⟨e5, h7, hm⟩ := obind hm
  obtain ⟨e6, h8, hm⟩ := obind hm
  obtain ⟨e7, h9, hm⟩ := obind hm
  refine ds G [(17, [0]), (19, [0])] (hD 10 h6 (hE 11 h6 (hD 14 h7 (hE 15 h7 (hD 16 h8 (hS 17 h8 e4 (hD 18 h9 (hS 19 h9 e5 h0)))))))) ?_
  obtain ⟨r1, h10, hm⟩ := obind hm
  refine re G (hC 4 (zq53_c h10) h0) ?_
  exact ibN (thN (rh G (wL G hm)))
 ·have hm := eD hm hb1
  refine Ok_exit (thE (thE (ibE ?_)))
  cases hm
  exact fN [] []
noncomputable def zq44_M : MS ((List Int) × Int × Int × Int) (Int × Int × Int) := ⟨.x .r (.x .r (.x .r (.b 3))), fun x => zq44 x.1 x.2.1 x.2.2.1 x.2.2.2, fun y => .tup [dV y.1, dV y.2.1], fun _ => [], fun _ y => [bxO 3 y.2.2]⟩
theorem zq44_c {data a b swaps y} (hm : zq44 data a b swaps = some y) : zq44_M.C (data, a, b, swaps) y := zq44_M.c (data, a, b, swaps) hm
theorem zq44_ok : FnOK Try.prog tJ 314 zq44_M.S := by
 refine fm tt zq44_M [fo zq1_ok] Try.call314 Try.func314 rfl Try.results314 Try.ntmps314 ?_
 rintro ⟨data, a, b, swaps⟩ y cx G hm
 have hm : zq44 data a b swaps = some y := hm
 unfold zq44 at hm
 refine rg G (Ok_seq ?_)
 obtain ⟨e2, h3, hm⟩ := obind hm
 obtain ⟨e3, h4, hm⟩ := obind hm
 obtain ⟨r1, h5, hm⟩ := obind hm
 refine ds G [] (hD 2 h3 (hD 6 h4 (hC 8 (zq1_c h5) h0))) ?_
 refine cd hm (fun hm => ?_) (fun hm => ?_)
 ·refine rg G (rg G ?_)
  cases hm
  exact rt [] []
 ·refine X_skip (thN (rg G ?_))
  cases hm
  exact rt [] []
noncomputable def zq42_M : MS ((List Int) × Int × Int × Int × Int) (Int × Int) := ⟨.x .r (.x .r (.x .r (.x .r (.b 3)))), fun x => zq42 x.1 x.2.1 x.2.2.1 x.2.2.2.1 x.2.2.2.2, fun y => dV y.1, fun _ => [], fun _ y => [bxO 3 y.2]⟩
theorem zq42_c {data a b c swaps y} (hm : zq42 data a b c swaps = some y) : zq42_M.C (data, a, b, c, swaps) y := zq42_M.c (data, a, b, c, swaps) hm
theorem zq42_ok : FnOK Try.prog tJ 311 zq42_M.S := by
 refine fm tt zq42_M [fo zq44_ok] Try.call311 Try.func311 rfl Try.results311 Try.ntmps311 ?_
 rintro ⟨data, a, b, c, swaps⟩ y cx G hm
 have hm : zq42 data a b c swaps = some y := hm
 unfold zq42 at hm
 refine rg G ?_
 obtain ⟨r, h, hm⟩ := obind hm
 refine rs G (hC 4 (zq44_c h) h0) ?_
 obtain ⟨r1, h1, hm⟩ := obind hm
 refine rs G (hC 4 (zq44_c h1) h0) ?_
 obtain ⟨r2, h2, hm⟩ := obind hm
 refine rs G (hC 4 (zq44_c h2) h0) ?_
 refine rg G ?_
 cases hm
 exact rt [] []
noncomputable def zq41_M : MS ((List Int) × Int × Int) (Int × Int) := ⟨.x .r (.x .r (.b 3)), fun x => zq41 x.1 x.2.1 x.2.2, fun y => dV y.1, fun _ => [], fun _ y => [bxO 3 y.2]⟩
theorem zq41_c {data a swaps y} (hm : zq41 data a swaps = some y) : zq41_M.C (data, a, swaps) y := zq41_M.c (data, a, swaps) hm
theorem zq41_ok : FnOK Try.prog tJ 310 zq41_M.S := by
 refine fm tt zq41_M [fo zq42_ok] Try.call310 Try.func310 rfl Try.results310 Try.ntmps310 ?_
 rintro ⟨data, a, swaps⟩ y cx G hm
 have hm : zq41 data a swaps = some y := hm
 unfold zq41 at hm
 refine rg G ?_
 obtain ⟨r, h, hm⟩ := obind hm
 refine rs G (hC 7 (zq42_c h) h0) ?_
 cases hm
 exact rt [] []
noncomputable def zq35_M : MS ((List Int) × Int × Int) (Int × Int) := ⟨.x .r (.x .r .r), fun x => zq35 x.1 x.2.1 x.2.2, fun y => .tup [dV y.1, dV y.2], fun _ => [], fun _ _ => []⟩
theorem zq35_c {data a b y} (hm : zq35 data a b = some y) : zq35_M.C (data, a, b) y := zq35_M.c (data, a, b) hm
theorem zq35_ok : FnOK Try.prog tJ 288 zq35_M.S := by
 refine fm tt zq35_M [fo zq41_ok, fo zq42_ok] Try.call288 Try.func288 rfl Try.results288 Try.ntmps288 ?_
 rintro ⟨data, a, b⟩ y cx G hm
 have hm : zq35 data a b = some y := hm
 unfold zq35 at hm
 refine rg G (rg G (rg G ?_))
 obtain ⟨u, h, hm⟩ := obind hm
 refine rs G (hK h h0) ?_
 obtain ⟨u1, h1, hm⟩ := obind hm
 refine rs G (hK h1 h0) ?_
 obtain ⟨u2, h2, hm⟩ := obind hm
 refine rs G (hK h2 h0) ?_
 refine jn hm (fun (v, v1) => ⟨[(9, .ref 16 0), (11, dV v)], [bX 16 3 [dV v1]], 48⟩) (fun vv1 hm => ?_) ?_
 ·refine rg G (cd hm (fun hm => ?_) (fun hm => ?_))
  ·refine jn hm (fun (v2, v3, v4, v5) => ⟨[(0, dV data), (9, .ref 16 0), (10, dV v2), (11, dV v3), (12, dV v4)], [bX 16 3 [dV v5]], 48⟩) (fun vv hm => ?_) ?_
   ·refine rg G (cd hm (fun hm => ?_) (fun hm => ?_))
    ·obtain ⟨r, h3, hm⟩ := obind hm
     refine rs G (hC 2 (zq41_c h3) h0) ?_
     obtain ⟨r1, h4, hm⟩ := obind hm
     refine rs G (hC 2 (zq41_c h4) h0) ?_
     obtain ⟨r2, h5, hm⟩ := obind hm
     refine re G (hC 2 (zq41_c h5) h0) ?_
     exact wJ G hm
    ·exact X_skip (wJ G hm)
   rintro ⟨v2, v3, v4, v5⟩ hm
   obtain ⟨r3, h6, hm⟩ := obind hm
   refine re G (hC 4 (zq42_c h6) h0) ?_
   exact wJ G hm
  ·exact X_skip (wJ G hm)
 rintro ⟨v, v1⟩ hm
 refine rg G (Ok_block (rg G (cd hm (fun hm => ?_) (fun hm => ?_))))
 ·refine rg G ?_
  cases hm
  exact rt [] []
 ·refine rg G (cd hm (fun hm => ?_) (fun hm => ?_))
  ·refine rg G ?_
   cases hm
   exact rt [] []
  ·refine rg G ?_
   cases hm
   exact rt [] []
noncomputable def zq49_M : MS ((List Int) × Int × Int) ((List Int)) := ⟨.x (.s 3) (.x .r .r), fun x => zq49 x.1 x.2.1 x.2.2, fun _ => .tup [], fun _ => [], fun _ y => [arO 3 y]⟩
theorem zq49_c {data a b y} (hm : zq49 data a b = some y) : zq49_M.C (data, a, b) y := zq49_M.c (data, a, b) hm
theorem zq49_ok : FnOK Try.prog tJ 289 zq49_M.S := by
 refine fm tt zq49_M [] Try.call289 Try.func289 rfl Try.results289 Try.ntmps289 ?_
 rintro ⟨data, a, b⟩ y cx G hm
 have hm : zq49 data a b = some y := hm
 unfold zq49 at hm
 refine rg G (rg G (Ok_block (lp G hm (fun (v, v1, data1) => ⟨[(0, .own 0), (6, dV v), (7, dV v1)], [aX 0 3 data1], 48⟩) ?_)))
 rintro ⟨v, v1, data1⟩ r0 hb hm
 rw [zq49_L1] at hm
 refine Ok_seq (rg G (cd hm (fun hm => ?_) (fun hm => ?_)))
 ·refine X_skip (thN (Ok_block ?_))
  obtain ⟨e4, h4, hm⟩ := obind hm
  obtain ⟨e5, h5, hm⟩ := obind hm
  obtain ⟨e6, h6, hm⟩ := obind hm
  obtain ⟨e7, h7, hm⟩ := obind hm
  refine ds G [(13, [0]), (15, [0])] (hD 6 h4 (hE 7 h4 (hD 10 h5 (hE 11 h5 (hD 12 h6 (hS 13 h6 e4 (hD 14 h7 (hS 15 h7 e5 h0)))))))) ?_
  exact rg G (rh G (ibN (wL G hm)))
 ·have hm := eD hm hb
  refine Ok_exit (thE (thE (ibE ?_)))
  cases hm
  exact fN [] []
noncomputable def zq45_M : MS ((List Int) × Int × Int) (Bool × (List Int)) := ⟨.x (.s 3) (.x .r .r), fun x => zq45 x.1 x.2.1 x.2.2, fun y => dV y.1, fun _ => [], fun _ y => [arO 3 y.2]⟩
theorem zq45_c {data a b y} (hm : zq45 data a b = some y) : zq45_M.C (data, a, b) y := zq45_M.c (data, a, b) hm
theorem zq45_ok : FnOK Try.prog tJ 290 zq45_M.S := by
 refine fm tt zq45_M [fo zq1_ok] Try.call290 Try.func290 rfl Try.results290 Try.ntmps290 ?_
 rintro ⟨data, a, b⟩ y cx G hm
 have hm : zq45 data a b = some y := hm
 unfold zq45 at hm
 refine rg G (rg G (Ok_seq (rg G (tF hm (fun data8 => ⟨[(0, .own 0)], [aX 0 3 data8], 48⟩) (fun v5 hr hm => ?_) ?_))))
 ·refine Ok_block (lp G hm (fun (j, v, data1) => ⟨[(0, .own 0), (1, dV a), (2, dV b), (7, dV j), (8, dV v)], [aX 0 3 data1], 48⟩) ?_)
  rintro ⟨j, v, data1⟩ r0 hb hm
  rw [zq45_L4] at hm
  refine Ok_seq (rg G (cd hm (fun hm => ?_) (fun hm => ?_)))
  ·refine X_skip (thN (jF hm (fun (j1, data2) => ⟨[(0, .own 0), (1, dV a), (2, dV b), (7, dV j1), (8, dV v)], [aX 0 3 data2], 48⟩) (fun v4 hr1 hm => ?_) ?_))
   ·refine Ok_block (jn hm (fun j3 => ⟨[(0, .own 0), (1, dV a), (2, dV b), (7, dV j3), (8, dV v)], [aX 0 3 data1], 48⟩) (fun j3 hm => ?_) ?_)
    ·refine Ok_block (lp G hm (fun j2 => ⟨[(0, .own 0), (1, dV a), (2, dV b), (7, dV j2), (8, dV v)], [aX 0 3 data1], 48⟩) ?_)
     rintro j2 r0 hb1 hm
     rw [zq45_L1] at hm
     refine Ok_seq (jn hm (fun v1 => ⟨[(0, .own 0), (1, dV a), (2, dV b), (7, dV j2), (8, dV v), (32, dV v1)], [aX 0 3 data1], 48⟩) (fun v1 hm => ?_) ?_)
     ·rcases bf hm with ⟨hb2, hm⟩ | ⟨hb2, hm⟩
      ·obtain ⟨e2, h3, hm⟩ := obind hm
       obtain ⟨e3, h4, hm⟩ := obind hm
       obtain ⟨r1, h5, hm⟩ := obind hm
       refine de G [] (hO 3 (.b true) (hP hb2 (hD 6 h3 (hE 7 h3 (hD 11 h4 (hE 12 h4 (hC 13 (zq1_c h5) h0))))))) ?_
       exact wJ G hm
      ·refine de G [] (hO 3 (.b false) (hP hb2 h0)) ?_
       exact wJ G hm
     rintro v1 hm
     refine cd hm (fun hm => ?_) (fun hm => ?_)
     ·exact X_skip (thN (Ok_block (rh G (ibN (wL G hm)))))
     ·exact Ok_exit (thE (thE (ibE (wD G hm hb1))))
    rintro j3 hm
    refine Ok_seq (rg G (cd hm (fun hm => ?_) (fun hm => ?_)))
    ·refine rg G ?_
     have hm := eR hm hr1
     have hm := eL hm hb hr
     cases hm
     exact rt [] []
    ·refine X_skip (thN (Ok_seq (rg G (cd hm (fun hm => ?_) (fun hm => ?_)))))
     ·refine rg G ?_
      have hm := eR hm hr1
      have hm := eL hm hb hr
      cases hm
      exact rt [] []
     ·refine X_skip (thN ?_)
      obtain ⟨e12, h10, hm⟩ := obind hm
      obtain ⟨e13, h11, hm⟩ := obind hm
      obtain ⟨e14, h12, hm⟩ := obind hm
      obtain ⟨e15, h13, hm⟩ := obind hm
      refine ds G [(15, [0]), (17, [0])] (hD 8 h10 (hE 9 h10 (hD 12 h11 (hE 13 h11 (hD 14 h12 (hS 15 h12 e12 (hD 16 h13 (hS 17 h13 e13 h0)))))))) ?_
      refine jn hm (fun data3 => ⟨[(0, .own 0), (1, dV a), (2, dV b), (7, dV j3), (8, dV v)], [aX 0 3 data3], 48⟩) (fun data3 hm => ?_) ?_
      ·refine rg G (cd hm (fun hm => ?_) (fun hm => ?_))
       ·refine rg G (tl hm (fun data5 => ⟨[(0, .own 0), (1, dV a), (2, dV b), (7, dV j3), (8, dV v)], [aX 0 3 data5], 48⟩) (fun data5 hm => ?_) ?_)
        ·refine Ok_block (lp G hm (fun (v2, data4) => ⟨[(0, .own 0), (1, dV a), (2, dV b), (7, dV j3), (8, dV v), (9, dV v2)], [aX 0 3 data4], 48⟩) ?_)
         rintro ⟨v2, data4⟩ r0 hb3 hm
         rw [zq45_L2] at hm
         refine Ok_seq (rg G (cd hm (fun hm => ?_) (fun hm => ?_)))
         ·refine X_skip (thN (Ok_seq (Ok_block (Ok_seq ?_))))
          obtain ⟨e18, h17, hm⟩ := obind hm
          obtain ⟨e19, h18, hm⟩ := obind hm
          obtain ⟨r7, h19, hm⟩ := obind hm
          refine ds G [] (hD 2 h17 (hE 3 h17 (hD 7 h18 (hE 8 h18 (hC 9 (zq1_c h19) h0))))) ?_
          refine cd hm (fun hm => ?_) (fun hm => ?_)
          ·exact Ok_exit (thE (ibX rfl (thE (thE (ibE (wD G hm hb3))))))
          ·refine X_skip (thN ?_)
           obtain ⟨e24, h24, hm⟩ := obind hm
           obtain ⟨e25, h25, hm⟩ := obind hm
           obtain ⟨e26, h26, hm⟩ := obind hm
           obtain ⟨e27, h27, hm⟩ := obind hm
           refine de G [(15, [0]), (17, [0])] (hD 8 h24 (hE 9 h24 (hD 12 h25 (hE 13 h25 (hD 14 h26 (hS 15 h26 e24 (hD 16 h27 (hS 17 h27 e25 h0)))))))) ?_
           exact ibN (thN (rh G (wL G hm)))
         ·exact Ok_exit (thE (thE (ibE (wD G hm hb3))))
        rintro data5 hm s hw
        exact wJp hm (Wk.trans hw (Wk_J G.hL ⟨[(0, []), (1, []), (2, []), (7, []), (8, [])], [(0, 0, [])], [], 48⟩ (by kernel_rfl)))
       ·exact X_skip (wJ G hm)
      rintro data3 hm
      refine rg G (cd hm (fun hm => ?_) (fun hm => ?_))
      ·refine rg G (tl hm (fun data7 => ⟨[(0, .own 0), (1, dV a), (2, dV b), (7, dV j3), (8, dV v)], [aX 0 3 data7], 48⟩) (fun data7 hm => ?_) ?_)
       ·refine Ok_block (lp G hm (fun (v3, data6) => ⟨[(0, .own 0), (1, dV a), (2, dV b), (7, dV j3), (8, dV v), (10, dV v3)], [aX 0 3 data6], 48⟩) ?_)
        rintro ⟨v3, data6⟩ r0 hb4 hm
        rw [zq45_L3] at hm
        refine Ok_seq (rg G (cd hm (fun hm => ?_) (fun hm => ?_)))
        ·refine X_skip (thN (Ok_seq (Ok_block (Ok_seq ?_))))
         obtain ⟨e30, h31, hm⟩ := obind hm
         obtain ⟨e31, h32, hm⟩ := obind hm
         obtain ⟨r9, h33, hm⟩ := obind hm
         refine ds G [] (hD 2 h31 (hE 3 h31 (hD 7 h32 (hE 8 h32 (hC 9 (zq1_c h33) h0))))) ?_
         refine cd hm (fun hm => ?_) (fun hm => ?_)
         ·exact Ok_exit (thE (ibX rfl (thE (thE (ibE (wD G hm hb4))))))
         ·refine X_skip (thN ?_)
          obtain ⟨e36, h38, hm⟩ := obind hm
          obtain ⟨e37, h39, hm⟩ := obind hm
          obtain ⟨e38, h40, hm⟩ := obind hm
          obtain ⟨e39, h41, hm⟩ := obind hm
          refine de G [(15, [0]), (17, [0])] (hD 8 h38 (hE 9 h38 (hD 12 h39 (hE 13 h39 (hD 14 h40 (hS 15 h40 e36 (hD 16 h41 (hS 17 h41 e37 h0)))))))) ?_
          exact ibN (thN (rh G (wL G hm)))
        ·exact Ok_exit (thE (thE (ibE (wD G hm hb4))))
       rintro data7 hm s1 hw1
       exact ibN (wFp hm (Wk.trans hw1 (Wk_J G.hL ⟨[(0, []), (1, []), (2, []), (7, []), (8, [])], [(0, 0, [])], [], 48⟩ (by kernel_rfl))))
      ·exact X_skip (ibN (wF G hm))
   rintro ⟨j1, data2⟩ hm
   exact rh G (wL G hm)
  ·exact Ok_exit (thE (thE (ibE (wE G hm hb))))
 rintro data8 hm s2 hw2
 refine thN (Ok_weak hw2 ?_)
 refine rg G ?_
 cases hm
 exact rt [] []
noncomputable def zq46_M : MS ((List Int) × Int × Int × Int) (Int × (List Int)) := ⟨.x (.s 3) (.x .r (.x .r .r)), fun x => zq46 x.1 x.2.1 x.2.2.1 x.2.2.2, fun y => dV y.1, fun _ => [], fun _ y => [arO 3 y.2]⟩
theorem zq46_c {data a b pivot y} (hm : zq46 data a b pivot = some y) : zq46_M.C (data, a, b, pivot) y := zq46_M.c (data, a, b, pivot) hm
theorem zq46_ok : FnOK Try.prog tJ 292 zq46_M.S := by
 refine fm tt zq46_M [fo zq1_ok] Try.call292 Try.func292 rfl Try.results292 Try.ntmps292 ?_
 rintro ⟨data, a, b, pivot⟩ y cx G hm
 have hm : zq46 data a b pivot = some y := hm
 unfold zq46 at hm
 refine rg G ?_
 obtain ⟨e4, h4, hm⟩ := obind hm
 obtain ⟨e5, h5, hm⟩ := obind hm
 obtain ⟨e6, h6, hm⟩ := obind hm
 obtain ⟨e7, h7, hm⟩ := obind hm
 refine ds G [(13, [0]), (15, [0])] (hD 6 h4 (hE 7 h4 (hD 10 h5 (hE 11 h5 (hD 12 h6 (hS 13 h6 e4 (hD 14 h7 (hS 15 h7 e5 h0)))))))) ?_
 refine rg G (jn hm (fun (v8, data2) => ⟨[(0, .own 0), (9, dV v8)], [aX 0 3 data2], 48⟩) (fun vv hm => ?_) ?_)
 ·refine Ok_block (lp G hm (fun (v, v1, data1) => ⟨[(0, .own 0), (1, dV a), (9, dV v), (10, dV v1)], [aX 0 3 data1], 48⟩) ?_)
  rintro ⟨v, v1, data1⟩ r0 hb hm
  rw [zq46_L3] at hm
  refine Ok_block (jn hm (fun v4 => ⟨[(0, .own 0), (1, dV a), (9, dV v4), (10, dV v1)], [aX 0 3 data1], 48⟩) (fun v4 hm => ?_) ?_)
  ·refine Ok_block (lp G hm (fun v2 => ⟨[(0, .own 0), (1, dV a), (9, dV v2), (10, dV v1)], [aX 0 3 data1], 48⟩) ?_)
   rintro v2 r0 hb1 hm
   rw [zq46_L1] at hm
   refine Ok_seq (jn hm (fun v3 => ⟨[(0, .own 0), (1, dV a), (9, dV v2), (10, dV v1), (43, dV v3)], [aX 0 3 data1], 48⟩) (fun v3 hm => ?_) ?_)
   ·rcases bf hm with ⟨hb2, hm⟩ | ⟨hb2, hm⟩
    ·obtain ⟨e10, h11, hm⟩ := obind hm
     obtain ⟨e11, h12, hm⟩ := obind hm
     obtain ⟨r1, h13, hm⟩ := obind hm
     refine de G [] (hO 3 (.b true) (hP hb2 (hD 6 h11 (hE 7 h11 (hD 10 h12 (hE 11 h12 (hC 12 (zq1_c h13) h0))))))) ?_
     exact wJ G hm
    ·refine de G [] (hO 3 (.b false) (hP hb2 h0)) ?_
     exact wJ G hm
   rintro v3 hm
   refine cd hm (fun hm => ?_) (fun hm => ?_)
   ·exact X_skip (thN (Ok_block (rh G (ibN (wL G hm)))))
   ·exact Ok_exit (thE (thE (ibE (wD G hm hb1))))
  rintro v4 hm
  refine jn hm (fun v7 => ⟨[(0, .own 0), (1, dV a), (9, dV v4), (10, dV v7)], [aX 0 3 data1], 48⟩) (fun v7 hm => ?_) ?_
  ·refine Ok_block (lp G hm (fun v5 => ⟨[(0, .own 0), (1, dV a), (9, dV v4), (10, dV v5)], [aX 0 3 data1], 48⟩) ?_)
   rintro v5 r0 hb3 hm
   rw [zq46_L2] at hm
   refine Ok_seq (jn hm (fun v6 => ⟨[(0, .own 0), (1, dV a), (9, dV v4), (10, dV v5), (59, dV v6)], [aX 0 3 data1], 48⟩) (fun v6 hm => ?_) ?_)
   ·rcases bf hm with ⟨hb4, hm⟩ | ⟨hb4, hm⟩
    ·obtain ⟨e14, h17, hm⟩ := obind hm
     obtain ⟨e15, h18, hm⟩ := obind hm
     obtain ⟨r3, h19, hm⟩ := obind hm
     refine de G [] (hO 3 (.b true) (hP hb4 (hD 6 h17 (hE 7 h17 (hD 10 h18 (hE 11 h18 (hC 12 (zq1_c h19) h0))))))) ?_
     exact wJ G hm
    ·refine de G [] (hO 3 (.b false) (hP hb4 h0)) ?_
     exact wJ G hm
   rintro v6 hm
   refine cd hm (fun hm => ?_) (fun hm => ?_)
   ·exact X_skip (thN (Ok_block (rh G (ibN (wL G hm)))))
   ·exact Ok_exit (thE (thE (ibE (wD G hm hb3))))
  rintro v7 hm
  refine Ok_seq (rg G (cd hm (fun hm => ?_) (fun hm => ?_)))
  ·exact Ok_exit (thE (ibX rfl (thE (ibE (wD G hm hb)))))
  ·refine X_skip (thN ?_)
   obtain ⟨e20, h24, hm⟩ := obind hm
   obtain ⟨e21, h25, hm⟩ := obind hm
   obtain ⟨e22, h26, hm⟩ := obind hm
   obtain ⟨e23, h27, hm⟩ := obind hm
   refine ds G [(13, [0]), (15, [0])] (hD 6 h24 (hE 7 h24 (hD 10 h25 (hE 11 h25 (hD 12 h26 (hS 13 h26 e20 (hD 14 h27 (hS 15 h27 e21 h0)))))))) ?_
   exact rg G (rh G (ibN (wL G hm)))
 rintro ⟨v8, data2⟩ hm
 refine rg G ?_
 cases hm
 exact rt [] []
noncomputable def zq47_M : MS ((List Int) × Int × Int × Int) (Int × Bool × (List Int)) := ⟨.x (.s 3) (.x .r (.x .r .r)), fun x => zq47 x.1 x.2.1 x.2.2.1 x.2.2.2, fun y => .tup [dV y.1, dV y.2.1], fun _ => [], fun _ y => [arO 3 y.2.2]⟩
theorem zq47_c {data a b pivot y} (hm : zq47 data a b pivot = some y) : zq47_M.C (data, a, b, pivot) y := zq47_M.c (data, a, b, pivot) hm
theorem zq47_ok : FnOK Try.prog tJ 293 zq47_M.S := by
 refine fm tt zq47_M [fo zq1_ok] Try.call293 Try.func293 rfl Try.results293 Try.ntmps293 ?_
 rintro ⟨data, a, b, pivot⟩ y cx G hm
 have hm : zq47 data a b pivot = some y := hm
 unfold zq47 at hm
 refine rg G ?_
 obtain ⟨e4, h4, hm⟩ := obind hm
 obtain ⟨e5, h5, hm⟩ := obind hm
 obtain ⟨e6, h6, hm⟩ := obind hm
 obtain ⟨e7, h7, hm⟩ := obind hm
 refine ds G [(13, [0]), (15, [0])] (hD 6 h4 (hE 7 h4 (hD 10 h5 (hE 11 h5 (hD 12 h6 (hS 13 h6 e4 (hD 14 h7 (hS 15 h7 e5 h0)))))))) ?_
 refine rg G (jn hm (fun v2 => ⟨[(0, .own 0), (1, dV a), (10, dV v2), (11, dV (w64 (b - 1)))], [aX 0 3 ((data.set a.toNat e4).set pivot.toNat e5)], 48⟩) (fun v2 hm => ?_) ?_)
 ·refine Ok_block (lp G hm (fun v => ⟨[(0, .own 0), (1, dV a), (10, dV v), (11, dV (w64 (b - 1)))], [aX 0 3 ((data.set a.toNat e4).set pivot.toNat e5)], 48⟩) ?_)
  rintro v r0 hb hm
  rw [zq47_L1] at hm
  refine Ok_seq (jn hm (fun v1 => ⟨[(0, .own 0), (1, dV a), (10, dV v), (11, dV (w64 (b - 1))), (43, dV v1)], [aX 0 3 ((data.set a.toNat e4).set pivot.toNat e5)], 48⟩) (fun v1 hm => ?_) ?_)
  ·rcases bf hm with ⟨hb1, hm⟩ | ⟨hb1, hm⟩
   ·obtain ⟨e10, h11, hm⟩ := obind hm
    obtain ⟨e11, h12, hm⟩ := obind hm
    obtain ⟨r1, h13, hm⟩ := obind hm
    refine de G [] (hO 3 (.b true) (hP hb1 (hD 6 h11 (hE 7 h11 (hD 10 h12 (hE 11 h12 (hC 12 (zq1_c h13) h0))))))) ?_
    exact wJ G hm
   ·refine de G [] (hO 3 (.b false) (hP hb1 h0)) ?_
    exact wJ G hm
  rintro v1 hm
  refine cd hm (fun hm => ?_) (fun hm => ?_)
  ·exact X_skip (thN (Ok_block (rh G (ibN (wL G hm)))))
  ·exact Ok_exit (thE (thE (ibE (wD G hm hb))))
 rintro v2 hm
 refine jn hm (fun v5 => ⟨[(0, .own 0), (1, dV a), (10, dV v2), (11, dV v5)], [aX 0 3 ((data.set a.toNat e4).set pivot.toNat e5)], 48⟩) (fun v5 hm => ?_) ?_
 ·refine Ok_block (lp G hm (fun v3 => ⟨[(0, .own 0), (1, dV a), (10, dV v2), (11, dV v3)], [aX 0 3 ((data.set a.toNat e4).set pivot.toNat e5)], 48⟩) ?_)
  rintro v3 r0 hb2 hm
  rw [zq47_L2] at hm
  refine Ok_seq (jn hm (fun v4 => ⟨[(0, .own 0), (1, dV a), (10, dV v2), (11, dV v3), (60, dV v4)], [aX 0 3 ((data.set a.toNat e4).set pivot.toNat e5)], 48⟩) (fun v4 hm => ?_) ?_)
  ·rcases bf hm with ⟨hb3, hm⟩ | ⟨hb3, hm⟩
   ·obtain ⟨e14, h17, hm⟩ := obind hm
    obtain ⟨e15, h18, hm⟩ := obind hm
    obtain ⟨r3, h19, hm⟩ := obind hm
    refine de G [] (hO 3 (.b true) (hP hb3 (hD 6 h17 (hE 7 h17 (hD 10 h18 (hE 11 h18 (hC 12 (zq1_c h19) h0))))))) ?_
    exact wJ G hm
   ·refine de G [] (hO 3 (.b false) (hP hb3 h0)) ?_
    exact wJ G hm
  rintro v4 hm
  refine cd hm (fun hm => ?_) (fun hm => ?_)
  ·exact X_skip (thN (Ok_block (rh G (ibN (wL G hm)))))
  ·exact Ok_exit (thE (thE (ibE (wD G hm hb2))))
 rintro v5 hm
 refine Ok_seq (rg G (cd hm (fun hm => ?_) (fun hm => ?_)))
 ·obtain ⟨e20, h24, hm⟩ := obind hm
  obtain ⟨e21, h25, hm⟩ := obind hm
  obtain ⟨e22, h26, hm⟩ := obind hm
  obtain ⟨e23, h27, hm⟩ := obind hm
  refine ds G [(13, [0]), (15, [0])] (hD 6 h24 (hE 7 h24 (hD 10 h25 (hE 11 h25 (hD 12 h26 (hS 13 h26 e20 (hD 14 h27 (hS 15 h27 e21 h0)))))))) ?_
  refine rg G ?_
  cases hm
  exact rt [] []
 ·refine X_skip (thN ?_)
  obtain ⟨e28, h32, hm⟩ := obind hm
  obtain ⟨e29, h33, hm⟩ := obind hm
  obtain ⟨e30, h34, hm⟩ := obind hm
  obtain ⟨e31, h35, hm⟩ := obind hm
  refine ds G [(13, [0]), (15, [0])] (hD 6 h32 (hE 7 h32 (hD 10 h33 (hE 11 h33 (hD 12 h34 (hS 13 h34 e28 (hD 14 h35 (hS 15 h35 e29 h0)))))))) ?_
  refine rg G (rg G (jn hm (fun (v14, data2) => ⟨[(0, .own 0), (1, dV a), (11, dV v14)], [aX 0 3 data2], 48⟩) (fun vv hm => ?_) ?_))
  ·refine Ok_block (lp G hm (fun (v6, v7, data1) => ⟨[(0, .own 0), (1, dV a), (10, dV v6), (11, dV v7)], [aX 0 3 data1], 48⟩) ?_)
   rintro ⟨v6, v7, data1⟩ r0 hb4 hm
   rw [zq47_L5] at hm
   refine Ok_block (jn hm (fun v10 => ⟨[(0, .own 0), (1, dV a), (10, dV v10), (11, dV v7)], [aX 0 3 data1], 48⟩) (fun v10 hm => ?_) ?_)
   ·refine Ok_block (lp G hm (fun v8 => ⟨[(0, .own 0), (1, dV a), (10, dV v8), (11, dV v7)], [aX 0 3 data1], 48⟩) ?_)
    rintro v8 r0 hb5 hm
    rw [zq47_L3] at hm
    refine Ok_seq (jn hm (fun v9 => ⟨[(0, .own 0), (1, dV a), (10, dV v8), (11, dV v7), (112, dV v9)], [aX 0 3 data1], 48⟩) (fun v9 hm => ?_) ?_)
    ·rcases bf hm with ⟨hb6, hm⟩ | ⟨hb6, hm⟩
     ·obtain ⟨e34, h39, hm⟩ := obind hm
      obtain ⟨e35, h40, hm⟩ := obind hm
      obtain ⟨r5, h41, hm⟩ := obind hm
      refine de G [] (hO 3 (.b true) (hP hb6 (hD 6 h39 (hE 7 h39 (hD 10 h40 (hE 11 h40 (hC 12 (zq1_c h41) h0))))))) ?_
      exact wJ G hm
     ·refine de G [] (hO 3 (.b false) (hP hb6 h0)) ?_
      exact wJ G hm
    rintro v9 hm
    refine cd hm (fun hm => ?_) (fun hm => ?_)
    ·exact X_skip (thN (Ok_block (rh G (ibN (wL G hm)))))
    ·exact Ok_exit (thE (thE (ibE (wD G hm hb5))))
   rintro v10 hm
   refine jn hm (fun v13 => ⟨[(0, .own 0), (1, dV a), (10, dV v10), (11, dV v13)], [aX 0 3 data1], 48⟩) (fun v13 hm => ?_) ?_
   ·refine Ok_block (lp G hm (fun v11 => ⟨[(0, .own 0), (1, dV a), (10, dV v10), (11, dV v11)], [aX 0 3 data1], 48⟩) ?_)
    rintro v11 r0 hb7 hm
    rw [zq47_L4] at hm
    refine Ok_seq (jn hm (fun v12 => ⟨[(0, .own 0), (1, dV a), (10, dV v10), (11, dV v11), (129, dV v12)], [aX 0 3 data1], 48⟩) (fun v12 hm => ?_) ?_)
    ·rcases bf hm with ⟨hb8, hm⟩ | ⟨hb8, hm⟩
     ·obtain ⟨e38, h45, hm⟩ := obind hm
      obtain ⟨e39, h46, hm⟩ := obind hm
      obtain ⟨r7, h47, hm⟩ := obind hm
      refine de G [] (hO 3 (.b true) (hP hb8 (hD 6 h45 (hE 7 h45 (hD 10 h46 (hE 11 h46 (hC 12 (zq1_c h47) h0))))))) ?_
      exact wJ G hm
     ·refine de G [] (hO 3 (.b false) (hP hb8 h0)) ?_
      exact wJ G hm
    rintro v12 hm
    refine cd hm (fun hm => ?_) (fun hm => ?_)
    ·exact X_skip (thN (Ok_block (rh G (ibN (wL G hm)))))
    ·exact Ok_exit (thE (thE (ibE (wD G hm hb7))))
   rintro v13 hm
   refine Ok_seq (rg G (cd hm (fun hm => ?_) (fun hm => ?_)))
   ·exact Ok_exit (thE (ibX rfl (thE (ibE (wD G hm hb4)))))
   ·refine X_skip (thN ?_)
    obtain ⟨e44, h52, hm⟩ := obind hm
    obtain ⟨e45, h53, hm⟩ := obind hm
    obtain ⟨e46, h54, hm⟩ := obind hm
    obtain ⟨e47, h55, hm⟩ := obind hm
    refine ds G [(13, [0]), (15, [0])] (hD 6 h52 (hE 7 h52 (hD 10 h53 (hE 11 h53 (hD 12 h54 (hS 13 h54 e44 (hD 14 h55 (hS 15 h55 e45 h0)))))))) ?_
    exact rg G (rh G (ibN (wL G hm)))
  rintro ⟨v14, data2⟩ hm
  obtain ⟨e52, h60, hm⟩ := obind hm
  obtain ⟨e53, h61, hm⟩ := obind hm
  obtain ⟨e54, h62, hm⟩ := obind hm
  obtain ⟨e55, h63, hm⟩ := obind hm
  refine ds G [(13, [0]), (15, [0])] (hD 6 h60 (hE 7 h60 (hD 10 h61 (hE 11 h61 (hD 12 h62 (hS 13 h62 e52 (hD 14 h63 (hS 15 h63 e53 h0)))))))) ?_
  refine rg G ?_
  cases hm
  exact rt [] []
noncomputable def zq43_M : MS Int ((IK .u64)) := ⟨.r, zq43, fun y => dV y, fun _ => [], fun _ _ => []⟩
theorem zq43_c {length y} (hm : zq43 length = some y) : zq43_M.C length y := zq43_M.c length hm
theorem zq43_ok : FnOK Try.prog tJ 308 zq43_M.S := by
 refine fm tt zq43_M [fo zq13_ok] Try.call308 Try.func308 rfl Try.results308 Try.ntmps308 ?_
 rintro length y cx G hm
 have hm : zq43 length = some y := hm
 unfold zq43 at hm
 refine rg G ?_
 obtain ⟨r, h, hm⟩ := obind hm
 obtain ⟨u, h1, hm⟩ := obind hm
 refine rs G (hC 2 (zq13_c h) (hK h1 h0)) ?_
 cases hm
 exact rt [] []
noncomputable def zq61_M : MS ((IK .u64)) ((IK .u64) × (IK .u64)) := ⟨.b 329, zq61, fun y => dV y.1, fun _ => [], fun _ y => [bxO 329 y.2]⟩
theorem zq61_c {r y} (hm : zq61 r = some y) : zq61_M.C r y := zq61_M.c r hm
theorem zq61_ok : FnOK Try.prog tJ 309 zq61_M.S := by
 refine fm tt zq61_M [] Try.call309 Try.func309 rfl Try.results309 Try.ntmps309 ?_
 rintro r y cx G hm
 have hm : zq61 r = some y := hm
 unfold zq61 at hm
 refine rg G ?_
 obtain ⟨u1, h1, hm⟩ := obind hm
 refine ds G [(9, [0])] (hK h1 h0) ?_
 obtain ⟨u3, h3, hm⟩ := obind hm
 refine ds G [(9, [0])] (hK h3 h0) ?_
 obtain ⟨u5, h5, hm⟩ := obind hm
 refine ds G [(9, [0])] (hK h5 h0) ?_
 refine rg G ?_
 cases hm
 exact rt [] []
noncomputable def zq34_M : MS ((List Int) × Int × Int) ((List Int)) := ⟨.x (.s 3) (.x .r .r), fun x => zq34 x.1 x.2.1 x.2.2, fun _ => .tup [], fun _ => [], fun _ y => [arO 3 y]⟩
theorem zq34_c {data a b y} (hm : zq34 data a b = some y) : zq34_M.C (data, a, b) y := zq34_M.c (data, a, b) hm
theorem zq34_ok : FnOK Try.prog tJ 287 zq34_M.S := by
 refine fm tt zq34_M [fo zq43_ok, fo zq61_ok] Try.call287 Try.func287 rfl Try.results287 Try.ntmps287 ?_
 rintro ⟨data, a, b⟩ y cx G hm
 have hm : zq34 data a b = some y := hm
 unfold zq34 at hm
 refine rg G (rg G (cd hm (fun hm => ?_) (fun hm => ?_)))
 ·refine rg G ?_
  obtain ⟨r, h, hm⟩ := obind hm
  refine rs G (hC 1 (zq43_c h) h0) ?_
  obtain ⟨u, h1, hm⟩ := obind hm
  refine rs G (hK h1 h0) ?_
  refine Ok_block (lp G hm (fun (v, data1, v1) => ⟨[(0, .own 0), (1, dV a), (6, dV (w64 (b - a))), (7, .ref 32 0), (8, kV .u64 r.v), (9, dV v)], [aX 0 3 data1, bX 32 329 [kV .u64 v1]], 64⟩) ?_)
  rintro ⟨v, data1, v1⟩ r0 hb hm
  rw [zq34_L1] at hm
  refine Ok_seq ?_
  obtain ⟨u1, h2, hm⟩ := obind hm
  refine rs G (hK h2 h0) ?_
  refine cd hm (fun hm => ?_) (fun hm => ?_)
  ·refine X_skip (thN (Ok_seq (Ok_block ?_)))
   obtain ⟨r1, h3, hm⟩ := obind hm
   refine rs G (hC 0 (zq61_c h3) h0) ?_
   refine jn hm (fun v2 => ⟨[(0, .own 0), (1, dV a), (6, dV (w64 (b - a))), (7, .ref 32 0), (8, kV .u64 r.v), (9, dV v), (10, dV v2)], [aX 0 3 data1, bX 32 329 [kV .u64 r1.2.v]], 64⟩) (fun v2 hm => ?_) ?_
   ·refine rg G (cd hm (fun hm => ?_) (fun hm => ?_))
    ·exact rh G (wJ G hm)
    ·exact X_skip (wJ G hm)
   rintro v2 hm
   obtain ⟨e4, h8, hm⟩ := obind hm
   obtain ⟨e5, h9, hm⟩ := obind hm
   obtain ⟨e6, h10, hm⟩ := obind hm
   obtain ⟨e7, h11, hm⟩ := obind hm
   refine de G [(17, [0]), (19, [0])] (hD 10 h8 (hE 11 h8 (hD 14 h9 (hE 15 h9 (hD 16 h10 (hS 17 h10 e4 (hD 18 h11 (hS 19 h11 e5 h0)))))))) ?_
   exact ibN (thN (rh G (wL G hm)))
  ·have hm := eD hm hb
   refine Ok_exit (thE (thE (ibE ?_)))
   cases hm
   exact fN [] []
 ·refine X_skip ?_
  cases hm
  exact fN [] []
noncomputable def zq48_MR (rec_ : (List Int) → Int → Int → Int → Option ((List Int))) : MS ((List Int) × Int × Int × Int) ((List Int)) := ⟨.x (.s 3) (.x .r (.x .r .r)), fun x => rec_ x.1 x.2.1 x.2.2.1 x.2.2.2, fun _ => .tup [], fun _ => [], fun _ y => [arO 3 y]⟩
noncomputable def zq48_M : MS ((List Int) × Int × Int × Int) ((List Int)) := zq48_MR zq48
theorem zq48_c {data a b limit y} (hm : zq48 data a b limit = some y) : zq48_M.C (data, a, b, limit) y := zq48_M.c (data, a, b, limit) hm
theorem zq48_cR {rec_ : (List Int) → Int → Int → Int → Option ((List Int))} {data a b limit y} (hm : rec_ data a b limit = some y) : (zq48_MR rec_).C (data, a, b, limit) y := (zq48_MR rec_).c (data, a, b, limit) hm
theorem zq48_okF {rec_ : (List Int) → Int → Int → Int → Option ((List Int))} (hrec : FnOK Try.prog tJ 244 (zq48_MR rec_).S) : FnOK Try.prog tJ 244 (zq48_MR (zq48_F rec_)).S := by
 refine fm tt (zq48_MR (zq48_F rec_)) [fo hrec, fo zq40_ok, fo zq36_ok, fo zq34_ok, fo zq35_ok, fo zq49_ok, fo zq45_ok, fo zq1_ok, fo zq46_ok, fo zq47_ok] Try.call244 Try.func244 rfl Try.results244 Try.ntmps244 ?_
 rintro ⟨data, a, b, limit⟩ y cx G hm
 have hm : zq48_F rec_ data a b limit = some y := hm
 unfold zq48_F at hm
 refine rg G (rg G (Ok_block (lp G hm (fun (a1, b1, limit1, hint, mid, data1) => ⟨[(0, .own 0), (1, dV a1), (2, dV b1), (3, dV limit1), (8, dV hint), (9, dV mid)], [aX 0 3 data1], 48⟩) ?_)))
 rintro ⟨a1, b1, limit1, hint, mid, data1⟩ r0 hb hm
 rw [zq48_L1] at hm
 refine Ok_block (rg G (Ok_seq (rg G (cd hm (fun hm => ?_) (fun hm => ?_)))))
 ·obtain ⟨r, h, hm⟩ := obind hm
  refine rs G (hC 3 (zq40_c h) h0) ?_
  have hm := eD hm hb
  cases hm
  exact rt [] []
 ·refine X_skip (thN (Ok_seq (rg G (cd hm (fun hm => ?_) (fun hm => ?_)))))
  ·obtain ⟨r2, h1, hm⟩ := obind hm
   refine rs G (hC 3 (zq36_c h1) h0) ?_
   have hm := eD hm hb
   cases hm
   exact rt [] []
  ·refine X_skip (thN (jn hm (fun (limit2, data2) => ⟨[(0, .own 0), (1, dV a1), (2, dV b1), (3, dV limit2), (8, dV hint), (9, dV mid), (10, dV (w64 (b1 - a1)))], [aX 0 3 data2], 48⟩) (fun vv1 hm => ?_) ?_))
   ·refine rg G (cd hm (fun hm => ?_) (fun hm => ?_))
    ·obtain ⟨r4, h2, hm⟩ := obind hm
     refine rs G (hC 3 (zq34_c h2) h0) ?_
     exact rh G (wJ G hm)
    ·exact X_skip (wJ G hm)
   rintro ⟨limit2, data2⟩ hm
   obtain ⟨r5, h3, hm⟩ := obind hm
   refine rs G (hC 3 (zq35_c h3) h0) ?_
   refine jn hm (fun (alreadyPartitioned, leftLen, data3) => ⟨[(0, .own 0), (1, dV a1), (2, dV b1), (3, dV limit2), (8, dV hint), (9, dV mid), (10, dV (w64 (b1 - a1))), (11, dV alreadyPartitioned), (12, dV leftLen)], [aX 0 3 data3], 48⟩) (fun vv hm => ?_) ?_
   ·refine rg G (cd hm (fun hm => ?_) (fun hm => ?_))
    ·obtain ⟨r6, h4, hm⟩ := obind hm
     refine rs G (hC 3 (zq49_c h4) h0) ?_
     exact rg G (rh G (wJ G hm))
    ·exact X_skip (wJ G hm)
   rintro ⟨alreadyPartitioned, leftLen, data3⟩ hm
   refine jF hm (fun data4 => ⟨[(0, .own 0), (1, dV a1), (2, dV b1), (3, dV limit2), (8, dV hint), (9, dV mid), (10, dV (w64 (b1 - a1))), (11, dV alreadyPartitioned)], [aX 0 3 data4], 48⟩) (fun v2 hr3 hm => ?_) ?_
   ·refine jn hm (fun v => ⟨[(0, .own 0), (1, dV a1), (2, dV b1), (3, dV limit2), (8, dV hint), (9, dV mid), (10, dV (w64 (b1 - a1))), (11, dV alreadyPartitioned), (68, dV v)], [aX 0 3 data3], 48⟩) (fun v hm => ?_) ?_
    ·rcases bf hm with ⟨hb1, hm⟩ | ⟨hb1, hm⟩
     ·rcases bf hm with ⟨hb2, hm⟩ | ⟨hb2, hm⟩
      ·refine re G (hO 1 (.b true) (hP hb1 (hO 4 (.b true) (hP hb2 h0)))) ?_
       exact wJ G hm
      ·refine re G (hO 1 (.b true) (hP hb1 (hO 4 (.b false) (hP hb2 h0)))) ?_
       exact wJ G hm
     ·refine re G (hO 1 (.b false) (hP hb1 h0)) ?_
      exact wJ G hm
    rintro v hm
    refine cd hm (fun hm => ?_) (fun hm => ?_)
    ·obtain ⟨r7, h5, hm⟩ := obind hm
     refine rs G (hC 3 (zq45_c h5) h0) ?_
     refine cd hm (fun hm => ?_) (fun hm => ?_)
     ·have hm := eR hm hr3
      have hm := eD hm hb
      cases hm
      exact rt [] []
     ·exact X_skip (wF G hm)
    ·exact X_skip (wF G hm)
   rintro data4 hm
   refine Ok_seq (jn hm (fun v1 => ⟨[(0, .own 0), (1, dV a1), (2, dV b1), (3, dV limit2), (8, dV hint), (9, dV mid), (10, dV (w64 (b1 - a1))), (11, dV alreadyPartitioned), (87, dV v1)], [aX 0 3 data4], 48⟩) (fun v1 hm => ?_) ?_)
   ·rcases bf hm with ⟨hb3, hm⟩ | ⟨hb3, hm⟩
    ·obtain ⟨e6, h9, hm⟩ := obind hm
     obtain ⟨e7, h10, hm⟩ := obind hm
     obtain ⟨r11, h11, hm⟩ := obind hm
     refine de G [] (hO 2 (.b true) (hP hb3 (hD 6 h9 (hE 7 h9 (hD 10 h10 (hE 11 h10 (hC 12 (zq1_c h11) h0))))))) ?_
     exact wJ G hm
    ·refine de G [] (hO 2 (.b false) (hP hb3 h0)) ?_
     exact wJ G hm
   rintro v1 hm
   refine cd hm (fun hm => ?_) (fun hm => ?_)
   ·obtain ⟨r12, h12, hm⟩ := obind hm
    refine rs G (hC 4 (zq46_c h12) h0) ?_
    exact rg G (Ok_exit (thE (ibE (wL G hm))))
   ·refine X_skip (thN ?_)
    obtain ⟨r13, h13, hm⟩ := obind hm
    refine rs G (hC 4 (zq47_c h13) h0) ?_
    refine rg G (rg G ?_)
    obtain ⟨u, h14, hm⟩ := obind hm
    refine rs G (hK h14 h0) ?_
    refine rg G (cd hm (fun hm => ?_) (fun hm => ?_))
    ·refine rg G ?_
     obtain ⟨r14, h15, hm⟩ := obind hm
     refine rs G (hC 4 (zq48_cR h15) h0) ?_
     exact rh G (ibN (wL G hm))
    ·refine rg G ?_
     obtain ⟨r15, h16, hm⟩ := obind hm
     refine rs G (hC 5 (zq48_cR h16) h0) ?_
     exact rh G (ibN (wL G hm))
theorem zq48_okn : ∀ k, FnOK Try.prog tJ 244 (zq48_MR (zq48_k k)).S
 | 0 => ⟨fun args w => Try.call244 args w, fun vs w F ds obs κ hp => by obtain ⟨x, y, _, _, h⟩ := hp; cases h⟩
 | k + 1 => zq48_okF (zq48_okn k)
theorem zq48_ok : FnOK Try.prog tJ 244 zq48_M.S := zq48_okn 4294967296
noncomputable def zq33_M : MS ((List Int)) ((List Int)) := ⟨.s 3, zq33, fun _ => .tup [], fun _ => [], fun _ y => [arO 3 y]⟩
theorem zq33_c {x y} (hm : zq33 x = some y) : zq33_M.C x y := zq33_M.c x hm
theorem zq33_ok : FnOK Try.prog tJ 174 zq33_M.S := by
 refine fm tt zq33_M [fo zq13_ok, fo zq48_ok] Try.call174 Try.func174 rfl Try.results174 Try.ntmps174 ?_
 rintro x y cx G hm
 have hm : zq33 x = some y := hm
 unfold zq33 at hm
 refine rs G (hN 1 x h0) ?_
 obtain ⟨r, h, hm⟩ := obind hm
 obtain ⟨r1, h1, hm⟩ := obind hm
 refine re G (hC 4 (zq13_c h) (hC 5 (zq48_c h1) h0)) ?_
 cases hm
 exact fN [] []
noncomputable def zq7_M : MS ((List Int) × Int × Int × Int) ((List Int) × Int × Bool) := ⟨.x .r (.x .r (.x .r .r)), fun x => zq7 x.1 x.2.1 x.2.2.1 x.2.2.2, fun y => .tup [dV y.1, dV y.2.1, dV y.2.2], fun _ => [], fun _ _ => []⟩
theorem zq7_c {prices from_ to_ minutes y} (hm : zq7 prices from_ to_ minutes = some y) : zq7_M.C (prices, from_, to_, minutes) y := zq7_M.c (prices, from_, to_, minutes) hm
theorem zq7_ok : FnOK Try.prog tJ 67 zq7_M.S := by
 refine fm tt zq7_M [fo zq9_ok, fo zq12_ok, fo zq32_ok, fo zq30_ok, fo zq33_ok] Try.call67 Try.func67 rfl Try.results67 Try.ntmps67 ?_
 rintro ⟨prices, from_, to_, minutes⟩ y cx G hm
 have hm : zq7 prices from_ to_ minutes = some y := hm
 unfold zq7 at hm
 refine rg G (Ok_seq (jn hm (fun v => ⟨[(1, dV from_), (2, dV to_), (3, dV minutes), (4, .ref 16 0), (45, dV v)], [bX 16 37 [dV prices]], 48⟩) (fun v hm => ?_) ?_))
 ·rcases bf hm with ⟨hb, hm⟩ | ⟨hb, hm⟩
  ·refine re G (hN 1 prices (hO 3 (.b true) (hP hb h0))) ?_
   exact wJ G hm
  ·obtain ⟨r, h, hm⟩ := obind hm
   rcases bf hm with ⟨hb1, hm⟩ | ⟨hb1, hm⟩
   ·refine re G (hN 1 prices (hO 3 (.b false) (hP hb (hC 5 (zq9_c h) (hO 8 (.b true) (hP hb1 h0)))))) ?_
    exact wJ G hm
   ·obtain ⟨r1, h1, hm⟩ := obind hm
    rcases bf hm with ⟨hb2, hm⟩ | ⟨hb2, hm⟩
    ·refine re G (hN 1 prices (hO 3 (.b false) (hP hb (hC 5 (zq9_c h) (hO 8 (.b false) (hP hb1 (hC 10 (zq9_c h1) (hO 13 (.b true) (hP hb2 h0))))))))) ?_
     exact wJ G hm
    ·rcases bf hm with ⟨hb3, hm⟩ | ⟨hb3, hm⟩
     ·refine re G (hN 1 prices (hO 3 (.b false) (hP hb (hC 5 (zq9_c h) (hO 8 (.b false) (hP hb1 (hC 10 (zq9_c h1) (hO 13 (.b false) (hP hb2 (hO 18 (.b true) (hP hb3 h0))))))))))) ?_
      exact wJ G hm
     ·obtain ⟨r2, h2, hm⟩ := obind hm
      refine re G (hN 1 prices (hO 3 (.b false) (hP hb (hC 5 (zq9_c h) (hO 8 (.b false) (hP hb1 (hC 10 (zq9_c h1) (hO 13 (.b false) (hP hb2 (hO 18 (.b false) (hP hb3 (hC 24 (zq12_c h2) h0)))))))))))) ?_
      exact wJ G hm
 rintro v hm
 refine cd hm (fun hm => ?_) (fun hm => ?_)
 ·refine rg G ?_
  cases hm
  exact rt [] [[.z 1]]
 ·refine X_skip (thN (Ok_seq (rs G (hN 1 prices h0) ?_)))
  refine tF hm (fun _ => ⟨[(1, dV from_), (2, dV to_), (3, dV minutes), (4, .ref 16 0)], [bX 16 37 [dV prices]], 48⟩) (fun v8 hr hm => ?_) ?_
  ·refine Ok_block (lp G hm (fun v1 => ⟨[(1, dV from_), (2, dV to_), (3, dV minutes), (4, .ref 16 0), (46, dV prices), (47, dV (prices.length : Int)), (48, dV v1)], [bX 16 37 [dV prices]], 48⟩) ?_)
   rintro v1 r0 hb4 hm
   rw [zq7_L1] at hm
   refine rg G (Ok_seq (cd hm (fun hm => ?_) (fun hm => ?_)))
   ·refine X_skip (thN (Ok_seq (Ok_block ?_)))
    obtain ⟨e, h3, hm⟩ := obind hm
    refine rs G (hD 0 h3 h0) ?_
    obtain ⟨r3, h4, hm⟩ := obind hm
    refine rs G (hC 1 (zq12_c h4) h0) ?_
    refine cd hm (fun hm => ?_) (fun hm => ?_)
    ·refine rg G ?_
     have hm := eL hm hb4 hr
     cases hm
     exact rt [] [[.z 1]]
    ·exact X_skip (ibN (thN (rh G (wL G hm))))
   ·exact Ok_exit (thE (thE (ibE (wE G hm hb4))))
  rintro ⟨⟩ hm s hw
  refine thN (Ok_weak hw ?_)
  obtain ⟨u, h5, hm⟩ := obind hm
  refine rs G (hO 3 (.l (List.map Enc.e (List.replicate (w64 (to_ - from_)).toNat (0 : Int)))) (hP (mk_p (b := 8) (chk_t h5) rfl) (hP (rep_m Enc.e (w64 (to_ - from_)).toNat (0 : Int)) h0))) ?_
  refine Ok_seq (rs G (hN 1 (List.replicate (w64 (to_ - from_)).toNat (0 : Int)) h0) ?_)
  refine tl hm (fun v4 => ⟨[(3, dV minutes), (4, .ref 16 0), (13, .own 32)], [bX 16 37 [dV prices], aX 32 3 v4], 64⟩) (fun v4 hm => ?_) ?_
  ·refine Ok_block (lp G hm (fun (v2, v3) => ⟨[(1, dV from_), (3, dV minutes), (4, .ref 16 0), (13, .own 32), (61, dV ((List.replicate (w64 (to_ - from_)).toNat (0 : Int)).length : Int)), (62, dV v2)], [bX 16 37 [dV prices], aX 32 3 v3], 64⟩) ?_)
   rintro ⟨v2, v3⟩ r0 hb5 hm
   rw [zq7_L2] at hm
   refine rg G (Ok_seq (cd hm (fun hm => ?_) (fun hm => ?_)))
   ·refine X_skip (thN (Ok_seq (Ok_block (rg G ?_))))
    obtain ⟨e2, h6, hm⟩ := obind hm
    refine re G (hD 5 h6 (hS 6 h6 (w64 (from_ + v2)) h0)) ?_
    exact ibN (thN (rh G (wL G hm)))
   ·exact Ok_exit (thE (thE (ibE (wD G hm hb5))))
  rintro v4 hm s1 hw1
  refine thN (Ok_weak hw1 ?_)
  obtain ⟨r5, h7, hm⟩ := obind hm
  refine rs G (hC 2 (zq32_c h7) h0) ?_
  obtain ⟨u1, h8, hm⟩ := obind hm
  obtain ⟨r6, h9, hm⟩ := obind hm
  refine rs G (hO 2 (.fz [32] [] []) (hU 2 h8 (hC 3 (zq30_c h9) h0))) ?_
  obtain ⟨r7, h10, hm⟩ := obind hm
  refine rs G (hC 1 (zq33_c h10) h0) ?_
  refine rg G (Ok_seq (rs G (hN 1 r7 h0) ?_))
  refine tl hm (fun v7 => ⟨[(15, .own 16), (16, dV v7)], [aX 16 3 r7], 48⟩) (fun v7 hm => ?_) ?_
  ·refine Ok_block (lp G hm (fun (v5, v6) => ⟨[(4, .ref 16 0), (15, .own 32), (16, dV v5), (81, .own 32), (82, dV (r7.length : Int)), (83, dV v6)], [bX 16 37 [dV prices], aX 32 3 r7], 64⟩) ?_)
   rintro ⟨v5, v6⟩ r0 hb6 hm
   rw [zq7_L3] at hm
   refine rg G (Ok_seq (cd hm (fun hm => ?_) (fun hm => ?_)))
   ·refine X_skip (thN (Ok_seq (Ok_block ?_)))
    obtain ⟨e3, h11, hm⟩ := obind hm
    refine rs G (hD 0 h11 (hE 1 h11 h0)) ?_
    obtain ⟨u2, h12, hm⟩ := obind hm
    obtain ⟨e4, h13, hm⟩ := obind hm
    refine re G (hK h12 (hD 4 h13 h0)) ?_
    exact ibN (thN (rh G (wL G hm)))
   ·exact Ok_exit (thE (thE (ibE (wD G hm hb6))))
  rintro v7 hm s2 hw2
  refine thN (Ok_weak hw2 ?_)
  refine rg G ?_
  cases hm
  exact rt [] []
noncomputable def zq25_M : MS (Int × Int) Int := ⟨.x .r .r, fun x => zq25 x.1 x.2, fun y => dV y, fun _ => [], fun _ _ => []⟩
theorem zq25_c {a b y} (hm : zq25 a b = some y) : zq25_M.C (a, b) y := zq25_M.c (a, b) hm
theorem zq25_ok : FnOK Try.prog tJ 176 zq25_M.S := by
 refine fm tt zq25_M [] Try.call176 Try.func176 rfl Try.results176 Try.ntmps176 ?_
 rintro ⟨a, b⟩ y cx G hm
 have hm : zq25 a b = some y := hm
 unfold zq25 at hm
 refine rg G (Ok_seq (rg G (cd hm (fun hm => ?_) (fun hm => ?_))))
 ·refine rg G ?_
  cases hm
  exact rt [] []
 ·refine X_skip (thN (rg G ?_))
  cases hm
  exact rt [] []
noncomputable def zq27_M : MS ((List Int) × Int) ((List Int)) := ⟨.x .r .r, fun x => zq27 x.1 x.2, fun y => dV y, fun _ => [], fun _ _ => []⟩
theorem zq27_c {l n y} (hm : zq27 l n = some y) : zq27_M.C (l, n) y := zq27_M.c (l, n) hm
theorem zq27_ok : FnOK Try.prog tJ 154 zq27_M.S := by
 refine fm tt zq27_M [] Try.call154 Try.func154 rfl Try.results154 Try.ntmps154 ?_
 rintro ⟨l, n⟩ y cx G hm
 have hm : zq27 l n = some y := hm
 unfold zq27 at hm
 refine rg G (rg G (jn hm (fun v2 => ⟨[(0, dV l), (1, dV n), (5, dV v2)], [], 32⟩) (fun v2 hm => ?_) ?_))
 ·refine Ok_block (lp G hm (fun v => ⟨[(0, dV l), (1, dV n), (5, dV v)], [], 32⟩) ?_)
  rintro v r0 hb hm
  rw [zq27_L1] at hm
  refine Ok_seq (jn hm (fun v1 => ⟨[(0, dV l), (1, dV n), (5, dV v), (17, dV v1)], [], 32⟩) (fun v1 hm => ?_) ?_)
  ·rcases bf hm with ⟨hb1, hm⟩ | ⟨hb1, hm⟩
   ·obtain ⟨e, h, hm⟩ := obind hm
    refine re G (hN 2 l (hO 4 (.b true) (hP hb1 (hD 7 h h0)))) ?_
    exact wJ G hm
   ·refine re G (hN 2 l (hO 4 (.b false) (hP hb1 h0))) ?_
    exact wJ G hm
  rintro v1 hm
  refine cd hm (fun hm => ?_) (fun hm => ?_)
  ·exact X_skip (thN (Ok_block (rh G (ibN (wL G hm)))))
  ·exact Ok_exit (thE (thE (ibE (wD G hm hb))))
 rintro v2 hm
 refine Ok_seq (jn hm (fun v3 => ⟨[(0, dV l), (1, dV n), (5, dV v2), (31, dV v3)], [], 32⟩) (fun v3 hm => ?_) ?_)
 ·rcases bf hm with ⟨hb2, hm⟩ | ⟨hb2, hm⟩
  ·obtain ⟨e1, h1, hm⟩ := obind hm
   refine re G (hN 2 l (hO 4 (.b true) (hP hb2 (hD 7 h1 h0)))) ?_
   exact wJ G hm
  ·refine re G (hN 2 l (hO 4 (.b false) (hP hb2 h0))) ?_
   exact wJ G hm
 rintro v3 hm
 refine cd hm (fun hm => ?_) (fun hm => ?_)
 ·refine rg G ?_
  cases hm
  exact rt [] []
 ·refine X_skip (thN ?_)
  obtain ⟨u5, h7, hm⟩ := obind hm
  obtain ⟨u6, h8, hm⟩ := obind hm
  obtain ⟨u7, h9, hm⟩ := obind hm
  obtain ⟨u8, h10, hm⟩ := obind hm
  obtain ⟨u9, h11, hm⟩ := obind hm
  refine ds G [(3, []), (4, [32]), (7, [96, 128]), (10, []), (11, [144])] (hU 3 h7 (hA 4 8 h8 (hA 7 8 h9 (hV 10 h10 (hA 11 8 h11 h0))))) ?_
  cases hm
  exact rt [] []
noncomputable def zq17_M : MS ((List Int) × Int × Int × Int) ((List Int) × Int × Bool) := ⟨.x .r (.x .r (.x .r .r)), fun x => zq17 x.1 x.2.1 x.2.2.1 x.2.2.2, fun y => .tup [dV y.1, dV y.2.1, dV y.2.2], fun _ => [], fun _ _ => []⟩
theorem zq17_c {prices from_ to_ minutes y} (hm : zq17 prices from_ to_ minutes = some y) : zq17_M.C (prices, from_, to_, minutes) y := zq17_M.c (prices, from_, to_, minutes) hm
theorem zq17_ok : FnOK Try.prog tJ 68 zq17_M.S := by
 refine fm tt zq17_M [fo zq29_ok, fo zq25_ok, fo zq24_ok, fo zq27_ok] Try.call68 Try.func68 rfl Try.results68 Try.ntmps68 ?_
 rintro ⟨prices, from_, to_, minutes⟩ y cx G hm
 have hm : zq17 prices from_ to_ minutes = some y := hm
 unfold zq17 at hm
 refine rg G (Ok_seq (jn hm (fun v => ⟨[(0, dV prices), (1, dV from_), (2, dV to_), (3, dV minutes), (37, dV v)], [], 32⟩) (fun v hm => ?_) ?_))
 ·rcases bf hm with ⟨hb, hm⟩ | ⟨hb, hm⟩
  ·refine re G (hN 1 prices (hO 3 (.b true) (hP hb h0))) ?_
   exact wJ G hm
  ·obtain ⟨r, h, hm⟩ := obind hm
   rcases bf hm with ⟨hb1, hm⟩ | ⟨hb1, hm⟩
   ·refine re G (hN 1 prices (hO 3 (.b false) (hP hb (hC 5 (zq29_c h) (hO 8 (.b true) (hP hb1 h0)))))) ?_
    exact wJ G hm
   ·obtain ⟨r1, h1, hm⟩ := obind hm
    rcases bf hm with ⟨hb2, hm⟩ | ⟨hb2, hm⟩
    ·refine re G (hN 1 prices (hO 3 (.b false) (hP hb (hC 5 (zq29_c h) (hO 8 (.b false) (hP hb1 (hC 10 (zq29_c h1) (hO 13 (.b true) (hP hb2 h0))))))))) ?_
     exact wJ G hm
    ·obtain ⟨r2, h2, hm⟩ := obind hm
     obtain ⟨r3, h3, hm⟩ := obind hm
     refine re G (hN 1 prices (hO 3 (.b false) (hP hb (hC 5 (zq29_c h) (hO 8 (.b false) (hP hb1 (hC 10 (zq29_c h1) (hO 13 (.b false) (hP hb2 (hC 18 (zq25_c h2) (hC 19 (zq24_c h3) h0))))))))))) ?_
     exact wJ G hm
 rintro v hm
 refine cd hm (fun hm => ?_) (fun hm => ?_)
 ·refine rg G ?_
  cases hm
  exact rt [] []
 ·refine X_skip (thN (Ok_seq (rg G (tF hm (fun _ => ⟨[(0, dV prices), (1, dV from_), (2, dV to_), (3, dV minutes)], [], 32⟩) (fun v14 hr hm => ?_) ?_))))
  ·refine Ok_block (lp G hm (fun t => ⟨[(0, dV prices), (1, dV from_), (2, dV to_), (3, dV minutes), (11, dV t)], [], 32⟩) ?_)
   rintro t r0 hb3 hm
   rw [zq17_L1] at hm
   refine Ok_seq (rg G (cd hm (fun hm => ?_) (fun hm => ?_)))
   ·refine X_skip (thN (Ok_seq (Ok_block ?_)))
    obtain ⟨e, h4, hm⟩ := obind hm
    obtain ⟨r4, h5, hm⟩ := obind hm
    refine rs G (hD 2 h4 (hC 4 (zq24_c h5) h0)) ?_
    refine cd hm (fun hm => ?_) (fun hm => ?_)
    ·refine rg G ?_
     have hm := eL hm hb3 hr
     cases hm
     exact rt [] []
    ·exact X_skip (ibN (thN (rh G (wL G hm))))
   ·exact Ok_exit (thE (thE (ibE (wE G hm hb3))))
  rintro ⟨⟩ hm s hw
  refine thN (Ok_weak hw ?_)
  refine rg G (rg G (Ok_seq (rg G (tl hm (fun (v12, v13) => ⟨[(12, dV v12), (13, dV v13)], [], 32⟩) (fun vv2 hm => ?_) ?_))))
  ·refine Ok_block (lp G hm (fun (v1, v2, v3) => ⟨[(0, dV prices), (1, dV from_), (2, dV to_), (3, dV minutes), (12, dV v1), (13, dV v2), (14, dV v3)], [], 32⟩) ?_)
   rintro ⟨v1, v2, v3⟩ r0 hb4 hm
   rw [zq17_L3] at hm
   refine Ok_seq (rg G (cd hm (fun hm => ?_) (fun hm => ?_)))
   ·refine X_skip (thN (Ok_seq (Ok_block (rg G (tl hm (fun (v10, v11) => ⟨[(0, dV prices), (1, dV from_), (2, dV to_), (3, dV minutes), (12, dV v10), (13, dV v11), (14, dV v3)], [], 32⟩) (fun vv1 hm => ?_) ?_)))))
    ·refine Ok_block (lp G hm (fun (v4, v5, v6) => ⟨[(0, dV prices), (1, dV from_), (2, dV to_), (3, dV minutes), (12, dV v4), (13, dV v5), (14, dV v3), (15, dV v6)], [], 32⟩) ?_)
     rintro ⟨v4, v5, v6⟩ r0 hb5 hm
     rw [zq17_L2] at hm
     refine Ok_seq (jn hm (fun v7 => ⟨[(0, dV prices), (1, dV from_), (2, dV to_), (3, dV minutes), (12, dV v4), (13, dV v5), (14, dV v3), (15, dV v6), (64, dV v7)], [], 32⟩) (fun v7 hm => ?_) ?_)
     ·rcases bf hm with ⟨hb6, hm⟩ | ⟨hb6, hm⟩
      ·refine re G (hO 3 (.b true) (hP hb6 (hN 5 v4 h0))) ?_
       exact wJ G hm
      ·refine re G (hO 3 (.b false) (hP hb6 h0)) ?_
       exact wJ G hm
     rintro v7 hm
     refine cd hm (fun hm => ?_) (fun hm => ?_)
     ·refine X_skip (thN (jn hm (fun (v8, v9) => ⟨[(0, dV prices), (1, dV from_), (2, dV to_), (3, dV minutes), (12, dV v8), (13, dV v9), (14, dV v3), (15, dV v6)], [], 32⟩) (fun vv hm => ?_) ?_))
      ·refine Ok_block ?_
       obtain ⟨u, h6, hm⟩ := obind hm
       obtain ⟨e2, h7, hm⟩ := obind hm
       refine rs G (hK h6 (hD 3 h7 h0)) ?_
       refine cd hm (fun hm => ?_) (fun hm => ?_)
       ·obtain ⟨r6, h8, hm⟩ := obind hm
        refine rs G (hC 2 (zq27_c h8) h0) ?_
        exact rh G (ibN (wJ G hm))
       ·exact X_skip (ibN (wJ G hm))
      rintro ⟨v8, v9⟩ hm
      exact rh G (wL G hm)
     ·exact Ok_exit (thE (thE (ibE (wD G hm hb5))))
    rintro ⟨v10, v11⟩ hm s1 hw1
    refine ibN (thN (Ok_weak hw1 ?_))
    exact rh G (wL G hm)
   ·exact Ok_exit (thE (thE (ibE (wD G hm hb4))))
  rintro ⟨v12, v13⟩ hm s2 hw2
  refine thN (Ok_weak hw2 ?_)
  refine rg G ?_
  cases hm
  exact rt [] []
noncomputable def v_FnChargers_M : MS ((List UInt8)) Bool := ⟨.r, v_FnChargers, fun y => dV y, fun _ => [], fun _ _ => []⟩
theorem v_FnChargers_ok : FnOK Try.prog tJ 7 v_FnChargers_M.S := by
 refine fm tt v_FnChargers_M [fo zq62_ok, fo zq18_ok, fo zq5_ok, fo zq16_ok, fo zq63_ok, fo zq4_ok, fo zq15_ok, fo zq19_ok, fo zq7_ok, fo zq17_ok] Try.call7 Try.func7 rfl Try.results7 Try.ntmps7 ?_
 rintro code y cx G hm
 have hm : v_FnChargers code = some y := hm
 unfold v_FnChargers at hm
 refine rg G (Ok_seq ?_)
 obtain ⟨r, h, hm⟩ := obind hm
 refine rs G (hC 1 (zq62_c h) h0) ?_
 refine cd hm (fun hm => ?_) (fun hm => ?_)
 ·refine rg G ?_
  cases hm
  exact rt [] []
 ·refine X_skip (thN ?_)
  obtain ⟨r1, h1, hm⟩ := obind hm
  refine rs G (hC 1 (zq18_c h1) h0) ?_
  obtain ⟨r2, h2, hm⟩ := obind hm
  refine rs G (hO 2 (.fz [80] [] []) (hC 2 (zq5_c h2) h0)) ?_
  refine Ok_seq ?_
  obtain ⟨r3, h3, hm⟩ := obind hm
  refine rs G (hC 2 (zq16_c h3) h0) ?_
  refine jn hm (fun v => ⟨[(0, dV code), (3, dV r1.1), (5, dV r2.1), (6, dV r2.2), (60, dV v)], [], 32⟩) (fun v hm => ?_) ?_
  ·rcases bf hm with ⟨hb, hm⟩ | ⟨hb, hm⟩
   ·refine re G (hO 3 (.b true) (hP hb h0)) ?_
    exact wJ G hm
   ·obtain ⟨r4, h4, hm⟩ := obind hm
    refine re G (hO 3 (.b false) (hP hb (hC 6 (zq63_c h4) h0))) ?_
    exact wJ G hm
  rintro v hm
  refine cd hm (fun hm => ?_) (fun hm => ?_)
  ·refine rg G ?_
   cases hm
   exact rt [] []
  ·refine X_skip (thN (Ok_seq (rg G (tF hm (fun _ => ⟨[(0, dV code), (3, dV r1.1)], [], 32⟩) (fun v8 hr hm => ?_) ?_))))
   ·refine Ok_block (lp G hm (fun peak => ⟨[(0, dV code), (3, dV r1.1), (5, dV r2.1), (6, dV r2.2), (9, dV peak)], [], 32⟩) ?_)
    rintro peak r0 hb1 hm
    rw [v_FnChargers_L1] at hm
    refine Ok_seq (jn hm (fun v1 => ⟨[(0, dV code), (3, dV r1.1), (5, dV r2.1), (6, dV r2.2), (9, dV peak), (67, dV v1)], [], 32⟩) (fun v1 hm => ?_) ?_)
    ·rcases bf hm with ⟨hb2, hm⟩ | ⟨hb2, hm⟩
     ·refine re G (hN 2 r2.1 (hO 4 (.b true) (hP hb2 h0))) ?_
      exact wJ G hm
     ·refine re G (hN 2 r2.1 (hO 4 (.b false) (hP hb2 h0))) ?_
      exact wJ G hm
    rintro v1 hm
    refine cd hm (fun hm => ?_) (fun hm => ?_)
    ·refine X_skip (thN (Ok_seq (Ok_block ?_)))
     obtain ⟨e2, h7, hm⟩ := obind hm
     obtain ⟨e3, h8, hm⟩ := obind hm
     refine ds G [] (hD 2 h7 (hD 6 h8 h0)) ?_
     refine cd hm (fun hm => ?_) (fun hm => ?_)
     ·refine rg G ?_
      have hm := eL hm hb1 hr
      cases hm
      exact rt [] []
     ·exact X_skip (ibN (thN (rh G (wL G hm))))
    ·exact Ok_exit (thE (thE (ibE (wE G hm hb1))))
   rintro ⟨⟩ hm s hw
   refine thN (Ok_weak hw ?_)
   obtain ⟨r6, h9, hm⟩ := obind hm
   refine rs G (hC 1 (zq4_c h9) h0) ?_
   refine Ok_seq ?_
   obtain ⟨r7, h10, hm⟩ := obind hm
   refine rs G (hC 1 (zq15_c h10) h0) ?_
   refine jn hm (fun v2 => ⟨[(0, dV code), (3, dV r1.1), (10, dV r6.1), (12, dV r6.2.2), (104, dV v2)], [], 32⟩) (fun v2 hm => ?_) ?_
   ·rcases bf hm with ⟨hb3, hm⟩ | ⟨hb3, hm⟩
    ·refine re G (hO 3 (.b true) (hP hb3 h0)) ?_
     exact wJ G hm
    ·rcases bf hm with ⟨hb4, hm⟩ | ⟨hb4, hm⟩
     ·refine re G (hO 3 (.b false) (hP hb3 (hO 8 (.b true) (hP hb4 h0)))) ?_
      exact wJ G hm
     ·refine re G (hO 3 (.b false) (hP hb3 (hO 8 (.b false) (hP hb4 h0)))) ?_
      exact wJ G hm
   rintro v2 hm
   refine cd hm (fun hm => ?_) (fun hm => ?_)
   ·refine rg G ?_
    cases hm
    exact rt [] []
   ·refine X_skip (thN (rg G (Ok_seq (rg G (tl hm (fun i1 => ⟨[(0, dV code), (3, dV r1.1), (10, dV r6.1), (12, dV r6.2.2), (16, dV i1)], [], 32⟩) (fun i1 hm => ?_) ?_)))))
    ·refine Ok_block (lp G hm (fun (i, free) => ⟨[(0, dV code), (3, dV r1.1), (10, dV r6.1), (12, dV r6.2.2), (16, dV i), (17, dV free)], [], 32⟩) ?_)
     rintro ⟨i, free⟩ r0 hb5 hm
     rw [v_FnChargers_L2] at hm
     refine Ok_seq (rs G (hN 2 r1.1 h0) ?_)
     refine cd hm (fun hm => ?_) (fun hm => ?_)
     ·refine X_skip (thN (Ok_seq (Ok_block ?_)))
      rcases bf hm with ⟨hb6, hm⟩ | ⟨hb6, hm⟩
      ·obtain ⟨e7, h13, hm⟩ := obind hm
       obtain ⟨e8, h14, hm⟩ := obind hm
       refine de G [] (hO 1 (.b true) (hP hb6 (hD 4 h13 (hD 9 h14 h0)))) ?_
       exact ibN (thN (rh G (wL G hm)))
      ·refine de G [] (hO 1 (.b false) (hP hb6 h0)) ?_
       exact ibN (thN (rh G (wL G hm)))
     ·exact Ok_exit (thE (thE (ibE (wD G hm hb5))))
    rintro i1 hm s1 hw1
    refine thN (Ok_weak hw1 ?_)
    refine jF hm (fun _ => ⟨[(0, dV code)], [], 32⟩) (fun v7 hr2 hm => ?_) ?_
    ·refine jn hm (fun v3 => ⟨[(0, dV code), (3, dV r1.1), (10, dV r6.1), (136, dV v3)], [], 32⟩) (fun v3 hm => ?_) ?_
     ·rcases bf hm with ⟨hb7, hm⟩ | ⟨hb7, hm⟩
      ·rcases bf hm with ⟨hb8, hm⟩ | ⟨hb8, hm⟩
       ·rcases bf hm with ⟨hb9, hm⟩ | ⟨hb9, hm⟩
        ·refine re G (hO 1 (.b true) (hP hb7 (hO 4 (.b true) (hP hb8 (hO 8 (.b true) (hP hb9 h0)))))) ?_
         exact wJ G hm
        ·refine re G (hO 1 (.b true) (hP hb7 (hO 4 (.b true) (hP hb8 (hO 8 (.b false) (hP hb9 h0)))))) ?_
         exact wJ G hm
       ·refine re G (hO 1 (.b true) (hP hb7 (hO 4 (.b false) (hP hb8 h0)))) ?_
        exact wJ G hm
      ·refine re G (hO 1 (.b false) (hP hb7 h0)) ?_
       exact wJ G hm
     rintro v3 hm
     refine cd hm (fun hm => ?_) (fun hm => ?_)
     ·obtain ⟨r8, h15, hm⟩ := obind hm
      refine rs G (hC 2 (zq5_c h15) h0) ?_
      refine Ok_seq (rg G (cd hm (fun hm => ?_) (fun hm => ?_)))
      ·refine rg G ?_
       have hm := eR hm hr2
       cases hm
       exact rt [] []
      ·refine X_skip (thN (rg G (tF hm (fun _ => ⟨[(0, dV code)], [], 32⟩) (fun v4 hr3 hm => ?_) ?_)))
       ·refine Ok_block (lp G hm (fun prices => ⟨[(0, dV code), (3, dV r1.1), (18, dV r8.1), (20, dV prices)], [], 32⟩) ?_)
        rintro prices r0 hb10 hm
        rw [v_FnChargers_L3] at hm
        refine Ok_seq (rs G (hN 2 r8.1 h0) ?_)
        refine cd hm (fun hm => ?_) (fun hm => ?_)
        ·refine X_skip (thN (Ok_seq (Ok_block ?_)))
         obtain ⟨e12, h18, hm⟩ := obind hm
         obtain ⟨e13, h19, hm⟩ := obind hm
         refine ds G [] (hD 2 h18 (hD 6 h19 h0)) ?_
         refine cd hm (fun hm => ?_) (fun hm => ?_)
         ·refine rg G ?_
          have hm := eL hm hb10 hr3
          have hm := eR hm hr2
          cases hm
          exact rt [] []
         ·exact X_skip (ibN (thN (rh G (wL G hm))))
        ·exact Ok_exit (thE (thE (ibE (wE G hm hb10))))
       rintro ⟨⟩ hm s2 hw2
       exact wFp hm (Wk.trans hw2 (Wk_J G.hL ⟨[(0, [])], [], [], 32⟩ (by kernel_rfl)))
     ·exact X_skip (wF G hm)
    rintro ⟨⟩ hm
    obtain ⟨r12, h20, hm⟩ := obind hm
    refine rs G (hC 1 (zq19_c h20) h0) ?_
    obtain ⟨r13, h21, hm⟩ := obind hm
    refine rs G (hC 4 (zq7_c h21) h0) ?_
    obtain ⟨r14, h22, hm⟩ := obind hm
    refine rs G (hC 4 (zq17_c h22) h0) ?_
    refine Ok_seq (jn hm (fun v5 => ⟨[(21, dV r12.1), (24, dV r12.2.2.2), (25, dV r13.1), (26, dV r13.2.1), (27, dV r13.2.2), (199, dV v5)], [], 32⟩) (fun v5 hm => ?_) ?_)
    ·rcases bf hm with ⟨hb11, hm⟩ | ⟨hb11, hm⟩
     ·refine re G (hO 3 (.b true) (hP hb11 h0)) ?_
      exact wJ G hm
     ·rcases bf hm with ⟨hb12, hm⟩ | ⟨hb12, hm⟩
      ·refine re G (hO 3 (.b false) (hP hb11 (hO 8 (.b true) (hP hb12 h0)))) ?_
       exact wJ G hm
      ·obtain ⟨r15, h23, hm⟩ := obind hm
       refine re G (hO 3 (.b false) (hP hb11 (hO 8 (.b false) (hP hb12 (hC 11 (zq63_c h23) h0))))) ?_
       exact wJ G hm
    rintro v5 hm
    refine cd hm (fun hm => ?_) (fun hm => ?_)
    ·refine rg G ?_
     cases hm
     exact rt [] []
    ·refine X_skip (thN (rg G (Ok_seq (rg G (tl hm (fun i3 => ⟨[(24, dV r12.2.2.2), (25, dV r13.1), (26, dV r13.2.1), (27, dV r13.2.2), (31, dV i3)], [], 32⟩) (fun i3 hm => ?_) ?_)))))
     ·refine Ok_block (lp G hm (fun (i2, v6) => ⟨[(21, dV r12.1), (24, dV r12.2.2.2), (25, dV r13.1), (26, dV r13.2.1), (27, dV r13.2.2), (31, dV i2), (32, dV v6)], [], 32⟩) ?_)
      rintro ⟨i2, v6⟩ r0 hb13 hm
      rw [v_FnChargers_L4] at hm
      refine Ok_seq (rs G (hN 2 r13.1 h0) ?_)
      refine cd hm (fun hm => ?_) (fun hm => ?_)
      ·refine X_skip (thN (Ok_seq (Ok_block ?_)))
       obtain ⟨e16, h24, hm⟩ := obind hm
       obtain ⟨u, h25, hm⟩ := obind hm
       obtain ⟨e17, h26, hm⟩ := obind hm
       refine re G (hD 4 h24 (hK h25 (hD 7 h26 h0))) ?_
       exact ibN (thN (rh G (wL G hm)))
      ·exact Ok_exit (thE (thE (ibE (wD G hm hb13))))
     rintro i3 hm s3 hw3
     refine thN (Ok_weak hw3 ?_)
     refine jn hm (fun list => ⟨[(2, dV list)], [], 32⟩) (fun list hm => ?_) ?_
     ·rcases bf hm with ⟨hb14, hm⟩ | ⟨hb14, hm⟩
      ·refine re G (hO 2 (.b true) (hP hb14 h0)) ?_
       exact wJ G hm
      ·rcases bf hm with ⟨hb15, hm⟩ | ⟨hb15, hm⟩
       ·refine re G (hO 2 (.b false) (hP hb14 (hN 4 r13.1 (hO 7 (.b true) (hP hb15 h0))))) ?_
        exact wJ G hm
       ·refine re G (hO 2 (.b false) (hP hb14 (hN 4 r13.1 (hO 7 (.b false) (hP hb15 h0))))) ?_
        exact wJ G hm
     rintro list hm
     cases hm
     exact rt [] []
end Go.Proofs.Ytmmffjenpfeapaa
