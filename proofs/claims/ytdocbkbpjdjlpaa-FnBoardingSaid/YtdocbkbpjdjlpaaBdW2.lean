/- Each function computes what its model says. Made by program (dec.py). -/
import Derived.Test.YtdocbkbpjdjlpaaBdW1
namespace Go.Proofs.Ytdocbkbpjdjlpaa
open Go Go.Ab
set_option maxRecDepth 100000
set_option maxHeartbeats 4000000
set_option linter.unusedVariables false
set_option linter.unusedSimpArgs false
noncomputable def zq92_M : MS ((List (List Int)) × (List (List Int))) Bool := ⟨.x .r .r, fun x => zq92 x.1 x.2, fun y => dV y, fun _ => [], fun _ _ => []⟩
theorem zq92_c {a b y} (hm : zq92 a b = some y) : zq92_M.C (a, b) y := zq92_M.c (a, b) hm
theorem zq92_ok : FnOK Try.prog tJ 36 zq92_M.S := by
 refine fm tt zq92_M [fo zq90_ok] Try.call36 Try.func36 rfl Try.results36 Try.ntmps36 ?_
 rintro ⟨a, b⟩ y cx G hm
 have hm : zq92 a b = some y := hm
 unfold zq92 at hm
 refine rg G (Ok_seq (rs G (hN 1 a (hN 3 b h0)) ?_))
 refine cd hm (fun hm => ?_) (fun hm => ?_)
 ·refine rg G ?_
  cases hm
  exact rt [] []
 ·refine X_skip (thN (Ok_seq (rg G (tF hm (fun _ => ⟨[], [], 32⟩) (fun v1 hr hm => ?_) ?_))))
  ·refine Ok_block (lp G hm (fun v => ⟨[(0, dV a), (1, dV b), (5, dV v)], [], 32⟩) ?_)
   rintro v r0 hb hm
   rw [zq92_L1] at hm
   refine Ok_seq (rs G (hN 2 a h0) ?_)
   refine cd hm (fun hm => ?_) (fun hm => ?_)
   ·refine X_skip (thN (Ok_seq (Ok_block ?_)))
    obtain ⟨e2, h3, hm⟩ := obind hm
    obtain ⟨e3, h4, hm⟩ := obind hm
    obtain ⟨r1, h5, hm⟩ := obind hm
    refine ds G [] (hD 2 h3 (hD 6 h4 (hC 8 (zq90_c h5) h0))) ?_
    refine cd hm (fun hm => ?_) (fun hm => ?_)
    ·refine rg G ?_
     have hm := eL hm hb hr
     cases hm
     exact rt [] []
    ·exact X_skip (ibN (thN (rh G (wL G hm))))
   ·exact Ok_exit (thE (thE (ibE (wE G hm hb))))
  rintro ⟨⟩ hm s hw
  refine thN (Ok_weak hw ?_)
  refine rg G ?_
  cases hm
  exact rt [] []
noncomputable def zq9_M : MS (Timetable × (List Flow) × Int) ((List Int) × Bool) := ⟨.x .r (.x .r .r), fun x => zq9 x.1 x.2.1 x.2.2, fun y => .tup [dV y.1, dV y.2], fun _ => [], fun _ _ => []⟩
theorem zq9_c {t list capacity y} (hm : zq9 t list capacity = some y) : zq9_M.C (t, list, capacity) y := zq9_M.c (t, list, capacity) hm
theorem zq9_ok : FnOK Try.prog tJ 37 zq9_M.S := by
 refine fm tt zq9_M [fo zq11_ok, fo zq15_ok] Try.call37 Try.func37 rfl Try.results37 Try.ntmps37 ?_
 rintro ⟨t, list, capacity⟩ y cx G hm
 have hm : zq9 t list capacity = some y := hm
 unfold zq9 at hm
 refine rg G (Ok_seq ?_)
 obtain ⟨r, h, hm⟩ := obind hm
 refine rs G (hC 3 (zq11_c h) h0) ?_
 refine cd hm (fun hm => ?_) (fun hm => ?_)
 ·refine rg G ?_
  cases hm
  exact rt [] [[.z 1]]
 ·refine X_skip (thN ?_)
  obtain ⟨r1, h1, hm⟩ := obind hm
  refine rs G (hC 3 (zq15_c h1) h0) ?_
  cases hm
  exact rt [] []
noncomputable def zq10_M : MS (Timetable × (List Flow) × Int) (Int × Int × Bool) := ⟨.x .r (.x .r .r), fun x => zq10 x.1 x.2.1 x.2.2, fun y => .tup [dV y.1, dV y.2.1, dV y.2.2], fun _ => [], fun _ _ => []⟩
theorem zq10_c {t list capacity y} (hm : zq10 t list capacity = some y) : zq10_M.C (t, list, capacity) y := zq10_M.c (t, list, capacity) hm
theorem zq10_ok : FnOK Try.prog tJ 38 zq10_M.S := by
 refine fm tt zq10_M [fo zq11_ok, fo zq15_ok] Try.call38 Try.func38 rfl Try.results38 Try.ntmps38 ?_
 rintro ⟨t, list, capacity⟩ y cx G hm
 have hm : zq10 t list capacity = some y := hm
 unfold zq10 at hm
 refine rg G (Ok_seq ?_)
 obtain ⟨r, h, hm⟩ := obind hm
 refine rs G (hC 3 (zq11_c h) h0) ?_
 refine cd hm (fun hm => ?_) (fun hm => ?_)
 ·refine rg G ?_
  cases hm
  exact rt [] []
 ·refine X_skip (thN (rg G (Ok_seq ?_)))
  obtain ⟨r1, h1, hm⟩ := obind hm
  refine rs G (hC 3 (zq15_c h1) (hN 5 r1.list_ h0)) ?_
  refine tl hm (fun (b1, v2) => ⟨[(9, dV b1), (10, dV v2)], [], 32⟩) (fun vv hm => ?_) ?_
  ·refine Ok_block (lp G hm (fun (b, v, v1) => ⟨[(1, dV list), (9, dV b), (10, dV v), (22, .own 16), (23, dV (r1.list_.length : Int)), (24, dV v1)], [aX 16 164 r1.list_], 48⟩) ?_)
   rintro ⟨b, v, v1⟩ r0 hb hm
   rw [zq10_L1] at hm
   refine rg G (Ok_seq (cd hm (fun hm => ?_) (fun hm => ?_)))
   ·refine X_skip (thN (Ok_seq (Ok_block ?_)))
    obtain ⟨e, h2, hm⟩ := obind hm
    refine rs G (hD 0 h2 (hE 1 h2 h0)) ?_
    obtain ⟨e2, h4, hm⟩ := obind hm
    refine ds G [] (hD 9 h4 h0) ?_
    exact rh G (ibN (thN (rh G (wL G hm))))
   ·exact Ok_exit (thE (thE (ibE (wD G hm hb))))
  rintro ⟨b1, v2⟩ hm s hw
  refine thN (Ok_weak hw ?_)
  refine rg G ?_
  cases hm
  exact rt [] []
noncomputable def zq91_M : MS ((List Int)) Int := ⟨.r, zq91, fun y => dV y, fun _ => [], fun _ _ => []⟩
theorem zq91_c {list y} (hm : zq91 list = some y) : zq91_M.C list y := zq91_M.c list hm
theorem zq91_ok : FnOK Try.prog tJ 39 zq91_M.S := by
 refine fm tt zq91_M [] Try.call39 Try.func39 rfl Try.results39 Try.ntmps39 ?_
 rintro list y cx G hm
 have hm : zq91 list = some y := hm
 unfold zq91 at hm
 refine rg G (rg G (Ok_seq (rg G (tl hm (fun i1 => ⟨[(3, dV i1)], [], 32⟩) (fun i1 hm => ?_) ?_))))
 ·refine Ok_block (lp G hm (fun (i, v) => ⟨[(0, dV list), (3, dV i), (4, dV v)], [], 32⟩) ?_)
  rintro ⟨i, v⟩ r0 hb hm
  rw [zq91_L1] at hm
  refine Ok_seq (rs G (hN 2 list h0) ?_)
  refine cd hm (fun hm => ?_) (fun hm => ?_)
  ·refine X_skip (thN (Ok_seq (Ok_block ?_)))
   obtain ⟨e, h, hm⟩ := obind hm
   refine re G (hD 3 h h0) ?_
   exact ibN (thN (rh G (wL G hm)))
  ·exact Ok_exit (thE (thE (ibE (wD G hm hb))))
 rintro i1 hm s hw
 refine thN (Ok_weak hw ?_)
 refine rg G ?_
 cases hm
 exact rt [] []
noncomputable def zq3_M : MS (Timetable × (List Flow) × Int × Int) (Int × Int × Bool) := ⟨.x .r (.x .r (.x .r .r)), fun x => zq3 x.1 x.2.1 x.2.2.1 x.2.2.2, fun y => .tup [dV y.1, dV y.2.1, dV y.2.2], fun _ => [], fun _ _ => []⟩
theorem zq3_c {t list capacity stop y} (hm : zq3 t list capacity stop = some y) : zq3_M.C (t, list, capacity, stop) y := zq3_M.c (t, list, capacity, stop) hm
theorem zq3_ok : FnOK Try.prog tJ 40 zq3_M.S := by
 refine fm tt zq3_M [fo zq11_ok, fo zq20_ok, fo zq15_ok] Try.call40 Try.func40 rfl Try.results40 Try.ntmps40 ?_
 rintro ⟨t, list, capacity, stop⟩ y cx G hm
 have hm : zq3 t list capacity stop = some y := hm
 unfold zq3 at hm
 refine rg G (Ok_seq ?_)
 obtain ⟨r, h, hm⟩ := obind hm
 refine jn hm (fun v => ⟨[(1, dV list), (2, dV capacity), (3, dV stop), (4, .ref 16 0), (26, dV v)], [bX 16 35 [dV t.Network.Stops, dV t.Network.Lines, dV t.Trips]], 48⟩) (fun v hm => ?_) ?_
 ·rcases bf hm with ⟨hb, hm⟩ | ⟨hb, hm⟩
  ·refine re G (hC 3 (zq11_c h) (hO 5 (.b true) (hP hb h0))) ?_
   exact wJ G hm
  ·obtain ⟨r1, h1, hm⟩ := obind hm
   refine re G (hC 3 (zq11_c h) (hO 5 (.b false) (hP hb (hC 9 (zq20_c h1) h0)))) ?_
   exact wJ G hm
 rintro v hm
 refine cd hm (fun hm => ?_) (fun hm => ?_)
 ·refine rg G ?_
  cases hm
  exact rt [] []
 ·refine X_skip (thN (rg G (Ok_seq ?_)))
  obtain ⟨r2, h2, hm⟩ := obind hm
  refine rs G (hC 3 (zq15_c h2) (hN 5 r2.list_ h0)) ?_
  refine tl hm (fun (v7, v8) => ⟨[(11, dV v7), (12, dV v8)], [], 32⟩) (fun vv1 hm => ?_) ?_
  ·refine Ok_block (lp G hm (fun (v1, v2, v3) => ⟨[(1, dV list), (3, dV stop), (11, dV v1), (12, dV v2), (31, .own 16), (32, dV (r2.list_.length : Int)), (33, dV v3)], [aX 16 164 r2.list_], 48⟩) ?_)
   rintro ⟨v1, v2, v3⟩ r0 hb1 hm
   rw [zq3_L1] at hm
   refine rg G (Ok_seq (cd hm (fun hm => ?_) (fun hm => ?_)))
   ·refine X_skip (thN (jn hm (fun (v4, v5) => ⟨[(1, dV list), (3, dV stop), (11, dV v4), (12, dV v5), (31, .own 16), (32, dV (r2.list_.length : Int)), (33, dV v3)], [aX 16 164 r2.list_], 48⟩) (fun vv hm => ?_) ?_))
    ·refine Ok_block ?_
     obtain ⟨e, h3, hm⟩ := obind hm
     refine rs G (hD 0 h3 (hE 1 h3 h0)) ?_
     refine jn hm (fun v6 => ⟨[(1, dV list), (3, dV stop), (11, dV v6), (12, dV v2), (14, .ref 16 0), (31, .own 32), (32, dV (r2.list_.length : Int)), (33, dV v3)], [bX 16 164 [dV e.flow_, dV e.service_.trip_, dV e.service_.from_, dV e.service_.to_, dV e.service_.arrive_, dV e.persons_], aX 32 164 r2.list_], 64⟩) (fun v6 hm => ?_) ?_
     ·obtain ⟨e1, h4, hm⟩ := obind hm
      refine rs G (hD 3 h4 h0) ?_
      refine cd hm (fun hm => ?_) (fun hm => ?_)
      ·exact rh G (wJ G hm)
      ·exact X_skip (wJ G hm)
     rintro v6 hm
     obtain ⟨e2, h5, hm⟩ := obind hm
     refine rs G (hD 3 h5 h0) ?_
     refine cd hm (fun hm => ?_) (fun hm => ?_)
     ·exact rh G (ibN (wJ G hm))
     ·exact X_skip (ibN (wJ G hm))
    rintro ⟨v4, v5⟩ hm
    exact rh G (wL G hm)
   ·exact Ok_exit (thE (thE (ibE (wD G hm hb1))))
  rintro ⟨v7, v8⟩ hm s hw
  refine thN (Ok_weak hw ?_)
  refine rg G ?_
  cases hm
  exact rt [] []
noncomputable def zq4_M : MS (Timetable × (List Flow) × Int) (Int × Int × Int × Bool) := ⟨.x .r (.x .r .r), fun x => zq4 x.1 x.2.1 x.2.2, fun y => .tup [dV y.1, dV y.2.1, dV y.2.2.1, dV y.2.2.2], fun _ => [], fun _ _ => []⟩
theorem zq4_c {t list capacity y} (hm : zq4 t list capacity = some y) : zq4_M.C (t, list, capacity) y := zq4_M.c (t, list, capacity) hm
theorem zq4_ok : FnOK Try.prog tJ 41 zq4_M.S := by
 refine fm tt zq4_M [fo zq11_ok, fo zq15_ok] Try.call41 Try.func41 rfl Try.results41 Try.ntmps41 ?_
 rintro ⟨t, list, capacity⟩ y cx G hm
 have hm : zq4 t list capacity = some y := hm
 unfold zq4 at hm
 refine rg G (Ok_seq ?_)
 obtain ⟨r, h, hm⟩ := obind hm
 refine jn hm (fun v => ⟨[(1, dV list), (2, dV capacity), (3, .ref 16 0), (27, dV v)], [bX 16 35 [dV t.Network.Stops, dV t.Network.Lines, dV t.Trips]], 48⟩) (fun v hm => ?_) ?_
 ·rcases bf hm with ⟨hb, hm⟩ | ⟨hb, hm⟩
  ·refine re G (hC 3 (zq11_c h) (hO 5 (.b true) (hP hb h0))) ?_
   exact wJ G hm
  ·refine re G (hC 3 (zq11_c h) (hO 5 (.b false) (hP hb (hN 8 t.Trips h0)))) ?_
   exact wJ G hm
 rintro v hm
 refine cd hm (fun hm => ?_) (fun hm => ?_)
 ·refine rg G ?_
  cases hm
  exact rt [] []
 ·refine X_skip (thN (rg G (Ok_seq ?_)))
  obtain ⟨r1, h1, hm⟩ := obind hm
  refine rs G (hC 3 (zq15_c h1) (hN 5 r1.loads_ h0)) ?_
  refine tl hm (fun (i4, load4, k4) => ⟨[(10, dV i4), (11, dV load4), (12, dV k4)], [], 32⟩) (fun vv2 hm => ?_) ?_
  ·refine Ok_block (lp G hm (fun (i, load, k, v1) => ⟨[(3, .ref 16 0), (10, dV i), (11, dV load), (12, dV k), (32, .own 32), (33, dV (r1.loads_.length : Int)), (34, dV v1)], [bX 16 35 [dV t.Network.Stops, dV t.Network.Lines, dV t.Trips], tX 32 53 [some 3] r1.loads_ 32 none], 64⟩) ?_)
   rintro ⟨i, load, k, v1⟩ r0 hb1 hm
   rw [zq4_L2] at hm
   refine rg G (Ok_seq (cd hm (fun hm => ?_) (fun hm => ?_)))
   ·refine X_skip (thN (Ok_seq (Ok_block ?_)))
    obtain ⟨e, h2, hm⟩ := obind hm
    refine rs G (hD 1 h2 (hE 2 h2 h0)) ?_
    refine rs G (hO 1 (.dn (Enc.e e) (e.length : Int)) (hP (idx_m2 (f := Enc.e) h2) (hP (len_m Enc.e e) h0))) ?_
    refine tl hm (fun (i3, load3, k3) => ⟨[(3, .ref 16 0), (10, dV i3), (11, dV load3), (12, dV k3), (32, .own 32), (33, dV (r1.loads_.length : Int)), (34, dV v1)], [bX 16 35 [dV t.Network.Stops, dV t.Network.Lines, dV t.Trips], tX 32 53 [some 3] r1.loads_ 32 none], 64⟩) (fun vv1 hm => ?_) ?_
    ·refine Ok_block (lp G hm (fun (i1, load1, k1, v2) => ⟨[(3, .ref 16 0), (10, dV i1), (11, dV load1), (12, dV k1), (13, dV v1), (32, .own 32), (33, dV (r1.loads_.length : Int)), (34, dV v1), (39, .row 32 32 v1.toNat 0), (40, dV (e.length : Int)), (41, dV v2)], [bX 16 35 [dV t.Network.Stops, dV t.Network.Lines, dV t.Trips], tX 32 53 [some 3] r1.loads_ 32 none], 64⟩) ?_)
     rintro ⟨i1, load1, k1, v2⟩ r0 hb2 hm
     rw [zq4_L1] at hm
     refine rg G (Ok_seq (cd hm (fun hm => ?_) (fun hm => ?_)))
     ·refine X_skip (thN (jn hm (fun (i2, load2, k2) => ⟨[(3, .ref 16 0), (10, dV i2), (11, dV load2), (12, dV k2), (13, dV v1), (32, .own 32), (33, dV (r1.loads_.length : Int)), (34, dV v1), (39, .row 32 32 v1.toNat 0), (40, dV (e.length : Int)), (41, dV v2)], [bX 16 35 [dV t.Network.Stops, dV t.Network.Lines, dV t.Trips], tX 32 53 [some 3] r1.loads_ 32 none], 64⟩) (fun vv hm => ?_) ?_))
      ·refine Ok_block ?_
       obtain ⟨e1, h3, hm⟩ := obind hm
       obtain ⟨e2, h4, hm⟩ := obind hm
       refine rs G (hE 1 h3 (hP (idx_b (f := Enc.e) h4) (hO 2 (.d2 (Enc.e e1) (Enc.e e2)) (hP (idx_m2 (f := Enc.e) h3) (hP (idx_m2 (f := Enc.e) h4) h0))))) ?_
       refine rg G (cd hm (fun hm => ?_) (fun hm => ?_))
       ·obtain ⟨e4, h6, hm⟩ := obind hm
        refine de G [] (hD 4 h6 h0) ?_
        exact ibN (wJ G hm)
       ·exact X_skip (ibN (wJ G hm))
      rintro ⟨i2, load2, k2⟩ hm
      exact rh G (wL G hm)
     ·exact Ok_exit (thE (thE (ibE (wD G hm hb2))))
    rintro ⟨i3, load3, k3⟩ hm s hw
    refine ibN (thN (Ok_weak hw ?_))
    exact rh G (wL G hm)
   ·exact Ok_exit (thE (thE (ibE (wD G hm hb1))))
  rintro ⟨i4, load4, k4⟩ hm s1 hw1
  refine thN (Ok_weak hw1 ?_)
  refine rg G ?_
  cases hm
  exact rt [] []
noncomputable def v_FnBoarding_M : MS ((List UInt8)) Bool := ⟨.r, v_FnBoarding, fun y => dV y, fun _ => [], fun _ _ => []⟩
theorem v_FnBoarding_ok : FnOK Try.prog tJ 5 v_FnBoarding_M.S := by
 refine fm tt v_FnBoarding_M [fo zq89_ok, fo zq30_ok, fo zq2_ok, fo zq29_ok, fo zq92_ok, fo zq9_ok, fo zq10_ok, fo zq91_ok, fo zq3_ok, fo zq4_ok] Try.call5 Try.func5 rfl Try.results5 Try.ntmps5 ?_
 rintro code y cx G hm
 have hm : v_FnBoarding code = some y := hm
 unfold v_FnBoarding at hm
 refine rg G (Ok_seq ?_)
 obtain ⟨r, h, hm⟩ := obind hm
 refine rs G (hC 1 (zq89_c h) h0) ?_
 refine cd hm (fun hm => ?_) (fun hm => ?_)
 ·refine rg G ?_
  cases hm
  exact rt [] []
 ·refine X_skip (thN ?_)
  obtain ⟨r1, h1, hm⟩ := obind hm
  refine rs G (hC 1 (zq30_c h1) h0) ?_
  obtain ⟨r2, h2, hm⟩ := obind hm
  refine rs G (hO 3 (.fz [80] [] []) (hC 3 (zq2_c h2) h0)) ?_
  obtain ⟨r3, h3, hm⟩ := obind hm
  refine rs G (hC 3 (zq29_c h3) h0) ?_
  refine Ok_seq (jn hm (fun v => ⟨[(3, .ref 16 0), (4, dV r1.2.1), (5, dV r1.2.2), (6, dV r2.1), (7, dV r2.2), (8, dV r3.1), (9, dV r3.2), (63, dV v)], [bX 16 35 [dV r1.1.Network.Stops, dV r1.1.Network.Lines, dV r1.1.Trips]], 48⟩) (fun v hm => ?_) ?_)
  ·rcases bf hm with ⟨hb, hm⟩ | ⟨hb, hm⟩
   ·refine re G (hO 3 (.b true) (hP hb h0)) ?_
    exact wJ G hm
   ·obtain ⟨r4, h4, hm⟩ := obind hm
    rcases bf hm with ⟨hb1, hm⟩ | ⟨hb1, hm⟩
    ·refine re G (hO 3 (.b false) (hP hb (hC 6 (zq92_c h4) (hO 9 (.b true) (hP hb1 h0))))) ?_
     exact wJ G hm
    ·refine re G (hO 3 (.b false) (hP hb (hC 6 (zq92_c h4) (hO 9 (.b false) (hP hb1 h0))))) ?_
     exact wJ G hm
  rintro v hm
  refine cd hm (fun hm => ?_) (fun hm => ?_)
  ·refine jn hm (fun t => ⟨[(2, dV t)], [], 32⟩) (fun t hm => ?_) ?_
   ·rcases bf hm with ⟨hb2, hm⟩ | ⟨hb2, hm⟩
    ·obtain ⟨r5, h5, hm⟩ := obind hm
     refine re G (hO 3 (.b true) (hP hb2 (hC 6 (zq92_c h5) h0))) ?_
     exact wJ G hm
    ·refine re G (hO 3 (.b false) (hP hb2 h0)) ?_
     exact wJ G hm
   rintro t hm
   cases hm
   exact rt [] []
  ·refine X_skip (thN ?_)
   obtain ⟨r6, h6, hm⟩ := obind hm
   refine rs G (hC 3 (zq9_c h6) h0) ?_
   obtain ⟨r7, h7, hm⟩ := obind hm
   refine rs G (hC 3 (zq10_c h7) h0) ?_
   refine rg G (Ok_seq (rg G (tl hm (fun i2 => ⟨[(3, .ref 16 0), (4, dV r1.2.1), (5, dV r1.2.2), (6, dV r2.1), (10, dV r6.1), (11, dV r6.2), (13, dV r7.2.1), (14, dV r7.2.2), (15, dV i2)], [bX 16 35 [dV r1.1.Network.Stops, dV r1.1.Network.Lines, dV r1.1.Trips]], 48⟩) (fun i2 hm => ?_) ?_)))
   ·refine Ok_block (lp G hm (fun (i, i1) => ⟨[(3, .ref 16 0), (4, dV r1.2.1), (5, dV r1.2.2), (6, dV r2.1), (10, dV r6.1), (11, dV r6.2), (13, dV r7.2.1), (14, dV r7.2.2), (15, dV i), (16, dV i1)], [bX 16 35 [dV r1.1.Network.Stops, dV r1.1.Network.Lines, dV r1.1.Trips]], 48⟩) ?_)
    rintro ⟨i, i1⟩ r0 hb3 hm
    rw [v_FnBoarding_L1] at hm
    refine Ok_seq (rs G (hN 2 r1.2.1 h0) ?_)
    refine cd hm (fun hm => ?_) (fun hm => ?_)
    ·refine X_skip (thN (Ok_seq (Ok_block ?_)))
     obtain ⟨e, h8, hm⟩ := obind hm
     refine re G (hD 3 h8 h0) ?_
     exact ibN (thN (rh G (wL G hm)))
    ·exact Ok_exit (thE (thE (ibE (wD G hm hb3))))
   rintro i2 hm s hw
   refine thN (Ok_weak hw ?_)
   refine Ok_seq (jn hm (fun v1 => ⟨[(3, .ref 16 0), (4, dV r1.2.1), (5, dV r1.2.2), (6, dV r2.1), (13, dV r7.2.1), (120, dV v1)], [bX 16 35 [dV r1.1.Network.Stops, dV r1.1.Network.Lines, dV r1.1.Trips]], 48⟩) (fun v1 hm => ?_) ?_)
   ·rcases bf hm with ⟨hb4, hm⟩ | ⟨hb4, hm⟩
    ·refine re G (hO 2 (.b true) (hP hb4 h0)) ?_
     exact wJ G hm
    ·rcases bf hm with ⟨hb5, hm⟩ | ⟨hb5, hm⟩
     ·refine re G (hO 2 (.b false) (hP hb4 (hO 6 (.b true) (hP hb5 h0)))) ?_
      exact wJ G hm
     ·rcases bf hm with ⟨hb6, hm⟩ | ⟨hb6, hm⟩
      ·refine re G (hO 2 (.b false) (hP hb4 (hO 6 (.b false) (hP hb5 (hN 8 r6.1 (hN 10 r1.2.1 (hO 13 (.b true) (hP hb6 h0)))))))) ?_
       exact wJ G hm
      ·obtain ⟨r8, h9, hm⟩ := obind hm
       refine re G (hO 2 (.b false) (hP hb4 (hO 6 (.b false) (hP hb5 (hN 8 r6.1 (hN 10 r1.2.1 (hO 13 (.b false) (hP hb6 (hC 15 (zq91_c h9) h0))))))))) ?_
       exact wJ G hm
   rintro v1 hm
   refine cd hm (fun hm => ?_) (fun hm => ?_)
   ·refine rg G ?_
    cases hm
    exact rt [] []
   ·refine X_skip (thN (Ok_seq (rg G (tF hm (fun _ => ⟨[(3, .ref 16 0), (4, dV r1.2.1), (5, dV r1.2.2), (13, dV r7.2.1)], [bX 16 35 [dV r1.1.Network.Stops, dV r1.1.Network.Lines, dV r1.1.Trips]], 48⟩) (fun v5 hr1 hm => ?_) ?_))))
    ·refine Ok_block (lp G hm (fun k => ⟨[(3, .ref 16 0), (4, dV r1.2.1), (5, dV r1.2.2), (6, dV r2.1), (13, dV r7.2.1), (17, dV k)], [bX 16 35 [dV r1.1.Network.Stops, dV r1.1.Network.Lines, dV r1.1.Trips]], 48⟩) ?_)
     rintro k r0 hb7 hm
     rw [v_FnBoarding_L3] at hm
     refine Ok_seq (rs G (hN 2 r2.1 h0) ?_)
     refine cd hm (fun hm => ?_) (fun hm => ?_)
     ·refine X_skip (thN (Ok_seq (Ok_block (rg G (tF hm (fun _ => ⟨[(3, .ref 16 0), (4, dV r1.2.1), (5, dV r1.2.2), (6, dV r2.1), (13, dV r7.2.1), (17, dV k)], [bX 16 35 [dV r1.1.Network.Stops, dV r1.1.Network.Lines, dV r1.1.Trips]], 48⟩) (fun v3 hr2 hm => ?_) ?_)))))
      ·refine Ok_block (lp G hm (fun on_ => ⟨[(3, .ref 16 0), (4, dV r1.2.1), (5, dV r1.2.2), (6, dV r2.1), (13, dV r7.2.1), (17, dV k), (18, dV on_)], [bX 16 35 [dV r1.1.Network.Stops, dV r1.1.Network.Lines, dV r1.1.Trips]], 48⟩) ?_)
       rintro on_ r0 hb8 hm
       rw [v_FnBoarding_L2] at hm
       refine Ok_seq ?_
       obtain ⟨e1, h10, hm⟩ := obind hm
       refine rs G (hD 3 h10 (hN 5 e1 h0)) ?_
       refine cd hm (fun hm => ?_) (fun hm => ?_)
       ·refine X_skip (thN (Ok_seq (Ok_block ?_)))
        obtain ⟨e2, h11, hm⟩ := obind hm
        obtain ⟨e3, h12, hm⟩ := obind hm
        refine jn hm (fun v2 => ⟨[(3, .ref 16 0), (4, dV r1.2.1), (5, dV r1.2.2), (6, dV r2.1), (13, dV r7.2.1), (17, dV k), (18, dV on_), (154, dV v2)], [bX 16 35 [dV r1.1.Network.Stops, dV r1.1.Network.Lines, dV r1.1.Trips]], 48⟩) (fun v2 hm => ?_) ?_
        ·rcases bf hm with ⟨hb9, hm⟩ | ⟨hb9, hm⟩
         ·refine re G (hD 2 h11 (hD 5 h12 (hO 9 (.b true) (hP hb9 h0)))) ?_
          exact wJ G hm
         ·obtain ⟨e4, h13, hm⟩ := obind hm
          obtain ⟨e5, h14, hm⟩ := obind hm
          refine re G (hD 2 h11 (hD 5 h12 (hO 9 (.b false) (hP hb9 (hD 12 h13 (hD 15 h14 h0)))))) ?_
          exact wJ G hm
        rintro v2 hm
        refine cd hm (fun hm => ?_) (fun hm => ?_)
        ·refine rg G ?_
         have hm := eL hm hb8 hr2
         have hm := eL hm hb7 hr1
         cases hm
         exact rt [] []
        ·exact X_skip (ibN (thN (rh G (wL G hm))))
       ·exact Ok_exit (thE (thE (ibE (wE G hm hb8))))
      rintro ⟨⟩ hm s1 hw1
      refine ibN (thN (Ok_weak hw1 ?_))
      exact rh G (wL G hm)
     ·exact Ok_exit (thE (thE (ibE (wE G hm hb7))))
    rintro ⟨⟩ hm s2 hw2
    refine thN (Ok_weak hw2 ?_)
    refine rg G (Ok_seq (rg G (tF hm (fun (off1, s4) => ⟨[(3, .ref 16 0), (4, dV r1.2.1), (5, dV r1.2.2), (13, dV r7.2.1), (19, dV off1), (20, dV s4)], [bX 16 35 [dV r1.1.Network.Stops, dV r1.1.Network.Lines, dV r1.1.Trips]], 48⟩) (fun v4 hr3 hm => ?_) ?_)))
    ·refine Ok_block (lp G hm (fun (off, s3, a) => ⟨[(3, .ref 16 0), (4, dV r1.2.1), (5, dV r1.2.2), (13, dV r7.2.1), (19, dV off), (20, dV s3), (21, dV a)], [bX 16 35 [dV r1.1.Network.Stops, dV r1.1.Network.Lines, dV r1.1.Trips]], 48⟩) ?_)
     rintro ⟨off, s3, a⟩ r0 hb10 hm
     rw [v_FnBoarding_L4] at hm
     refine Ok_seq (rs G (hN 4 r1.1.Network.Stops h0) ?_)
     refine cd hm (fun hm => ?_) (fun hm => ?_)
     ·refine X_skip (thN (Ok_seq (Ok_block ?_)))
      obtain ⟨r11, h15, hm⟩ := obind hm
      refine rs G (hC 4 (zq3_c h15) h0) ?_
      refine Ok_seq (rg G (cd hm (fun hm => ?_) (fun hm => ?_)))
      ·refine rg G ?_
       have hm := eL hm hb10 hr3
       cases hm
       exact rt [] []
      ·exact X_skip (thN (rg G (rh G (ibN (thN (rh G (wL G hm)))))))
     ·exact Ok_exit (thE (thE (ibE (wE G hm hb10))))
    rintro ⟨off1, s4⟩ hm s5 hw3
    refine thN (Ok_weak hw3 ?_)
    obtain ⟨r13, h16, hm⟩ := obind hm
    refine rs G (hC 3 (zq4_c h16) h0) ?_
    refine jn hm (fun t1 => ⟨[(2, dV t1)], [], 32⟩) (fun t1 hm => ?_) ?_
    ·rcases bf hm with ⟨hb11, hm⟩ | ⟨hb11, hm⟩
     ·rcases bf hm with ⟨hb12, hm⟩ | ⟨hb12, hm⟩
      ·rcases bf hm with ⟨hb13, hm⟩ | ⟨hb13, hm⟩
       ·refine re G (hO 3 (.b true) (hP hb11 (hO 8 (.b true) (hP hb12 (hN 12 r1.1.Trips (hO 16 (.b true) (hP hb13 h0))))))) ?_
        exact wJ G hm
       ·refine re G (hO 3 (.b true) (hP hb11 (hO 8 (.b true) (hP hb12 (hN 12 r1.1.Trips (hO 16 (.b false) (hP hb13 h0))))))) ?_
        exact wJ G hm
      ·refine re G (hO 3 (.b true) (hP hb11 (hO 8 (.b false) (hP hb12 h0)))) ?_
       exact wJ G hm
     ·refine re G (hO 3 (.b false) (hP hb11 h0)) ?_
      exact wJ G hm
    rintro t1 hm
    cases hm
    exact rt [] []
end Go.Proofs.Ytdocbkbpjdjlpaa
