/- Each function computes what its model says. Made by program (dec.py). -/
import Derived.Test.YtgminbcbkcacnaaRuW1
namespace Go.Proofs.Ytgminbcbkcacnaa
open Go Go.Ab
set_option maxRecDepth 100000
set_option maxHeartbeats 4000000
set_option linter.unusedVariables false
set_option linter.unusedSimpArgs false
noncomputable def slices_partitionEqualCmpFunc__2_int_w__i_RunsAt_1_M : MS ((List A2_Int) × Int × Int × Int) (Int × (List A2_Int)) := ⟨⟨[.sl, .rd, .rd, .rd, .fn 184 []], fun x => [.sc undef, Enc.e x.2.1, Enc.e x.2.2.1, Enc.e x.2.2.2, .agg []], fun x => [arO 87 x.1], 1, fun _ => rfl, fun _ => rfl, (by
  rintro ⟨a0, a1, a2, a3⟩ ⟨b0, b1, b2, b3⟩ h hO
  have q0 : a0 = b0 := Enc.inj _ _ (congrArg (fun l => D.sl 2 (obL l 0)) hO)
  have q1 : a1 = b1 := qI 1 h
  have q2 : a2 = b2 := qI 2 h
  have q3 : a3 = b3 := qI 3 h
  subst q0; subst q1; subst q2; subst q3; rfl)⟩, fun x => slices_partitionEqualCmpFunc__2_int_w__i_RunsAt_1 x.1 x.2.1 x.2.2.1 x.2.2.2, fun y => dV y.1, fun _ => [], fun _ y => [arO 87 y.2]⟩
theorem slices_partitionEqualCmpFunc__2_int_w__i_RunsAt_1_c {data a b pivot y} (hm : slices_partitionEqualCmpFunc__2_int_w__i_RunsAt_1 data a b pivot = some y) : slices_partitionEqualCmpFunc__2_int_w__i_RunsAt_1_M.C (data, a, b, pivot) y := slices_partitionEqualCmpFunc__2_int_w__i_RunsAt_1_M.c (data, a, b, pivot) hm
theorem slices_partitionEqualCmpFunc__2_int_w__i_RunsAt_1_ok : FnOK Try.prog 272 slices_partitionEqualCmpFunc__2_int_w__i_RunsAt_1_M.S := by
 refine fm tt slices_partitionEqualCmpFunc__2_int_w__i_RunsAt_1_M [fo i_RunsAt_1_ok] Try.call272 Try.func272 rfl Try.results272 Try.ntmps272 ?_
 rintro ⟨data, a, b, pivot⟩ y cx G hm
 have hm : slices_partitionEqualCmpFunc__2_int_w__i_RunsAt_1 data a b pivot = some y := hm
 obtain ⟨cmp, hf_cmp⟩ : ∃ q, (fun (z0 : A2_Int) (z1 : A2_Int) => i_RunsAt_1 z0 z1) = q := ⟨_, rfl⟩
 have hm : slices_partitionEqualCmpFunc__2_int_w data a b pivot cmp = some y := by rw [← hf_cmp]; exact hm
 unfold slices_partitionEqualCmpFunc__2_int_w at hm
 refine rg G ?_
 obtain ⟨e4, h4, hm⟩ := obind hm
 obtain ⟨e5, h5, hm⟩ := obind hm
 obtain ⟨e6, h6, hm⟩ := obind hm
 obtain ⟨e7, h7, hm⟩ := obind hm
 refine ds G [(13, [0]), (15, [0])] (hD 6 h4 (hE 7 h4 (hD 10 h5 (hE 11 h5 (hD 12 h6 (hS 13 h6 e4 (hD 14 h7 (hS 15 h7 e5 h0)))))))) ?_
 refine rg G (jn hm (fun (v8, data2) => ⟨[(0, .own 0), (4, .fn 184 []), (11, dV v8)], [aX 0 87 data2], 48⟩) (fun vv hm => ?_) ?_)
 ·refine Ok_block (lp G hm (fun (v, v1, data1) => ⟨[(0, .own 0), (1, dV a), (4, .fn 184 []), (11, dV v), (12, dV v1)], [aX 0 87 data1], 48⟩) ?_)
  rintro ⟨v, v1, data1⟩ r0 hb hm
  rw [slices_partitionEqualCmpFunc__2_int_w_L3] at hm
  refine Ok_block (jn hm (fun v4 => ⟨[(0, .own 0), (1, dV a), (4, .fn 184 []), (11, dV v4), (12, dV v1)], [aX 0 87 data1], 48⟩) (fun v4 hm => ?_) ?_)
  ·refine Ok_block (lp G hm (fun v2 => ⟨[(0, .own 0), (1, dV a), (4, .fn 184 []), (11, dV v2), (12, dV v1)], [aX 0 87 data1], 48⟩) ?_)
   rintro v2 r0 hb1 hm
   rw [slices_partitionEqualCmpFunc__2_int_w_L1] at hm
   refine Ok_seq (jn hm (fun v3 => ⟨[(0, .own 0), (1, dV a), (4, .fn 184 []), (11, dV v2), (12, dV v1), (47, dV v3)], [aX 0 87 data1], 48⟩) (fun v3 hm => ?_) ?_)
   ·rcases bf hm with ⟨hb2, hm⟩ | ⟨hb2, hm⟩
    ·obtain ⟨e10, h11, hm⟩ := obind hm
     obtain ⟨e11, h12, hm⟩ := obind hm
     obtain ⟨r1, h13, hm⟩ := obind hm
     have h13 : i_RunsAt_1 e10 e11 = some r1 := by rw [← hf_cmp] at h13; exact h13
     refine de G [(13, [])] (hO 3 (.b true) (hP hb2 (hD 7 h11 (hE 8 h11 (hD 11 h12 (hE 12 h12 (hC 13 (i_RunsAt_1_c h13) h0))))))) ?_
     exact wJ G hm
    ·refine de G [(13, [])] (hO 3 (.b false) (hP hb2 h0)) ?_
     exact wJ G hm
   rintro v3 hm
   refine cd hm (fun hm => ?_) (fun hm => ?_)
   ·exact X_skip (thN (Ok_block (rh G (ibN (wL G hm)))))
   ·exact Ok_exit (thE (thE (ibE (wD G hm hb1))))
  rintro v4 hm
  refine jn hm (fun v7 => ⟨[(0, .own 0), (1, dV a), (4, .fn 184 []), (11, dV v4), (12, dV v7)], [aX 0 87 data1], 48⟩) (fun v7 hm => ?_) ?_
  ·refine Ok_block (lp G hm (fun v5 => ⟨[(0, .own 0), (1, dV a), (4, .fn 184 []), (11, dV v4), (12, dV v5)], [aX 0 87 data1], 48⟩) ?_)
   rintro v5 r0 hb3 hm
   rw [slices_partitionEqualCmpFunc__2_int_w_L2] at hm
   refine Ok_seq (jn hm (fun v6 => ⟨[(0, .own 0), (1, dV a), (4, .fn 184 []), (11, dV v4), (12, dV v5), (65, dV v6)], [aX 0 87 data1], 48⟩) (fun v6 hm => ?_) ?_)
   ·rcases bf hm with ⟨hb4, hm⟩ | ⟨hb4, hm⟩
    ·obtain ⟨e14, h17, hm⟩ := obind hm
     obtain ⟨e15, h18, hm⟩ := obind hm
     obtain ⟨r3, h19, hm⟩ := obind hm
     have h19 : i_RunsAt_1 e14 e15 = some r3 := by rw [← hf_cmp] at h19; exact h19
     refine de G [(13, [])] (hO 3 (.b true) (hP hb4 (hD 7 h17 (hE 8 h17 (hD 11 h18 (hE 12 h18 (hC 13 (i_RunsAt_1_c h19) h0))))))) ?_
     exact wJ G hm
    ·refine de G [(13, [])] (hO 3 (.b false) (hP hb4 h0)) ?_
     exact wJ G hm
   rintro v6 hm
   refine cd hm (fun hm => ?_) (fun hm => ?_)
   ·exact X_skip (thN (Ok_block (rh G (ibN (wL G hm)))))
   ·exact Ok_exit (thE (thE (ibE (wD G hm hb3))))
  rintro v7 hm
  refine Ok_seq (rg G (cd hm (fun hm => ?_) (fun hm => ?_)))
  ·exact Ok_exit (thE (ibX rfl (thE (ibE (wD G hm hb)))))
  ·refine X_skip (thN ?_)
   obtain ⟨e20, h24, hm⟩ := obind hm
   obtain ⟨e21, h25, hm⟩ := obind hm
   obtain ⟨e22, h26, hm⟩ := obind hm
   obtain ⟨e23, h27, hm⟩ := obind hm
   refine ds G [(13, [0]), (15, [0])] (hD 6 h24 (hE 7 h24 (hD 10 h25 (hE 11 h25 (hD 12 h26 (hS 13 h26 e20 (hD 14 h27 (hS 15 h27 e21 h0)))))))) ?_
   exact rg G (rh G (ibN (wL G hm)))
 rintro ⟨v8, data2⟩ hm
 refine rg G ?_
 cases hm
 exact rt [] []
noncomputable def slices_partitionCmpFunc__2_int_w__i_RunsAt_1_M : MS ((List A2_Int) × Int × Int × Int) (Int × Bool × (List A2_Int)) := ⟨⟨[.sl, .rd, .rd, .rd, .fn 184 []], fun x => [.sc undef, Enc.e x.2.1, Enc.e x.2.2.1, Enc.e x.2.2.2, .agg []], fun x => [arO 87 x.1], 1, fun _ => rfl, fun _ => rfl, (by
  rintro ⟨a0, a1, a2, a3⟩ ⟨b0, b1, b2, b3⟩ h hO
  have q0 : a0 = b0 := Enc.inj _ _ (congrArg (fun l => D.sl 2 (obL l 0)) hO)
  have q1 : a1 = b1 := qI 1 h
  have q2 : a2 = b2 := qI 2 h
  have q3 : a3 = b3 := qI 3 h
  subst q0; subst q1; subst q2; subst q3; rfl)⟩, fun x => slices_partitionCmpFunc__2_int_w__i_RunsAt_1 x.1 x.2.1 x.2.2.1 x.2.2.2, fun y => .tup [dV y.1, dV y.2.1], fun _ => [], fun _ y => [arO 87 y.2.2]⟩
theorem slices_partitionCmpFunc__2_int_w__i_RunsAt_1_c {data a b pivot y} (hm : slices_partitionCmpFunc__2_int_w__i_RunsAt_1 data a b pivot = some y) : slices_partitionCmpFunc__2_int_w__i_RunsAt_1_M.C (data, a, b, pivot) y := slices_partitionCmpFunc__2_int_w__i_RunsAt_1_M.c (data, a, b, pivot) hm
theorem slices_partitionCmpFunc__2_int_w__i_RunsAt_1_ok : FnOK Try.prog 273 slices_partitionCmpFunc__2_int_w__i_RunsAt_1_M.S := by
 refine fm tt slices_partitionCmpFunc__2_int_w__i_RunsAt_1_M [fo i_RunsAt_1_ok] Try.call273 Try.func273 rfl Try.results273 Try.ntmps273 ?_
 rintro ⟨data, a, b, pivot⟩ y cx G hm
 have hm : slices_partitionCmpFunc__2_int_w__i_RunsAt_1 data a b pivot = some y := hm
 obtain ⟨cmp, hf_cmp⟩ : ∃ q, (fun (z0 : A2_Int) (z1 : A2_Int) => i_RunsAt_1 z0 z1) = q := ⟨_, rfl⟩
 have hm : slices_partitionCmpFunc__2_int_w data a b pivot cmp = some y := by rw [← hf_cmp]; exact hm
 unfold slices_partitionCmpFunc__2_int_w at hm
 refine rg G ?_
 obtain ⟨e4, h4, hm⟩ := obind hm
 obtain ⟨e5, h5, hm⟩ := obind hm
 obtain ⟨e6, h6, hm⟩ := obind hm
 obtain ⟨e7, h7, hm⟩ := obind hm
 refine ds G [(13, [0]), (15, [0])] (hD 6 h4 (hE 7 h4 (hD 10 h5 (hE 11 h5 (hD 12 h6 (hS 13 h6 e4 (hD 14 h7 (hS 15 h7 e5 h0)))))))) ?_
 refine rg G (jn hm (fun v2 => ⟨[(0, .own 0), (1, dV a), (4, .fn 184 []), (12, dV v2), (13, dV (w64 (b - 1)))], [aX 0 87 ((data.set a.toNat e4).set pivot.toNat e5)], 48⟩) (fun v2 hm => ?_) ?_)
 ·refine Ok_block (lp G hm (fun v => ⟨[(0, .own 0), (1, dV a), (4, .fn 184 []), (12, dV v), (13, dV (w64 (b - 1)))], [aX 0 87 ((data.set a.toNat e4).set pivot.toNat e5)], 48⟩) ?_)
  rintro v r0 hb hm
  rw [slices_partitionCmpFunc__2_int_w_L1] at hm
  refine Ok_seq (jn hm (fun v1 => ⟨[(0, .own 0), (1, dV a), (4, .fn 184 []), (12, dV v), (13, dV (w64 (b - 1))), (47, dV v1)], [aX 0 87 ((data.set a.toNat e4).set pivot.toNat e5)], 48⟩) (fun v1 hm => ?_) ?_)
  ·rcases bf hm with ⟨hb1, hm⟩ | ⟨hb1, hm⟩
   ·obtain ⟨e10, h11, hm⟩ := obind hm
    obtain ⟨e11, h12, hm⟩ := obind hm
    obtain ⟨r1, h13, hm⟩ := obind hm
    have h13 : i_RunsAt_1 e10 e11 = some r1 := by rw [← hf_cmp] at h13; exact h13
    refine de G [(13, [])] (hO 3 (.b true) (hP hb1 (hD 7 h11 (hE 8 h11 (hD 11 h12 (hE 12 h12 (hC 13 (i_RunsAt_1_c h13) h0))))))) ?_
    exact wJ G hm
   ·refine de G [(13, [])] (hO 3 (.b false) (hP hb1 h0)) ?_
    exact wJ G hm
  rintro v1 hm
  refine cd hm (fun hm => ?_) (fun hm => ?_)
  ·exact X_skip (thN (Ok_block (rh G (ibN (wL G hm)))))
  ·exact Ok_exit (thE (thE (ibE (wD G hm hb))))
 rintro v2 hm
 refine jn hm (fun v5 => ⟨[(0, .own 0), (1, dV a), (4, .fn 184 []), (12, dV v2), (13, dV v5)], [aX 0 87 ((data.set a.toNat e4).set pivot.toNat e5)], 48⟩) (fun v5 hm => ?_) ?_
 ·refine Ok_block (lp G hm (fun v3 => ⟨[(0, .own 0), (1, dV a), (4, .fn 184 []), (12, dV v2), (13, dV v3)], [aX 0 87 ((data.set a.toNat e4).set pivot.toNat e5)], 48⟩) ?_)
  rintro v3 r0 hb2 hm
  rw [slices_partitionCmpFunc__2_int_w_L2] at hm
  refine Ok_seq (jn hm (fun v4 => ⟨[(0, .own 0), (1, dV a), (4, .fn 184 []), (12, dV v2), (13, dV v3), (66, dV v4)], [aX 0 87 ((data.set a.toNat e4).set pivot.toNat e5)], 48⟩) (fun v4 hm => ?_) ?_)
  ·rcases bf hm with ⟨hb3, hm⟩ | ⟨hb3, hm⟩
   ·obtain ⟨e14, h17, hm⟩ := obind hm
    obtain ⟨e15, h18, hm⟩ := obind hm
    obtain ⟨r3, h19, hm⟩ := obind hm
    have h19 : i_RunsAt_1 e14 e15 = some r3 := by rw [← hf_cmp] at h19; exact h19
    refine de G [(13, [])] (hO 3 (.b true) (hP hb3 (hD 7 h17 (hE 8 h17 (hD 11 h18 (hE 12 h18 (hC 13 (i_RunsAt_1_c h19) h0))))))) ?_
    exact wJ G hm
   ·refine de G [(13, [])] (hO 3 (.b false) (hP hb3 h0)) ?_
    exact wJ G hm
  rintro v4 hm
  refine cd hm (fun hm => ?_) (fun hm => ?_)
  ·exact X_skip (thN (Ok_block (rh G (ibN (wL G hm)))))
  ·exact Ok_exit (thE (thE (ibE (wD G hm hb2))))
 rintro v5 hm
 refine Ok_seq (rg G (cd hm (fun hm => ?_) (fun hm => ?_)))
 ·obtain ⟨e20, h24, hm⟩ := obind hm
  obtain ⟨e21, h25, hm⟩ := obind hm
  obtain ⟨e22, h26, hm⟩ := obind hm
  obtain ⟨e23, h27, hm⟩ := obind hm
  refine ds G [(13, [0]), (15, [0])] (hD 6 h24 (hE 7 h24 (hD 10 h25 (hE 11 h25 (hD 12 h26 (hS 13 h26 e20 (hD 14 h27 (hS 15 h27 e21 h0)))))))) ?_
  refine rg G ?_
  cases hm
  exact rt [] []
 ·refine X_skip (thN ?_)
  obtain ⟨e28, h32, hm⟩ := obind hm
  obtain ⟨e29, h33, hm⟩ := obind hm
  obtain ⟨e30, h34, hm⟩ := obind hm
  obtain ⟨e31, h35, hm⟩ := obind hm
  refine ds G [(13, [0]), (15, [0])] (hD 6 h32 (hE 7 h32 (hD 10 h33 (hE 11 h33 (hD 12 h34 (hS 13 h34 e28 (hD 14 h35 (hS 15 h35 e29 h0)))))))) ?_
  refine rg G (rg G (jn hm (fun (v14, data2) => ⟨[(0, .own 0), (1, dV a), (4, .fn 184 []), (13, dV v14)], [aX 0 87 data2], 48⟩) (fun vv hm => ?_) ?_))
  ·refine Ok_block (lp G hm (fun (v6, v7, data1) => ⟨[(0, .own 0), (1, dV a), (4, .fn 184 []), (12, dV v6), (13, dV v7)], [aX 0 87 data1], 48⟩) ?_)
   rintro ⟨v6, v7, data1⟩ r0 hb4 hm
   rw [slices_partitionCmpFunc__2_int_w_L5] at hm
   refine Ok_block (jn hm (fun v10 => ⟨[(0, .own 0), (1, dV a), (4, .fn 184 []), (12, dV v10), (13, dV v7)], [aX 0 87 data1], 48⟩) (fun v10 hm => ?_) ?_)
   ·refine Ok_block (lp G hm (fun v8 => ⟨[(0, .own 0), (1, dV a), (4, .fn 184 []), (12, dV v8), (13, dV v7)], [aX 0 87 data1], 48⟩) ?_)
    rintro v8 r0 hb5 hm
    rw [slices_partitionCmpFunc__2_int_w_L3] at hm
    refine Ok_seq (jn hm (fun v9 => ⟨[(0, .own 0), (1, dV a), (4, .fn 184 []), (12, dV v8), (13, dV v7), (120, dV v9)], [aX 0 87 data1], 48⟩) (fun v9 hm => ?_) ?_)
    ·rcases bf hm with ⟨hb6, hm⟩ | ⟨hb6, hm⟩
     ·obtain ⟨e34, h39, hm⟩ := obind hm
      obtain ⟨e35, h40, hm⟩ := obind hm
      obtain ⟨r5, h41, hm⟩ := obind hm
      have h41 : i_RunsAt_1 e34 e35 = some r5 := by rw [← hf_cmp] at h41; exact h41
      refine de G [(13, [])] (hO 3 (.b true) (hP hb6 (hD 7 h39 (hE 8 h39 (hD 11 h40 (hE 12 h40 (hC 13 (i_RunsAt_1_c h41) h0))))))) ?_
      exact wJ G hm
     ·refine de G [(13, [])] (hO 3 (.b false) (hP hb6 h0)) ?_
      exact wJ G hm
    rintro v9 hm
    refine cd hm (fun hm => ?_) (fun hm => ?_)
    ·exact X_skip (thN (Ok_block (rh G (ibN (wL G hm)))))
    ·exact Ok_exit (thE (thE (ibE (wD G hm hb5))))
   rintro v10 hm
   refine jn hm (fun v13 => ⟨[(0, .own 0), (1, dV a), (4, .fn 184 []), (12, dV v10), (13, dV v13)], [aX 0 87 data1], 48⟩) (fun v13 hm => ?_) ?_
   ·refine Ok_block (lp G hm (fun v11 => ⟨[(0, .own 0), (1, dV a), (4, .fn 184 []), (12, dV v10), (13, dV v11)], [aX 0 87 data1], 48⟩) ?_)
    rintro v11 r0 hb7 hm
    rw [slices_partitionCmpFunc__2_int_w_L4] at hm
    refine Ok_seq (jn hm (fun v12 => ⟨[(0, .own 0), (1, dV a), (4, .fn 184 []), (12, dV v10), (13, dV v11), (139, dV v12)], [aX 0 87 data1], 48⟩) (fun v12 hm => ?_) ?_)
    ·rcases bf hm with ⟨hb8, hm⟩ | ⟨hb8, hm⟩
     ·obtain ⟨e38, h45, hm⟩ := obind hm
      obtain ⟨e39, h46, hm⟩ := obind hm
      obtain ⟨r7, h47, hm⟩ := obind hm
      have h47 : i_RunsAt_1 e38 e39 = some r7 := by rw [← hf_cmp] at h47; exact h47
      refine de G [(13, [])] (hO 3 (.b true) (hP hb8 (hD 7 h45 (hE 8 h45 (hD 11 h46 (hE 12 h46 (hC 13 (i_RunsAt_1_c h47) h0))))))) ?_
      exact wJ G hm
     ·refine de G [(13, [])] (hO 3 (.b false) (hP hb8 h0)) ?_
      exact wJ G hm
    rintro v12 hm
    refine cd hm (fun hm => ?_) (fun hm => ?_)
    ·exact X_skip (thN (Ok_block (rh G (ibN (wL G hm)))))
    ·exact Ok_exit (thE (thE (ibE (wD G hm hb7))))
   rintro v13 hm
   refine Ok_seq (rg G (cd hm (fun hm => ?_) (fun hm => ?_)))
   ·exact Ok_exit (thE (ibX rfl (thE (ibE (wD G hm hb4)))))
   ·refine X_skip (thN ?_)
    obtain ⟨e44, h52, hm⟩ := obind hm
    obtain ⟨e45, h53, hm⟩ := obind hm
    obtain ⟨e46, h54, hm⟩ := obind hm
    obtain ⟨e47, h55, hm⟩ := obind hm
    refine ds G [(13, [0]), (15, [0])] (hD 6 h52 (hE 7 h52 (hD 10 h53 (hE 11 h53 (hD 12 h54 (hS 13 h54 e44 (hD 14 h55 (hS 15 h55 e45 h0)))))))) ?_
    exact rg G (rh G (ibN (wL G hm)))
  rintro ⟨v14, data2⟩ hm
  obtain ⟨e52, h60, hm⟩ := obind hm
  obtain ⟨e53, h61, hm⟩ := obind hm
  obtain ⟨e54, h62, hm⟩ := obind hm
  obtain ⟨e55, h63, hm⟩ := obind hm
  refine ds G [(13, [0]), (15, [0])] (hD 6 h60 (hE 7 h60 (hD 10 h61 (hE 11 h61 (hD 12 h62 (hS 13 h62 e52 (hD 14 h63 (hS 15 h63 e53 h0)))))))) ?_
  refine rg G ?_
  cases hm
  exact rt [] []
noncomputable def slices_nextPowerOfTwo_M : MS Int ((IK .u64)) := ⟨.r, slices_nextPowerOfTwo, fun y => dV y, fun _ => [], fun _ _ => []⟩
theorem slices_nextPowerOfTwo_c {length y} (hm : slices_nextPowerOfTwo length = some y) : slices_nextPowerOfTwo_M.C length y := slices_nextPowerOfTwo_M.c length hm
theorem slices_nextPowerOfTwo_ok : FnOK Try.prog 284 slices_nextPowerOfTwo_M.S := by
 refine fm tt slices_nextPowerOfTwo_M [fo math_bits_Len_ok] Try.call284 Try.func284 rfl Try.results284 Try.ntmps284 ?_
 rintro length y cx G hm
 have hm : slices_nextPowerOfTwo length = some y := hm
 unfold slices_nextPowerOfTwo at hm
 refine rg G ?_
 obtain ⟨r, h, hm⟩ := obind hm
 obtain ⟨u, h1, hm⟩ := obind hm
 refine rs G (hC 2 (math_bits_Len_c h) (hK h1 h0)) ?_
 cases hm
 exact rt [] []
noncomputable def slices_xorshift_Next_M : MS ((IK .u64)) ((IK .u64) × (IK .u64)) := ⟨.b, slices_xorshift_Next, fun y => dV y.1, fun _ => [], fun _ y => [bxO y.2]⟩
theorem slices_xorshift_Next_c {r y} (hm : slices_xorshift_Next r = some y) : slices_xorshift_Next_M.C r y := slices_xorshift_Next_M.c r hm
theorem slices_xorshift_Next_ok : FnOK Try.prog 285 slices_xorshift_Next_M.S := by
 refine fm tt slices_xorshift_Next_M [] Try.call285 Try.func285 rfl Try.results285 Try.ntmps285 ?_
 rintro r y cx G hm
 have hm : slices_xorshift_Next r = some y := hm
 unfold slices_xorshift_Next at hm
 refine rg G ?_
 obtain ⟨u1, h1, hm⟩ := obind hm
 refine ds G [(9, [0])] (hK h1 h0) ?_
 obtain ⟨u3, h3, hm⟩ := obind hm
 refine ds G [(9, [0])] (hK h3 h0) ?_
 obtain ⟨u5, h5, hm⟩ := obind hm
 refine ds G [(9, [0])] (hK h5 h0) ?_
 refine rg G ?_
 cases hm
 exact rt [] []
noncomputable def slices_breakPatternsCmpFunc__2_int_w__i_RunsAt_1_M : MS ((List A2_Int) × Int × Int) ((List A2_Int)) := ⟨⟨[.sl, .rd, .rd, .fn 184 []], fun x => [.sc undef, Enc.e x.2.1, Enc.e x.2.2, .agg []], fun x => [arO 87 x.1], 1, fun _ => rfl, fun _ => rfl, (by
  rintro ⟨a0, a1, a2⟩ ⟨b0, b1, b2⟩ h hO
  have q0 : a0 = b0 := Enc.inj _ _ (congrArg (fun l => D.sl 2 (obL l 0)) hO)
  have q1 : a1 = b1 := qI 1 h
  have q2 : a2 = b2 := qI 2 h
  subst q0; subst q1; subst q2; rfl)⟩, fun x => slices_breakPatternsCmpFunc__2_int_w__i_RunsAt_1 x.1 x.2.1 x.2.2, fun _ => .tup [], fun _ => [], fun _ y => [arO 87 y]⟩
theorem slices_breakPatternsCmpFunc__2_int_w__i_RunsAt_1_c {data a b y} (hm : slices_breakPatternsCmpFunc__2_int_w__i_RunsAt_1 data a b = some y) : slices_breakPatternsCmpFunc__2_int_w__i_RunsAt_1_M.C (data, a, b) y := slices_breakPatternsCmpFunc__2_int_w__i_RunsAt_1_M.c (data, a, b) hm
theorem slices_breakPatternsCmpFunc__2_int_w__i_RunsAt_1_ok : FnOK Try.prog 268 slices_breakPatternsCmpFunc__2_int_w__i_RunsAt_1_M.S := by
 refine fm tt slices_breakPatternsCmpFunc__2_int_w__i_RunsAt_1_M [fo slices_nextPowerOfTwo_ok, fo slices_xorshift_Next_ok] Try.call268 Try.func268 rfl Try.results268 Try.ntmps268 ?_
 rintro ⟨data, a, b⟩ y cx G hm
 have hm : slices_breakPatternsCmpFunc__2_int_w__i_RunsAt_1 data a b = some y := hm
 obtain ⟨cmp, hf_cmp⟩ : ∃ q, (fun (z0 : A2_Int) (z1 : A2_Int) => i_RunsAt_1 z0 z1) = q := ⟨_, rfl⟩
 have hm : slices_breakPatternsCmpFunc__2_int_w data a b cmp = some y := by rw [← hf_cmp]; exact hm
 unfold slices_breakPatternsCmpFunc__2_int_w at hm
 refine rg G (rg G (cd hm (fun hm => ?_) (fun hm => ?_)))
 ·refine rg G ?_
  obtain ⟨r, h, hm⟩ := obind hm
  refine rs G (hC 1 (slices_nextPowerOfTwo_c h) h0) ?_
  obtain ⟨u, h1, hm⟩ := obind hm
  refine rs G (hK h1 h0) ?_
  refine Ok_block (lp G hm (fun (v, data1, v1) => ⟨[(0, .own 0), (1, dV a), (3, .fn 184 []), (8, dV (w64 (b - a))), (9, .ref 32 0), (10, kV .u64 r.v), (11, dV v)], [aX 0 87 data1, bX 32 [kV .u64 v1]], 64⟩) ?_)
  rintro ⟨v, data1, v1⟩ r0 hb hm
  rw [slices_breakPatternsCmpFunc__2_int_w_L1] at hm
  refine Ok_seq ?_
  obtain ⟨u1, h2, hm⟩ := obind hm
  refine rs G (hK h2 h0) ?_
  refine cd hm (fun hm => ?_) (fun hm => ?_)
  ·refine X_skip (thN (Ok_seq (Ok_block ?_)))
   obtain ⟨r1, h3, hm⟩ := obind hm
   refine rs G (hC 0 (slices_xorshift_Next_c h3) h0) ?_
   refine jn hm (fun v2 => ⟨[(0, .own 0), (1, dV a), (3, .fn 184 []), (8, dV (w64 (b - a))), (9, .ref 32 0), (10, kV .u64 r.v), (11, dV v), (12, dV v2)], [aX 0 87 data1, bX 32 [kV .u64 r1.2.v]], 64⟩) (fun v2 hm => ?_) ?_
   ·refine rg G (cd hm (fun hm => ?_) (fun hm => ?_))
    ·exact rh G (wJ G hm)
    ·exact X_skip (wJ G hm)
   rintro v2 hm
   obtain ⟨e4, h8, hm⟩ := obind hm
   obtain ⟨e5, h9, hm⟩ := obind hm
   obtain ⟨e6, h10, hm⟩ := obind hm
   obtain ⟨e7, h11, hm⟩ := obind hm
   refine de G [(17, [0]), (19, [0])] (hD 10 h8 (hE 11 h8 (hD 14 h9 (hE 15 h9 (hD 16 h10 (hS 17 h10 e4 (hD 18 h11 (hS 19 h11 e5 h0)))))))) ?_
   exact ibN (thN (rh G (wL G hm)))
  ·have hm := eD hm hb
   refine Ok_exit (thE (thE (ibE ?_)))
   cases hm
   exact fN [] []
 ·refine X_skip ?_
  cases hm
  exact fN [] []
noncomputable def slices_pdqsortCmpFunc__2_int_w__i_RunsAt_1_MR (rec_ : (List A2_Int) → Int → Int → Int → Option ((List A2_Int))) : MS ((List A2_Int) × Int × Int × Int) ((List A2_Int)) := ⟨⟨[.sl, .rd, .rd, .rd, .fn 184 []], fun x => [.sc undef, Enc.e x.2.1, Enc.e x.2.2.1, Enc.e x.2.2.2, .agg []], fun x => [arO 87 x.1], 1, fun _ => rfl, fun _ => rfl, (by
  rintro ⟨a0, a1, a2, a3⟩ ⟨b0, b1, b2, b3⟩ h hO
  have q0 : a0 = b0 := Enc.inj _ _ (congrArg (fun l => D.sl 2 (obL l 0)) hO)
  have q1 : a1 = b1 := qI 1 h
  have q2 : a2 = b2 := qI 2 h
  have q3 : a3 = b3 := qI 3 h
  subst q0; subst q1; subst q2; subst q3; rfl)⟩, fun x => rec_ x.1 x.2.1 x.2.2.1 x.2.2.2, fun _ => .tup [], fun _ => [], fun _ y => [arO 87 y]⟩
noncomputable def slices_pdqsortCmpFunc__2_int_w__i_RunsAt_1_M : MS ((List A2_Int) × Int × Int × Int) ((List A2_Int)) := slices_pdqsortCmpFunc__2_int_w__i_RunsAt_1_MR slices_pdqsortCmpFunc__2_int_w__i_RunsAt_1
theorem slices_pdqsortCmpFunc__2_int_w__i_RunsAt_1_c {data a b limit y} (hm : slices_pdqsortCmpFunc__2_int_w__i_RunsAt_1 data a b limit = some y) : slices_pdqsortCmpFunc__2_int_w__i_RunsAt_1_M.C (data, a, b, limit) y := slices_pdqsortCmpFunc__2_int_w__i_RunsAt_1_M.c (data, a, b, limit) hm
theorem slices_pdqsortCmpFunc__2_int_w__i_RunsAt_1_cR {rec_ : (List A2_Int) → Int → Int → Int → Option ((List A2_Int))} {data a b limit y} (hm : rec_ data a b limit = some y) : (slices_pdqsortCmpFunc__2_int_w__i_RunsAt_1_MR rec_).C (data, a, b, limit) y := (slices_pdqsortCmpFunc__2_int_w__i_RunsAt_1_MR rec_).c (data, a, b, limit) hm
theorem slices_pdqsortCmpFunc__2_int_w__i_RunsAt_1_okF {rec_ : (List A2_Int) → Int → Int → Int → Option ((List A2_Int))} (hrec : FnOK Try.prog 233 (slices_pdqsortCmpFunc__2_int_w__i_RunsAt_1_MR rec_).S) : FnOK Try.prog 233 (slices_pdqsortCmpFunc__2_int_w__i_RunsAt_1_MR (slices_pdqsortCmpFunc__2_int_w__i_RunsAt_1_F rec_)).S := by
 refine fm tt (slices_pdqsortCmpFunc__2_int_w__i_RunsAt_1_MR (slices_pdqsortCmpFunc__2_int_w__i_RunsAt_1_F rec_)) [fo hrec, fo slices_insertionSortCmpFunc__2_int_w__i_RunsAt_1_ok, fo slices_heapSortCmpFunc__2_int_w__i_RunsAt_1_ok, fo slices_choosePivotCmpFunc__2_int__i_RunsAt_1_ok, fo slices_reverseRangeCmpFunc__2_int_w__i_RunsAt_1_ok, fo slices_partialInsertionSortCmpFunc__2_int_w__i_RunsAt_1_ok, fo i_RunsAt_1_ok, fo slices_partitionEqualCmpFunc__2_int_w__i_RunsAt_1_ok, fo slices_partitionCmpFunc__2_int_w__i_RunsAt_1_ok, fo slices_breakPatternsCmpFunc__2_int_w__i_RunsAt_1_ok] Try.call233 Try.func233 rfl Try.results233 Try.ntmps233 ?_
 rintro ⟨data, a, b, limit⟩ y cx G hm
 have hm : slices_pdqsortCmpFunc__2_int_w__i_RunsAt_1_F rec_ data a b limit = some y := hm
 unfold slices_pdqsortCmpFunc__2_int_w__i_RunsAt_1_F at hm
 refine rg G (rg G (Ok_block (lp G hm (fun (a1, b1, limit1, mid, mid1, data1) => ⟨[(0, .own 0), (1, dV a1), (2, dV b1), (3, dV limit1), (4, .fn 184 []), (10, dV mid), (11, dV mid1)], [aX 0 87 data1], 48⟩) ?_)))
 rintro ⟨a1, b1, limit1, mid, mid1, data1⟩ r0 hb hm
 rw [slices_pdqsortCmpFunc__2_int_w__i_RunsAt_1_L1] at hm
 refine Ok_block (rg G (Ok_seq (rg G (cd hm (fun hm => ?_) (fun hm => ?_)))))
 ·obtain ⟨r, h, hm⟩ := obind hm
  refine rs G (hC 4 (slices_insertionSortCmpFunc__2_int_w__i_RunsAt_1_c h) h0) ?_
  have hm := eD hm hb
  cases hm
  exact rt [] []
 ·refine X_skip (thN (Ok_seq (rg G (cd hm (fun hm => ?_) (fun hm => ?_)))))
  ·obtain ⟨r2, h1, hm⟩ := obind hm
   refine rs G (hC 4 (slices_heapSortCmpFunc__2_int_w__i_RunsAt_1_c h1) h0) ?_
   have hm := eD hm hb
   cases hm
   exact rt [] []
  ·refine X_skip (thN (jn hm (fun (limit2, data2) => ⟨[(0, .own 0), (1, dV a1), (2, dV b1), (3, dV limit2), (4, .fn 184 []), (10, dV mid), (11, dV mid1), (12, dV (w64 (b1 - a1)))], [aX 0 87 data2], 48⟩) (fun vv1 hm => ?_) ?_))
   ·refine rg G (cd hm (fun hm => ?_) (fun hm => ?_))
    ·obtain ⟨r4, h2, hm⟩ := obind hm
     refine rs G (hC 4 (slices_breakPatternsCmpFunc__2_int_w__i_RunsAt_1_c h2) h0) ?_
     exact rh G (wJ G hm)
    ·exact X_skip (wJ G hm)
   rintro ⟨limit2, data2⟩ hm
   obtain ⟨r5, h3, hm⟩ := obind hm
   refine rs G (hC 4 (slices_choosePivotCmpFunc__2_int__i_RunsAt_1_c h3) h0) ?_
   refine jn hm (fun (leftLen, rightLen, data3) => ⟨[(0, .own 0), (1, dV a1), (2, dV b1), (3, dV limit2), (4, .fn 184 []), (10, dV mid), (11, dV mid1), (12, dV (w64 (b1 - a1))), (13, dV leftLen), (14, dV rightLen)], [aX 0 87 data3], 48⟩) (fun vv hm => ?_) ?_
   ·refine rg G (cd hm (fun hm => ?_) (fun hm => ?_))
    ·obtain ⟨r6, h4, hm⟩ := obind hm
     refine rs G (hC 4 (slices_reverseRangeCmpFunc__2_int_w__i_RunsAt_1_c h4) h0) ?_
     exact rg G (rh G (wJ G hm))
    ·exact X_skip (wJ G hm)
   rintro ⟨leftLen, rightLen, data3⟩ hm
   refine jF hm (fun data4 => ⟨[(0, .own 0), (1, dV a1), (2, dV b1), (3, dV limit2), (4, .fn 184 []), (10, dV mid), (11, dV mid1), (12, dV (w64 (b1 - a1))), (13, dV leftLen)], [aX 0 87 data4], 48⟩) (fun v2 hr3 hm => ?_) ?_
   ·refine jn hm (fun v => ⟨[(0, .own 0), (1, dV a1), (2, dV b1), (3, dV limit2), (4, .fn 184 []), (10, dV mid), (11, dV mid1), (12, dV (w64 (b1 - a1))), (13, dV leftLen), (75, dV v)], [aX 0 87 data3], 48⟩) (fun v hm => ?_) ?_
    ·rcases bf hm with ⟨hb1, hm⟩ | ⟨hb1, hm⟩
     ·rcases bf hm with ⟨hb2, hm⟩ | ⟨hb2, hm⟩
      ·refine re G (hO 1 (.b true) (hP hb1 (hO 4 (.b true) (hP hb2 h0)))) ?_
       exact wJ G hm
      ·refine re G (hO 1 (.b true) (hP hb1 (hO 4 (.b false) (hP hb2 h0)))) ?_
       exact wJ G hm
     ·refine re G (hO 1 (.b false) (hP hb1 h0)) ?_
      exact wJ G hm
    rintro v hm
    refine cd hm (fun hm => ?_) (fun hm => ?_)
    ·obtain ⟨r7, h5, hm⟩ := obind hm
     refine rs G (hC 4 (slices_partialInsertionSortCmpFunc__2_int_w__i_RunsAt_1_c h5) h0) ?_
     refine cd hm (fun hm => ?_) (fun hm => ?_)
     ·have hm := eR hm hr3
      have hm := eD hm hb
      cases hm
      exact rt [] []
     ·exact X_skip (wF G hm)
    ·exact X_skip (wF G hm)
   rintro data4 hm
   refine Ok_seq (jn hm (fun v1 => ⟨[(0, .own 0), (1, dV a1), (2, dV b1), (3, dV limit2), (4, .fn 184 []), (10, dV mid), (11, dV mid1), (12, dV (w64 (b1 - a1))), (13, dV leftLen), (97, dV v1)], [aX 0 87 data4], 48⟩) (fun v1 hm => ?_) ?_)
   ·rcases bf hm with ⟨hb3, hm⟩ | ⟨hb3, hm⟩
    ·obtain ⟨e6, h9, hm⟩ := obind hm
     obtain ⟨e7, h10, hm⟩ := obind hm
     obtain ⟨r11, h11, hm⟩ := obind hm
     refine de G [(13, [])] (hO 2 (.b true) (hP hb3 (hD 7 h9 (hE 8 h9 (hD 11 h10 (hE 12 h10 (hC 13 (i_RunsAt_1_c h11) h0))))))) ?_
     exact wJ G hm
    ·refine de G [(13, [])] (hO 2 (.b false) (hP hb3 h0)) ?_
     exact wJ G hm
   rintro v1 hm
   refine cd hm (fun hm => ?_) (fun hm => ?_)
   ·obtain ⟨r12, h12, hm⟩ := obind hm
    refine rs G (hC 5 (slices_partitionEqualCmpFunc__2_int_w__i_RunsAt_1_c h12) h0) ?_
    exact rg G (Ok_exit (thE (ibE (wL G hm))))
   ·refine X_skip (thN ?_)
    obtain ⟨r13, h13, hm⟩ := obind hm
    refine rs G (hC 5 (slices_partitionCmpFunc__2_int_w__i_RunsAt_1_c h13) h0) ?_
    refine rg G (rg G ?_)
    obtain ⟨u, h14, hm⟩ := obind hm
    refine rs G (hK h14 h0) ?_
    refine rg G (cd hm (fun hm => ?_) (fun hm => ?_))
    ·refine rg G ?_
     obtain ⟨r14, h15, hm⟩ := obind hm
     refine rs G (hC 5 (slices_pdqsortCmpFunc__2_int_w__i_RunsAt_1_cR h15) h0) ?_
     exact rh G (ibN (wL G hm))
    ·refine rg G ?_
     obtain ⟨r15, h16, hm⟩ := obind hm
     refine rs G (hC 6 (slices_pdqsortCmpFunc__2_int_w__i_RunsAt_1_cR h16) h0) ?_
     exact rh G (ibN (wL G hm))
theorem slices_pdqsortCmpFunc__2_int_w__i_RunsAt_1_okn : ∀ k, FnOK Try.prog 233 (slices_pdqsortCmpFunc__2_int_w__i_RunsAt_1_MR (slices_pdqsortCmpFunc__2_int_w__i_RunsAt_1_k k)).S
 | 0 => ⟨fun args w => Try.call233 args w, fun vs w F ds obs κ hp => by obtain ⟨x, y, _, _, h⟩ := hp; cases h⟩
 | k + 1 => slices_pdqsortCmpFunc__2_int_w__i_RunsAt_1_okF (slices_pdqsortCmpFunc__2_int_w__i_RunsAt_1_okn k)
theorem slices_pdqsortCmpFunc__2_int_w__i_RunsAt_1_ok : FnOK Try.prog 233 slices_pdqsortCmpFunc__2_int_w__i_RunsAt_1_M.S := slices_pdqsortCmpFunc__2_int_w__i_RunsAt_1_okn 4294967296
noncomputable def slices_SortFunc__2_int_w__i_RunsAt_1_M : MS ((List A2_Int)) ((List A2_Int)) := ⟨⟨[.sl, .fn 184 []], fun x => [.sc undef, .agg []], fun x => [arO 87 x], 1, fun _ => rfl, fun _ => rfl, (by
  rintro a0 b0 h hO
  have q0 : a0 = b0 := Enc.inj _ _ (congrArg (fun l => D.sl 2 (obL l 0)) hO)
  subst q0; rfl)⟩, slices_SortFunc__2_int_w__i_RunsAt_1, fun _ => .tup [], fun _ => [], fun _ y => [arO 87 y]⟩
theorem slices_SortFunc__2_int_w__i_RunsAt_1_c {x y} (hm : slices_SortFunc__2_int_w__i_RunsAt_1 x = some y) : slices_SortFunc__2_int_w__i_RunsAt_1_M.C x y := slices_SortFunc__2_int_w__i_RunsAt_1_M.c x hm
theorem slices_SortFunc__2_int_w__i_RunsAt_1_ok : FnOK Try.prog 156 slices_SortFunc__2_int_w__i_RunsAt_1_M.S := by
 refine fm tt slices_SortFunc__2_int_w__i_RunsAt_1_M [fo math_bits_Len_ok, fo slices_pdqsortCmpFunc__2_int_w__i_RunsAt_1_ok] Try.call156 Try.func156 rfl Try.results156 Try.ntmps156 ?_
 rintro x y cx G hm
 have hm : slices_SortFunc__2_int_w__i_RunsAt_1 x = some y := hm
 unfold slices_SortFunc__2_int_w__i_RunsAt_1 at hm
 refine rs G (hN 1 x h0) ?_
 obtain ⟨r, h, hm⟩ := obind hm
 obtain ⟨r1, h1, hm⟩ := obind hm
 refine re G (hC 4 (math_bits_Len_c h) (hC 6 (slices_pdqsortCmpFunc__2_int_w__i_RunsAt_1_c h1) h0)) ?_
 cases hm
 exact fN [] []
noncomputable def i_RunsAt_M : MS (Timetable × (List Run) × Int) ((List A2_Int) × Bool) := ⟨.x .r (.x .r .r), fun x => i_RunsAt x.1 x.2.1 x.2.2, fun y => .tup [dV y.1, dV y.2], fun _ => [], fun _ _ => []⟩
theorem i_RunsAt_c {t list stop y} (hm : i_RunsAt t list stop = some y) : i_RunsAt_M.C (t, list, stop) y := i_RunsAt_M.c (t, list, stop) hm
theorem i_RunsAt_ok : FnOK Try.prog 77 i_RunsAt_M.S := by
 refine fm tt i_RunsAt_M [fo i_IsValidRuns_ok, fo i_isStop_ok, fo i_runStops_ok, fo slices_Index_int_ok, fo i_runTimes_ok, fo slices_SortFunc__2_int_w__i_RunsAt_1_ok] Try.call77 Try.func77 rfl Try.results77 Try.ntmps77 ?_
 rintro ⟨t, list, stop⟩ y cx G hm
 have hm : i_RunsAt t list stop = some y := hm
 unfold i_RunsAt at hm
 refine rg G (Ok_seq ?_)
 obtain ⟨r, h, hm⟩ := obind hm
 refine jn hm (fun v => ⟨[(1, dV list), (2, dV stop), (3, .ref 16 0), (22, dV v)], [bX 16 [dV t.Network.Stops, dV t.Network.Lines, dV t.Trips]], 48⟩) (fun v hm => ?_) ?_
 ·rcases bf hm with ⟨hb, hm⟩ | ⟨hb, hm⟩
  ·refine re G (hC 2 (i_IsValidRuns_c h) (hO 4 (.b true) (hP hb h0))) ?_
   exact wJ G hm
  ·obtain ⟨r1, h1, hm⟩ := obind hm
   refine re G (hC 2 (i_IsValidRuns_c h) (hO 4 (.b false) (hP hb (hC 8 (i_isStop_c h1) h0)))) ?_
   exact wJ G hm
 rintro v hm
 refine cd hm (fun hm => ?_) (fun hm => ?_)
 ·refine rg G ?_
  cases hm
  exact rt [] [[.z 2]]
 ·refine X_skip (thN (rg G (Ok_seq (rs G (hN 1 list h0) ?_))))
  refine tl hm (fun k2 => ⟨[(8, .own 16)], [aX 16 87 k2], 48⟩) (fun k2 hm => ?_) ?_
  ·refine Ok_block (lpP hm (fun (v1, k) => ⟨[(2, dV stop), (3, .ref 16 0), (8, .own 32), (23, dV list), (24, dV (list.length : Int)), (25, dV v1)], [bX 16 [dV t.Network.Stops, dV t.Network.Lines, dV t.Trips], aX 32 87 k], 64⟩) (Wk_J G.hL ⟨[(2, []), (3, []), (8, [.o 32]), (23, []), (24, []), (25, [])], [(16, 16, [])], [(32, 87, 2, [])], 64⟩ (by kernel_rfl)) ?_)
   rintro ⟨v1, k⟩ r0 hb1 hm
   rw [i_RunsAt_L1] at hm
   refine rg G (Ok_seq (cd hm (fun hm => ?_) (fun hm => ?_)))
   ·refine X_skip (thN (jn hm (fun k1 => ⟨[(2, dV stop), (3, .ref 16 0), (8, .own 32), (23, dV list), (24, dV (list.length : Int)), (25, dV v1)], [bX 16 [dV t.Network.Stops, dV t.Network.Lines, dV t.Trips], aX 32 87 k1], 64⟩) (fun k1 hm => ?_) ?_))
    ·refine Ok_block ?_
     obtain ⟨e, h2, hm⟩ := obind hm
     refine rs G (hD 0 h2 h0) ?_
     obtain ⟨r2, h3, hm⟩ := obind hm
     obtain ⟨r3, h4, hm⟩ := obind hm
     refine rs G (hC 2 (i_runStops_c h3) (hC 4 (slices_Index_int_c h4) h0)) ?_
     refine rg G (cd hm (fun hm => ?_) (fun hm => ?_))
     ·obtain ⟨r5, h8, hm⟩ := obind hm
      obtain ⟨e2, h9, hm⟩ := obind hm
      obtain ⟨u1, h10, hm⟩ := obind hm
      refine de G [(11, [32, 432])] (hC 3 (i_runTimes_c h8) (hD 5 h9 (hE 6 h9 (hA 11 16 h10 h0)))) ?_
      exact ibN (wJ G hm)
     ·exact X_skip (ibN (wJ G hm))
    rintro k1 hm
    exact rh G (wL G hm)
   ·exact Ok_exit (thE (thE (ibE (wD G hm hb1))))
  rintro k2 hm s hw
  refine thN (Ok_weak hw ?_)
  obtain ⟨r6, h11, hm⟩ := obind hm
  refine rs G (hC 1 (slices_SortFunc__2_int_w__i_RunsAt_1_c h11) h0) ?_
  refine rg G ?_
  cases hm
  exact rt [] []
noncomputable def i_RunTimes_M : MS (Timetable × (List Run) × Int) ((List Int) × Bool) := ⟨.x .r (.x .r .r), fun x => i_RunTimes x.1 x.2.1 x.2.2, fun y => .tup [dV y.1, dV y.2], fun _ => [], fun _ _ => []⟩
theorem i_RunTimes_c {t list id y} (hm : i_RunTimes t list id = some y) : i_RunTimes_M.C (t, list, id) y := i_RunTimes_M.c (t, list, id) hm
theorem i_RunTimes_ok : FnOK Try.prog 78 i_RunTimes_M.S := by
 refine fm tt i_RunTimes_M [fo i_IsValidRuns_ok, fo i_runIndex_ok, fo i_runTimes_ok] Try.call78 Try.func78 rfl Try.results78 Try.ntmps78 ?_
 rintro ⟨t, list, id⟩ y cx G hm
 have hm : i_RunTimes t list id = some y := hm
 unfold i_RunTimes at hm
 refine rg G (Ok_seq ?_)
 obtain ⟨r, h, hm⟩ := obind hm
 refine rs G (hC 2 (i_IsValidRuns_c h) h0) ?_
 refine cd hm (fun hm => ?_) (fun hm => ?_)
 ·refine rg G ?_
  cases hm
  exact rt [] [[.z 1]]
 ·refine X_skip (thN ?_)
  obtain ⟨r1, h1, hm⟩ := obind hm
  refine rs G (hC 2 (i_runIndex_c h1) h0) ?_
  refine Ok_seq (rg G (cd hm (fun hm => ?_) (fun hm => ?_)))
  ·refine rg G ?_
   cases hm
   exact rt [] [[.z 1]]
  ·refine X_skip (thN ?_)
   obtain ⟨e1, h4, hm⟩ := obind hm
   obtain ⟨r3, h5, hm⟩ := obind hm
   refine ds G [] (hD 3 h4 (hC 5 (i_runTimes_c h5) h0)) ?_
   cases hm
   exact rt [] []
noncomputable def i_plannedRuns_M : MS Timetable ((List Run)) := ⟨.r, i_plannedRuns, fun _ => .own 0, fun y => [arO 108 y], fun _ _ => []⟩
theorem i_plannedRuns_c {t y} (hm : i_plannedRuns t = some y) : i_plannedRuns_M.C t y := i_plannedRuns_M.c t hm
theorem i_plannedRuns_ok : FnOK Try.prog 185 i_plannedRuns_M.S := by
 refine fm tt i_plannedRuns_M [fo i_lineOf_ok] Try.call185 Try.func185 rfl Try.results185 Try.ntmps185 ?_
 rintro t y cx G hm
 have hm : i_plannedRuns t = some y := hm
 unfold i_plannedRuns at hm
 refine rg G ?_
 obtain ⟨u, h, hm⟩ := obind hm
 refine rs G (hN 2 t.Trips (hO 3 (.l (List.map Enc.e (List.replicate (t.Trips.length : Int).toNat ((⟨0, 0, 0, 0⟩ : Run) : Run)))) (hP (mk_p (b := 32) (chk_t h) rfl) (hP (rep_m Enc.e (t.Trips.length : Int).toNat ((⟨0, 0, 0, 0⟩ : Run) : Run)) h0)))) ?_
 refine Ok_seq (rs G (hN 2 t.Trips h0) ?_)
 refine tl hm (fun i1 => ⟨[(3, .own 16)], [aX 16 108 i1], 48⟩) (fun i1 hm => ?_) ?_
 ·refine Ok_block (lp G hm (fun (v, i) => ⟨[(1, .ref 16 0), (3, .own 32), (11, dV t.Trips), (12, dV (t.Trips.length : Int)), (13, dV v)], [bX 16 [dV t.Network.Stops, dV t.Network.Lines, dV t.Trips], aX 32 108 i], 64⟩) ?_)
  rintro ⟨v, i⟩ r0 hb hm
  rw [i_plannedRuns_L1] at hm
  refine rg G (Ok_seq (cd hm (fun hm => ?_) (fun hm => ?_)))
  ·refine X_skip (thN (Ok_seq (Ok_block ?_)))
   obtain ⟨e, h1, hm⟩ := obind hm
   refine rs G (hD 1 h1 h0) ?_
   obtain ⟨r1, h4, hm⟩ := obind hm
   obtain ⟨e2, h5, hm⟩ := obind hm
   refine de G [(12, [32])] (hC 6 (i_lineOf_c h4) (hN 8 r1.Stops (hD 11 h5 (hS 12 h5 (⟨e.Id, 0, (w64 ((r1.Stops.length : Int) - 1)), 0⟩ : Run) h0)))) ?_
   exact ibN (thN (rh G (wL G hm)))
  ·exact Ok_exit (thE (thE (ibE (wD G hm hb))))
 rintro i1 hm s hw
 refine thN (Ok_weak hw ?_)
 refine rg G ?_
 cases hm
 exact rt [16] []
noncomputable def i_PlannedRuns_M : MS Timetable ((List Run) × Bool) := ⟨.r, i_PlannedRuns, fun y => .tup [dV y.1, dV y.2], fun _ => [], fun _ _ => []⟩
theorem i_PlannedRuns_c {t y} (hm : i_PlannedRuns t = some y) : i_PlannedRuns_M.C t y := i_PlannedRuns_M.c t hm
theorem i_PlannedRuns_ok : FnOK Try.prog 79 i_PlannedRuns_M.S := by
 refine fm tt i_PlannedRuns_M [fo i_IsValidTimetable_ok, fo i_plannedRuns_ok] Try.call79 Try.func79 rfl Try.results79 Try.ntmps79 ?_
 rintro t y cx G hm
 have hm : i_PlannedRuns t = some y := hm
 unfold i_PlannedRuns at hm
 refine rg G (Ok_seq ?_)
 obtain ⟨r, h, hm⟩ := obind hm
 refine rs G (hC 1 (i_IsValidTimetable_c h) h0) ?_
 refine cd hm (fun hm => ?_) (fun hm => ?_)
 ·refine rg G ?_
  cases hm
  exact rt [] [[.z 4]]
 ·refine X_skip (thN ?_)
  obtain ⟨r1, h1, hm⟩ := obind hm
  refine rs G (hC 1 (i_plannedRuns_c h1) h0) ?_
  cases hm
  exact rt [] []
noncomputable def v_FnRuns_M : MS ((List UInt8)) Bool := ⟨.r, v_FnRuns, fun y => dV y, fun _ => [], fun _ _ => []⟩
theorem v_FnRuns_c {code y} (hm : v_FnRuns code = some y) : v_FnRuns_M.C code y := v_FnRuns_M.c code hm
theorem v_FnRuns_ok : FnOK Try.prog 10 v_FnRuns_M.S := by
 refine fm tt v_FnRuns_M [fo v_vBig_ok, fo s_DrawLostCalls_ok, fo i_LostCalls_ok, fo s_LostCalls_ok, fo i_IsValidRuns_ok, fo i_StopTimes_ok, fo i_RunsAt_ok, fo i_RunTimes_ok, fo i_PlannedRuns_ok] Try.call10 Try.func10 rfl Try.results10 Try.ntmps10 ?_
 rintro code y cx G hm
 have hm : v_FnRuns code = some y := hm
 unfold v_FnRuns at hm
 refine rg G (Ok_seq ?_)
 obtain ⟨r, h, hm⟩ := obind hm
 refine rs G (hC 1 (v_vBig_c h) h0) ?_
 refine cd hm (fun hm => ?_) (fun hm => ?_)
 ·refine rg G ?_
  cases hm
  exact rt [] []
 ·refine X_skip (thN ?_)
  obtain ⟨r1, h1, hm⟩ := obind hm
  refine rs G (hC 1 (s_DrawLostCalls_c h1) h0) ?_
  obtain ⟨r2, h2, hm⟩ := obind hm
  refine rs G (hO 2 (.fz [80] [] []) (hC 2 (i_LostCalls_c h2) h0)) ?_
  refine Ok_seq ?_
  obtain ⟨r3, h3, hm⟩ := obind hm
  refine rs G (hC 2 (s_LostCalls_c h3) h0) ?_
  refine jn hm (fun v => ⟨[(3, .ref 16 0), (4, dV r1.2), (5, dV r2.1), (6, dV r2.2), (59, dV v)], [bX 16 [dV r1.1.Network.Stops, dV r1.1.Network.Lines, dV r1.1.Trips]], 48⟩) (fun v hm => ?_) ?_
  ·rcases bf hm with ⟨hb, hm⟩ | ⟨hb, hm⟩
   ·refine re G (hO 3 (.b true) (hP hb h0)) ?_
    exact wJ G hm
   ·rcases bf hm with ⟨hb1, hm⟩ | ⟨hb1, hm⟩
    ·refine re G (hO 3 (.b false) (hP hb (hN 5 r2.1 (hN 7 r3.1 (hO 10 (.b true) (hP hb1 h0)))))) ?_
     exact wJ G hm
    ·obtain ⟨r4, h4, hm⟩ := obind hm
     refine re G (hO 3 (.b false) (hP hb (hN 5 r2.1 (hN 7 r3.1 (hO 10 (.b false) (hP hb1 (hC 13 (i_IsValidRuns_c h4) h0))))))) ?_
     exact wJ G hm
  rintro v hm
  refine cd hm (fun hm => ?_) (fun hm => ?_)
  ·refine rg G ?_
   cases hm
   exact rt [] []
  ·refine X_skip (thN (Ok_seq (rg G (cd hm (fun hm => ?_) (fun hm => ?_)))))
   ·refine rs G (hN 1 r2.1 h0) ?_
    cases hm
    exact rt [] []
   ·refine X_skip (thN (rs G (hN 1 r2.1 h0) ?_))
    refine Ok_seq (rg G (tF hm (fun i1 => ⟨[(3, .ref 16 0), (4, dV r1.2), (9, dV (r2.1.length : Int)), (10, dV i1)], [bX 16 [dV r1.1.Network.Stops, dV r1.1.Network.Lines, dV r1.1.Trips]], 48⟩) (fun v4 hr hm => ?_) ?_))
    ·refine Ok_block (lp G hm (fun (i, times) => ⟨[(3, .ref 16 0), (4, dV r1.2), (9, dV (r2.1.length : Int)), (10, dV i), (11, dV times)], [bX 16 [dV r1.1.Network.Stops, dV r1.1.Network.Lines, dV r1.1.Trips]], 48⟩) ?_)
     rintro ⟨i, times⟩ r0 hb2 hm
     rw [v_FnRuns_L1] at hm
     refine Ok_seq (rs G (hN 3 r1.1.Trips h0) ?_)
     refine cd hm (fun hm => ?_) (fun hm => ?_)
     ·refine X_skip (thN (Ok_seq (Ok_block ?_)))
      obtain ⟨e1, h7, hm⟩ := obind hm
      obtain ⟨r6, h8, hm⟩ := obind hm
      refine ds G [] (hD 4 h7 (hC 7 (i_StopTimes_c h8) h0)) ?_
      refine Ok_seq (rg G (cd hm (fun hm => ?_) (fun hm => ?_)))
      ·refine rg G ?_
       have hm := eL hm hb2 hr
       cases hm
       exact rt [] []
      ·refine X_skip (thN (re G (hN 2 r6.1 h0) ?_))
       exact ibN (thN (rh G (wL G hm)))
     ·exact Ok_exit (thE (thE (ibE (wE G hm hb2))))
    rintro i1 hm s hw
    refine thN (Ok_weak hw ?_)
    refine Ok_seq (rg G (tF hm (fun all1 => ⟨[(3, .ref 16 0), (4, dV r1.2), (9, dV all1), (10, dV i1)], [bX 16 [dV r1.1.Network.Stops, dV r1.1.Network.Lines, dV r1.1.Trips]], 48⟩) (fun v3 hr1 hm => ?_) ?_))
    ·refine Ok_block (lp G hm (fun (all, calls) => ⟨[(3, .ref 16 0), (4, dV r1.2), (9, dV all), (10, dV i1), (14, dV calls)], [bX 16 [dV r1.1.Network.Stops, dV r1.1.Network.Lines, dV r1.1.Trips]], 48⟩) ?_)
     rintro ⟨all, calls⟩ r0 hb3 hm
     rw [v_FnRuns_L2] at hm
     refine Ok_seq (rs G (hN 4 r1.1.Network.Stops h0) ?_)
     refine cd hm (fun hm => ?_) (fun hm => ?_)
     ·refine X_skip (thN (Ok_seq (Ok_block ?_)))
      obtain ⟨r8, h9, hm⟩ := obind hm
      refine rs G (hC 3 (i_RunsAt_c h9) h0) ?_
      refine Ok_seq (rg G (cd hm (fun hm => ?_) (fun hm => ?_)))
      ·refine rg G ?_
       have hm := eL hm hb3 hr1
       cases hm
       exact rt [] []
      ·refine X_skip (thN (re G (hN 2 r8.1 h0) ?_))
       exact ibN (thN (rh G (wL G hm)))
     ·exact Ok_exit (thE (thE (ibE (wE G hm hb3))))
    rintro all1 hm s1 hw1
    refine thN (Ok_weak hw1 ?_)
    refine Ok_seq (rg G (tF hm (fun _ => ⟨[(3, .ref 16 0), (9, dV all1), (10, dV i1)], [bX 16 [dV r1.1.Network.Stops, dV r1.1.Network.Lines, dV r1.1.Trips]], 48⟩) (fun v2 hr2 hm => ?_) ?_))
    ·refine Ok_block (lp G hm (fun times1 => ⟨[(3, .ref 16 0), (4, dV r1.2), (9, dV all1), (10, dV i1), (17, dV times1)], [bX 16 [dV r1.1.Network.Stops, dV r1.1.Network.Lines, dV r1.1.Trips]], 48⟩) ?_)
     rintro times1 r0 hb4 hm
     rw [v_FnRuns_L3] at hm
     refine Ok_seq (rs G (hN 2 r1.2 h0) ?_)
     refine cd hm (fun hm => ?_) (fun hm => ?_)
     ·refine X_skip (thN (Ok_seq (Ok_block ?_)))
      obtain ⟨e5, h12, hm⟩ := obind hm
      obtain ⟨r11, h13, hm⟩ := obind hm
      refine ds G [] (hD 4 h12 (hC 7 (i_RunTimes_c h13) h0)) ?_
      refine jn hm (fun v1 => ⟨[(3, .ref 16 0), (4, dV r1.2), (9, dV all1), (10, dV i1), (17, dV times1), (147, dV v1)], [bX 16 [dV r1.1.Network.Stops, dV r1.1.Network.Lines, dV r1.1.Trips]], 48⟩) (fun v1 hm => ?_) ?_
      ·rcases bf hm with ⟨hb5, hm⟩ | ⟨hb5, hm⟩
       ·refine de G [] (hO 2 (.b true) (hP hb5 h0)) ?_
        exact wJ G hm
       ·obtain ⟨e8, h16, hm⟩ := obind hm
        obtain ⟨e9, h17, hm⟩ := obind hm
        refine de G [] (hO 2 (.b false) (hP hb5 (hN 4 r11.1 (hD 7 h16 (hD 12 h17 h0))))) ?_
        exact wJ G hm
      rintro v1 hm
      refine cd hm (fun hm => ?_) (fun hm => ?_)
      ·refine rg G ?_
       have hm := eL hm hb4 hr2
       cases hm
       exact rt [] []
      ·exact X_skip (ibN (thN (rh G (wL G hm))))
     ·exact Ok_exit (thE (thE (ibE (wE G hm hb4))))
    rintro ⟨⟩ hm s2 hw2
    refine thN (Ok_weak hw2 ?_)
    obtain ⟨r13, h18, hm⟩ := obind hm
    refine rs G (hC 1 (i_PlannedRuns_c h18) h0) ?_
    obtain ⟨r14, h19, hm⟩ := obind hm
    refine rs G (hC 2 (i_LostCalls_c h19) h0) ?_
    refine jn hm (fun t => ⟨[(2, dV t)], [], 32⟩) (fun t hm => ?_) ?_
    ·rcases bf hm with ⟨hb6, hm⟩ | ⟨hb6, hm⟩
     ·rcases bf hm with ⟨hb7, hm⟩ | ⟨hb7, hm⟩
      ·rcases bf hm with ⟨hb8, hm⟩ | ⟨hb8, hm⟩
       ·refine re G (hO 3 (.b true) (hP hb6 (hO 6 (.b true) (hP hb7 (hO 9 (.b true) (hP hb8 (hN 11 r14.1 h0))))))) ?_
        exact wJ G hm
       ·refine re G (hO 3 (.b true) (hP hb6 (hO 6 (.b true) (hP hb7 (hO 9 (.b false) (hP hb8 h0)))))) ?_
        exact wJ G hm
      ·refine re G (hO 3 (.b true) (hP hb6 (hO 6 (.b false) (hP hb7 h0)))) ?_
       exact wJ G hm
     ·refine re G (hO 3 (.b false) (hP hb6 h0)) ?_
      exact wJ G hm
    rintro t hm
    cases hm
    exact rt [] []
end Go.Proofs.Ytgminbcbkcacnaa
