/- Each function computes what its model says. Made by program (dec.py). -/
import Derived.Test.YtjljkjbdkjjdcaaTdW1
namespace Go.Proofs.Ytjljkjbdkjjdcaa
open Go Go.Ab
set_option maxRecDepth 100000
set_option maxHeartbeats 4000000
set_option linter.unusedVariables false
set_option linter.unusedSimpArgs false
noncomputable def slices_partialInsertionSortCmpFunc__2_int_w__i_ArrivalsAt_1_M : MS ((List A2_Int) × Int × Int) (Bool × (List A2_Int)) := ⟨⟨[.sl, .rd, .rd, .fn 70 []], fun x => [.sc undef, Enc.e x.2.1, Enc.e x.2.2, .agg []], fun x => [arO 117 x.1], 1, 1, fun _ => rfl, fun _ => rfl, rfl, (by
  rintro ⟨a0, a1, a2⟩ ⟨b0, b1, b2⟩ h hO
  have q0 : a0 = b0 := Enc.inj _ _ (congrArg (fun l => D.sl 2 (obL l 0)) hO)
  have q1 : a1 = b1 := qI 1 h
  have q2 : a2 = b2 := qI 2 h
  subst q0; subst q1; subst q2; rfl)⟩, fun x => slices_partialInsertionSortCmpFunc__2_int_w__i_ArrivalsAt_1 x.1 x.2.1 x.2.2, fun y => dV y.1, fun _ => [], fun _ y => [arO 117 y.2]⟩
theorem slices_partialInsertionSortCmpFunc__2_int_w__i_ArrivalsAt_1_c {data a b y} (hm : slices_partialInsertionSortCmpFunc__2_int_w__i_ArrivalsAt_1 data a b = some y) : slices_partialInsertionSortCmpFunc__2_int_w__i_ArrivalsAt_1_M.C (data, a, b) y := slices_partialInsertionSortCmpFunc__2_int_w__i_ArrivalsAt_1_M.c (data, a, b) hm
theorem slices_partialInsertionSortCmpFunc__2_int_w__i_ArrivalsAt_1_ok : FnOK Try.prog 155 slices_partialInsertionSortCmpFunc__2_int_w__i_ArrivalsAt_1_M.S := by
 refine fm tt slices_partialInsertionSortCmpFunc__2_int_w__i_ArrivalsAt_1_M [fo i_ArrivalsAt_1_ok] Try.call155 Try.func155 rfl Try.results155 Try.ntmps155 ?_
 rintro ⟨data, a, b⟩ y cx G hm
 have hm : slices_partialInsertionSortCmpFunc__2_int_w__i_ArrivalsAt_1 data a b = some y := hm
 obtain ⟨cmp, hf_cmp⟩ : ∃ q, (fun (z0 : A2_Int) (z1 : A2_Int) => i_ArrivalsAt_1 z0 z1) = q := ⟨_, rfl⟩
 have hm : slices_partialInsertionSortCmpFunc__2_int_w data a b cmp = some y := by rw [← hf_cmp]; exact hm
 unfold slices_partialInsertionSortCmpFunc__2_int_w at hm
 refine rg G (rg G (Ok_seq (rg G (tF hm (fun data8 => ⟨[(0, .own 0), (3, .fn 70 [])], [aX 0 117 data8], 48⟩) (fun v9 hr hm => ?_) ?_))))
 ·refine Ok_block (lp G hm (fun (v, v1, data1) => ⟨[(0, .own 0), (1, dV a), (2, dV b), (3, .fn 70 []), (9, dV v), (10, dV v1)], [aX 0 117 data1], 48⟩) ?_)
  rintro ⟨v, v1, data1⟩ r0 hb hm
  rw [slices_partialInsertionSortCmpFunc__2_int_w_L4] at hm
  refine Ok_seq (rg G (cd hm (fun hm => ?_) (fun hm => ?_)))
  ·refine X_skip (thN (jF hm (fun (v2, data2) => ⟨[(0, .own 0), (1, dV a), (2, dV b), (3, .fn 70 []), (9, dV v2), (10, dV v1)], [aX 0 117 data2], 48⟩) (fun v8 hr1 hm => ?_) ?_))
   ·refine Ok_block (jn hm (fun v5 => ⟨[(0, .own 0), (1, dV a), (2, dV b), (3, .fn 70 []), (9, dV v5), (10, dV v1)], [aX 0 117 data1], 48⟩) (fun v5 hm => ?_) ?_)
    ·refine Ok_block (lp G hm (fun v3 => ⟨[(0, .own 0), (1, dV a), (2, dV b), (3, .fn 70 []), (9, dV v3), (10, dV v1)], [aX 0 117 data1], 48⟩) ?_)
     rintro v3 r0 hb1 hm
     rw [slices_partialInsertionSortCmpFunc__2_int_w_L1] at hm
     refine Ok_seq (jn hm (fun v4 => ⟨[(0, .own 0), (1, dV a), (2, dV b), (3, .fn 70 []), (9, dV v3), (10, dV v1), (36, dV v4)], [aX 0 117 data1], 48⟩) (fun v4 hm => ?_) ?_)
     ·rcases bf hm with ⟨hb2, hm⟩ | ⟨hb2, hm⟩
      ·obtain ⟨e2, h3, hm⟩ := obind hm
       obtain ⟨e3, h4, hm⟩ := obind hm
       obtain ⟨r1, h5, hm⟩ := obind hm
       have h5 : i_ArrivalsAt_1 e2 e3 = some r1 := by rw [← hf_cmp] at h5; exact h5
       refine de G [(14, [])] (hO 3 (.b true) (hP hb2 (hD 7 h3 (hE 8 h3 (hD 12 h4 (hE 13 h4 (hC 14 (i_ArrivalsAt_1_c h5) h0))))))) ?_
       exact wJ G hm
      ·refine de G [(14, [])] (hO 3 (.b false) (hP hb2 h0)) ?_
       exact wJ G hm
     rintro v4 hm
     refine cd hm (fun hm => ?_) (fun hm => ?_)
     ·exact X_skip (thN (Ok_block (rh G (ibN (wL G hm)))))
     ·exact Ok_exit (thE (thE (ibE (wD G hm hb1))))
    rintro v5 hm
    refine Ok_seq (rg G (cd hm (fun hm => ?_) (fun hm => ?_)))
    ·refine rg G ?_
     have hm := eR hm hr1
     have hm := eL hm hb hr
     cases hm
     exact rt [] []
    ·refine X_skip (thN (Ok_seq (rg G (cd hm (fun hm => ?_) (fun hm => ?_)))))
     ·refine rg G ?_
      have hm := eR hm hr1
      have hm := eL hm hb hr
      cases hm
      exact rt [] []
     ·refine X_skip (thN ?_)
      obtain ⟨e12, h10, hm⟩ := obind hm
      obtain ⟨e13, h11, hm⟩ := obind hm
      obtain ⟨e14, h12, hm⟩ := obind hm
      obtain ⟨e15, h13, hm⟩ := obind hm
      refine ds G [(15, [0]), (17, [0])] (hD 8 h10 (hE 9 h10 (hD 12 h11 (hE 13 h11 (hD 14 h12 (hS 15 h12 e12 (hD 16 h13 (hS 17 h13 e13 h0)))))))) ?_
      refine jn hm (fun data3 => ⟨[(0, .own 0), (1, dV a), (2, dV b), (3, .fn 70 []), (9, dV v5), (10, dV v1)], [aX 0 117 data3], 48⟩) (fun data3 hm => ?_) ?_
      ·refine rg G (cd hm (fun hm => ?_) (fun hm => ?_))
       ·refine rg G (tl hm (fun data5 => ⟨[(0, .own 0), (1, dV a), (2, dV b), (3, .fn 70 []), (9, dV v5), (10, dV v1)], [aX 0 117 data5], 48⟩) (fun data5 hm => ?_) ?_)
        ·refine Ok_block (lp G hm (fun (v6, data4) => ⟨[(0, .own 0), (1, dV a), (2, dV b), (3, .fn 70 []), (9, dV v5), (10, dV v1), (11, dV v6)], [aX 0 117 data4], 48⟩) ?_)
         rintro ⟨v6, data4⟩ r0 hb3 hm
         rw [slices_partialInsertionSortCmpFunc__2_int_w_L2] at hm
         refine Ok_seq (rg G (cd hm (fun hm => ?_) (fun hm => ?_)))
         ·refine X_skip (thN (Ok_seq (Ok_block (Ok_seq ?_))))
          obtain ⟨e18, h17, hm⟩ := obind hm
          obtain ⟨e19, h18, hm⟩ := obind hm
          obtain ⟨r7, h19, hm⟩ := obind hm
          have h19 : i_ArrivalsAt_1 e18 e19 = some r7 := by rw [← hf_cmp] at h19; exact h19
          refine ds G [(10, [])] (hD 3 h17 (hE 4 h17 (hD 8 h18 (hE 9 h18 (hC 10 (i_ArrivalsAt_1_c h19) h0))))) ?_
          refine cd hm (fun hm => ?_) (fun hm => ?_)
          ·exact Ok_exit (thE (ibX rfl (thE (thE (ibE (wD G hm hb3))))))
          ·refine X_skip (thN ?_)
           obtain ⟨e24, h24, hm⟩ := obind hm
           obtain ⟨e25, h25, hm⟩ := obind hm
           obtain ⟨e26, h26, hm⟩ := obind hm
           obtain ⟨e27, h27, hm⟩ := obind hm
           refine de G [(15, [0]), (17, [0])] (hD 8 h24 (hE 9 h24 (hD 12 h25 (hE 13 h25 (hD 14 h26 (hS 15 h26 e24 (hD 16 h27 (hS 17 h27 e25 h0)))))))) ?_
           exact ibN (thN (rh G (wL G hm)))
         ·exact Ok_exit (thE (thE (ibE (wD G hm hb3))))
        rintro data5 hm s hw
        exact wJp hm (Wk.trans hw (Wk_J G.hL ⟨[(0, []), (1, []), (2, []), (3, []), (9, []), (10, [])], [(0, 0, [])], [], 48⟩ (by kernel_rfl)))
       ·exact X_skip (wJ G hm)
      rintro data3 hm
      refine rg G (cd hm (fun hm => ?_) (fun hm => ?_))
      ·refine rg G (tl hm (fun data7 => ⟨[(0, .own 0), (1, dV a), (2, dV b), (3, .fn 70 []), (9, dV v5), (10, dV v1)], [aX 0 117 data7], 48⟩) (fun data7 hm => ?_) ?_)
       ·refine Ok_block (lp G hm (fun (v7, data6) => ⟨[(0, .own 0), (1, dV a), (2, dV b), (3, .fn 70 []), (9, dV v5), (10, dV v1), (12, dV v7)], [aX 0 117 data6], 48⟩) ?_)
        rintro ⟨v7, data6⟩ r0 hb4 hm
        rw [slices_partialInsertionSortCmpFunc__2_int_w_L3] at hm
        refine Ok_seq (rg G (cd hm (fun hm => ?_) (fun hm => ?_)))
        ·refine X_skip (thN (Ok_seq (Ok_block (Ok_seq ?_))))
         obtain ⟨e30, h31, hm⟩ := obind hm
         obtain ⟨e31, h32, hm⟩ := obind hm
         obtain ⟨r9, h33, hm⟩ := obind hm
         have h33 : i_ArrivalsAt_1 e30 e31 = some r9 := by rw [← hf_cmp] at h33; exact h33
         refine ds G [(10, [])] (hD 3 h31 (hE 4 h31 (hD 8 h32 (hE 9 h32 (hC 10 (i_ArrivalsAt_1_c h33) h0))))) ?_
         refine cd hm (fun hm => ?_) (fun hm => ?_)
         ·exact Ok_exit (thE (ibX rfl (thE (thE (ibE (wD G hm hb4))))))
         ·refine X_skip (thN ?_)
          obtain ⟨e36, h38, hm⟩ := obind hm
          obtain ⟨e37, h39, hm⟩ := obind hm
          obtain ⟨e38, h40, hm⟩ := obind hm
          obtain ⟨e39, h41, hm⟩ := obind hm
          refine de G [(15, [0]), (17, [0])] (hD 8 h38 (hE 9 h38 (hD 12 h39 (hE 13 h39 (hD 14 h40 (hS 15 h40 e36 (hD 16 h41 (hS 17 h41 e37 h0)))))))) ?_
          exact ibN (thN (rh G (wL G hm)))
        ·exact Ok_exit (thE (thE (ibE (wD G hm hb4))))
       rintro data7 hm s1 hw1
       exact ibN (wFp hm (Wk.trans hw1 (Wk_J G.hL ⟨[(0, []), (1, []), (2, []), (3, []), (9, []), (10, [])], [(0, 0, [])], [], 48⟩ (by kernel_rfl))))
      ·exact X_skip (ibN (wF G hm))
   rintro ⟨v2, data2⟩ hm
   exact rh G (wL G hm)
  ·exact Ok_exit (thE (thE (ibE (wE G hm hb))))
 rintro data8 hm s2 hw2
 refine thN (Ok_weak hw2 ?_)
 refine rg G ?_
 cases hm
 exact rt [] []
noncomputable def slices_partitionEqualCmpFunc__2_int_w__i_ArrivalsAt_1_M : MS ((List A2_Int) × Int × Int × Int) (Int × (List A2_Int)) := ⟨⟨[.sl, .rd, .rd, .rd, .fn 70 []], fun x => [.sc undef, Enc.e x.2.1, Enc.e x.2.2.1, Enc.e x.2.2.2, .agg []], fun x => [arO 117 x.1], 1, 1, fun _ => rfl, fun _ => rfl, rfl, (by
  rintro ⟨a0, a1, a2, a3⟩ ⟨b0, b1, b2, b3⟩ h hO
  have q0 : a0 = b0 := Enc.inj _ _ (congrArg (fun l => D.sl 2 (obL l 0)) hO)
  have q1 : a1 = b1 := qI 1 h
  have q2 : a2 = b2 := qI 2 h
  have q3 : a3 = b3 := qI 3 h
  subst q0; subst q1; subst q2; subst q3; rfl)⟩, fun x => slices_partitionEqualCmpFunc__2_int_w__i_ArrivalsAt_1 x.1 x.2.1 x.2.2.1 x.2.2.2, fun y => dV y.1, fun _ => [], fun _ y => [arO 117 y.2]⟩
theorem slices_partitionEqualCmpFunc__2_int_w__i_ArrivalsAt_1_c {data a b pivot y} (hm : slices_partitionEqualCmpFunc__2_int_w__i_ArrivalsAt_1 data a b pivot = some y) : slices_partitionEqualCmpFunc__2_int_w__i_ArrivalsAt_1_M.C (data, a, b, pivot) y := slices_partitionEqualCmpFunc__2_int_w__i_ArrivalsAt_1_M.c (data, a, b, pivot) hm
theorem slices_partitionEqualCmpFunc__2_int_w__i_ArrivalsAt_1_ok : FnOK Try.prog 156 slices_partitionEqualCmpFunc__2_int_w__i_ArrivalsAt_1_M.S := by
 refine fm tt slices_partitionEqualCmpFunc__2_int_w__i_ArrivalsAt_1_M [fo i_ArrivalsAt_1_ok] Try.call156 Try.func156 rfl Try.results156 Try.ntmps156 ?_
 rintro ⟨data, a, b, pivot⟩ y cx G hm
 have hm : slices_partitionEqualCmpFunc__2_int_w__i_ArrivalsAt_1 data a b pivot = some y := hm
 obtain ⟨cmp, hf_cmp⟩ : ∃ q, (fun (z0 : A2_Int) (z1 : A2_Int) => i_ArrivalsAt_1 z0 z1) = q := ⟨_, rfl⟩
 have hm : slices_partitionEqualCmpFunc__2_int_w data a b pivot cmp = some y := by rw [← hf_cmp]; exact hm
 unfold slices_partitionEqualCmpFunc__2_int_w at hm
 refine rg G ?_
 obtain ⟨e4, h4, hm⟩ := obind hm
 obtain ⟨e5, h5, hm⟩ := obind hm
 obtain ⟨e6, h6, hm⟩ := obind hm
 obtain ⟨e7, h7, hm⟩ := obind hm
 refine ds G [(13, [0]), (15, [0])] (hD 6 h4 (hE 7 h4 (hD 10 h5 (hE 11 h5 (hD 12 h6 (hS 13 h6 e4 (hD 14 h7 (hS 15 h7 e5 h0)))))))) ?_
 refine rg G (jn hm (fun (v8, data2) => ⟨[(0, .own 0), (4, .fn 70 []), (11, dV v8)], [aX 0 117 data2], 48⟩) (fun vv hm => ?_) ?_)
 ·refine Ok_block (lp G hm (fun (v, v1, data1) => ⟨[(0, .own 0), (1, dV a), (4, .fn 70 []), (11, dV v), (12, dV v1)], [aX 0 117 data1], 48⟩) ?_)
  rintro ⟨v, v1, data1⟩ r0 hb hm
  rw [slices_partitionEqualCmpFunc__2_int_w_L3] at hm
  refine Ok_block (jn hm (fun v4 => ⟨[(0, .own 0), (1, dV a), (4, .fn 70 []), (11, dV v4), (12, dV v1)], [aX 0 117 data1], 48⟩) (fun v4 hm => ?_) ?_)
  ·refine Ok_block (lp G hm (fun v2 => ⟨[(0, .own 0), (1, dV a), (4, .fn 70 []), (11, dV v2), (12, dV v1)], [aX 0 117 data1], 48⟩) ?_)
   rintro v2 r0 hb1 hm
   rw [slices_partitionEqualCmpFunc__2_int_w_L1] at hm
   refine Ok_seq (jn hm (fun v3 => ⟨[(0, .own 0), (1, dV a), (4, .fn 70 []), (11, dV v2), (12, dV v1), (47, dV v3)], [aX 0 117 data1], 48⟩) (fun v3 hm => ?_) ?_)
   ·rcases bf hm with ⟨hb2, hm⟩ | ⟨hb2, hm⟩
    ·obtain ⟨e10, h11, hm⟩ := obind hm
     obtain ⟨e11, h12, hm⟩ := obind hm
     obtain ⟨r1, h13, hm⟩ := obind hm
     have h13 : i_ArrivalsAt_1 e10 e11 = some r1 := by rw [← hf_cmp] at h13; exact h13
     refine de G [(13, [])] (hO 3 (.b true) (hP hb2 (hD 7 h11 (hE 8 h11 (hD 11 h12 (hE 12 h12 (hC 13 (i_ArrivalsAt_1_c h13) h0))))))) ?_
     exact wJ G hm
    ·refine de G [(13, [])] (hO 3 (.b false) (hP hb2 h0)) ?_
     exact wJ G hm
   rintro v3 hm
   refine cd hm (fun hm => ?_) (fun hm => ?_)
   ·exact X_skip (thN (Ok_block (rh G (ibN (wL G hm)))))
   ·exact Ok_exit (thE (thE (ibE (wD G hm hb1))))
  rintro v4 hm
  refine jn hm (fun v7 => ⟨[(0, .own 0), (1, dV a), (4, .fn 70 []), (11, dV v4), (12, dV v7)], [aX 0 117 data1], 48⟩) (fun v7 hm => ?_) ?_
  ·refine Ok_block (lp G hm (fun v5 => ⟨[(0, .own 0), (1, dV a), (4, .fn 70 []), (11, dV v4), (12, dV v5)], [aX 0 117 data1], 48⟩) ?_)
   rintro v5 r0 hb3 hm
   rw [slices_partitionEqualCmpFunc__2_int_w_L2] at hm
   refine Ok_seq (jn hm (fun v6 => ⟨[(0, .own 0), (1, dV a), (4, .fn 70 []), (11, dV v4), (12, dV v5), (65, dV v6)], [aX 0 117 data1], 48⟩) (fun v6 hm => ?_) ?_)
   ·rcases bf hm with ⟨hb4, hm⟩ | ⟨hb4, hm⟩
    ·obtain ⟨e14, h17, hm⟩ := obind hm
     obtain ⟨e15, h18, hm⟩ := obind hm
     obtain ⟨r3, h19, hm⟩ := obind hm
     have h19 : i_ArrivalsAt_1 e14 e15 = some r3 := by rw [← hf_cmp] at h19; exact h19
     refine de G [(13, [])] (hO 3 (.b true) (hP hb4 (hD 7 h17 (hE 8 h17 (hD 11 h18 (hE 12 h18 (hC 13 (i_ArrivalsAt_1_c h19) h0))))))) ?_
     exact wJ G hm
    ·refine de G [(13, [])] (hO 3 (.b false) (hP hb4 h0)) ?_
     exact wJ G hm
   rintro v6 hm
   refine cd hm (fun hm => ?_) (fun hm => ?_)
   ·exact X_skip (thN (Ok_block (rh G (ibN (wL G hm)))))
   ·exact Ok_exit (thE (thE (ibE (wD G hm hb3))))
  rintro v7 hm
  refine Ok_seq (rg G (cd hm (fun hm => ?_) (fun hm => ?_)))
  ·exact Ok_exit (thE (ibX rfl (thE (ibE (wD G hm hb)))))
  ·refine X_skip (thN ?_)
   obtain ⟨e20, h24, hm⟩ := obind hm
   obtain ⟨e21, h25, hm⟩ := obind hm
   obtain ⟨e22, h26, hm⟩ := obind hm
   obtain ⟨e23, h27, hm⟩ := obind hm
   refine ds G [(13, [0]), (15, [0])] (hD 6 h24 (hE 7 h24 (hD 10 h25 (hE 11 h25 (hD 12 h26 (hS 13 h26 e20 (hD 14 h27 (hS 15 h27 e21 h0)))))))) ?_
   exact rg G (rh G (ibN (wL G hm)))
 rintro ⟨v8, data2⟩ hm
 refine rg G ?_
 cases hm
 exact rt [] []
noncomputable def slices_partitionCmpFunc__2_int_w__i_ArrivalsAt_1_M : MS ((List A2_Int) × Int × Int × Int) (Int × Bool × (List A2_Int)) := ⟨⟨[.sl, .rd, .rd, .rd, .fn 70 []], fun x => [.sc undef, Enc.e x.2.1, Enc.e x.2.2.1, Enc.e x.2.2.2, .agg []], fun x => [arO 117 x.1], 1, 1, fun _ => rfl, fun _ => rfl, rfl, (by
  rintro ⟨a0, a1, a2, a3⟩ ⟨b0, b1, b2, b3⟩ h hO
  have q0 : a0 = b0 := Enc.inj _ _ (congrArg (fun l => D.sl 2 (obL l 0)) hO)
  have q1 : a1 = b1 := qI 1 h
  have q2 : a2 = b2 := qI 2 h
  have q3 : a3 = b3 := qI 3 h
  subst q0; subst q1; subst q2; subst q3; rfl)⟩, fun x => slices_partitionCmpFunc__2_int_w__i_ArrivalsAt_1 x.1 x.2.1 x.2.2.1 x.2.2.2, fun y => .tup [dV y.1, dV y.2.1], fun _ => [], fun _ y => [arO 117 y.2.2]⟩
theorem slices_partitionCmpFunc__2_int_w__i_ArrivalsAt_1_c {data a b pivot y} (hm : slices_partitionCmpFunc__2_int_w__i_ArrivalsAt_1 data a b pivot = some y) : slices_partitionCmpFunc__2_int_w__i_ArrivalsAt_1_M.C (data, a, b, pivot) y := slices_partitionCmpFunc__2_int_w__i_ArrivalsAt_1_M.c (data, a, b, pivot) hm
theorem slices_partitionCmpFunc__2_int_w__i_ArrivalsAt_1_ok : FnOK Try.prog 157 slices_partitionCmpFunc__2_int_w__i_ArrivalsAt_1_M.S := by
 refine fm tt slices_partitionCmpFunc__2_int_w__i_ArrivalsAt_1_M [fo i_ArrivalsAt_1_ok] Try.call157 Try.func157 rfl Try.results157 Try.ntmps157 ?_
 rintro ⟨data, a, b, pivot⟩ y cx G hm
 have hm : slices_partitionCmpFunc__2_int_w__i_ArrivalsAt_1 data a b pivot = some y := hm
 obtain ⟨cmp, hf_cmp⟩ : ∃ q, (fun (z0 : A2_Int) (z1 : A2_Int) => i_ArrivalsAt_1 z0 z1) = q := ⟨_, rfl⟩
 have hm : slices_partitionCmpFunc__2_int_w data a b pivot cmp = some y := by rw [← hf_cmp]; exact hm
 unfold slices_partitionCmpFunc__2_int_w at hm
 refine rg G ?_
 obtain ⟨e4, h4, hm⟩ := obind hm
 obtain ⟨e5, h5, hm⟩ := obind hm
 obtain ⟨e6, h6, hm⟩ := obind hm
 obtain ⟨e7, h7, hm⟩ := obind hm
 refine ds G [(13, [0]), (15, [0])] (hD 6 h4 (hE 7 h4 (hD 10 h5 (hE 11 h5 (hD 12 h6 (hS 13 h6 e4 (hD 14 h7 (hS 15 h7 e5 h0)))))))) ?_
 refine rg G (jn hm (fun v2 => ⟨[(0, .own 0), (1, dV a), (4, .fn 70 []), (12, dV v2), (13, dV (w64 (b - 1)))], [aX 0 117 ((data.set a.toNat e4).set pivot.toNat e5)], 48⟩) (fun v2 hm => ?_) ?_)
 ·refine Ok_block (lp G hm (fun v => ⟨[(0, .own 0), (1, dV a), (4, .fn 70 []), (12, dV v), (13, dV (w64 (b - 1)))], [aX 0 117 ((data.set a.toNat e4).set pivot.toNat e5)], 48⟩) ?_)
  rintro v r0 hb hm
  rw [slices_partitionCmpFunc__2_int_w_L1] at hm
  refine Ok_seq (jn hm (fun v1 => ⟨[(0, .own 0), (1, dV a), (4, .fn 70 []), (12, dV v), (13, dV (w64 (b - 1))), (47, dV v1)], [aX 0 117 ((data.set a.toNat e4).set pivot.toNat e5)], 48⟩) (fun v1 hm => ?_) ?_)
  ·rcases bf hm with ⟨hb1, hm⟩ | ⟨hb1, hm⟩
   ·obtain ⟨e10, h11, hm⟩ := obind hm
    obtain ⟨e11, h12, hm⟩ := obind hm
    obtain ⟨r1, h13, hm⟩ := obind hm
    have h13 : i_ArrivalsAt_1 e10 e11 = some r1 := by rw [← hf_cmp] at h13; exact h13
    refine de G [(13, [])] (hO 3 (.b true) (hP hb1 (hD 7 h11 (hE 8 h11 (hD 11 h12 (hE 12 h12 (hC 13 (i_ArrivalsAt_1_c h13) h0))))))) ?_
    exact wJ G hm
   ·refine de G [(13, [])] (hO 3 (.b false) (hP hb1 h0)) ?_
    exact wJ G hm
  rintro v1 hm
  refine cd hm (fun hm => ?_) (fun hm => ?_)
  ·exact X_skip (thN (Ok_block (rh G (ibN (wL G hm)))))
  ·exact Ok_exit (thE (thE (ibE (wD G hm hb))))
 rintro v2 hm
 refine jn hm (fun v5 => ⟨[(0, .own 0), (1, dV a), (4, .fn 70 []), (12, dV v2), (13, dV v5)], [aX 0 117 ((data.set a.toNat e4).set pivot.toNat e5)], 48⟩) (fun v5 hm => ?_) ?_
 ·refine Ok_block (lp G hm (fun v3 => ⟨[(0, .own 0), (1, dV a), (4, .fn 70 []), (12, dV v2), (13, dV v3)], [aX 0 117 ((data.set a.toNat e4).set pivot.toNat e5)], 48⟩) ?_)
  rintro v3 r0 hb2 hm
  rw [slices_partitionCmpFunc__2_int_w_L2] at hm
  refine Ok_seq (jn hm (fun v4 => ⟨[(0, .own 0), (1, dV a), (4, .fn 70 []), (12, dV v2), (13, dV v3), (66, dV v4)], [aX 0 117 ((data.set a.toNat e4).set pivot.toNat e5)], 48⟩) (fun v4 hm => ?_) ?_)
  ·rcases bf hm with ⟨hb3, hm⟩ | ⟨hb3, hm⟩
   ·obtain ⟨e14, h17, hm⟩ := obind hm
    obtain ⟨e15, h18, hm⟩ := obind hm
    obtain ⟨r3, h19, hm⟩ := obind hm
    have h19 : i_ArrivalsAt_1 e14 e15 = some r3 := by rw [← hf_cmp] at h19; exact h19
    refine de G [(13, [])] (hO 3 (.b true) (hP hb3 (hD 7 h17 (hE 8 h17 (hD 11 h18 (hE 12 h18 (hC 13 (i_ArrivalsAt_1_c h19) h0))))))) ?_
    exact wJ G hm
   ·refine de G [(13, [])] (hO 3 (.b false) (hP hb3 h0)) ?_
    exact wJ G hm
  rintro v4 hm
  refine cd hm (fun hm => ?_) (fun hm => ?_)
  ·exact X_skip (thN (Ok_block (rh G (ibN (wL G hm)))))
  ·exact Ok_exit (thE (thE (ibE (wD G hm hb2))))
 rintro v5 hm
 refine Ok_seq (rg G (cd hm (fun hm => ?_) (fun hm => ?_)))
 ·obtain ⟨e20, h24, hm⟩ := obind hm
  obtain ⟨e21, h25, hm⟩ := obind hm
  obtain ⟨e22, h26, hm⟩ := obind hm
  obtain ⟨e23, h27, hm⟩ := obind hm
  refine ds G [(13, [0]), (15, [0])] (hD 6 h24 (hE 7 h24 (hD 10 h25 (hE 11 h25 (hD 12 h26 (hS 13 h26 e20 (hD 14 h27 (hS 15 h27 e21 h0)))))))) ?_
  refine rg G ?_
  cases hm
  exact rt [] []
 ·refine X_skip (thN ?_)
  obtain ⟨e28, h32, hm⟩ := obind hm
  obtain ⟨e29, h33, hm⟩ := obind hm
  obtain ⟨e30, h34, hm⟩ := obind hm
  obtain ⟨e31, h35, hm⟩ := obind hm
  refine ds G [(13, [0]), (15, [0])] (hD 6 h32 (hE 7 h32 (hD 10 h33 (hE 11 h33 (hD 12 h34 (hS 13 h34 e28 (hD 14 h35 (hS 15 h35 e29 h0)))))))) ?_
  refine rg G (rg G (jn hm (fun (v14, data2) => ⟨[(0, .own 0), (1, dV a), (4, .fn 70 []), (13, dV v14)], [aX 0 117 data2], 48⟩) (fun vv hm => ?_) ?_))
  ·refine Ok_block (lp G hm (fun (v6, v7, data1) => ⟨[(0, .own 0), (1, dV a), (4, .fn 70 []), (12, dV v6), (13, dV v7)], [aX 0 117 data1], 48⟩) ?_)
   rintro ⟨v6, v7, data1⟩ r0 hb4 hm
   rw [slices_partitionCmpFunc__2_int_w_L5] at hm
   refine Ok_block (jn hm (fun v10 => ⟨[(0, .own 0), (1, dV a), (4, .fn 70 []), (12, dV v10), (13, dV v7)], [aX 0 117 data1], 48⟩) (fun v10 hm => ?_) ?_)
   ·refine Ok_block (lp G hm (fun v8 => ⟨[(0, .own 0), (1, dV a), (4, .fn 70 []), (12, dV v8), (13, dV v7)], [aX 0 117 data1], 48⟩) ?_)
    rintro v8 r0 hb5 hm
    rw [slices_partitionCmpFunc__2_int_w_L3] at hm
    refine Ok_seq (jn hm (fun v9 => ⟨[(0, .own 0), (1, dV a), (4, .fn 70 []), (12, dV v8), (13, dV v7), (120, dV v9)], [aX 0 117 data1], 48⟩) (fun v9 hm => ?_) ?_)
    ·rcases bf hm with ⟨hb6, hm⟩ | ⟨hb6, hm⟩
     ·obtain ⟨e34, h39, hm⟩ := obind hm
      obtain ⟨e35, h40, hm⟩ := obind hm
      obtain ⟨r5, h41, hm⟩ := obind hm
      have h41 : i_ArrivalsAt_1 e34 e35 = some r5 := by rw [← hf_cmp] at h41; exact h41
      refine de G [(13, [])] (hO 3 (.b true) (hP hb6 (hD 7 h39 (hE 8 h39 (hD 11 h40 (hE 12 h40 (hC 13 (i_ArrivalsAt_1_c h41) h0))))))) ?_
      exact wJ G hm
     ·refine de G [(13, [])] (hO 3 (.b false) (hP hb6 h0)) ?_
      exact wJ G hm
    rintro v9 hm
    refine cd hm (fun hm => ?_) (fun hm => ?_)
    ·exact X_skip (thN (Ok_block (rh G (ibN (wL G hm)))))
    ·exact Ok_exit (thE (thE (ibE (wD G hm hb5))))
   rintro v10 hm
   refine jn hm (fun v13 => ⟨[(0, .own 0), (1, dV a), (4, .fn 70 []), (12, dV v10), (13, dV v13)], [aX 0 117 data1], 48⟩) (fun v13 hm => ?_) ?_
   ·refine Ok_block (lp G hm (fun v11 => ⟨[(0, .own 0), (1, dV a), (4, .fn 70 []), (12, dV v10), (13, dV v11)], [aX 0 117 data1], 48⟩) ?_)
    rintro v11 r0 hb7 hm
    rw [slices_partitionCmpFunc__2_int_w_L4] at hm
    refine Ok_seq (jn hm (fun v12 => ⟨[(0, .own 0), (1, dV a), (4, .fn 70 []), (12, dV v10), (13, dV v11), (139, dV v12)], [aX 0 117 data1], 48⟩) (fun v12 hm => ?_) ?_)
    ·rcases bf hm with ⟨hb8, hm⟩ | ⟨hb8, hm⟩
     ·obtain ⟨e38, h45, hm⟩ := obind hm
      obtain ⟨e39, h46, hm⟩ := obind hm
      obtain ⟨r7, h47, hm⟩ := obind hm
      have h47 : i_ArrivalsAt_1 e38 e39 = some r7 := by rw [← hf_cmp] at h47; exact h47
      refine de G [(13, [])] (hO 3 (.b true) (hP hb8 (hD 7 h45 (hE 8 h45 (hD 11 h46 (hE 12 h46 (hC 13 (i_ArrivalsAt_1_c h47) h0))))))) ?_
      exact wJ G hm
     ·refine de G [(13, [])] (hO 3 (.b false) (hP hb8 h0)) ?_
      exact wJ G hm
    rintro v12 hm
    refine cd hm (fun hm => ?_) (fun hm => ?_)
    ·exact X_skip (thN (Ok_block (rh G (ibN (wL G hm)))))
    ·exact Ok_exit (thE (thE (ibE (wD G hm hb7))))
   rintro v13 hm
   refine Ok_seq (rg G (cd hm (fun hm => ?_) (fun hm => ?_)))
   ·exact Ok_exit (thE (ibX rfl (thE (ibE (wD G hm hb4)))))
   ·refine X_skip (thN ?_)
    obtain ⟨e44, h52, hm⟩ := obind hm
    obtain ⟨e45, h53, hm⟩ := obind hm
    obtain ⟨e46, h54, hm⟩ := obind hm
    obtain ⟨e47, h55, hm⟩ := obind hm
    refine ds G [(13, [0]), (15, [0])] (hD 6 h52 (hE 7 h52 (hD 10 h53 (hE 11 h53 (hD 12 h54 (hS 13 h54 e44 (hD 14 h55 (hS 15 h55 e45 h0)))))))) ?_
    exact rg G (rh G (ibN (wL G hm)))
  rintro ⟨v14, data2⟩ hm
  obtain ⟨e52, h60, hm⟩ := obind hm
  obtain ⟨e53, h61, hm⟩ := obind hm
  obtain ⟨e54, h62, hm⟩ := obind hm
  obtain ⟨e55, h63, hm⟩ := obind hm
  refine ds G [(13, [0]), (15, [0])] (hD 6 h60 (hE 7 h60 (hD 10 h61 (hE 11 h61 (hD 12 h62 (hS 13 h62 e52 (hD 14 h63 (hS 15 h63 e53 h0)))))))) ?_
  refine rg G ?_
  cases hm
  exact rt [] []
noncomputable def slices_nextPowerOfTwo_M : MS Int ((IK .u64)) := ⟨.r, slices_nextPowerOfTwo, fun y => dV y, fun _ => [], fun _ _ => []⟩
theorem slices_nextPowerOfTwo_c {length y} (hm : slices_nextPowerOfTwo length = some y) : slices_nextPowerOfTwo_M.C length y := slices_nextPowerOfTwo_M.c length hm
theorem slices_nextPowerOfTwo_ok : FnOK Try.prog 170 slices_nextPowerOfTwo_M.S := by
 refine fm tt slices_nextPowerOfTwo_M [fo math_bits_Len_ok] Try.call170 Try.func170 rfl Try.results170 Try.ntmps170 ?_
 rintro length y cx G hm
 have hm : slices_nextPowerOfTwo length = some y := hm
 unfold slices_nextPowerOfTwo at hm
 refine rg G ?_
 obtain ⟨r, h, hm⟩ := obind hm
 obtain ⟨u, h1, hm⟩ := obind hm
 refine rs G (hC 2 (math_bits_Len_c h) (hK h1 h0)) ?_
 cases hm
 exact rt [] []
noncomputable def slices_xorshift_Next_M : MS ((IK .u64)) ((IK .u64) × (IK .u64)) := ⟨.b, slices_xorshift_Next, fun y => dV y.1, fun _ => [], fun _ y => [bxO y.2]⟩
theorem slices_xorshift_Next_c {r y} (hm : slices_xorshift_Next r = some y) : slices_xorshift_Next_M.C r y := slices_xorshift_Next_M.c r hm
theorem slices_xorshift_Next_ok : FnOK Try.prog 171 slices_xorshift_Next_M.S := by
 refine fm tt slices_xorshift_Next_M [] Try.call171 Try.func171 rfl Try.results171 Try.ntmps171 ?_
 rintro r y cx G hm
 have hm : slices_xorshift_Next r = some y := hm
 unfold slices_xorshift_Next at hm
 refine rg G ?_
 obtain ⟨u1, h1, hm⟩ := obind hm
 refine ds G [(9, [0])] (hK h1 h0) ?_
 obtain ⟨u3, h3, hm⟩ := obind hm
 refine ds G [(9, [0])] (hK h3 h0) ?_
 obtain ⟨u5, h5, hm⟩ := obind hm
 refine ds G [(9, [0])] (hK h5 h0) ?_
 refine rg G ?_
 cases hm
 exact rt [] []
noncomputable def slices_breakPatternsCmpFunc__2_int_w__i_ArrivalsAt_1_M : MS ((List A2_Int) × Int × Int) ((List A2_Int)) := ⟨⟨[.sl, .rd, .rd, .fn 70 []], fun x => [.sc undef, Enc.e x.2.1, Enc.e x.2.2, .agg []], fun x => [arO 117 x.1], 1, 1, fun _ => rfl, fun _ => rfl, rfl, (by
  rintro ⟨a0, a1, a2⟩ ⟨b0, b1, b2⟩ h hO
  have q0 : a0 = b0 := Enc.inj _ _ (congrArg (fun l => D.sl 2 (obL l 0)) hO)
  have q1 : a1 = b1 := qI 1 h
  have q2 : a2 = b2 := qI 2 h
  subst q0; subst q1; subst q2; rfl)⟩, fun x => slices_breakPatternsCmpFunc__2_int_w__i_ArrivalsAt_1 x.1 x.2.1 x.2.2, fun _ => .tup [], fun _ => [], fun _ y => [arO 117 y]⟩
theorem slices_breakPatternsCmpFunc__2_int_w__i_ArrivalsAt_1_c {data a b y} (hm : slices_breakPatternsCmpFunc__2_int_w__i_ArrivalsAt_1 data a b = some y) : slices_breakPatternsCmpFunc__2_int_w__i_ArrivalsAt_1_M.C (data, a, b) y := slices_breakPatternsCmpFunc__2_int_w__i_ArrivalsAt_1_M.c (data, a, b) hm
theorem slices_breakPatternsCmpFunc__2_int_w__i_ArrivalsAt_1_ok : FnOK Try.prog 152 slices_breakPatternsCmpFunc__2_int_w__i_ArrivalsAt_1_M.S := by
 refine fm tt slices_breakPatternsCmpFunc__2_int_w__i_ArrivalsAt_1_M [fo slices_nextPowerOfTwo_ok, fo slices_xorshift_Next_ok] Try.call152 Try.func152 rfl Try.results152 Try.ntmps152 ?_
 rintro ⟨data, a, b⟩ y cx G hm
 have hm : slices_breakPatternsCmpFunc__2_int_w__i_ArrivalsAt_1 data a b = some y := hm
 obtain ⟨cmp, hf_cmp⟩ : ∃ q, (fun (z0 : A2_Int) (z1 : A2_Int) => i_ArrivalsAt_1 z0 z1) = q := ⟨_, rfl⟩
 have hm : slices_breakPatternsCmpFunc__2_int_w data a b cmp = some y := by rw [← hf_cmp]; exact hm
 unfold slices_breakPatternsCmpFunc__2_int_w at hm
 refine rg G (rg G (cd hm (fun hm => ?_) (fun hm => ?_)))
 ·refine rg G ?_
  obtain ⟨r, h, hm⟩ := obind hm
  refine rs G (hC 1 (slices_nextPowerOfTwo_c h) h0) ?_
  obtain ⟨u, h1, hm⟩ := obind hm
  refine rs G (hK h1 h0) ?_
  refine Ok_block (lp G hm (fun (v, data1, v1) => ⟨[(0, .own 0), (1, dV a), (3, .fn 70 []), (8, dV (w64 (b - a))), (9, .ref 32 0), (10, kV .u64 r.v), (11, dV v)], [aX 0 117 data1, bX 32 [kV .u64 v1]], 64⟩) ?_)
  rintro ⟨v, data1, v1⟩ r0 hb hm
  rw [slices_breakPatternsCmpFunc__2_int_w_L1] at hm
  refine Ok_seq ?_
  obtain ⟨u1, h2, hm⟩ := obind hm
  refine rs G (hK h2 h0) ?_
  refine cd hm (fun hm => ?_) (fun hm => ?_)
  ·refine X_skip (thN (Ok_seq (Ok_block ?_)))
   obtain ⟨r1, h3, hm⟩ := obind hm
   refine rs G (hC 0 (slices_xorshift_Next_c h3) h0) ?_
   refine jn hm (fun v2 => ⟨[(0, .own 0), (1, dV a), (3, .fn 70 []), (8, dV (w64 (b - a))), (9, .ref 32 0), (10, kV .u64 r.v), (11, dV v), (12, dV v2)], [aX 0 117 data1, bX 32 [kV .u64 r1.2.v]], 64⟩) (fun v2 hm => ?_) ?_
   ·refine rg G (cd hm (fun hm => ?_) (fun hm => ?_))
    ·exact rh G (wJ G hm)
    ·exact X_skip (wJ G hm)
   rintro v2 hm
   obtain ⟨e4, h8, hm⟩ := obind hm
   obtain ⟨e5, h9, hm⟩ := obind hm
   obtain ⟨e6, h10, hm⟩ := obind hm
   obtain ⟨e7, h11, hm⟩ := obind hm
   refine de G [(17, [0]), (19, [0])] (hD 10 h8 (hE 11 h8 (hD 14 h9 (hE 15 h9 (hD 16 h10 (hS 17 h10 e4 (hD 18 h11 (hS 19 h11 e5 h0)))))))) ?_
   exact ibN (thN (rh G (wL G hm)))
  ·have hm := eD hm hb
   refine Ok_exit (thE (thE (ibE ?_)))
   cases hm
   exact fN [] []
 ·refine X_skip ?_
  cases hm
  exact fN [] []
noncomputable def slices_pdqsortCmpFunc__2_int_w__i_ArrivalsAt_1_MR (rec_ : (List A2_Int) → Int → Int → Int → Option ((List A2_Int))) : MS ((List A2_Int) × Int × Int × Int) ((List A2_Int)) := ⟨⟨[.sl, .rd, .rd, .rd, .fn 70 []], fun x => [.sc undef, Enc.e x.2.1, Enc.e x.2.2.1, Enc.e x.2.2.2, .agg []], fun x => [arO 117 x.1], 1, 1, fun _ => rfl, fun _ => rfl, rfl, (by
  rintro ⟨a0, a1, a2, a3⟩ ⟨b0, b1, b2, b3⟩ h hO
  have q0 : a0 = b0 := Enc.inj _ _ (congrArg (fun l => D.sl 2 (obL l 0)) hO)
  have q1 : a1 = b1 := qI 1 h
  have q2 : a2 = b2 := qI 2 h
  have q3 : a3 = b3 := qI 3 h
  subst q0; subst q1; subst q2; subst q3; rfl)⟩, fun x => rec_ x.1 x.2.1 x.2.2.1 x.2.2.2, fun _ => .tup [], fun _ => [], fun _ y => [arO 117 y]⟩
noncomputable def slices_pdqsortCmpFunc__2_int_w__i_ArrivalsAt_1_M : MS ((List A2_Int) × Int × Int × Int) ((List A2_Int)) := slices_pdqsortCmpFunc__2_int_w__i_ArrivalsAt_1_MR slices_pdqsortCmpFunc__2_int_w__i_ArrivalsAt_1
theorem slices_pdqsortCmpFunc__2_int_w__i_ArrivalsAt_1_c {data a b limit y} (hm : slices_pdqsortCmpFunc__2_int_w__i_ArrivalsAt_1 data a b limit = some y) : slices_pdqsortCmpFunc__2_int_w__i_ArrivalsAt_1_M.C (data, a, b, limit) y := slices_pdqsortCmpFunc__2_int_w__i_ArrivalsAt_1_M.c (data, a, b, limit) hm
theorem slices_pdqsortCmpFunc__2_int_w__i_ArrivalsAt_1_cR {rec_ : (List A2_Int) → Int → Int → Int → Option ((List A2_Int))} {data a b limit y} (hm : rec_ data a b limit = some y) : (slices_pdqsortCmpFunc__2_int_w__i_ArrivalsAt_1_MR rec_).C (data, a, b, limit) y := (slices_pdqsortCmpFunc__2_int_w__i_ArrivalsAt_1_MR rec_).c (data, a, b, limit) hm
theorem slices_pdqsortCmpFunc__2_int_w__i_ArrivalsAt_1_okF {rec_ : (List A2_Int) → Int → Int → Int → Option ((List A2_Int))} (hrec : FnOK Try.prog 122 (slices_pdqsortCmpFunc__2_int_w__i_ArrivalsAt_1_MR rec_).S) : FnOK Try.prog 122 (slices_pdqsortCmpFunc__2_int_w__i_ArrivalsAt_1_MR (slices_pdqsortCmpFunc__2_int_w__i_ArrivalsAt_1_F rec_)).S := by
 refine fm tt (slices_pdqsortCmpFunc__2_int_w__i_ArrivalsAt_1_MR (slices_pdqsortCmpFunc__2_int_w__i_ArrivalsAt_1_F rec_)) [fo hrec, fo slices_insertionSortCmpFunc__2_int_w__i_ArrivalsAt_1_ok, fo slices_heapSortCmpFunc__2_int_w__i_ArrivalsAt_1_ok, fo slices_breakPatternsCmpFunc__2_int_w__i_ArrivalsAt_1_ok, fo slices_choosePivotCmpFunc__2_int__i_ArrivalsAt_1_ok, fo slices_reverseRangeCmpFunc__2_int_w__i_ArrivalsAt_1_ok, fo slices_partialInsertionSortCmpFunc__2_int_w__i_ArrivalsAt_1_ok, fo i_ArrivalsAt_1_ok, fo slices_partitionEqualCmpFunc__2_int_w__i_ArrivalsAt_1_ok, fo slices_partitionCmpFunc__2_int_w__i_ArrivalsAt_1_ok] Try.call122 Try.func122 rfl Try.results122 Try.ntmps122 ?_
 rintro ⟨data, a, b, limit⟩ y cx G hm
 have hm : slices_pdqsortCmpFunc__2_int_w__i_ArrivalsAt_1_F rec_ data a b limit = some y := hm
 unfold slices_pdqsortCmpFunc__2_int_w__i_ArrivalsAt_1_F at hm
 refine rg G (rg G (Ok_block (lp G hm (fun (a1, b1, limit1, mid, mid1, data1) => ⟨[(0, .own 0), (1, dV a1), (2, dV b1), (3, dV limit1), (4, .fn 70 []), (10, dV mid), (11, dV mid1)], [aX 0 117 data1], 48⟩) ?_)))
 rintro ⟨a1, b1, limit1, mid, mid1, data1⟩ r0 hb hm
 rw [slices_pdqsortCmpFunc__2_int_w__i_ArrivalsAt_1_L1] at hm
 refine Ok_block (rg G (Ok_seq (rg G (cd hm (fun hm => ?_) (fun hm => ?_)))))
 ·obtain ⟨r, h, hm⟩ := obind hm
  refine rs G (hC 4 (slices_insertionSortCmpFunc__2_int_w__i_ArrivalsAt_1_c h) h0) ?_
  have hm := eD hm hb
  cases hm
  exact rt [] []
 ·refine X_skip (thN (Ok_seq (rg G (cd hm (fun hm => ?_) (fun hm => ?_)))))
  ·obtain ⟨r2, h1, hm⟩ := obind hm
   refine rs G (hC 4 (slices_heapSortCmpFunc__2_int_w__i_ArrivalsAt_1_c h1) h0) ?_
   have hm := eD hm hb
   cases hm
   exact rt [] []
  ·refine X_skip (thN (jn hm (fun (limit2, data2) => ⟨[(0, .own 0), (1, dV a1), (2, dV b1), (3, dV limit2), (4, .fn 70 []), (10, dV mid), (11, dV mid1), (12, dV (w64 (b1 - a1)))], [aX 0 117 data2], 48⟩) (fun vv1 hm => ?_) ?_))
   ·refine rg G (cd hm (fun hm => ?_) (fun hm => ?_))
    ·obtain ⟨r4, h2, hm⟩ := obind hm
     refine rs G (hC 4 (slices_breakPatternsCmpFunc__2_int_w__i_ArrivalsAt_1_c h2) h0) ?_
     exact rh G (wJ G hm)
    ·exact X_skip (wJ G hm)
   rintro ⟨limit2, data2⟩ hm
   obtain ⟨r5, h3, hm⟩ := obind hm
   refine rs G (hC 4 (slices_choosePivotCmpFunc__2_int__i_ArrivalsAt_1_c h3) h0) ?_
   refine jn hm (fun (leftLen, rightLen, data3) => ⟨[(0, .own 0), (1, dV a1), (2, dV b1), (3, dV limit2), (4, .fn 70 []), (10, dV mid), (11, dV mid1), (12, dV (w64 (b1 - a1))), (13, dV leftLen), (14, dV rightLen)], [aX 0 117 data3], 48⟩) (fun vv hm => ?_) ?_
   ·refine rg G (cd hm (fun hm => ?_) (fun hm => ?_))
    ·obtain ⟨r6, h4, hm⟩ := obind hm
     refine rs G (hC 4 (slices_reverseRangeCmpFunc__2_int_w__i_ArrivalsAt_1_c h4) h0) ?_
     exact rg G (rh G (wJ G hm))
    ·exact X_skip (wJ G hm)
   rintro ⟨leftLen, rightLen, data3⟩ hm
   refine jF hm (fun data4 => ⟨[(0, .own 0), (1, dV a1), (2, dV b1), (3, dV limit2), (4, .fn 70 []), (10, dV mid), (11, dV mid1), (12, dV (w64 (b1 - a1))), (13, dV leftLen)], [aX 0 117 data4], 48⟩) (fun v2 hr3 hm => ?_) ?_
   ·refine jn hm (fun v => ⟨[(0, .own 0), (1, dV a1), (2, dV b1), (3, dV limit2), (4, .fn 70 []), (10, dV mid), (11, dV mid1), (12, dV (w64 (b1 - a1))), (13, dV leftLen), (75, dV v)], [aX 0 117 data3], 48⟩) (fun v hm => ?_) ?_
    ·rcases bf hm with ⟨hb1, hm⟩ | ⟨hb1, hm⟩
     ·rcases bf hm with ⟨hb2, hm⟩ | ⟨hb2, hm⟩
      ·refine re G (hO 1 (.b true) (hP hb1 (hO 4 (.b true) (hP hb2 h0)))) ?_
       exact wJ G hm
      ·refine re G (hO 1 (.b true) (hP hb1 (hO 4 (.b false) (hP hb2 h0)))) ?_
       exact wJ G hm
     ·refine re G (hO 1 (.b false) (hP hb1 h0)) ?_
      exact wJ G hm
    rintro v hm
    refine cd hm (fun hm => ?_) (fun hm => ?_)
    ·obtain ⟨r7, h5, hm⟩ := obind hm
     refine rs G (hC 4 (slices_partialInsertionSortCmpFunc__2_int_w__i_ArrivalsAt_1_c h5) h0) ?_
     refine cd hm (fun hm => ?_) (fun hm => ?_)
     ·have hm := eR hm hr3
      have hm := eD hm hb
      cases hm
      exact rt [] []
     ·exact X_skip (wF G hm)
    ·exact X_skip (wF G hm)
   rintro data4 hm
   refine Ok_seq (jn hm (fun v1 => ⟨[(0, .own 0), (1, dV a1), (2, dV b1), (3, dV limit2), (4, .fn 70 []), (10, dV mid), (11, dV mid1), (12, dV (w64 (b1 - a1))), (13, dV leftLen), (97, dV v1)], [aX 0 117 data4], 48⟩) (fun v1 hm => ?_) ?_)
   ·rcases bf hm with ⟨hb3, hm⟩ | ⟨hb3, hm⟩
    ·obtain ⟨e6, h9, hm⟩ := obind hm
     obtain ⟨e7, h10, hm⟩ := obind hm
     obtain ⟨r11, h11, hm⟩ := obind hm
     refine de G [(13, [])] (hO 2 (.b true) (hP hb3 (hD 7 h9 (hE 8 h9 (hD 11 h10 (hE 12 h10 (hC 13 (i_ArrivalsAt_1_c h11) h0))))))) ?_
     exact wJ G hm
    ·refine de G [(13, [])] (hO 2 (.b false) (hP hb3 h0)) ?_
     exact wJ G hm
   rintro v1 hm
   refine cd hm (fun hm => ?_) (fun hm => ?_)
   ·obtain ⟨r12, h12, hm⟩ := obind hm
    refine rs G (hC 5 (slices_partitionEqualCmpFunc__2_int_w__i_ArrivalsAt_1_c h12) h0) ?_
    exact rg G (Ok_exit (thE (ibE (wL G hm))))
   ·refine X_skip (thN ?_)
    obtain ⟨r13, h13, hm⟩ := obind hm
    refine rs G (hC 5 (slices_partitionCmpFunc__2_int_w__i_ArrivalsAt_1_c h13) h0) ?_
    refine rg G (rg G ?_)
    obtain ⟨u, h14, hm⟩ := obind hm
    refine rs G (hK h14 h0) ?_
    refine rg G (cd hm (fun hm => ?_) (fun hm => ?_))
    ·refine rg G ?_
     obtain ⟨r14, h15, hm⟩ := obind hm
     refine rs G (hC 5 (slices_pdqsortCmpFunc__2_int_w__i_ArrivalsAt_1_cR h15) h0) ?_
     exact rh G (ibN (wL G hm))
    ·refine rg G ?_
     obtain ⟨r15, h16, hm⟩ := obind hm
     refine rs G (hC 6 (slices_pdqsortCmpFunc__2_int_w__i_ArrivalsAt_1_cR h16) h0) ?_
     exact rh G (ibN (wL G hm))
theorem slices_pdqsortCmpFunc__2_int_w__i_ArrivalsAt_1_okn : ∀ k, FnOK Try.prog 122 (slices_pdqsortCmpFunc__2_int_w__i_ArrivalsAt_1_MR (slices_pdqsortCmpFunc__2_int_w__i_ArrivalsAt_1_k k)).S
 | 0 => ⟨fun args w => Try.call122 args w, fun vs w F ds obs κ hp => by obtain ⟨x, y, _, _, h⟩ := hp; cases h⟩
 | k + 1 => slices_pdqsortCmpFunc__2_int_w__i_ArrivalsAt_1_okF (slices_pdqsortCmpFunc__2_int_w__i_ArrivalsAt_1_okn k)
theorem slices_pdqsortCmpFunc__2_int_w__i_ArrivalsAt_1_ok : FnOK Try.prog 122 slices_pdqsortCmpFunc__2_int_w__i_ArrivalsAt_1_M.S := slices_pdqsortCmpFunc__2_int_w__i_ArrivalsAt_1_okn 4294967296
noncomputable def slices_SortFunc__2_int_w__i_ArrivalsAt_1_M : MS ((List A2_Int)) ((List A2_Int)) := ⟨⟨[.sl, .fn 70 []], fun x => [.sc undef, .agg []], fun x => [arO 117 x], 1, 1, fun _ => rfl, fun _ => rfl, rfl, (by
  rintro a0 b0 h hO
  have q0 : a0 = b0 := Enc.inj _ _ (congrArg (fun l => D.sl 2 (obL l 0)) hO)
  subst q0; rfl)⟩, slices_SortFunc__2_int_w__i_ArrivalsAt_1, fun _ => .tup [], fun _ => [], fun _ y => [arO 117 y]⟩
theorem slices_SortFunc__2_int_w__i_ArrivalsAt_1_c {x y} (hm : slices_SortFunc__2_int_w__i_ArrivalsAt_1 x = some y) : slices_SortFunc__2_int_w__i_ArrivalsAt_1_M.C x y := slices_SortFunc__2_int_w__i_ArrivalsAt_1_M.c x hm
theorem slices_SortFunc__2_int_w__i_ArrivalsAt_1_ok : FnOK Try.prog 69 slices_SortFunc__2_int_w__i_ArrivalsAt_1_M.S := by
 refine fm tt slices_SortFunc__2_int_w__i_ArrivalsAt_1_M [fo math_bits_Len_ok, fo slices_pdqsortCmpFunc__2_int_w__i_ArrivalsAt_1_ok] Try.call69 Try.func69 rfl Try.results69 Try.ntmps69 ?_
 rintro x y cx G hm
 have hm : slices_SortFunc__2_int_w__i_ArrivalsAt_1 x = some y := hm
 unfold slices_SortFunc__2_int_w__i_ArrivalsAt_1 at hm
 refine rs G (hN 1 x h0) ?_
 obtain ⟨r, h, hm⟩ := obind hm
 obtain ⟨r1, h1, hm⟩ := obind hm
 refine re G (hC 4 (math_bits_Len_c h) (hC 6 (slices_pdqsortCmpFunc__2_int_w__i_ArrivalsAt_1_c h1) h0)) ?_
 cases hm
 exact fN [] []
noncomputable def i_ArrivalsAt_M : MS (Timetable × (List TripDelay) × Int × Int × Int) ((List Int) × Bool) := ⟨.x .r (.x .r (.x .r (.x .r .r))), fun x => i_ArrivalsAt x.1 x.2.1 x.2.2.1 x.2.2.2.1 x.2.2.2.2, fun y => .tup [dV y.1, dV y.2], fun _ => [], fun _ _ => []⟩
theorem i_ArrivalsAt_c {t delays stop from_ to y} (hm : i_ArrivalsAt t delays stop from_ to = some y) : i_ArrivalsAt_M.C (t, delays, stop, from_, to) y := i_ArrivalsAt_M.c (t, delays, stop, from_, to) hm
theorem i_ArrivalsAt_ok : FnOK Try.prog 15 i_ArrivalsAt_M.S := by
 refine fm tt i_ArrivalsAt_M [fo i_isBoard_ok, fo i_IsValidTime_ok, fo i_lineOf_ok, fo slices_Index_int_ok, fo i_stopTimes_ok, fo i_delayOf_ok, fo i_within_ok, fo slices_SortFunc__2_int_w__i_ArrivalsAt_1_ok] Try.call15 Try.func15 rfl Try.results15 Try.ntmps15 ?_
 rintro ⟨t, delays, stop, from_, to⟩ y cx G hm
 have hm : i_ArrivalsAt t delays stop from_ to = some y := hm
 unfold i_ArrivalsAt at hm
 refine rg G (Ok_seq ?_)
 obtain ⟨r, h, hm⟩ := obind hm
 refine jn hm (fun v => ⟨[(1, dV delays), (2, dV stop), (3, dV from_), (4, dV to), (5, .ref 16 0), (35, dV v)], [bX 16 [dV t.Network.Stops, dV t.Network.Lines, dV t.Trips]], 48⟩) (fun v hm => ?_) ?_
 ·rcases bf hm with ⟨hb, hm⟩ | ⟨hb, hm⟩
  ·refine re G (hC 4 (i_isBoard_c h) (hO 6 (.b true) (hP hb h0))) ?_
   exact wJ G hm
  ·obtain ⟨r1, h1, hm⟩ := obind hm
   rcases bf hm with ⟨hb1, hm⟩ | ⟨hb1, hm⟩
   ·refine re G (hC 4 (i_isBoard_c h) (hO 6 (.b false) (hP hb (hC 8 (i_IsValidTime_c h1) (hO 11 (.b true) (hP hb1 h0)))))) ?_
    exact wJ G hm
   ·refine re G (hC 4 (i_isBoard_c h) (hO 6 (.b false) (hP hb (hC 8 (i_IsValidTime_c h1) (hO 11 (.b false) (hP hb1 h0)))))) ?_
    exact wJ G hm
 rintro v hm
 refine cd hm (fun hm => ?_) (fun hm => ?_)
 ·refine rg G ?_
  cases hm
  exact rt [] [[.z 1]]
 ·refine X_skip (thN (rg G (Ok_seq (rs G (hN 2 t.Trips h0) ?_))))
  refine tl hm (fun out2 => ⟨[(12, .own 16)], [aX 16 117 out2], 48⟩) (fun out2 hm => ?_) ?_
  ·refine Ok_block (lpP hm (fun (v1, out) => ⟨[(1, dV delays), (2, dV stop), (3, dV from_), (4, dV to), (5, .ref 16 0), (12, .own 32), (37, dV t.Trips), (38, dV (t.Trips.length : Int)), (39, dV v1)], [bX 16 [dV t.Network.Stops, dV t.Network.Lines, dV t.Trips], aX 32 117 out], 64⟩) (Wk_J G.hL ⟨[(1, []), (2, []), (3, []), (4, []), (5, []), (12, [.o 32]), (37, []), (38, []), (39, [])], [(16, 16, [])], [(32, 117, 2, [])], 64⟩ (by kernel_rfl)) ?_)
   rintro ⟨v1, out⟩ r0 hb2 hm
   rw [i_ArrivalsAt_L1] at hm
   refine rg G (Ok_seq (cd hm (fun hm => ?_) (fun hm => ?_)))
   ·refine X_skip (thN (jn hm (fun out1 => ⟨[(1, dV delays), (2, dV stop), (3, dV from_), (4, dV to), (5, .ref 16 0), (12, .own 32), (37, dV t.Trips), (38, dV (t.Trips.length : Int)), (39, dV v1)], [bX 16 [dV t.Network.Stops, dV t.Network.Lines, dV t.Trips], aX 32 117 out1], 64⟩) (fun out1 hm => ?_) ?_))
    ·refine Ok_block ?_
     obtain ⟨e, h2, hm⟩ := obind hm
     refine rs G (hD 0 h2 h0) ?_
     obtain ⟨r2, h3, hm⟩ := obind hm
     obtain ⟨r3, h4, hm⟩ := obind hm
     refine rs G (hC 2 (i_lineOf_c h3) (hC 5 (slices_Index_int_c h4) h0)) ?_
     refine Ok_seq (rg G (cd hm (fun hm => ?_) (fun hm => ?_)))
     ·exact Ok_exit (thE (ibE (wJ G hm)))
     ·refine X_skip (thN ?_)
      obtain ⟨r6, h8, hm⟩ := obind hm
      obtain ⟨e2, h9, hm⟩ := obind hm
      obtain ⟨r7, h10, hm⟩ := obind hm
      refine ds G [] (hC 2 (i_stopTimes_c h8) (hD 4 h9 (hE 5 h9 (hC 9 (i_delayOf_c h10) h0)))) ?_
      obtain ⟨r8, h11, hm⟩ := obind hm
      refine rs G (hC 3 (i_within_c h11) h0) ?_
      refine cd hm (fun hm => ?_) (fun hm => ?_)
      ·obtain ⟨u, h12, hm⟩ := obind hm
       refine re G (hA 6 16 h12 h0) ?_
       exact ibN (wJ G hm)
      ·exact X_skip (ibN (wJ G hm))
    rintro out1 hm
    exact rh G (wL G hm)
   ·exact Ok_exit (thE (thE (ibE (wD G hm hb2))))
  rintro out2 hm s hw
  refine thN (Ok_weak hw ?_)
  obtain ⟨r9, h13, hm⟩ := obind hm
  refine rs G (hC 1 (slices_SortFunc__2_int_w__i_ArrivalsAt_1_c h13) h0) ?_
  refine rg G (Ok_seq (rs G (hN 1 r9 h0) ?_))
  refine tl hm (fun v4 => ⟨[(17, .own 16)], [aX 16 3 v4], 48⟩) (fun v4 hm => ?_) ?_
  ·refine Ok_block (lpP hm (fun (v2, v3) => ⟨[(17, .own 16), (76, .own 32), (77, dV (r9.length : Int)), (78, dV v2)], [aX 16 3 v3, aX 32 117 r9], 64⟩) (Wk_J G.hL ⟨[(17, [.o 16]), (76, []), (77, []), (78, [])], [(32, 16, [])], [(16, 3, 1, [])], 64⟩ (by kernel_rfl)) ?_)
   rintro ⟨v2, v3⟩ r0 hb3 hm
   rw [i_ArrivalsAt_L2] at hm
   refine rg G (Ok_seq (cd hm (fun hm => ?_) (fun hm => ?_)))
   ·refine X_skip (thN (Ok_seq (Ok_block ?_)))
    obtain ⟨e3, h14, hm⟩ := obind hm
    refine rs G (hD 0 h14 (hE 1 h14 h0)) ?_
    obtain ⟨u1, h15, hm⟩ := obind hm
    refine re G (hP (show (0 : Int) ≤ 1 ∧ (1 : Int) < 2 by decide) (hA 4 8 h15 h0)) ?_
    exact ibN (thN (rh G (wL G hm)))
   ·exact Ok_exit (thE (thE (ibE (wD G hm hb3))))
  rintro v4 hm s1 hw1
  refine thN (Ok_weak hw1 ?_)
  refine rg G ?_
  cases hm
  exact rt [] []
noncomputable def s_ArrivalsAt_M : MS (Timetable × (List TripDelay) × Int × Int × Int) ((List Int) × Bool) := ⟨.x .r (.x .r (.x .r (.x .r .r))), fun x => s_ArrivalsAt x.1 x.2.1 x.2.2.1 x.2.2.2.1 x.2.2.2.2, fun y => .tup [.own 0, dV y.2], fun y => [arO 3 y.1], fun _ _ => []⟩
theorem s_ArrivalsAt_c {t delays stop from_ to y} (hm : s_ArrivalsAt t delays stop from_ to = some y) : s_ArrivalsAt_M.C (t, delays, stop, from_, to) y := s_ArrivalsAt_M.c (t, delays, stop, from_, to) hm
theorem s_ArrivalsAt_ok : FnOK Try.prog 16 s_ArrivalsAt_M.S := by
 refine fm tt s_ArrivalsAt_M [fo s_l23Asked_ok, fo s_l4Time_ok, fo s_l5Line_ok, fo s_l2Place_ok, fo s_l5At_ok, fo s_l23Delay_ok, fo s_l1In_ok] Try.call16 Try.func16 rfl Try.results16 Try.ntmps16 ?_
 rintro ⟨t, delays, stop, from_, to⟩ y cx G hm
 have hm : s_ArrivalsAt t delays stop from_ to = some y := hm
 unfold s_ArrivalsAt at hm
 refine rg G (rg G (Ok_seq ?_))
 obtain ⟨r, h, hm⟩ := obind hm
 refine jn hm (fun v => ⟨[(1, dV delays), (2, dV stop), (3, dV from_), (4, dV to), (5, .ref 16 0), (12, .own 32), (13, .own 48), (39, dV v)], [bX 16 [dV t.Network.Stops, dV t.Network.Lines, dV t.Trips], aX 32 3 ([] : List Int), aX 48 3 ([] : List Int)], 80⟩) (fun v hm => ?_) ?_
 ·rcases bf hm with ⟨hb, hm⟩ | ⟨hb, hm⟩
  ·refine re G (hC 3 (s_l23Asked_c h) (hO 5 (.b true) (hP hb h0))) ?_
   exact wJ G hm
  ·obtain ⟨r1, h1, hm⟩ := obind hm
   rcases bf hm with ⟨hb1, hm⟩ | ⟨hb1, hm⟩
   ·refine re G (hC 3 (s_l23Asked_c h) (hO 5 (.b false) (hP hb (hC 7 (s_l4Time_c h1) (hO 10 (.b true) (hP hb1 h0)))))) ?_
    exact wJ G hm
   ·obtain ⟨r2, h2, hm⟩ := obind hm
    rcases bf hm with ⟨hb2, hm⟩ | ⟨hb2, hm⟩
    ·refine re G (hC 3 (s_l23Asked_c h) (hO 5 (.b false) (hP hb (hC 7 (s_l4Time_c h1) (hO 10 (.b false) (hP hb1 (hC 12 (s_l4Time_c h2) (hO 15 (.b true) (hP hb2 h0))))))))) ?_
     exact wJ G hm
    ·refine re G (hC 3 (s_l23Asked_c h) (hO 5 (.b false) (hP hb (hC 7 (s_l4Time_c h1) (hO 10 (.b false) (hP hb1 (hC 12 (s_l4Time_c h2) (hO 15 (.b false) (hP hb2 h0))))))))) ?_
     exact wJ G hm
 rintro v hm
 refine cd hm (fun hm => ?_) (fun hm => ?_)
 ·refine rg G ?_
  cases hm
  exact rt [32] []
 ·refine X_skip (thN (Ok_seq (rg G (tl hm (fun m2 => ⟨[(12, .own 16)], [aX 16 3 m2], 48⟩) (fun m2 hm => ?_) ?_))))
  ·refine Ok_block (lp G hm (fun (v1, m, v2) => ⟨[(1, dV delays), (2, dV stop), (3, dV from_), (4, dV to), (5, .ref 16 0), (12, .own 32), (13, .own 48), (14, dV v1)], [bX 16 [dV t.Network.Stops, dV t.Network.Lines, dV t.Trips], aX 32 3 m, aX 48 3 v2], 80⟩) ?_)
   rintro ⟨v1, m, v2⟩ r0 hb3 hm
   rw [s_ArrivalsAt_L2] at hm
   refine Ok_seq (rs G (hN 3 t.Trips h0) ?_)
   refine cd hm (fun hm => ?_) (fun hm => ?_)
   ·refine X_skip (thN (jn hm (fun (m1, v3) => ⟨[(1, dV delays), (2, dV stop), (3, dV from_), (4, dV to), (5, .ref 16 0), (12, .own 32), (13, .own 48), (14, dV v1)], [bX 16 [dV t.Network.Stops, dV t.Network.Lines, dV t.Trips], aX 32 3 m1, aX 48 3 v3], 80⟩) (fun vv hm => ?_) ?_))
    ·refine Ok_block ?_
     obtain ⟨r3, h3, hm⟩ := obind hm
     obtain ⟨r4, h4, hm⟩ := obind hm
     refine rs G (hC 2 (s_l5Line_c h3) (hC 4 (s_l2Place_c h4) h0)) ?_
     refine Ok_seq (rg G (cd hm (fun hm => ?_) (fun hm => ?_)))
     ·exact Ok_exit (thE (ibE (wJ G hm)))
     ·refine X_skip (thN ?_)
      obtain ⟨r7, h8, hm⟩ := obind hm
      obtain ⟨e1, h9, hm⟩ := obind hm
      obtain ⟨r8, h10, hm⟩ := obind hm
      refine ds G [] (hC 3 (s_l5At_c h8) (hD 8 h9 (hC 11 (s_l23Delay_c h10) h0))) ?_
      refine Ok_seq ?_
      obtain ⟨r9, h11, hm⟩ := obind hm
      refine rs G (hC 3 (s_l1In_c h11) h0) ?_
      refine cd hm (fun hm => ?_) (fun hm => ?_)
      ·exact Ok_exit (thE (ibE (wJ G hm)))
      ·refine X_skip (thN (rs G (hN 1 m h0) ?_))
       refine jn hm (fun v6 => ⟨[(1, dV delays), (2, dV stop), (3, dV from_), (4, dV to), (5, .ref 16 0), (12, .own 32), (13, .own 48), (14, dV v1), (16, dV (w64 (r7 + r8))), (17, dV v6)], [bX 16 [dV t.Network.Stops, dV t.Network.Lines, dV t.Trips], aX 32 3 m, aX 48 3 v2], 80⟩) (fun v6 hm => ?_) ?_
       ·refine Ok_block (lp G hm (fun v4 => ⟨[(1, dV delays), (2, dV stop), (3, dV from_), (4, dV to), (5, .ref 16 0), (12, .own 32), (13, .own 48), (14, dV v1), (16, dV (w64 (r7 + r8))), (17, dV v4)], [bX 16 [dV t.Network.Stops, dV t.Network.Lines, dV t.Trips], aX 32 3 m, aX 48 3 v2], 80⟩) ?_)
        rintro v4 r0 hb4 hm
        rw [s_ArrivalsAt_L1] at hm
        refine Ok_seq (jn hm (fun v5 => ⟨[(1, dV delays), (2, dV stop), (3, dV from_), (4, dV to), (5, .ref 16 0), (12, .own 32), (13, .own 48), (14, dV v1), (16, dV (w64 (r7 + r8))), (17, dV v4), (85, dV v5)], [bX 16 [dV t.Network.Stops, dV t.Network.Lines, dV t.Trips], aX 32 3 m, aX 48 3 v2], 80⟩) (fun v5 hm => ?_) ?_)
        ·rcases bf hm with ⟨hb5, hm⟩ | ⟨hb5, hm⟩
         ·obtain ⟨e2, h12, hm⟩ := obind hm
          refine re G (hO 2 (.b true) (hP hb5 (hD 6 h12 (hE 7 h12 h0)))) ?_
          exact wJ G hm
         ·refine re G (hO 2 (.b false) (hP hb5 h0)) ?_
          exact wJ G hm
        rintro v5 hm
        refine cd hm (fun hm => ?_) (fun hm => ?_)
        ·exact X_skip (thN (Ok_block (rh G (ibN (wL G hm)))))
        ·exact Ok_exit (thE (thE (ibE (wD G hm hb4))))
       rintro v6 hm
       refine Ok_weak (Wk_J (x' := (⟨[(1, dV delays), (2, dV stop), (3, dV from_), (4, dV to), (5, .ref 16 0), (12, dV m), (13, .own 32), (14, dV v1), (16, dV (w64 (r7 + r8))), (17, dV v6)], [bX 16 [dV t.Network.Stops, dV t.Network.Lines, dV t.Trips], aX 32 3 v2], 64⟩ : X)) G.hL ⟨[(1, []), (2, []), (3, []), (4, []), (5, []), (12, []), (13, []), (14, []), (16, []), (17, [])], [(16, 16, []), (32, 48, [])], [], 64⟩ (by kernel_rfl)) ?_
       obtain ⟨u5, h19, hm⟩ := obind hm
       obtain ⟨u6, h20, hm⟩ := obind hm
       obtain ⟨e4, h21, hm⟩ := obind hm
       obtain ⟨u7, h22, hm⟩ := obind hm
       obtain ⟨u8, h23, hm⟩ := obind hm
       obtain ⟨u9, h24, hm⟩ := obind hm
       refine ds G [(3, []), (4, [64]), (12, [128, 240]), (15, []), (16, [256])] (hU 3 h19 (hA 4 8 h20 (hD 8 h21 (hA 12 8 h22 (hV 15 h23 (hA 16 8 h24 h0)))))) ?_
       refine Ok_weak (Wk_J (x' := (⟨[(1, dV delays), (2, dV stop), (3, dV from_), (4, dV to), (5, .ref 16 0), (12, .own 32), (13, dV v2), (14, dV v1), (16, dV (w64 (r7 + r8))), (17, dV v6)], [bX 16 [dV t.Network.Stops, dV t.Network.Lines, dV t.Trips], aX 32 3 (((([] : List Int) ++ ((m.take v6.toNat).drop (0 : Int).toNat)) ++ ([e4.Id] : List Int)) ++ (m.drop v6.toNat))], 64⟩ : X)) G.hL ⟨[(1, []), (2, []), (3, []), (4, []), (5, []), (12, []), (13, []), (14, []), (16, []), (17, [])], [(16, 16, []), (32, 320, [])], [], 64⟩ (by kernel_rfl)) ?_
       obtain ⟨u15, h30, hm⟩ := obind hm
       obtain ⟨u16, h31, hm⟩ := obind hm
       obtain ⟨u17, h32, hm⟩ := obind hm
       obtain ⟨u18, h33, hm⟩ := obind hm
       obtain ⟨u19, h34, hm⟩ := obind hm
       refine de G [(3, []), (4, [64]), (7, [128, 160]), (10, []), (11, [176])] (hU 3 h30 (hA 4 8 h31 (hA 7 8 h32 (hV 10 h33 (hA 11 8 h34 h0))))) ?_
       exact ibN (wJ G hm)
    rintro ⟨m1, v3⟩ hm
    exact rh G (wL G hm)
   ·exact Ok_exit (thE (thE (ibE (wD G hm hb3))))
  rintro m2 hm s hw
  refine thN (Ok_weak hw ?_)
  refine rg G ?_
  cases hm
  exact rt [16] []
noncomputable def v_FnTripDelays_M : MS ((List UInt8)) Bool := ⟨.r, v_FnTripDelays, fun y => dV y, fun _ => [], fun _ _ => []⟩
theorem v_FnTripDelays_c {code y} (hm : v_FnTripDelays code = some y) : v_FnTripDelays_M.C code y := v_FnTripDelays_M.c code hm
theorem v_FnTripDelays_ok : FnOK Try.prog 3 v_FnTripDelays_M.S := by
 refine fm tt v_FnTripDelays_M [fo v_rBig_ok, fo s_DrawDelayTrip_ok, fo i_DelayTrip_ok, fo s_DelayTrip_ok, fo s_DrawOvertakings_ok, fo i_Overtakings_ok, fo s_Overtakings_ok, fo v_rTable_ok, fo s_DrawArrivalsAt_ok, fo i_ArrivalsAt_ok, fo s_ArrivalsAt_ok, fo v_rInts_ok] Try.call3 Try.func3 rfl Try.results3 Try.ntmps3 ?_
 rintro code y cx G hm
 have hm : v_FnTripDelays code = some y := hm
 unfold v_FnTripDelays at hm
 refine rg G (Ok_seq ?_)
 obtain ⟨r, h, hm⟩ := obind hm
 refine rs G (hC 1 (v_rBig_c h) h0) ?_
 refine cd hm (fun hm => ?_) (fun hm => ?_)
 ·refine rg G ?_
  cases hm
  exact rt [] []
 ·refine X_skip (thN ?_)
  obtain ⟨r1, h1, hm⟩ := obind hm
  refine rs G (hC 1 (s_DrawDelayTrip_c h1) h0) ?_
  obtain ⟨r2, h2, hm⟩ := obind hm
  refine rs G (hO 4 (.fz [80] [] []) (hC 4 (i_DelayTrip_c h2) h0)) ?_
  obtain ⟨r3, h3, hm⟩ := obind hm
  refine rs G (hC 4 (s_DelayTrip_c h3) h0) ?_
  refine Ok_seq (jn hm (fun v => ⟨[(0, dV code), (3, .ref 16 0), (4, dV r1.2.1), (5, dV r1.2.2.1), (6, dV r1.2.2.2), (7, dV r2.1), (8, dV r2.2), (9, .own 32), (69, dV v)], [bX 16 [dV r1.1.Network.Stops, dV r1.1.Network.Lines, dV r1.1.Trips], aX 32 37 r3.1], 64⟩) (fun v hm => ?_) ?_)
  ·rcases bf hm with ⟨hb, hm⟩ | ⟨hb, hm⟩
   ·refine re G (hO 3 (.b true) (hP hb h0)) ?_
    exact wJ G hm
   ·refine re G (hO 3 (.b false) (hP hb (hN 5 r2.1 (hN 7 r3.1 h0)))) ?_
    exact wJ G hm
  rintro v hm
  refine cd hm (fun hm => ?_) (fun hm => ?_)
  ·refine rg G ?_
   cases hm
   exact rt [] []
  ·refine X_skip (thN (Ok_seq (rg G (tF hm (fun _ => ⟨[(0, dV code), (3, .ref 16 0), (4, dV r1.2.1), (5, dV r1.2.2.1), (6, dV r1.2.2.2), (7, dV r2.1), (8, dV r2.2)], [bX 16 [dV r1.1.Network.Stops, dV r1.1.Network.Lines, dV r1.1.Trips]], 48⟩) (fun v6 hr hm => ?_) ?_))))
   ·refine Ok_block (lp G hm (fun back => ⟨[(0, dV code), (3, .ref 16 0), (4, dV r1.2.1), (5, dV r1.2.2.1), (6, dV r1.2.2.2), (7, dV r2.1), (8, dV r2.2), (9, .own 32), (11, dV back)], [bX 16 [dV r1.1.Network.Stops, dV r1.1.Network.Lines, dV r1.1.Trips], aX 32 37 r3.1], 64⟩) ?_)
    rintro back r0 hb1 hm
    rw [v_FnTripDelays_L1] at hm
    refine Ok_seq (rs G (hN 2 r2.1 h0) ?_)
    refine cd hm (fun hm => ?_) (fun hm => ?_)
    ·refine X_skip (thN (Ok_seq (Ok_block ?_)))
     obtain ⟨e2, h6, hm⟩ := obind hm
     obtain ⟨e3, h7, hm⟩ := obind hm
     refine ds G [] (hD 2 h6 (hD 6 h7 (hE 7 h7 h0))) ?_
     refine cd hm (fun hm => ?_) (fun hm => ?_)
     ·refine rg G ?_
      have hm := eL hm hb1 hr
      cases hm
      exact rt [] []
     ·exact X_skip (ibN (thN (rh G (wL G hm))))
    ·exact Ok_exit (thE (thE (ibE (wE G hm hb1))))
   rintro ⟨⟩ hm s hw
   refine thN (Ok_weak hw ?_)
   refine jF hm (fun _ => ⟨[(0, dV code)], [], 32⟩) (fun v5 hr1 hm => ?_) ?_
   ·refine rg G (cd hm (fun hm => ?_) (fun hm => ?_))
    ·obtain ⟨r5, h8, hm⟩ := obind hm
     refine rs G (hC 5 (i_DelayTrip_c h8) h0) ?_
     obtain ⟨r6, h9, hm⟩ := obind hm
     refine rs G (hC 3 (i_DelayTrip_c h9) h0) ?_
     refine Ok_seq (jn hm (fun v1 => ⟨[(0, dV code), (12, dV r5.1), (14, dV r6.1), (114, dV v1)], [], 32⟩) (fun v1 hm => ?_) ?_)
     ·rcases bf hm with ⟨hb2, hm⟩ | ⟨hb2, hm⟩
      ·refine re G (hO 2 (.b true) (hP hb2 h0)) ?_
       exact wJ G hm
      ·rcases bf hm with ⟨hb3, hm⟩ | ⟨hb3, hm⟩
       ·refine re G (hO 2 (.b false) (hP hb2 (hO 6 (.b true) (hP hb3 h0)))) ?_
        exact wJ G hm
       ·refine re G (hO 2 (.b false) (hP hb2 (hO 6 (.b false) (hP hb3 (hN 8 r5.1 (hN 10 r6.1 h0)))))) ?_
        exact wJ G hm
     rintro v1 hm
     refine cd hm (fun hm => ?_) (fun hm => ?_)
     ·refine rg G ?_
      have hm := eR hm hr1
      cases hm
      exact rt [] []
     ·refine X_skip (thN (rg G (tF hm (fun _ => ⟨[(0, dV code)], [], 32⟩) (fun v2 hr2 hm => ?_) ?_)))
      ·refine Ok_block (lp G hm (fun u => ⟨[(0, dV code), (12, dV r5.1), (14, dV r6.1), (16, dV u)], [], 32⟩) ?_)
       rintro u r0 hb4 hm
       rw [v_FnTripDelays_L2] at hm
       refine Ok_seq (rs G (hN 2 r5.1 h0) ?_)
       refine cd hm (fun hm => ?_) (fun hm => ?_)
       ·refine X_skip (thN (Ok_seq (Ok_block ?_)))
        obtain ⟨e8, h12, hm⟩ := obind hm
        obtain ⟨e9, h13, hm⟩ := obind hm
        refine ds G [] (hD 2 h12 (hD 6 h13 h0)) ?_
        refine cd hm (fun hm => ?_) (fun hm => ?_)
        ·refine rg G ?_
         have hm := eL hm hb4 hr2
         have hm := eR hm hr1
         cases hm
         exact rt [] []
        ·exact X_skip (ibN (thN (rh G (wL G hm))))
       ·exact Ok_exit (thE (thE (ibE (wE G hm hb4))))
      rintro ⟨⟩ hm s1 hw1
      exact wFp hm (Wk.trans hw1 (Wk_J G.hL ⟨[(0, [])], [], [], 32⟩ (by kernel_rfl)))
    ·exact X_skip (wF G hm)
   rintro ⟨⟩ hm
   obtain ⟨r10, h14, hm⟩ := obind hm
   refine rs G (hC 1 (s_DrawOvertakings_c h14) h0) ?_
   obtain ⟨r11, h15, hm⟩ := obind hm
   refine rs G (hO 3 (.fz [48] [] []) (hC 3 (i_Overtakings_c h15) h0)) ?_
   refine Ok_seq ?_
   obtain ⟨r12, h16, hm⟩ := obind hm
   refine rs G (hC 3 (s_Overtakings_c h16) h0) ?_
   refine jn hm (fun v3 => ⟨[(0, dV code), (17, .ref 16 0), (19, dV r10.2.2), (158, dV v3)], [bX 16 [dV r10.1.Network.Stops, dV r10.1.Network.Lines, dV r10.1.Trips]], 48⟩) (fun v3 hm => ?_) ?_
   ·rcases bf hm with ⟨hb5, hm⟩ | ⟨hb5, hm⟩
    ·refine re G (hO 3 (.b true) (hP hb5 h0)) ?_
     exact wJ G hm
    ·obtain ⟨r13, h17, hm⟩ := obind hm
     refine re G (hO 3 (.b false) (hP hb5 (hC 6 (v_rTable_c h17) h0))) ?_
     exact wJ G hm
   rintro v3 hm
   refine cd hm (fun hm => ?_) (fun hm => ?_)
   ·refine rg G ?_
    cases hm
    exact rt [] []
   ·refine X_skip (thN (Ok_seq ?_))
    obtain ⟨r14, h18, hm⟩ := obind hm
    refine rs G (hC 2 (i_Overtakings_c h18) h0) ?_
    refine jn hm (fun v4 => ⟨[(0, dV code), (170, dV v4)], [], 32⟩) (fun v4 hm => ?_) ?_
    ·rcases bf hm with ⟨hb6, hm⟩ | ⟨hb6, hm⟩
     ·refine re G (hO 1 (.b true) (hP hb6 (hN 3 r14.1 h0))) ?_
      exact wJ G hm
     ·refine re G (hO 1 (.b false) (hP hb6 h0)) ?_
      exact wJ G hm
    rintro v4 hm
    refine cd hm (fun hm => ?_) (fun hm => ?_)
    ·refine rg G ?_
     cases hm
     exact rt [] []
    ·refine X_skip (thN ?_)
     obtain ⟨r15, h19, hm⟩ := obind hm
     refine rs G (hC 1 (s_DrawArrivalsAt_c h19) h0) ?_
     obtain ⟨r16, h20, hm⟩ := obind hm
     refine rs G (hO 5 (.fz [48] [] []) (hC 5 (i_ArrivalsAt_c h20) h0)) ?_
     obtain ⟨r17, h21, hm⟩ := obind hm
     refine rs G (hC 5 (s_ArrivalsAt_c h21) h0) ?_
     refine jn hm (fun t => ⟨[(2, dV t)], [], 32⟩) (fun t hm => ?_) ?_
     ·rcases bf hm with ⟨hb7, hm⟩ | ⟨hb7, hm⟩
      ·obtain ⟨r18, h22, hm⟩ := obind hm
       refine re G (hO 3 (.b true) (hP hb7 (hC 6 (v_rInts_c h22) h0))) ?_
       exact wJ G hm
      ·refine re G (hO 3 (.b false) (hP hb7 h0)) ?_
       exact wJ G hm
     rintro t hm
     cases hm
     exact rt [] []
end Go.Proofs.Ytjljkjbdkjjdcaa
