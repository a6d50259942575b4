/- Each function computes what its model says. Made by program (dec.py). -/
import Derived.Test.YtaegkodcjpgndaaGreatMaW1
namespace Go.Proofs.YtaegkodcjpgndaaGreat
open Go Go.Ab
set_option maxRecDepth 100000
set_option maxHeartbeats 4000000
set_option linter.unusedVariables false
set_option linter.unusedSimpArgs false
noncomputable def zq133_M : MS ((List Match) × Int × Int × Int) (Int × (List Match)) := ⟨⟨[.sl, .rd, .rd, .rd, .fn 184 []], fun x => [.sc undef, Enc.e x.2.1, Enc.e x.2.2.1, Enc.e x.2.2.2, .agg []], fun x => [arO 74 x.1], 1, 1, fun _ => rfl, fun _ => rfl, rfl, (by
  rintro ⟨a0, a1, a2, a3⟩ ⟨b0, b1, b2, b3⟩ h hO
  have q0 : a0 = b0 := Enc.inj _ _ (congrArg (fun l => D.sl 3 (obL l 0)) hO)
  have q1 : a1 = b1 := qI 1 h
  have q2 : a2 = b2 := qI 2 h
  have q3 : a3 = b3 := qI 3 h
  subst q0; subst q1; subst q2; subst q3; rfl)⟩, fun x => zq133 x.1 x.2.1 x.2.2.1 x.2.2.2, fun y => dV y.1, fun _ => [], fun _ y => [arO 74 y.2]⟩
theorem zq133_c {data a b pivot y} (hm : zq133 data a b pivot = some y) : zq133_M.C (data, a, b, pivot) y := zq133_M.c (data, a, b, pivot) hm
theorem zq133_ok : FnOK Tryz.prog 244 zq133_M.S := by
 refine fm tt zq133_M [fo zq28_ok] Tryz.call244 Tryz.func244 rfl Tryz.results244 Tryz.ntmps244 ?_
 rintro ⟨data, a, b, pivot⟩ y cx G hm
 have hm : zq133 data a b pivot = some y := hm
 obtain ⟨cmp, hf_cmp⟩ : ∃ q, (fun (z0 : Match) (z1 : Match) => zq28 z0 z1) = q := ⟨_, rfl⟩
 have hm : zq132 data a b pivot cmp = some y := by rw [← hf_cmp]; exact hm
 unfold zq132 at hm
 refine rg G ?_
 obtain ⟨e4, h4, hm⟩ := obind hm
 obtain ⟨e5, h5, hm⟩ := obind hm
 obtain ⟨e6, h6, hm⟩ := obind hm
 obtain ⟨e7, h7, hm⟩ := obind hm
 refine ds G [(13, [0]), (15, [0])] (hD 6 h4 (hE 7 h4 (hD 10 h5 (hE 11 h5 (hD 12 h6 (hS 13 h6 e4 (hD 14 h7 (hS 15 h7 e5 h0)))))))) ?_
 refine rg G (jn hm (fun (v8, data2) => ⟨[(0, .own 0), (4, .fn 184 []), (11, dV v8)], [aX 0 74 data2], 48⟩) (fun vv hm => ?_) ?_)
 ·refine Ok_block (lp G hm (fun (v, v1, data1) => ⟨[(0, .own 0), (1, dV a), (4, .fn 184 []), (11, dV v), (12, dV v1)], [aX 0 74 data1], 48⟩) ?_)
  rintro ⟨v, v1, data1⟩ r0 hb hm
  rw [zq132_L3] at hm
  refine Ok_block (jn hm (fun v4 => ⟨[(0, .own 0), (1, dV a), (4, .fn 184 []), (11, dV v4), (12, dV v1)], [aX 0 74 data1], 48⟩) (fun v4 hm => ?_) ?_)
  ·refine Ok_block (lp G hm (fun v2 => ⟨[(0, .own 0), (1, dV a), (4, .fn 184 []), (11, dV v2), (12, dV v1)], [aX 0 74 data1], 48⟩) ?_)
   rintro v2 r0 hb1 hm
   rw [zq132_L1] at hm
   refine Ok_seq (jn hm (fun v3 => ⟨[(0, .own 0), (1, dV a), (4, .fn 184 []), (11, dV v2), (12, dV v1), (47, dV v3)], [aX 0 74 data1], 48⟩) (fun v3 hm => ?_) ?_)
   ·rcases bf hm with ⟨hb2, hm⟩ | ⟨hb2, hm⟩
    ·obtain ⟨e10, h11, hm⟩ := obind hm
     obtain ⟨e11, h12, hm⟩ := obind hm
     obtain ⟨r1, h13, hm⟩ := obind hm
     have h13 : zq28 e10 e11 = some r1 := by rw [← hf_cmp] at h13; exact h13
     refine de G [(13, [])] (hO 3 (.b true) (hP hb2 (hD 7 h11 (hE 8 h11 (hD 11 h12 (hE 12 h12 (hC 13 (zq28_c h13) h0))))))) ?_
     exact wJ G hm
    ·refine de G [(13, [])] (hO 3 (.b false) (hP hb2 h0)) ?_
     exact wJ G hm
   rintro v3 hm
   refine cd hm (fun hm => ?_) (fun hm => ?_)
   ·exact X_skip (thN (Ok_block (rh G (ibN (wL G hm)))))
   ·exact Ok_exit (thE (thE (ibE (wD G hm hb1))))
  rintro v4 hm
  refine jn hm (fun v7 => ⟨[(0, .own 0), (1, dV a), (4, .fn 184 []), (11, dV v4), (12, dV v7)], [aX 0 74 data1], 48⟩) (fun v7 hm => ?_) ?_
  ·refine Ok_block (lp G hm (fun v5 => ⟨[(0, .own 0), (1, dV a), (4, .fn 184 []), (11, dV v4), (12, dV v5)], [aX 0 74 data1], 48⟩) ?_)
   rintro v5 r0 hb3 hm
   rw [zq132_L2] at hm
   refine Ok_seq (jn hm (fun v6 => ⟨[(0, .own 0), (1, dV a), (4, .fn 184 []), (11, dV v4), (12, dV v5), (65, dV v6)], [aX 0 74 data1], 48⟩) (fun v6 hm => ?_) ?_)
   ·rcases bf hm with ⟨hb4, hm⟩ | ⟨hb4, hm⟩
    ·obtain ⟨e14, h17, hm⟩ := obind hm
     obtain ⟨e15, h18, hm⟩ := obind hm
     obtain ⟨r3, h19, hm⟩ := obind hm
     have h19 : zq28 e14 e15 = some r3 := by rw [← hf_cmp] at h19; exact h19
     refine de G [(13, [])] (hO 3 (.b true) (hP hb4 (hD 7 h17 (hE 8 h17 (hD 11 h18 (hE 12 h18 (hC 13 (zq28_c h19) h0))))))) ?_
     exact wJ G hm
    ·refine de G [(13, [])] (hO 3 (.b false) (hP hb4 h0)) ?_
     exact wJ G hm
   rintro v6 hm
   refine cd hm (fun hm => ?_) (fun hm => ?_)
   ·exact X_skip (thN (Ok_block (rh G (ibN (wL G hm)))))
   ·exact Ok_exit (thE (thE (ibE (wD G hm hb3))))
  rintro v7 hm
  refine Ok_seq (rg G (cd hm (fun hm => ?_) (fun hm => ?_)))
  ·exact Ok_exit (thE (ibX rfl (thE (ibE (wD G hm hb)))))
  ·refine X_skip (thN ?_)
   obtain ⟨e20, h24, hm⟩ := obind hm
   obtain ⟨e21, h25, hm⟩ := obind hm
   obtain ⟨e22, h26, hm⟩ := obind hm
   obtain ⟨e23, h27, hm⟩ := obind hm
   refine ds G [(13, [0]), (15, [0])] (hD 6 h24 (hE 7 h24 (hD 10 h25 (hE 11 h25 (hD 12 h26 (hS 13 h26 e20 (hD 14 h27 (hS 15 h27 e21 h0)))))))) ?_
   exact rg G (rh G (ibN (wL G hm)))
 rintro ⟨v8, data2⟩ hm
 refine rg G ?_
 cases hm
 exact rt [] []
noncomputable def zq130_M : MS ((List Match) × Int × Int × Int) (Int × Bool × (List Match)) := ⟨⟨[.sl, .rd, .rd, .rd, .fn 184 []], fun x => [.sc undef, Enc.e x.2.1, Enc.e x.2.2.1, Enc.e x.2.2.2, .agg []], fun x => [arO 74 x.1], 1, 1, fun _ => rfl, fun _ => rfl, rfl, (by
  rintro ⟨a0, a1, a2, a3⟩ ⟨b0, b1, b2, b3⟩ h hO
  have q0 : a0 = b0 := Enc.inj _ _ (congrArg (fun l => D.sl 3 (obL l 0)) hO)
  have q1 : a1 = b1 := qI 1 h
  have q2 : a2 = b2 := qI 2 h
  have q3 : a3 = b3 := qI 3 h
  subst q0; subst q1; subst q2; subst q3; rfl)⟩, fun x => zq130 x.1 x.2.1 x.2.2.1 x.2.2.2, fun y => .tup [dV y.1, dV y.2.1], fun _ => [], fun _ y => [arO 74 y.2.2]⟩
theorem zq130_c {data a b pivot y} (hm : zq130 data a b pivot = some y) : zq130_M.C (data, a, b, pivot) y := zq130_M.c (data, a, b, pivot) hm
theorem zq130_ok : FnOK Tryz.prog 245 zq130_M.S := by
 refine fm tt zq130_M [fo zq28_ok] Tryz.call245 Tryz.func245 rfl Tryz.results245 Tryz.ntmps245 ?_
 rintro ⟨data, a, b, pivot⟩ y cx G hm
 have hm : zq130 data a b pivot = some y := hm
 obtain ⟨cmp, hf_cmp⟩ : ∃ q, (fun (z0 : Match) (z1 : Match) => zq28 z0 z1) = q := ⟨_, rfl⟩
 have hm : zq129 data a b pivot cmp = some y := by rw [← hf_cmp]; exact hm
 unfold zq129 at hm
 refine rg G ?_
 obtain ⟨e4, h4, hm⟩ := obind hm
 obtain ⟨e5, h5, hm⟩ := obind hm
 obtain ⟨e6, h6, hm⟩ := obind hm
 obtain ⟨e7, h7, hm⟩ := obind hm
 refine ds G [(13, [0]), (15, [0])] (hD 6 h4 (hE 7 h4 (hD 10 h5 (hE 11 h5 (hD 12 h6 (hS 13 h6 e4 (hD 14 h7 (hS 15 h7 e5 h0)))))))) ?_
 refine rg G (jn hm (fun v2 => ⟨[(0, .own 0), (1, dV a), (4, .fn 184 []), (12, dV v2), (13, dV (w64 (b - 1)))], [aX 0 74 ((data.set a.toNat e4).set pivot.toNat e5)], 48⟩) (fun v2 hm => ?_) ?_)
 ·refine Ok_block (lp G hm (fun v => ⟨[(0, .own 0), (1, dV a), (4, .fn 184 []), (12, dV v), (13, dV (w64 (b - 1)))], [aX 0 74 ((data.set a.toNat e4).set pivot.toNat e5)], 48⟩) ?_)
  rintro v r0 hb hm
  rw [zq129_L1] at hm
  refine Ok_seq (jn hm (fun v1 => ⟨[(0, .own 0), (1, dV a), (4, .fn 184 []), (12, dV v), (13, dV (w64 (b - 1))), (47, dV v1)], [aX 0 74 ((data.set a.toNat e4).set pivot.toNat e5)], 48⟩) (fun v1 hm => ?_) ?_)
  ·rcases bf hm with ⟨hb1, hm⟩ | ⟨hb1, hm⟩
   ·obtain ⟨e10, h11, hm⟩ := obind hm
    obtain ⟨e11, h12, hm⟩ := obind hm
    obtain ⟨r1, h13, hm⟩ := obind hm
    have h13 : zq28 e10 e11 = some r1 := by rw [← hf_cmp] at h13; exact h13
    refine de G [(13, [])] (hO 3 (.b true) (hP hb1 (hD 7 h11 (hE 8 h11 (hD 11 h12 (hE 12 h12 (hC 13 (zq28_c h13) h0))))))) ?_
    exact wJ G hm
   ·refine de G [(13, [])] (hO 3 (.b false) (hP hb1 h0)) ?_
    exact wJ G hm
  rintro v1 hm
  refine cd hm (fun hm => ?_) (fun hm => ?_)
  ·exact X_skip (thN (Ok_block (rh G (ibN (wL G hm)))))
  ·exact Ok_exit (thE (thE (ibE (wD G hm hb))))
 rintro v2 hm
 refine jn hm (fun v5 => ⟨[(0, .own 0), (1, dV a), (4, .fn 184 []), (12, dV v2), (13, dV v5)], [aX 0 74 ((data.set a.toNat e4).set pivot.toNat e5)], 48⟩) (fun v5 hm => ?_) ?_
 ·refine Ok_block (lp G hm (fun v3 => ⟨[(0, .own 0), (1, dV a), (4, .fn 184 []), (12, dV v2), (13, dV v3)], [aX 0 74 ((data.set a.toNat e4).set pivot.toNat e5)], 48⟩) ?_)
  rintro v3 r0 hb2 hm
  rw [zq129_L2] at hm
  refine Ok_seq (jn hm (fun v4 => ⟨[(0, .own 0), (1, dV a), (4, .fn 184 []), (12, dV v2), (13, dV v3), (66, dV v4)], [aX 0 74 ((data.set a.toNat e4).set pivot.toNat e5)], 48⟩) (fun v4 hm => ?_) ?_)
  ·rcases bf hm with ⟨hb3, hm⟩ | ⟨hb3, hm⟩
   ·obtain ⟨e14, h17, hm⟩ := obind hm
    obtain ⟨e15, h18, hm⟩ := obind hm
    obtain ⟨r3, h19, hm⟩ := obind hm
    have h19 : zq28 e14 e15 = some r3 := by rw [← hf_cmp] at h19; exact h19
    refine de G [(13, [])] (hO 3 (.b true) (hP hb3 (hD 7 h17 (hE 8 h17 (hD 11 h18 (hE 12 h18 (hC 13 (zq28_c h19) h0))))))) ?_
    exact wJ G hm
   ·refine de G [(13, [])] (hO 3 (.b false) (hP hb3 h0)) ?_
    exact wJ G hm
  rintro v4 hm
  refine cd hm (fun hm => ?_) (fun hm => ?_)
  ·exact X_skip (thN (Ok_block (rh G (ibN (wL G hm)))))
  ·exact Ok_exit (thE (thE (ibE (wD G hm hb2))))
 rintro v5 hm
 refine Ok_seq (rg G (cd hm (fun hm => ?_) (fun hm => ?_)))
 ·obtain ⟨e20, h24, hm⟩ := obind hm
  obtain ⟨e21, h25, hm⟩ := obind hm
  obtain ⟨e22, h26, hm⟩ := obind hm
  obtain ⟨e23, h27, hm⟩ := obind hm
  refine ds G [(13, [0]), (15, [0])] (hD 6 h24 (hE 7 h24 (hD 10 h25 (hE 11 h25 (hD 12 h26 (hS 13 h26 e20 (hD 14 h27 (hS 15 h27 e21 h0)))))))) ?_
  refine rg G ?_
  cases hm
  exact rt [] []
 ·refine X_skip (thN ?_)
  obtain ⟨e28, h32, hm⟩ := obind hm
  obtain ⟨e29, h33, hm⟩ := obind hm
  obtain ⟨e30, h34, hm⟩ := obind hm
  obtain ⟨e31, h35, hm⟩ := obind hm
  refine ds G [(13, [0]), (15, [0])] (hD 6 h32 (hE 7 h32 (hD 10 h33 (hE 11 h33 (hD 12 h34 (hS 13 h34 e28 (hD 14 h35 (hS 15 h35 e29 h0)))))))) ?_
  refine rg G (rg G (jn hm (fun (v14, data2) => ⟨[(0, .own 0), (1, dV a), (4, .fn 184 []), (13, dV v14)], [aX 0 74 data2], 48⟩) (fun vv hm => ?_) ?_))
  ·refine Ok_block (lp G hm (fun (v6, v7, data1) => ⟨[(0, .own 0), (1, dV a), (4, .fn 184 []), (12, dV v6), (13, dV v7)], [aX 0 74 data1], 48⟩) ?_)
   rintro ⟨v6, v7, data1⟩ r0 hb4 hm
   rw [zq129_L5] at hm
   refine Ok_block (jn hm (fun v10 => ⟨[(0, .own 0), (1, dV a), (4, .fn 184 []), (12, dV v10), (13, dV v7)], [aX 0 74 data1], 48⟩) (fun v10 hm => ?_) ?_)
   ·refine Ok_block (lp G hm (fun v8 => ⟨[(0, .own 0), (1, dV a), (4, .fn 184 []), (12, dV v8), (13, dV v7)], [aX 0 74 data1], 48⟩) ?_)
    rintro v8 r0 hb5 hm
    rw [zq129_L3] at hm
    refine Ok_seq (jn hm (fun v9 => ⟨[(0, .own 0), (1, dV a), (4, .fn 184 []), (12, dV v8), (13, dV v7), (120, dV v9)], [aX 0 74 data1], 48⟩) (fun v9 hm => ?_) ?_)
    ·rcases bf hm with ⟨hb6, hm⟩ | ⟨hb6, hm⟩
     ·obtain ⟨e34, h39, hm⟩ := obind hm
      obtain ⟨e35, h40, hm⟩ := obind hm
      obtain ⟨r5, h41, hm⟩ := obind hm
      have h41 : zq28 e34 e35 = some r5 := by rw [← hf_cmp] at h41; exact h41
      refine de G [(13, [])] (hO 3 (.b true) (hP hb6 (hD 7 h39 (hE 8 h39 (hD 11 h40 (hE 12 h40 (hC 13 (zq28_c h41) h0))))))) ?_
      exact wJ G hm
     ·refine de G [(13, [])] (hO 3 (.b false) (hP hb6 h0)) ?_
      exact wJ G hm
    rintro v9 hm
    refine cd hm (fun hm => ?_) (fun hm => ?_)
    ·exact X_skip (thN (Ok_block (rh G (ibN (wL G hm)))))
    ·exact Ok_exit (thE (thE (ibE (wD G hm hb5))))
   rintro v10 hm
   refine jn hm (fun v13 => ⟨[(0, .own 0), (1, dV a), (4, .fn 184 []), (12, dV v10), (13, dV v13)], [aX 0 74 data1], 48⟩) (fun v13 hm => ?_) ?_
   ·refine Ok_block (lp G hm (fun v11 => ⟨[(0, .own 0), (1, dV a), (4, .fn 184 []), (12, dV v10), (13, dV v11)], [aX 0 74 data1], 48⟩) ?_)
    rintro v11 r0 hb7 hm
    rw [zq129_L4] at hm
    refine Ok_seq (jn hm (fun v12 => ⟨[(0, .own 0), (1, dV a), (4, .fn 184 []), (12, dV v10), (13, dV v11), (139, dV v12)], [aX 0 74 data1], 48⟩) (fun v12 hm => ?_) ?_)
    ·rcases bf hm with ⟨hb8, hm⟩ | ⟨hb8, hm⟩
     ·obtain ⟨e38, h45, hm⟩ := obind hm
      obtain ⟨e39, h46, hm⟩ := obind hm
      obtain ⟨r7, h47, hm⟩ := obind hm
      have h47 : zq28 e38 e39 = some r7 := by rw [← hf_cmp] at h47; exact h47
      refine de G [(13, [])] (hO 3 (.b true) (hP hb8 (hD 7 h45 (hE 8 h45 (hD 11 h46 (hE 12 h46 (hC 13 (zq28_c h47) h0))))))) ?_
      exact wJ G hm
     ·refine de G [(13, [])] (hO 3 (.b false) (hP hb8 h0)) ?_
      exact wJ G hm
    rintro v12 hm
    refine cd hm (fun hm => ?_) (fun hm => ?_)
    ·exact X_skip (thN (Ok_block (rh G (ibN (wL G hm)))))
    ·exact Ok_exit (thE (thE (ibE (wD G hm hb7))))
   rintro v13 hm
   refine Ok_seq (rg G (cd hm (fun hm => ?_) (fun hm => ?_)))
   ·exact Ok_exit (thE (ibX rfl (thE (ibE (wD G hm hb4)))))
   ·refine X_skip (thN ?_)
    obtain ⟨e44, h52, hm⟩ := obind hm
    obtain ⟨e45, h53, hm⟩ := obind hm
    obtain ⟨e46, h54, hm⟩ := obind hm
    obtain ⟨e47, h55, hm⟩ := obind hm
    refine ds G [(13, [0]), (15, [0])] (hD 6 h52 (hE 7 h52 (hD 10 h53 (hE 11 h53 (hD 12 h54 (hS 13 h54 e44 (hD 14 h55 (hS 15 h55 e45 h0)))))))) ?_
    exact rg G (rh G (ibN (wL G hm)))
  rintro ⟨v14, data2⟩ hm
  obtain ⟨e52, h60, hm⟩ := obind hm
  obtain ⟨e53, h61, hm⟩ := obind hm
  obtain ⟨e54, h62, hm⟩ := obind hm
  obtain ⟨e55, h63, hm⟩ := obind hm
  refine ds G [(13, [0]), (15, [0])] (hD 6 h60 (hE 7 h60 (hD 10 h61 (hE 11 h61 (hD 12 h62 (hS 13 h62 e52 (hD 14 h63 (hS 15 h63 e53 h0)))))))) ?_
  refine rg G ?_
  cases hm
  exact rt [] []
noncomputable def zq122_M : MS Int ((IK .u64)) := ⟨.r, zq122, fun y => dV y, fun _ => [], fun _ _ => []⟩
theorem zq122_c {length y} (hm : zq122 length = some y) : zq122_M.C length y := zq122_M.c length hm
theorem zq122_ok : FnOK Tryz.prog 259 zq122_M.S := by
 refine fm tt zq122_M [fo zq33_ok] Tryz.call259 Tryz.func259 rfl Tryz.results259 Tryz.ntmps259 ?_
 rintro length y cx G hm
 have hm : zq122 length = some y := hm
 unfold zq122 at hm
 refine rg G ?_
 obtain ⟨r, h, hm⟩ := obind hm
 obtain ⟨u, h1, hm⟩ := obind hm
 refine rs G (hC 2 (zq33_c h) (hK h1 h0)) ?_
 cases hm
 exact rt [] []
noncomputable def zq149_M : MS ((IK .u64)) ((IK .u64) × (IK .u64)) := ⟨.b, zq149, fun y => dV y.1, fun _ => [], fun _ y => [bxO y.2]⟩
theorem zq149_c {r y} (hm : zq149 r = some y) : zq149_M.C r y := zq149_M.c r hm
theorem zq149_ok : FnOK Tryz.prog 260 zq149_M.S := by
 refine fm tt zq149_M [] Tryz.call260 Tryz.func260 rfl Tryz.results260 Tryz.ntmps260 ?_
 rintro r y cx G hm
 have hm : zq149 r = some y := hm
 unfold zq149 at hm
 refine rg G ?_
 obtain ⟨u1, h1, hm⟩ := obind hm
 refine ds G [(9, [0])] (hK h1 h0) ?_
 obtain ⟨u3, h3, hm⟩ := obind hm
 refine ds G [(9, [0])] (hK h3 h0) ?_
 obtain ⟨u5, h5, hm⟩ := obind hm
 refine ds G [(9, [0])] (hK h5 h0) ?_
 refine rg G ?_
 cases hm
 exact rt [] []
noncomputable def zq104_M : MS ((List Match) × Int × Int) ((List Match)) := ⟨⟨[.sl, .rd, .rd, .fn 184 []], fun x => [.sc undef, Enc.e x.2.1, Enc.e x.2.2, .agg []], fun x => [arO 74 x.1], 1, 1, fun _ => rfl, fun _ => rfl, rfl, (by
  rintro ⟨a0, a1, a2⟩ ⟨b0, b1, b2⟩ h hO
  have q0 : a0 = b0 := Enc.inj _ _ (congrArg (fun l => D.sl 3 (obL l 0)) hO)
  have q1 : a1 = b1 := qI 1 h
  have q2 : a2 = b2 := qI 2 h
  subst q0; subst q1; subst q2; rfl)⟩, fun x => zq104 x.1 x.2.1 x.2.2, fun _ => .tup [], fun _ => [], fun _ y => [arO 74 y]⟩
theorem zq104_c {data a b y} (hm : zq104 data a b = some y) : zq104_M.C (data, a, b) y := zq104_M.c (data, a, b) hm
theorem zq104_ok : FnOK Tryz.prog 240 zq104_M.S := by
 refine fm tt zq104_M [fo zq122_ok, fo zq149_ok] Tryz.call240 Tryz.func240 rfl Tryz.results240 Tryz.ntmps240 ?_
 rintro ⟨data, a, b⟩ y cx G hm
 have hm : zq104 data a b = some y := hm
 obtain ⟨cmp, hf_cmp⟩ : ∃ q, (fun (z0 : Match) (z1 : Match) => zq28 z0 z1) = q := ⟨_, rfl⟩
 have hm : zq103 data a b cmp = some y := by rw [← hf_cmp]; exact hm
 unfold zq103 at hm
 refine rg G (rg G (cd hm (fun hm => ?_) (fun hm => ?_)))
 ·refine rg G ?_
  obtain ⟨r, h, hm⟩ := obind hm
  refine rs G (hC 1 (zq122_c h) h0) ?_
  obtain ⟨u, h1, hm⟩ := obind hm
  refine rs G (hK h1 h0) ?_
  refine Ok_block (lp G hm (fun (v, data1, v1) => ⟨[(0, .own 0), (1, dV a), (3, .fn 184 []), (8, dV (w64 (b - a))), (9, .ref 32 0), (10, kV .u64 r.v), (11, dV v)], [aX 0 74 data1, bX 32 [kV .u64 v1]], 64⟩) ?_)
  rintro ⟨v, data1, v1⟩ r0 hb hm
  rw [zq103_L1] at hm
  refine Ok_seq ?_
  obtain ⟨u1, h2, hm⟩ := obind hm
  refine rs G (hK h2 h0) ?_
  refine cd hm (fun hm => ?_) (fun hm => ?_)
  ·refine X_skip (thN (Ok_seq (Ok_block ?_)))
   obtain ⟨r1, h3, hm⟩ := obind hm
   refine rs G (hC 0 (zq149_c h3) h0) ?_
   refine jn hm (fun v2 => ⟨[(0, .own 0), (1, dV a), (3, .fn 184 []), (8, dV (w64 (b - a))), (9, .ref 32 0), (10, kV .u64 r.v), (11, dV v), (12, dV v2)], [aX 0 74 data1, bX 32 [kV .u64 r1.2.v]], 64⟩) (fun v2 hm => ?_) ?_
   ·refine rg G (cd hm (fun hm => ?_) (fun hm => ?_))
    ·exact rh G (wJ G hm)
    ·exact X_skip (wJ G hm)
   rintro v2 hm
   obtain ⟨e4, h8, hm⟩ := obind hm
   obtain ⟨e5, h9, hm⟩ := obind hm
   obtain ⟨e6, h10, hm⟩ := obind hm
   obtain ⟨e7, h11, hm⟩ := obind hm
   refine de G [(17, [0]), (19, [0])] (hD 10 h8 (hE 11 h8 (hD 14 h9 (hE 15 h9 (hD 16 h10 (hS 17 h10 e4 (hD 18 h11 (hS 19 h11 e5 h0)))))))) ?_
   exact ibN (thN (rh G (wL G hm)))
  ·have hm := eD hm hb
   refine Ok_exit (thE (thE (ibE ?_)))
   cases hm
   exact fN [] []
 ·refine X_skip ?_
  cases hm
  exact fN [] []
noncomputable def zq135_MR (rec_ : (List Match) → Int → Int → Int → Option ((List Match))) : MS ((List Match) × Int × Int × Int) ((List Match)) := ⟨⟨[.sl, .rd, .rd, .rd, .fn 184 []], fun x => [.sc undef, Enc.e x.2.1, Enc.e x.2.2.1, Enc.e x.2.2.2, .agg []], fun x => [arO 74 x.1], 1, 1, fun _ => rfl, fun _ => rfl, rfl, (by
  rintro ⟨a0, a1, a2, a3⟩ ⟨b0, b1, b2, b3⟩ h hO
  have q0 : a0 = b0 := Enc.inj _ _ (congrArg (fun l => D.sl 3 (obL l 0)) hO)
  have q1 : a1 = b1 := qI 1 h
  have q2 : a2 = b2 := qI 2 h
  have q3 : a3 = b3 := qI 3 h
  subst q0; subst q1; subst q2; subst q3; rfl)⟩, fun x => rec_ x.1 x.2.1 x.2.2.1 x.2.2.2, fun _ => .tup [], fun _ => [], fun _ y => [arO 74 y]⟩
noncomputable def zq135_M : MS ((List Match) × Int × Int × Int) ((List Match)) := zq135_MR zq135
theorem zq135_c {data a b limit y} (hm : zq135 data a b limit = some y) : zq135_M.C (data, a, b, limit) y := zq135_M.c (data, a, b, limit) hm
theorem zq135_cR {rec_ : (List Match) → Int → Int → Int → Option ((List Match))} {data a b limit y} (hm : rec_ data a b limit = some y) : (zq135_MR rec_).C (data, a, b, limit) y := (zq135_MR rec_).c (data, a, b, limit) hm
theorem zq135_okF {rec_ : (List Match) → Int → Int → Int → Option ((List Match))} (hrec : FnOK Tryz.prog 224 (zq135_MR rec_).S) : FnOK Tryz.prog 224 (zq135_MR (zq135_F rec_)).S := by
 refine fm tt (zq135_MR (zq135_F rec_)) [fo hrec, fo zq114_ok, fo zq110_ok, fo zq104_ok, fo zq107_ok, fo zq138_ok, fo zq127_ok, fo zq28_ok, fo zq133_ok, fo zq130_ok] Tryz.call224 Tryz.func224 rfl Tryz.results224 Tryz.ntmps224 ?_
 rintro ⟨data, a, b, limit⟩ y cx G hm
 have hm : zq135_F rec_ data a b limit = some y := hm
 unfold zq135_F at hm
 refine rg G (rg G (Ok_block (lp G hm (fun (a1, b1, limit1, mid, mid1, data1) => ⟨[(0, .own 0), (1, dV a1), (2, dV b1), (3, dV limit1), (4, .fn 184 []), (10, dV mid), (11, dV mid1)], [aX 0 74 data1], 48⟩) ?_)))
 rintro ⟨a1, b1, limit1, mid, mid1, data1⟩ r0 hb hm
 rw [zq135_L1] at hm
 refine Ok_block (rg G (Ok_seq (rg G (cd hm (fun hm => ?_) (fun hm => ?_)))))
 ·obtain ⟨r, h, hm⟩ := obind hm
  refine rs G (hC 4 (zq114_c h) h0) ?_
  have hm := eD hm hb
  cases hm
  exact rt [] []
 ·refine X_skip (thN (Ok_seq (rg G (cd hm (fun hm => ?_) (fun hm => ?_)))))
  ·obtain ⟨r2, h1, hm⟩ := obind hm
   refine rs G (hC 4 (zq110_c h1) h0) ?_
   have hm := eD hm hb
   cases hm
   exact rt [] []
  ·refine X_skip (thN (jn hm (fun (limit2, data2) => ⟨[(0, .own 0), (1, dV a1), (2, dV b1), (3, dV limit2), (4, .fn 184 []), (10, dV mid), (11, dV mid1), (12, dV (w64 (b1 - a1)))], [aX 0 74 data2], 48⟩) (fun vv1 hm => ?_) ?_))
   ·refine rg G (cd hm (fun hm => ?_) (fun hm => ?_))
    ·obtain ⟨r4, h2, hm⟩ := obind hm
     refine rs G (hC 4 (zq104_c h2) h0) ?_
     exact rh G (wJ G hm)
    ·exact X_skip (wJ G hm)
   rintro ⟨limit2, data2⟩ hm
   obtain ⟨r5, h3, hm⟩ := obind hm
   refine rs G (hC 4 (zq107_c h3) h0) ?_
   refine jn hm (fun (leftLen, rightLen, data3) => ⟨[(0, .own 0), (1, dV a1), (2, dV b1), (3, dV limit2), (4, .fn 184 []), (10, dV mid), (11, dV mid1), (12, dV (w64 (b1 - a1))), (13, dV leftLen), (14, dV rightLen)], [aX 0 74 data3], 48⟩) (fun vv hm => ?_) ?_
   ·refine rg G (cd hm (fun hm => ?_) (fun hm => ?_))
    ·obtain ⟨r6, h4, hm⟩ := obind hm
     refine rs G (hC 4 (zq138_c h4) h0) ?_
     exact rg G (rh G (wJ G hm))
    ·exact X_skip (wJ G hm)
   rintro ⟨leftLen, rightLen, data3⟩ hm
   refine jF hm (fun data4 => ⟨[(0, .own 0), (1, dV a1), (2, dV b1), (3, dV limit2), (4, .fn 184 []), (10, dV mid), (11, dV mid1), (12, dV (w64 (b1 - a1))), (13, dV leftLen)], [aX 0 74 data4], 48⟩) (fun v2 hr3 hm => ?_) ?_
   ·refine jn hm (fun v => ⟨[(0, .own 0), (1, dV a1), (2, dV b1), (3, dV limit2), (4, .fn 184 []), (10, dV mid), (11, dV mid1), (12, dV (w64 (b1 - a1))), (13, dV leftLen), (75, dV v)], [aX 0 74 data3], 48⟩) (fun v hm => ?_) ?_
    ·rcases bf hm with ⟨hb1, hm⟩ | ⟨hb1, hm⟩
     ·rcases bf hm with ⟨hb2, hm⟩ | ⟨hb2, hm⟩
      ·refine re G (hO 1 (.b true) (hP hb1 (hO 4 (.b true) (hP hb2 h0)))) ?_
       exact wJ G hm
      ·refine re G (hO 1 (.b true) (hP hb1 (hO 4 (.b false) (hP hb2 h0)))) ?_
       exact wJ G hm
     ·refine re G (hO 1 (.b false) (hP hb1 h0)) ?_
      exact wJ G hm
    rintro v hm
    refine cd hm (fun hm => ?_) (fun hm => ?_)
    ·obtain ⟨r7, h5, hm⟩ := obind hm
     refine rs G (hC 4 (zq127_c h5) h0) ?_
     refine cd hm (fun hm => ?_) (fun hm => ?_)
     ·have hm := eR hm hr3
      have hm := eD hm hb
      cases hm
      exact rt [] []
     ·exact X_skip (wF G hm)
    ·exact X_skip (wF G hm)
   rintro data4 hm
   refine Ok_seq (jn hm (fun v1 => ⟨[(0, .own 0), (1, dV a1), (2, dV b1), (3, dV limit2), (4, .fn 184 []), (10, dV mid), (11, dV mid1), (12, dV (w64 (b1 - a1))), (13, dV leftLen), (97, dV v1)], [aX 0 74 data4], 48⟩) (fun v1 hm => ?_) ?_)
   ·rcases bf hm with ⟨hb3, hm⟩ | ⟨hb3, hm⟩
    ·obtain ⟨e6, h9, hm⟩ := obind hm
     obtain ⟨e7, h10, hm⟩ := obind hm
     obtain ⟨r11, h11, hm⟩ := obind hm
     refine de G [(13, [])] (hO 2 (.b true) (hP hb3 (hD 7 h9 (hE 8 h9 (hD 11 h10 (hE 12 h10 (hC 13 (zq28_c h11) h0))))))) ?_
     exact wJ G hm
    ·refine de G [(13, [])] (hO 2 (.b false) (hP hb3 h0)) ?_
     exact wJ G hm
   rintro v1 hm
   refine cd hm (fun hm => ?_) (fun hm => ?_)
   ·obtain ⟨r12, h12, hm⟩ := obind hm
    refine rs G (hC 5 (zq133_c h12) h0) ?_
    exact rg G (Ok_exit (thE (ibE (wL G hm))))
   ·refine X_skip (thN ?_)
    obtain ⟨r13, h13, hm⟩ := obind hm
    refine rs G (hC 5 (zq130_c h13) h0) ?_
    refine rg G (rg G ?_)
    obtain ⟨u, h14, hm⟩ := obind hm
    refine rs G (hK h14 h0) ?_
    refine rg G (cd hm (fun hm => ?_) (fun hm => ?_))
    ·refine rg G ?_
     obtain ⟨r14, h15, hm⟩ := obind hm
     refine rs G (hC 5 (zq135_cR h15) h0) ?_
     exact rh G (ibN (wL G hm))
    ·refine rg G ?_
     obtain ⟨r15, h16, hm⟩ := obind hm
     refine rs G (hC 6 (zq135_cR h16) h0) ?_
     exact rh G (ibN (wL G hm))
theorem zq135_okn : ∀ k, FnOK Tryz.prog 224 (zq135_MR (zq135_k k)).S
 | 0 => ⟨fun args w => Tryz.call224 args w, fun vs w F ds obs κ hp => by obtain ⟨x, y, _, _, h⟩ := hp; cases h⟩
 | k + 1 => zq135_okF (zq135_okn k)
theorem zq135_ok : FnOK Tryz.prog 224 zq135_M.S := zq135_okn 4294967296
noncomputable def zq100_M : MS ((List Match)) ((List Match)) := ⟨⟨[.sl, .fn 184 []], fun x => [.sc undef, .agg []], fun x => [arO 74 x], 1, 1, fun _ => rfl, fun _ => rfl, rfl, (by
  rintro a0 b0 h hO
  have q0 : a0 = b0 := Enc.inj _ _ (congrArg (fun l => D.sl 3 (obL l 0)) hO)
  subst q0; rfl)⟩, zq100, fun _ => .tup [], fun _ => [], fun _ y => [arO 74 y]⟩
theorem zq100_c {x y} (hm : zq100 x = some y) : zq100_M.C x y := zq100_M.c x hm
theorem zq100_ok : FnOK Tryz.prog 183 zq100_M.S := by
 refine fm tt zq100_M [fo zq33_ok, fo zq135_ok] Tryz.call183 Tryz.func183 rfl Tryz.results183 Tryz.ntmps183 ?_
 rintro x y cx G hm
 have hm : zq100 x = some y := hm
 unfold zq100 at hm
 refine rs G (hN 1 x h0) ?_
 obtain ⟨r, h, hm⟩ := obind hm
 obtain ⟨r1, h1, hm⟩ := obind hm
 refine re G (hC 4 (zq33_c h) (hC 6 (zq135_c h1) h0)) ?_
 cases hm
 exact fN [] []
noncomputable def zq29_M : MS (Match × Match) Bool := ⟨.x .r .b, fun x => zq29 x.1 x.2, fun y => dV y, fun _ => [], fun x _ => [bxO x.2]⟩
theorem zq29_c {n c1 y} (hm : zq29 n c1 = some y) : zq29_M.C (n, c1) y := zq29_M.c (n, c1) hm
theorem zq29_ok : FnOK Tryz.prog 185 zq29_M.S := by
 refine fm tt zq29_M [] Tryz.call185 Tryz.func185 rfl Tryz.results185 Tryz.ntmps185 ?_
 rintro ⟨n, c1⟩ y cx G hm
 have hm : zq29 n c1 = some y := hm
 unfold zq29 at hm
 refine rg G (jn hm (fun v => ⟨[(1, .ref 0 0), (3, dV v)], [bX 0 [dV c1.Vehicle, dV c1.Id, dV c1.Delay]], 48⟩) (fun v hm => ?_) ?_)
 ·rcases bf hm with ⟨hb, hm⟩ | ⟨hb, hm⟩
  ·refine re G (hO 5 (.b true) (hP hb h0)) ?_
   exact wJ G hm
  ·refine re G (hO 5 (.b false) (hP hb h0)) ?_
   exact wJ G hm
 rintro v hm
 cases hm
 exact rt [] []
noncomputable def zq97_M : MS ((List Match) × Match) Int := ⟨⟨[.rd, .fn 185 [.bx]], fun x => [Enc.e x.1, .agg [.sc undef]], fun x => [bxO x.2], 1, 1, fun _ => rfl, fun _ => rfl, rfl, (by
  rintro ⟨a0, a1⟩ ⟨b0, b1⟩ h hO
  have q0 : a0 = b0 := qI 0 h
  have q1 : a1 = b1 := Enc.inj _ _ (congrArg (fun l => D.agg (obD l 0)) hO)
  subst q0; subst q1; rfl)⟩, fun x => zq97 x.1 x.2, fun y => dV y, fun _ => [], fun x _ => [bxO x.2]⟩
theorem zq97_c {s c1 y} (hm : zq97 s c1 = some y) : zq97_M.C (s, c1) y := zq97_M.c (s, c1) hm
theorem zq97_ok : FnOK Tryz.prog 193 zq97_M.S := by
 refine fm tt zq97_M [fo zq29_ok] Tryz.call193 Tryz.func193 rfl Tryz.results193 Tryz.ntmps193 ?_
 rintro ⟨s, c1⟩ y cx G hm
 have hm : zq97 s c1 = some y := hm
 obtain ⟨f, hf_f⟩ : ∃ q, (fun (z0 : Match) => zq29 z0 c1) = q := ⟨_, rfl⟩
 have hm : zq94 s f = some y := by rw [← hf_f]; exact hm
 unfold zq94 at hm
 refine rg G (Ok_seq (rs G (hN 1 s h0) ?_))
 refine tF hm (fun _ => ⟨[(1, .fn 185 [.ref 0 0])], [bX 0 [dV c1.Vehicle, dV c1.Id, dV c1.Delay]], 48⟩) (fun v1 hr hm => ?_) ?_
 ·refine Ok_block (lp G hm (fun v => ⟨[(0, dV s), (1, .fn 185 [.ref 0 0]), (7, dV (s.length : Int)), (8, dV v)], [bX 0 [dV c1.Vehicle, dV c1.Id, dV c1.Delay]], 48⟩) ?_)
  rintro v r0 hb hm
  rw [zq94_L1] at hm
  refine rg G (Ok_seq (cd hm (fun hm => ?_) (fun hm => ?_)))
  ·refine X_skip (thN (Ok_seq (Ok_block (rg G ?_))))
   obtain ⟨e, h, hm⟩ := obind hm
   obtain ⟨r, h1, hm⟩ := obind hm
   have h1 : zq29 e c1 = some r := by rw [← hf_f] at h1; exact h1
   refine rs G (hD 3 h (hC 5 (zq29_c h1) h0)) ?_
   refine cd hm (fun hm => ?_) (fun hm => ?_)
   ·refine rg G ?_
    have hm := eL hm hb hr
    cases hm
    exact rt [] []
   ·exact X_skip (ibN (thN (rh G (wL G hm))))
  ·exact Ok_exit (thE (thE (ibE (wE G hm hb))))
 rintro ⟨⟩ hm s1 hw
 refine thN (Ok_weak hw ?_)
 refine rg G ?_
 cases hm
 exact rt [] []
noncomputable def zq93_M : MS ((List Match) × Match) Bool := ⟨⟨[.rd, .fn 185 [.bx]], fun x => [Enc.e x.1, .agg [.sc undef]], fun x => [bxO x.2], 1, 1, fun _ => rfl, fun _ => rfl, rfl, (by
  rintro ⟨a0, a1⟩ ⟨b0, b1⟩ h hO
  have q0 : a0 = b0 := qI 0 h
  have q1 : a1 = b1 := Enc.inj _ _ (congrArg (fun l => D.agg (obD l 0)) hO)
  subst q0; subst q1; rfl)⟩, fun x => zq93 x.1 x.2, fun y => dV y, fun _ => [], fun x _ => [bxO x.2]⟩
theorem zq93_c {s c1 y} (hm : zq93 s c1 = some y) : zq93_M.C (s, c1) y := zq93_M.c (s, c1) hm
theorem zq93_ok : FnOK Tryz.prog 115 zq93_M.S := by
 refine fm tt zq93_M [fo zq97_ok] Tryz.call115 Tryz.func115 rfl Tryz.results115 Tryz.ntmps115 ?_
 rintro ⟨s, c1⟩ y cx G hm
 have hm : zq93 s c1 = some y := hm
 obtain ⟨f, hf_f⟩ : ∃ q, (fun (z0 : Match) => zq29 z0 c1) = q := ⟨_, rfl⟩
 have hm : zq90 s f = some y := by rw [← hf_f]; exact hm
 unfold zq90 at hm
 refine rg G ?_
 obtain ⟨r, h, hm⟩ := obind hm
 have h : zq97 s c1 = some r := by rw [← hf_f] at h; exact h
 refine rs G (hC 2 (zq97_c h) h0) ?_
 cases hm
 exact rt [] []
noncomputable def zq30_M : MS (Match × Match) Int := ⟨.x .r .r, fun x => zq30 x.1 x.2, fun y => dV y, fun _ => [], fun _ _ => []⟩
theorem zq30_c {a b y} (hm : zq30 a b = some y) : zq30_M.C (a, b) y := zq30_M.c (a, b) hm
theorem zq30_ok : FnOK Tryz.prog 186 zq30_M.S := by
 refine fm tt zq30_M [fo zq0_ok] Tryz.call186 Tryz.func186 rfl Tryz.results186 Tryz.ntmps186 ?_
 rintro ⟨a, b⟩ y cx G hm
 have hm : zq30 a b = some y := hm
 unfold zq30 at hm
 refine rg G ?_
 obtain ⟨r, h, hm⟩ := obind hm
 refine rs G (hC 4 (zq0_c h) h0) ?_
 cases hm
 exact rt [] []
noncomputable def zq115_M : MS ((List Match) × Int × Int) ((List Match)) := ⟨⟨[.sl, .rd, .rd, .fn 186 []], fun x => [.sc undef, Enc.e x.2.1, Enc.e x.2.2, .agg []], fun x => [arO 74 x.1], 1, 1, fun _ => rfl, fun _ => rfl, rfl, (by
  rintro ⟨a0, a1, a2⟩ ⟨b0, b1, b2⟩ h hO
  have q0 : a0 = b0 := Enc.inj _ _ (congrArg (fun l => D.sl 3 (obL l 0)) hO)
  have q1 : a1 = b1 := qI 1 h
  have q2 : a2 = b2 := qI 2 h
  subst q0; subst q1; subst q2; rfl)⟩, fun x => zq115 x.1 x.2.1 x.2.2, fun _ => .tup [], fun _ => [], fun _ y => [arO 74 y]⟩
theorem zq115_c {data a b y} (hm : zq115 data a b = some y) : zq115_M.C (data, a, b) y := zq115_M.c (data, a, b) hm
theorem zq115_ok : FnOK Tryz.prog 238 zq115_M.S := by
 refine fm tt zq115_M [fo zq30_ok] Tryz.call238 Tryz.func238 rfl Tryz.results238 Tryz.ntmps238 ?_
 rintro ⟨data, a, b⟩ y cx G hm
 have hm : zq115 data a b = some y := hm
 obtain ⟨cmp, hf_cmp⟩ : ∃ q, (fun (z0 : Match) (z1 : Match) => zq30 z0 z1) = q := ⟨_, rfl⟩
 have hm : zq112 data a b cmp = some y := by rw [← hf_cmp]; exact hm
 unfold zq112 at hm
 refine rg G (Ok_block (lp G hm (fun (v, data1) => ⟨[(0, .own 0), (1, dV a), (2, dV b), (3, .fn 186 []), (8, dV v)], [aX 0 74 data1], 48⟩) ?_))
 rintro ⟨v, data1⟩ r0 hb hm
 rw [zq112_L2] at hm
 refine Ok_seq (rg G (cd hm (fun hm => ?_) (fun hm => ?_)))
 ·refine X_skip (thN (Ok_seq (Ok_block (rg G (tl hm (fun data3 => ⟨[(0, .own 0), (1, dV a), (2, dV b), (3, .fn 186 []), (8, dV v)], [aX 0 74 data3], 48⟩) (fun data3 hm => ?_) ?_)))))
  ·refine Ok_block (lp G hm (fun (v1, data2) => ⟨[(0, .own 0), (1, dV a), (2, dV b), (3, .fn 186 []), (8, dV v), (9, dV v1)], [aX 0 74 data2], 48⟩) ?_)
   rintro ⟨v1, data2⟩ r0 hb1 hm
   rw [zq112_L1] at hm
   refine Ok_seq (jn hm (fun v2 => ⟨[(0, .own 0), (1, dV a), (2, dV b), (3, .fn 186 []), (8, dV v), (9, dV v1), (34, dV v2)], [aX 0 74 data2], 48⟩) (fun v2 hm => ?_) ?_)
   ·rcases bf hm with ⟨hb2, hm⟩ | ⟨hb2, hm⟩
    ·obtain ⟨e2, h3, hm⟩ := obind hm
     obtain ⟨e3, h4, hm⟩ := obind hm
     obtain ⟨r1, h5, hm⟩ := obind hm
     have h5 : zq30 e2 e3 = some r1 := by rw [← hf_cmp] at h5; exact h5
     refine de G [(14, [])] (hO 3 (.b true) (hP hb2 (hD 7 h3 (hE 8 h3 (hD 12 h4 (hE 13 h4 (hC 14 (zq30_c h5) h0))))))) ?_
     exact wJ G hm
    ·refine de G [(14, [])] (hO 3 (.b false) (hP hb2 h0)) ?_
     exact wJ G hm
   rintro v2 hm
   refine cd hm (fun hm => ?_) (fun hm => ?_)
   ·refine X_skip (thN (Ok_seq (Ok_block ?_)))
    obtain ⟨e8, h10, hm⟩ := obind hm
    obtain ⟨e9, h11, hm⟩ := obind hm
    obtain ⟨e10, h12, hm⟩ := obind hm
    obtain ⟨e11, h13, hm⟩ := obind hm
    refine de G [(15, [0]), (17, [0])] (hD 8 h10 (hE 9 h10 (hD 12 h11 (hE 13 h11 (hD 14 h12 (hS 15 h12 e8 (hD 16 h13 (hS 17 h13 e9 h0)))))))) ?_
    exact ibN (thN (rh G (wL G hm)))
   ·exact Ok_exit (thE (thE (ibE (wD G hm hb1))))
  rintro data3 hm s hw
  refine ibN (thN (Ok_weak hw ?_))
  exact rh G (wL G hm)
 ·have hm := eD hm hb
  refine Ok_exit (thE (thE (ibE ?_)))
  cases hm
  exact fN [] []
noncomputable def zq144_M : MS ((List Match) × Int × Int × Int) ((List Match)) := ⟨⟨[.sl, .rd, .rd, .rd, .fn 186 []], fun x => [.sc undef, Enc.e x.2.1, Enc.e x.2.2.1, Enc.e x.2.2.2, .agg []], fun x => [arO 74 x.1], 1, 1, fun _ => rfl, fun _ => rfl, rfl, (by
  rintro ⟨a0, a1, a2, a3⟩ ⟨b0, b1, b2, b3⟩ h hO
  have q0 : a0 = b0 := Enc.inj _ _ (congrArg (fun l => D.sl 3 (obL l 0)) hO)
  have q1 : a1 = b1 := qI 1 h
  have q2 : a2 = b2 := qI 2 h
  have q3 : a3 = b3 := qI 3 h
  subst q0; subst q1; subst q2; subst q3; rfl)⟩, fun x => zq144 x.1 x.2.1 x.2.2.1 x.2.2.2, fun _ => .tup [], fun _ => [], fun _ y => [arO 74 y]⟩
theorem zq144_c {data lo hi first y} (hm : zq144 data lo hi first = some y) : zq144_M.C (data, lo, hi, first) y := zq144_M.c (data, lo, hi, first) hm
theorem zq144_ok : FnOK Tryz.prog 258 zq144_M.S := by
 refine fm tt zq144_M [fo zq30_ok] Tryz.call258 Tryz.func258 rfl Tryz.results258 Tryz.ntmps258 ?_
 rintro ⟨data, lo, hi, first⟩ y cx G hm
 have hm : zq144 data lo hi first = some y := hm
 obtain ⟨cmp, hf_cmp⟩ : ∃ q, (fun (z0 : Match) (z1 : Match) => zq30 z0 z1) = q := ⟨_, rfl⟩
 have hm : zq142 data lo hi first cmp = some y := by rw [← hf_cmp]; exact hm
 unfold zq142 at hm
 refine rg G (Ok_block (lp G hm (fun (v, data1) => ⟨[(0, .own 0), (2, dV hi), (3, dV first), (4, .fn 186 []), (10, dV v)], [aX 0 74 data1], 48⟩) ?_))
 rintro ⟨v, data1⟩ r0 hb hm
 rw [zq142_L1] at hm
 refine Ok_block (rg G (Ok_seq (rg G (cd hm (fun hm => ?_) (fun hm => ?_)))))
 ·have hm := eD hm hb
  refine Ok_exit (thE (ibX rfl (thE (ibE ?_))))
  cases hm
  exact fN [] []
 ·refine X_skip (thN (jn hm (fun v1 => ⟨[(0, .own 0), (2, dV hi), (3, dV first), (4, .fn 186 []), (10, dV v), (11, dV v1)], [aX 0 74 data1], 48⟩) (fun v1 hm => ?_) ?_))
  ·refine jn hm (fun v2 => ⟨[(0, .own 0), (2, dV hi), (3, dV first), (4, .fn 186 []), (10, dV v), (11, dV (w64 ((w64 (2 * v)) + 1))), (40, dV v2)], [aX 0 74 data1], 48⟩) (fun v2 hm => ?_) ?_
   ·rcases bf hm with ⟨hb1, hm⟩ | ⟨hb1, hm⟩
    ·obtain ⟨e3, h3, hm⟩ := obind hm
     obtain ⟨e4, h4, hm⟩ := obind hm
     obtain ⟨r2, h5, hm⟩ := obind hm
     have h5 : zq30 e3 e4 = some r2 := by rw [← hf_cmp] at h5; exact h5
     refine de G [(19, [])] (hO 4 (.b true) (hP hb1 (hD 10 h3 (hE 11 h3 (hD 17 h4 (hE 18 h4 (hC 19 (zq30_c h5) h0))))))) ?_
     exact wJ G hm
    ·refine de G [(19, [])] (hO 4 (.b false) (hP hb1 h0)) ?_
     exact wJ G hm
   rintro v2 hm
   refine cd hm (fun hm => ?_) (fun hm => ?_)
   ·exact rh G (wJ G hm)
   ·exact X_skip (wJ G hm)
  rintro v1 hm
  refine Ok_seq ?_
  obtain ⟨e7, h9, hm⟩ := obind hm
  obtain ⟨e8, h10, hm⟩ := obind hm
  obtain ⟨r4, h11, hm⟩ := obind hm
  have h11 : zq30 e7 e8 = some r4 := by rw [← hf_cmp] at h11; exact h11
  refine ds G [(13, [])] (hD 5 h9 (hE 6 h9 (hD 11 h10 (hE 12 h10 (hC 13 (zq30_c h11) h0))))) ?_
  refine cd hm (fun hm => ?_) (fun hm => ?_)
  ·have hm := eD hm hb
   cases hm
   exact rt [] []
  ·refine X_skip (thN ?_)
   obtain ⟨e14, h16, hm⟩ := obind hm
   obtain ⟨e15, h17, hm⟩ := obind hm
   obtain ⟨e16, h18, hm⟩ := obind hm
   obtain ⟨e17, h19, hm⟩ := obind hm
   refine ds G [(21, [0]), (23, [0])] (hD 12 h16 (hE 13 h16 (hD 18 h17 (hE 19 h17 (hD 20 h18 (hS 21 h18 e14 (hD 22 h19 (hS 23 h19 e15 h0)))))))) ?_
   exact rh G (ibN (wL G hm))
noncomputable def zq111_M : MS ((List Match) × Int × Int) ((List Match)) := ⟨⟨[.sl, .rd, .rd, .fn 186 []], fun x => [.sc undef, Enc.e x.2.1, Enc.e x.2.2, .agg []], fun x => [arO 74 x.1], 1, 1, fun _ => rfl, fun _ => rfl, rfl, (by
  rintro ⟨a0, a1, a2⟩ ⟨b0, b1, b2⟩ h hO
  have q0 : a0 = b0 := Enc.inj _ _ (congrArg (fun l => D.sl 3 (obL l 0)) hO)
  have q1 : a1 = b1 := qI 1 h
  have q2 : a2 = b2 := qI 2 h
  subst q0; subst q1; subst q2; rfl)⟩, fun x => zq111 x.1 x.2.1 x.2.2, fun _ => .tup [], fun _ => [], fun _ y => [arO 74 y]⟩
theorem zq111_c {data a b y} (hm : zq111 data a b = some y) : zq111_M.C (data, a, b) y := zq111_M.c (data, a, b) hm
theorem zq111_ok : FnOK Tryz.prog 239 zq111_M.S := by
 refine fm tt zq111_M [fo zq144_ok] Tryz.call239 Tryz.func239 rfl Tryz.results239 Tryz.ntmps239 ?_
 rintro ⟨data, a, b⟩ y cx G hm
 have hm : zq111 data a b = some y := hm
 obtain ⟨cmp, hf_cmp⟩ : ∃ q, (fun (z0 : Match) (z1 : Match) => zq30 z0 z1) = q := ⟨_, rfl⟩
 have hm : zq109 data a b cmp = some y := by rw [← hf_cmp]; exact hm
 unfold zq109 at hm
 refine rg G (rg G (rg G (Ok_seq ?_)))
 obtain ⟨u, h, hm⟩ := obind hm
 refine rs G (hK h h0) ?_
 refine tl hm (fun data2 => ⟨[(0, .own 0), (3, .fn 186 []), (8, dV a), (9, kV .i64 0), (10, dV (w64 (b - a)))], [aX 0 74 data2], 48⟩) (fun data2 hm => ?_) ?_
 ·refine Ok_block (lp G hm (fun (v, data1) => ⟨[(0, .own 0), (3, .fn 186 []), (8, dV a), (9, kV .i64 0), (10, dV (w64 (b - a))), (11, dV v)], [aX 0 74 data1], 48⟩) ?_)
  rintro ⟨v, data1⟩ r0 hb hm
  rw [zq109_L1] at hm
  refine Ok_seq (rg G (cd hm (fun hm => ?_) (fun hm => ?_)))
  ·refine X_skip (thN (Ok_seq (Ok_block ?_)))
   obtain ⟨r, h1, hm⟩ := obind hm
   have h1 : zq144 data1 v (w64 (b - a)) a = some r := by rw [← hf_cmp] at h1; exact h1
   refine re G (hC 5 (zq144_c h1) h0) ?_
   exact ibN (thN (rh G (wL G hm)))
  ·exact Ok_exit (thE (thE (ibE (wD G hm hb))))
 rintro data2 hm s hw
 refine thN (Ok_weak hw ?_)
 refine rg G (Ok_block (lp G hm (fun (v1, data3) => ⟨[(0, .own 0), (3, .fn 186 []), (8, dV a), (9, kV .i64 0), (12, dV v1)], [aX 0 74 data3], 48⟩) ?_))
 rintro ⟨v1, data3⟩ r0 hb1 hm
 rw [zq109_L2] at hm
 refine Ok_seq (rg G (cd hm (fun hm => ?_) (fun hm => ?_)))
 ·refine X_skip (thN (Ok_seq (Ok_block ?_)))
  obtain ⟨e4, h6, hm⟩ := obind hm
  obtain ⟨e5, h7, hm⟩ := obind hm
  obtain ⟨e6, h8, hm⟩ := obind hm
  obtain ⟨e7, h9, hm⟩ := obind hm
  refine ds G [(17, [0]), (19, [0])] (hD 10 h6 (hE 11 h6 (hD 14 h7 (hE 15 h7 (hD 16 h8 (hS 17 h8 e4 (hD 18 h9 (hS 19 h9 e5 h0)))))))) ?_
  obtain ⟨r1, h10, hm⟩ := obind hm
  have h10 : zq144 ((data3.set a.toNat e4).set (w64 (a + v1)).toNat e5) 0 v1 a = some r1 := by rw [← hf_cmp] at h10; exact h10
  refine re G (hC 5 (zq144_c h10) h0) ?_
  exact ibN (thN (rh G (wL G hm)))
 ·have hm := eD hm hb1
  refine Ok_exit (thE (thE (ibE ?_)))
  cases hm
  exact fN [] []
noncomputable def zq125_M : MS ((List Match) × Int × Int × Int) (Int × Int × Int) := ⟨⟨[.rd, .rd, .rd, .bx, .fn 186 []], fun x => [Enc.e x.1, Enc.e x.2.1, Enc.e x.2.2.1, .sc undef, .agg []], fun x => [bxO x.2.2.2], 1, 1, fun _ => rfl, fun _ => rfl, rfl, (by
  rintro ⟨a0, a1, a2, a3⟩ ⟨b0, b1, b2, b3⟩ h hO
  have q0 : a0 = b0 := qI 0 h
  have q1 : a1 = b1 := qI 1 h
  have q2 : a2 = b2 := qI 2 h
  have q3 : a3 = b3 := Enc.inj _ _ (congrArg (fun l => (obD l 0).getD 0 (.sc undef)) hO)
  subst q0; subst q1; subst q2; subst q3; rfl)⟩, fun x => zq125 x.1 x.2.1 x.2.2.1 x.2.2.2, fun y => .tup [dV y.1, dV y.2.1], fun _ => [], fun _ y => [bxO y.2.2]⟩
theorem zq125_c {data a b swaps y} (hm : zq125 data a b swaps = some y) : zq125_M.C (data, a, b, swaps) y := zq125_M.c (data, a, b, swaps) hm
theorem zq125_ok : FnOK Tryz.prog 267 zq125_M.S := by
 refine fm tt zq125_M [fo zq30_ok] Tryz.call267 Tryz.func267 rfl Tryz.results267 Tryz.ntmps267 ?_
 rintro ⟨data, a, b, swaps⟩ y cx G hm
 have hm : zq125 data a b swaps = some y := hm
 obtain ⟨cmp, hf_cmp⟩ : ∃ q, (fun (z0 : Match) (z1 : Match) => zq30 z0 z1) = q := ⟨_, rfl⟩
 have hm : zq123 data a b swaps cmp = some y := by rw [← hf_cmp]; exact hm
 unfold zq123 at hm
 refine rg G (Ok_seq ?_)
 obtain ⟨e2, h3, hm⟩ := obind hm
 obtain ⟨e3, h4, hm⟩ := obind hm
 obtain ⟨r1, h5, hm⟩ := obind hm
 have h5 : zq30 e2 e3 = some r1 := by rw [← hf_cmp] at h5; exact h5
 refine ds G [(9, [])] (hD 3 h3 (hD 7 h4 (hC 9 (zq30_c h5) h0))) ?_
 refine cd hm (fun hm => ?_) (fun hm => ?_)
 ·refine rg G (rg G ?_)
  cases hm
  exact rt [] []
 ·refine X_skip (thN (rg G ?_))
  cases hm
  exact rt [] []
noncomputable def zq121_M : MS ((List Match) × Int × Int × Int × Int) (Int × Int) := ⟨⟨[.rd, .rd, .rd, .rd, .bx, .fn 186 []], fun x => [Enc.e x.1, Enc.e x.2.1, Enc.e x.2.2.1, Enc.e x.2.2.2.1, .sc undef, .agg []], fun x => [bxO x.2.2.2.2], 1, 1, fun _ => rfl, fun _ => rfl, rfl, (by
  rintro ⟨a0, a1, a2, a3, a4⟩ ⟨b0, b1, b2, b3, b4⟩ h hO
  have q0 : a0 = b0 := qI 0 h
  have q1 : a1 = b1 := qI 1 h
  have q2 : a2 = b2 := qI 2 h
  have q3 : a3 = b3 := qI 3 h
  have q4 : a4 = b4 := Enc.inj _ _ (congrArg (fun l => (obD l 0).getD 0 (.sc undef)) hO)
  subst q0; subst q1; subst q2; subst q3; subst q4; rfl)⟩, fun x => zq121 x.1 x.2.1 x.2.2.1 x.2.2.2.1 x.2.2.2.2, fun y => dV y.1, fun _ => [], fun _ y => [bxO y.2]⟩
theorem zq121_c {data a b c swaps y} (hm : zq121 data a b c swaps = some y) : zq121_M.C (data, a, b, c, swaps) y := zq121_M.c (data, a, b, c, swaps) hm
theorem zq121_ok : FnOK Tryz.prog 262 zq121_M.S := by
 refine fm tt zq121_M [fo zq125_ok] Tryz.call262 Tryz.func262 rfl Tryz.results262 Tryz.ntmps262 ?_
 rintro ⟨data, a, b, c, swaps⟩ y cx G hm
 have hm : zq121 data a b c swaps = some y := hm
 obtain ⟨cmp, hf_cmp⟩ : ∃ q, (fun (z0 : Match) (z1 : Match) => zq30 z0 z1) = q := ⟨_, rfl⟩
 have hm : zq119 data a b c swaps cmp = some y := by rw [← hf_cmp]; exact hm
 unfold zq119 at hm
 refine rg G ?_
 obtain ⟨r, h, hm⟩ := obind hm
 have h : zq125 data a b swaps = some r := by rw [← hf_cmp] at h; exact h
 refine rs G (hC 5 (zq125_c h) h0) ?_
 obtain ⟨r1, h1, hm⟩ := obind hm
 have h1 : zq125 data r.2.1 c r.2.2 = some r1 := by rw [← hf_cmp] at h1; exact h1
 refine rs G (hC 5 (zq125_c h1) h0) ?_
 obtain ⟨r2, h2, hm⟩ := obind hm
 have h2 : zq125 data r.1 r1.1 r1.2.2 = some r2 := by rw [← hf_cmp] at h2; exact h2
 refine rs G (hC 5 (zq125_c h2) h0) ?_
 refine rg G ?_
 cases hm
 exact rt [] []
noncomputable def zq118_M : MS ((List Match) × Int × Int) (Int × Int) := ⟨⟨[.rd, .rd, .bx, .fn 186 []], fun x => [Enc.e x.1, Enc.e x.2.1, .sc undef, .agg []], fun x => [bxO x.2.2], 1, 1, fun _ => rfl, fun _ => rfl, rfl, (by
  rintro ⟨a0, a1, a2⟩ ⟨b0, b1, b2⟩ h hO
  have q0 : a0 = b0 := qI 0 h
  have q1 : a1 = b1 := qI 1 h
  have q2 : a2 = b2 := Enc.inj _ _ (congrArg (fun l => (obD l 0).getD 0 (.sc undef)) hO)
  subst q0; subst q1; subst q2; rfl)⟩, fun x => zq118 x.1 x.2.1 x.2.2, fun y => dV y.1, fun _ => [], fun _ y => [bxO y.2]⟩
theorem zq118_c {data a swaps y} (hm : zq118 data a swaps = some y) : zq118_M.C (data, a, swaps) y := zq118_M.c (data, a, swaps) hm
theorem zq118_ok : FnOK Tryz.prog 261 zq118_M.S := by
 refine fm tt zq118_M [fo zq121_ok] Tryz.call261 Tryz.func261 rfl Tryz.results261 Tryz.ntmps261 ?_
 rintro ⟨data, a, swaps⟩ y cx G hm
 have hm : zq118 data a swaps = some y := hm
 obtain ⟨cmp, hf_cmp⟩ : ∃ q, (fun (z0 : Match) (z1 : Match) => zq30 z0 z1) = q := ⟨_, rfl⟩
 have hm : zq116 data a swaps cmp = some y := by rw [← hf_cmp]; exact hm
 unfold zq116 at hm
 refine rg G ?_
 obtain ⟨r, h, hm⟩ := obind hm
 have h : zq121 data (w64 (a - 1)) a (w64 (a + 1)) swaps = some r := by rw [← hf_cmp] at h; exact h
 refine rs G (hC 8 (zq121_c h) h0) ?_
 cases hm
 exact rt [] []
noncomputable def zq108_M : MS ((List Match) × Int × Int) (Int × Int) := ⟨⟨[.rd, .rd, .rd, .fn 186 []], fun x => [Enc.e x.1, Enc.e x.2.1, Enc.e x.2.2, .agg []], fun x => [], 0, 0, fun _ => rfl, fun _ => rfl, rfl, (by
  rintro ⟨a0, a1, a2⟩ ⟨b0, b1, b2⟩ h hO
  have q0 : a0 = b0 := qI 0 h
  have q1 : a1 = b1 := qI 1 h
  have q2 : a2 = b2 := qI 2 h
  subst q0; subst q1; subst q2; rfl)⟩, fun x => zq108 x.1 x.2.1 x.2.2, fun y => .tup [dV y.1, dV y.2], fun _ => [], fun _ _ => []⟩
theorem zq108_c {data a b y} (hm : zq108 data a b = some y) : zq108_M.C (data, a, b) y := zq108_M.c (data, a, b) hm
theorem zq108_ok : FnOK Tryz.prog 241 zq108_M.S := by
 refine fm tt zq108_M [fo zq118_ok, fo zq121_ok] Tryz.call241 Tryz.func241 rfl Tryz.results241 Tryz.ntmps241 ?_
 rintro ⟨data, a, b⟩ y cx G hm
 have hm : zq108 data a b = some y := hm
 obtain ⟨cmp, hf_cmp⟩ : ∃ q, (fun (z0 : Match) (z1 : Match) => zq30 z0 z1) = q := ⟨_, rfl⟩
 have hm : zq106 data a b cmp = some y := by rw [← hf_cmp]; exact hm
 unfold zq106 at hm
 refine rg G (rg G (rg G ?_))
 obtain ⟨u, h, hm⟩ := obind hm
 refine rs G (hK h h0) ?_
 obtain ⟨u1, h1, hm⟩ := obind hm
 refine rs G (hK h1 h0) ?_
 obtain ⟨u2, h2, hm⟩ := obind hm
 refine rs G (hK h2 h0) ?_
 refine jn hm (fun (v, v1) => ⟨[(3, .fn 186 []), (11, .ref 16 0), (13, dV v)], [bX 16 [dV v1]], 48⟩) (fun vv1 hm => ?_) ?_
 ·refine rg G (cd hm (fun hm => ?_) (fun hm => ?_))
  ·refine jn hm (fun (v2, v3, v4, v5) => ⟨[(0, dV data), (3, .fn 186 []), (11, .ref 16 0), (12, dV v2), (13, dV v3), (14, dV v4)], [bX 16 [dV v5]], 48⟩) (fun vv hm => ?_) ?_
   ·refine rg G (cd hm (fun hm => ?_) (fun hm => ?_))
    ·obtain ⟨r, h3, hm⟩ := obind hm
     have h3 : zq118 data (w64 (a + (w64 ((w64 ((w64 (b - a)).tdiv 4)) * 1)))) 0 = some r := by rw [← hf_cmp] at h3; exact h3
     refine rs G (hC 3 (zq118_c h3) h0) ?_
     obtain ⟨r1, h4, hm⟩ := obind hm
     have h4 : zq118 data (w64 (a + (w64 ((w64 ((w64 (b - a)).tdiv 4)) * 2)))) r.2 = some r1 := by rw [← hf_cmp] at h4; exact h4
     refine rs G (hC 3 (zq118_c h4) h0) ?_
     obtain ⟨r2, h5, hm⟩ := obind hm
     have h5 : zq118 data (w64 (a + (w64 ((w64 ((w64 (b - a)).tdiv 4)) * 3)))) r1.2 = some r2 := by rw [← hf_cmp] at h5; exact h5
     refine re G (hC 3 (zq118_c h5) h0) ?_
     exact wJ G hm
    ·exact X_skip (wJ G hm)
   rintro ⟨v2, v3, v4, v5⟩ hm
   obtain ⟨r3, h6, hm⟩ := obind hm
   have h6 : zq121 data v2 v3 v4 v5 = some r3 := by rw [← hf_cmp] at h6; exact h6
   refine re G (hC 5 (zq121_c h6) h0) ?_
   exact wJ G hm
  ·exact X_skip (wJ G hm)
 rintro ⟨v, v1⟩ hm
 refine rg G (Ok_block (rg G (cd hm (fun hm => ?_) (fun hm => ?_))))
 ·refine rg G ?_
  cases hm
  exact rt [] []
 ·refine rg G (cd hm (fun hm => ?_) (fun hm => ?_))
  ·refine rg G ?_
   cases hm
   exact rt [] []
  ·refine rg G ?_
   cases hm
   exact rt [] []
noncomputable def zq139_M : MS ((List Match) × Int × Int) ((List Match)) := ⟨⟨[.sl, .rd, .rd, .fn 186 []], fun x => [.sc undef, Enc.e x.2.1, Enc.e x.2.2, .agg []], fun x => [arO 74 x.1], 1, 1, fun _ => rfl, fun _ => rfl, rfl, (by
  rintro ⟨a0, a1, a2⟩ ⟨b0, b1, b2⟩ h hO
  have q0 : a0 = b0 := Enc.inj _ _ (congrArg (fun l => D.sl 3 (obL l 0)) hO)
  have q1 : a1 = b1 := qI 1 h
  have q2 : a2 = b2 := qI 2 h
  subst q0; subst q1; subst q2; rfl)⟩, fun x => zq139 x.1 x.2.1 x.2.2, fun _ => .tup [], fun _ => [], fun _ y => [arO 74 y]⟩
theorem zq139_c {data a b y} (hm : zq139 data a b = some y) : zq139_M.C (data, a, b) y := zq139_M.c (data, a, b) hm
theorem zq139_ok : FnOK Tryz.prog 242 zq139_M.S := by
 refine fm tt zq139_M [] Tryz.call242 Tryz.func242 rfl Tryz.results242 Tryz.ntmps242 ?_
 rintro ⟨data, a, b⟩ y cx G hm
 have hm : zq139 data a b = some y := hm
 obtain ⟨cmp, hf_cmp⟩ : ∃ q, (fun (z0 : Match) (z1 : Match) => zq30 z0 z1) = q := ⟨_, rfl⟩
 have hm : zq137 data a b cmp = some y := by rw [← hf_cmp]; exact hm
 unfold zq137 at hm
 refine rg G (rg G (Ok_block (lp G hm (fun (v, v1, data1) => ⟨[(0, .own 0), (3, .fn 186 []), (8, dV v), (9, dV v1)], [aX 0 74 data1], 48⟩) ?_)))
 rintro ⟨v, v1, data1⟩ r0 hb hm
 rw [zq137_L1] at hm
 refine Ok_seq (rg G (cd hm (fun hm => ?_) (fun hm => ?_)))
 ·refine X_skip (thN (Ok_block ?_))
  obtain ⟨e4, h4, hm⟩ := obind hm
  obtain ⟨e5, h5, hm⟩ := obind hm
  obtain ⟨e6, h6, hm⟩ := obind hm
  obtain ⟨e7, h7, hm⟩ := obind hm
  refine ds G [(13, [0]), (15, [0])] (hD 6 h4 (hE 7 h4 (hD 10 h5 (hE 11 h5 (hD 12 h6 (hS 13 h6 e4 (hD 14 h7 (hS 15 h7 e5 h0)))))))) ?_
  exact rg G (rh G (ibN (wL G hm)))
 ·have hm := eD hm hb
  refine Ok_exit (thE (thE (ibE ?_)))
  cases hm
  exact fN [] []
noncomputable def zq128_M : MS ((List Match) × Int × Int) (Bool × (List Match)) := ⟨⟨[.sl, .rd, .rd, .fn 186 []], fun x => [.sc undef, Enc.e x.2.1, Enc.e x.2.2, .agg []], fun x => [arO 74 x.1], 1, 1, fun _ => rfl, fun _ => rfl, rfl, (by
  rintro ⟨a0, a1, a2⟩ ⟨b0, b1, b2⟩ h hO
  have q0 : a0 = b0 := Enc.inj _ _ (congrArg (fun l => D.sl 3 (obL l 0)) hO)
  have q1 : a1 = b1 := qI 1 h
  have q2 : a2 = b2 := qI 2 h
  subst q0; subst q1; subst q2; rfl)⟩, fun x => zq128 x.1 x.2.1 x.2.2, fun y => dV y.1, fun _ => [], fun _ y => [arO 74 y.2]⟩
theorem zq128_c {data a b y} (hm : zq128 data a b = some y) : zq128_M.C (data, a, b) y := zq128_M.c (data, a, b) hm
theorem zq128_ok : FnOK Tryz.prog 243 zq128_M.S := by
 refine fm tt zq128_M [fo zq30_ok] Tryz.call243 Tryz.func243 rfl Tryz.results243 Tryz.ntmps243 ?_
 rintro ⟨data, a, b⟩ y cx G hm
 have hm : zq128 data a b = some y := hm
 obtain ⟨cmp, hf_cmp⟩ : ∃ q, (fun (z0 : Match) (z1 : Match) => zq30 z0 z1) = q := ⟨_, rfl⟩
 have hm : zq126 data a b cmp = some y := by rw [← hf_cmp]; exact hm
 unfold zq126 at hm
 refine rg G (rg G (Ok_seq (rg G (tF hm (fun data8 => ⟨[(0, .own 0), (3, .fn 186 [])], [aX 0 74 data8], 48⟩) (fun v9 hr hm => ?_) ?_))))
 ·refine Ok_block (lp G hm (fun (v, v1, data1) => ⟨[(0, .own 0), (1, dV a), (2, dV b), (3, .fn 186 []), (9, dV v), (10, dV v1)], [aX 0 74 data1], 48⟩) ?_)
  rintro ⟨v, v1, data1⟩ r0 hb hm
  rw [zq126_L4] at hm
  refine Ok_seq (rg G (cd hm (fun hm => ?_) (fun hm => ?_)))
  ·refine X_skip (thN (jF hm (fun (v2, data2) => ⟨[(0, .own 0), (1, dV a), (2, dV b), (3, .fn 186 []), (9, dV v2), (10, dV v1)], [aX 0 74 data2], 48⟩) (fun v8 hr1 hm => ?_) ?_))
   ·refine Ok_block (jn hm (fun v5 => ⟨[(0, .own 0), (1, dV a), (2, dV b), (3, .fn 186 []), (9, dV v5), (10, dV v1)], [aX 0 74 data1], 48⟩) (fun v5 hm => ?_) ?_)
    ·refine Ok_block (lp G hm (fun v3 => ⟨[(0, .own 0), (1, dV a), (2, dV b), (3, .fn 186 []), (9, dV v3), (10, dV v1)], [aX 0 74 data1], 48⟩) ?_)
     rintro v3 r0 hb1 hm
     rw [zq126_L1] at hm
     refine Ok_seq (jn hm (fun v4 => ⟨[(0, .own 0), (1, dV a), (2, dV b), (3, .fn 186 []), (9, dV v3), (10, dV v1), (36, dV v4)], [aX 0 74 data1], 48⟩) (fun v4 hm => ?_) ?_)
     ·rcases bf hm with ⟨hb2, hm⟩ | ⟨hb2, hm⟩
      ·obtain ⟨e2, h3, hm⟩ := obind hm
       obtain ⟨e3, h4, hm⟩ := obind hm
       obtain ⟨r1, h5, hm⟩ := obind hm
       have h5 : zq30 e2 e3 = some r1 := by rw [← hf_cmp] at h5; exact h5
       refine de G [(14, [])] (hO 3 (.b true) (hP hb2 (hD 7 h3 (hE 8 h3 (hD 12 h4 (hE 13 h4 (hC 14 (zq30_c h5) h0))))))) ?_
       exact wJ G hm
      ·refine de G [(14, [])] (hO 3 (.b false) (hP hb2 h0)) ?_
       exact wJ G hm
     rintro v4 hm
     refine cd hm (fun hm => ?_) (fun hm => ?_)
     ·exact X_skip (thN (Ok_block (rh G (ibN (wL G hm)))))
     ·exact Ok_exit (thE (thE (ibE (wD G hm hb1))))
    rintro v5 hm
    refine Ok_seq (rg G (cd hm (fun hm => ?_) (fun hm => ?_)))
    ·refine rg G ?_
     have hm := eR hm hr1
     have hm := eL hm hb hr
     cases hm
     exact rt [] []
    ·refine X_skip (thN (Ok_seq (rg G (cd hm (fun hm => ?_) (fun hm => ?_)))))
     ·refine rg G ?_
      have hm := eR hm hr1
      have hm := eL hm hb hr
      cases hm
      exact rt [] []
     ·refine X_skip (thN ?_)
      obtain ⟨e12, h10, hm⟩ := obind hm
      obtain ⟨e13, h11, hm⟩ := obind hm
      obtain ⟨e14, h12, hm⟩ := obind hm
      obtain ⟨e15, h13, hm⟩ := obind hm
      refine ds G [(15, [0]), (17, [0])] (hD 8 h10 (hE 9 h10 (hD 12 h11 (hE 13 h11 (hD 14 h12 (hS 15 h12 e12 (hD 16 h13 (hS 17 h13 e13 h0)))))))) ?_
      refine jn hm (fun data3 => ⟨[(0, .own 0), (1, dV a), (2, dV b), (3, .fn 186 []), (9, dV v5), (10, dV v1)], [aX 0 74 data3], 48⟩) (fun data3 hm => ?_) ?_
      ·refine rg G (cd hm (fun hm => ?_) (fun hm => ?_))
       ·refine rg G (tl hm (fun data5 => ⟨[(0, .own 0), (1, dV a), (2, dV b), (3, .fn 186 []), (9, dV v5), (10, dV v1)], [aX 0 74 data5], 48⟩) (fun data5 hm => ?_) ?_)
        ·refine Ok_block (lp G hm (fun (v6, data4) => ⟨[(0, .own 0), (1, dV a), (2, dV b), (3, .fn 186 []), (9, dV v5), (10, dV v1), (11, dV v6)], [aX 0 74 data4], 48⟩) ?_)
         rintro ⟨v6, data4⟩ r0 hb3 hm
         rw [zq126_L2] at hm
         refine Ok_seq (rg G (cd hm (fun hm => ?_) (fun hm => ?_)))
         ·refine X_skip (thN (Ok_seq (Ok_block (Ok_seq ?_))))
          obtain ⟨e18, h17, hm⟩ := obind hm
          obtain ⟨e19, h18, hm⟩ := obind hm
          obtain ⟨r7, h19, hm⟩ := obind hm
          have h19 : zq30 e18 e19 = some r7 := by rw [← hf_cmp] at h19; exact h19
          refine ds G [(10, [])] (hD 3 h17 (hE 4 h17 (hD 8 h18 (hE 9 h18 (hC 10 (zq30_c h19) h0))))) ?_
          refine cd hm (fun hm => ?_) (fun hm => ?_)
          ·exact Ok_exit (thE (ibX rfl (thE (thE (ibE (wD G hm hb3))))))
          ·refine X_skip (thN ?_)
           obtain ⟨e24, h24, hm⟩ := obind hm
           obtain ⟨e25, h25, hm⟩ := obind hm
           obtain ⟨e26, h26, hm⟩ := obind hm
           obtain ⟨e27, h27, hm⟩ := obind hm
           refine de G [(15, [0]), (17, [0])] (hD 8 h24 (hE 9 h24 (hD 12 h25 (hE 13 h25 (hD 14 h26 (hS 15 h26 e24 (hD 16 h27 (hS 17 h27 e25 h0)))))))) ?_
           exact ibN (thN (rh G (wL G hm)))
         ·exact Ok_exit (thE (thE (ibE (wD G hm hb3))))
        rintro data5 hm s hw
        exact wJp hm (Wk.trans hw (Wk_J G.hL ⟨[(0, []), (1, []), (2, []), (3, []), (9, []), (10, [])], [(0, 0, [])], [], 48⟩ (by kernel_rfl)))
       ·exact X_skip (wJ G hm)
      rintro data3 hm
      refine rg G (cd hm (fun hm => ?_) (fun hm => ?_))
      ·refine rg G (tl hm (fun data7 => ⟨[(0, .own 0), (1, dV a), (2, dV b), (3, .fn 186 []), (9, dV v5), (10, dV v1)], [aX 0 74 data7], 48⟩) (fun data7 hm => ?_) ?_)
       ·refine Ok_block (lp G hm (fun (v7, data6) => ⟨[(0, .own 0), (1, dV a), (2, dV b), (3, .fn 186 []), (9, dV v5), (10, dV v1), (12, dV v7)], [aX 0 74 data6], 48⟩) ?_)
        rintro ⟨v7, data6⟩ r0 hb4 hm
        rw [zq126_L3] at hm
        refine Ok_seq (rg G (cd hm (fun hm => ?_) (fun hm => ?_)))
        ·refine X_skip (thN (Ok_seq (Ok_block (Ok_seq ?_))))
         obtain ⟨e30, h31, hm⟩ := obind hm
         obtain ⟨e31, h32, hm⟩ := obind hm
         obtain ⟨r9, h33, hm⟩ := obind hm
         have h33 : zq30 e30 e31 = some r9 := by rw [← hf_cmp] at h33; exact h33
         refine ds G [(10, [])] (hD 3 h31 (hE 4 h31 (hD 8 h32 (hE 9 h32 (hC 10 (zq30_c h33) h0))))) ?_
         refine cd hm (fun hm => ?_) (fun hm => ?_)
         ·exact Ok_exit (thE (ibX rfl (thE (thE (ibE (wD G hm hb4))))))
         ·refine X_skip (thN ?_)
          obtain ⟨e36, h38, hm⟩ := obind hm
          obtain ⟨e37, h39, hm⟩ := obind hm
          obtain ⟨e38, h40, hm⟩ := obind hm
          obtain ⟨e39, h41, hm⟩ := obind hm
          refine de G [(15, [0]), (17, [0])] (hD 8 h38 (hE 9 h38 (hD 12 h39 (hE 13 h39 (hD 14 h40 (hS 15 h40 e36 (hD 16 h41 (hS 17 h41 e37 h0)))))))) ?_
          exact ibN (thN (rh G (wL G hm)))
        ·exact Ok_exit (thE (thE (ibE (wD G hm hb4))))
       rintro data7 hm s1 hw1
       exact ibN (wFp hm (Wk.trans hw1 (Wk_J G.hL ⟨[(0, []), (1, []), (2, []), (3, []), (9, []), (10, [])], [(0, 0, [])], [], 48⟩ (by kernel_rfl))))
      ·exact X_skip (ibN (wF G hm))
   rintro ⟨v2, data2⟩ hm
   exact rh G (wL G hm)
  ·exact Ok_exit (thE (thE (ibE (wE G hm hb))))
 rintro data8 hm s2 hw2
 refine thN (Ok_weak hw2 ?_)
 refine rg G ?_
 cases hm
 exact rt [] []
noncomputable def zq134_M : MS ((List Match) × Int × Int × Int) (Int × (List Match)) := ⟨⟨[.sl, .rd, .rd, .rd, .fn 186 []], fun x => [.sc undef, Enc.e x.2.1, Enc.e x.2.2.1, Enc.e x.2.2.2, .agg []], fun x => [arO 74 x.1], 1, 1, fun _ => rfl, fun _ => rfl, rfl, (by
  rintro ⟨a0, a1, a2, a3⟩ ⟨b0, b1, b2, b3⟩ h hO
  have q0 : a0 = b0 := Enc.inj _ _ (congrArg (fun l => D.sl 3 (obL l 0)) hO)
  have q1 : a1 = b1 := qI 1 h
  have q2 : a2 = b2 := qI 2 h
  have q3 : a3 = b3 := qI 3 h
  subst q0; subst q1; subst q2; subst q3; rfl)⟩, fun x => zq134 x.1 x.2.1 x.2.2.1 x.2.2.2, fun y => dV y.1, fun _ => [], fun _ y => [arO 74 y.2]⟩
theorem zq134_c {data a b pivot y} (hm : zq134 data a b pivot = some y) : zq134_M.C (data, a, b, pivot) y := zq134_M.c (data, a, b, pivot) hm
theorem zq134_ok : FnOK Tryz.prog 244 zq134_M.S := by
 refine fm tt zq134_M [fo zq30_ok] Tryz.call244 Tryz.func244 rfl Tryz.results244 Tryz.ntmps244 ?_
 rintro ⟨data, a, b, pivot⟩ y cx G hm
 have hm : zq134 data a b pivot = some y := hm
 obtain ⟨cmp, hf_cmp⟩ : ∃ q, (fun (z0 : Match) (z1 : Match) => zq30 z0 z1) = q := ⟨_, rfl⟩
 have hm : zq132 data a b pivot cmp = some y := by rw [← hf_cmp]; exact hm
 unfold zq132 at hm
 refine rg G ?_
 obtain ⟨e4, h4, hm⟩ := obind hm
 obtain ⟨e5, h5, hm⟩ := obind hm
 obtain ⟨e6, h6, hm⟩ := obind hm
 obtain ⟨e7, h7, hm⟩ := obind hm
 refine ds G [(13, [0]), (15, [0])] (hD 6 h4 (hE 7 h4 (hD 10 h5 (hE 11 h5 (hD 12 h6 (hS 13 h6 e4 (hD 14 h7 (hS 15 h7 e5 h0)))))))) ?_
 refine rg G (jn hm (fun (v8, data2) => ⟨[(0, .own 0), (4, .fn 186 []), (11, dV v8)], [aX 0 74 data2], 48⟩) (fun vv hm => ?_) ?_)
 ·refine Ok_block (lp G hm (fun (v, v1, data1) => ⟨[(0, .own 0), (1, dV a), (4, .fn 186 []), (11, dV v), (12, dV v1)], [aX 0 74 data1], 48⟩) ?_)
  rintro ⟨v, v1, data1⟩ r0 hb hm
  rw [zq132_L3] at hm
  refine Ok_block (jn hm (fun v4 => ⟨[(0, .own 0), (1, dV a), (4, .fn 186 []), (11, dV v4), (12, dV v1)], [aX 0 74 data1], 48⟩) (fun v4 hm => ?_) ?_)
  ·refine Ok_block (lp G hm (fun v2 => ⟨[(0, .own 0), (1, dV a), (4, .fn 186 []), (11, dV v2), (12, dV v1)], [aX 0 74 data1], 48⟩) ?_)
   rintro v2 r0 hb1 hm
   rw [zq132_L1] at hm
   refine Ok_seq (jn hm (fun v3 => ⟨[(0, .own 0), (1, dV a), (4, .fn 186 []), (11, dV v2), (12, dV v1), (47, dV v3)], [aX 0 74 data1], 48⟩) (fun v3 hm => ?_) ?_)
   ·rcases bf hm with ⟨hb2, hm⟩ | ⟨hb2, hm⟩
    ·obtain ⟨e10, h11, hm⟩ := obind hm
     obtain ⟨e11, h12, hm⟩ := obind hm
     obtain ⟨r1, h13, hm⟩ := obind hm
     have h13 : zq30 e10 e11 = some r1 := by rw [← hf_cmp] at h13; exact h13
     refine de G [(13, [])] (hO 3 (.b true) (hP hb2 (hD 7 h11 (hE 8 h11 (hD 11 h12 (hE 12 h12 (hC 13 (zq30_c h13) h0))))))) ?_
     exact wJ G hm
    ·refine de G [(13, [])] (hO 3 (.b false) (hP hb2 h0)) ?_
     exact wJ G hm
   rintro v3 hm
   refine cd hm (fun hm => ?_) (fun hm => ?_)
   ·exact X_skip (thN (Ok_block (rh G (ibN (wL G hm)))))
   ·exact Ok_exit (thE (thE (ibE (wD G hm hb1))))
  rintro v4 hm
  refine jn hm (fun v7 => ⟨[(0, .own 0), (1, dV a), (4, .fn 186 []), (11, dV v4), (12, dV v7)], [aX 0 74 data1], 48⟩) (fun v7 hm => ?_) ?_
  ·refine Ok_block (lp G hm (fun v5 => ⟨[(0, .own 0), (1, dV a), (4, .fn 186 []), (11, dV v4), (12, dV v5)], [aX 0 74 data1], 48⟩) ?_)
   rintro v5 r0 hb3 hm
   rw [zq132_L2] at hm
   refine Ok_seq (jn hm (fun v6 => ⟨[(0, .own 0), (1, dV a), (4, .fn 186 []), (11, dV v4), (12, dV v5), (65, dV v6)], [aX 0 74 data1], 48⟩) (fun v6 hm => ?_) ?_)
   ·rcases bf hm with ⟨hb4, hm⟩ | ⟨hb4, hm⟩
    ·obtain ⟨e14, h17, hm⟩ := obind hm
     obtain ⟨e15, h18, hm⟩ := obind hm
     obtain ⟨r3, h19, hm⟩ := obind hm
     have h19 : zq30 e14 e15 = some r3 := by rw [← hf_cmp] at h19; exact h19
     refine de G [(13, [])] (hO 3 (.b true) (hP hb4 (hD 7 h17 (hE 8 h17 (hD 11 h18 (hE 12 h18 (hC 13 (zq30_c h19) h0))))))) ?_
     exact wJ G hm
    ·refine de G [(13, [])] (hO 3 (.b false) (hP hb4 h0)) ?_
     exact wJ G hm
   rintro v6 hm
   refine cd hm (fun hm => ?_) (fun hm => ?_)
   ·exact X_skip (thN (Ok_block (rh G (ibN (wL G hm)))))
   ·exact Ok_exit (thE (thE (ibE (wD G hm hb3))))
  rintro v7 hm
  refine Ok_seq (rg G (cd hm (fun hm => ?_) (fun hm => ?_)))
  ·exact Ok_exit (thE (ibX rfl (thE (ibE (wD G hm hb)))))
  ·refine X_skip (thN ?_)
   obtain ⟨e20, h24, hm⟩ := obind hm
   obtain ⟨e21, h25, hm⟩ := obind hm
   obtain ⟨e22, h26, hm⟩ := obind hm
   obtain ⟨e23, h27, hm⟩ := obind hm
   refine ds G [(13, [0]), (15, [0])] (hD 6 h24 (hE 7 h24 (hD 10 h25 (hE 11 h25 (hD 12 h26 (hS 13 h26 e20 (hD 14 h27 (hS 15 h27 e21 h0)))))))) ?_
   exact rg G (rh G (ibN (wL G hm)))
 rintro ⟨v8, data2⟩ hm
 refine rg G ?_
 cases hm
 exact rt [] []
noncomputable def zq131_M : MS ((List Match) × Int × Int × Int) (Int × Bool × (List Match)) := ⟨⟨[.sl, .rd, .rd, .rd, .fn 186 []], fun x => [.sc undef, Enc.e x.2.1, Enc.e x.2.2.1, Enc.e x.2.2.2, .agg []], fun x => [arO 74 x.1], 1, 1, fun _ => rfl, fun _ => rfl, rfl, (by
  rintro ⟨a0, a1, a2, a3⟩ ⟨b0, b1, b2, b3⟩ h hO
  have q0 : a0 = b0 := Enc.inj _ _ (congrArg (fun l => D.sl 3 (obL l 0)) hO)
  have q1 : a1 = b1 := qI 1 h
  have q2 : a2 = b2 := qI 2 h
  have q3 : a3 = b3 := qI 3 h
  subst q0; subst q1; subst q2; subst q3; rfl)⟩, fun x => zq131 x.1 x.2.1 x.2.2.1 x.2.2.2, fun y => .tup [dV y.1, dV y.2.1], fun _ => [], fun _ y => [arO 74 y.2.2]⟩
theorem zq131_c {data a b pivot y} (hm : zq131 data a b pivot = some y) : zq131_M.C (data, a, b, pivot) y := zq131_M.c (data, a, b, pivot) hm
theorem zq131_ok : FnOK Tryz.prog 245 zq131_M.S := by
 refine fm tt zq131_M [fo zq30_ok] Tryz.call245 Tryz.func245 rfl Tryz.results245 Tryz.ntmps245 ?_
 rintro ⟨data, a, b, pivot⟩ y cx G hm
 have hm : zq131 data a b pivot = some y := hm
 obtain ⟨cmp, hf_cmp⟩ : ∃ q, (fun (z0 : Match) (z1 : Match) => zq30 z0 z1) = q := ⟨_, rfl⟩
 have hm : zq129 data a b pivot cmp = some y := by rw [← hf_cmp]; exact hm
 unfold zq129 at hm
 refine rg G ?_
 obtain ⟨e4, h4, hm⟩ := obind hm
 obtain ⟨e5, h5, hm⟩ := obind hm
 obtain ⟨e6, h6, hm⟩ := obind hm
 obtain ⟨e7, h7, hm⟩ := obind hm
 refine ds G [(13, [0]), (15, [0])] (hD 6 h4 (hE 7 h4 (hD 10 h5 (hE 11 h5 (hD 12 h6 (hS 13 h6 e4 (hD 14 h7 (hS 15 h7 e5 h0)))))))) ?_
 refine rg G (jn hm (fun v2 => ⟨[(0, .own 0), (1, dV a), (4, .fn 186 []), (12, dV v2), (13, dV (w64 (b - 1)))], [aX 0 74 ((data.set a.toNat e4).set pivot.toNat e5)], 48⟩) (fun v2 hm => ?_) ?_)
 ·refine Ok_block (lp G hm (fun v => ⟨[(0, .own 0), (1, dV a), (4, .fn 186 []), (12, dV v), (13, dV (w64 (b - 1)))], [aX 0 74 ((data.set a.toNat e4).set pivot.toNat e5)], 48⟩) ?_)
  rintro v r0 hb hm
  rw [zq129_L1] at hm
  refine Ok_seq (jn hm (fun v1 => ⟨[(0, .own 0), (1, dV a), (4, .fn 186 []), (12, dV v), (13, dV (w64 (b - 1))), (47, dV v1)], [aX 0 74 ((data.set a.toNat e4).set pivot.toNat e5)], 48⟩) (fun v1 hm => ?_) ?_)
  ·rcases bf hm with ⟨hb1, hm⟩ | ⟨hb1, hm⟩
   ·obtain ⟨e10, h11, hm⟩ := obind hm
    obtain ⟨e11, h12, hm⟩ := obind hm
    obtain ⟨r1, h13, hm⟩ := obind hm
    have h13 : zq30 e10 e11 = some r1 := by rw [← hf_cmp] at h13; exact h13
    refine de G [(13, [])] (hO 3 (.b true) (hP hb1 (hD 7 h11 (hE 8 h11 (hD 11 h12 (hE 12 h12 (hC 13 (zq30_c h13) h0))))))) ?_
    exact wJ G hm
   ·refine de G [(13, [])] (hO 3 (.b false) (hP hb1 h0)) ?_
    exact wJ G hm
  rintro v1 hm
  refine cd hm (fun hm => ?_) (fun hm => ?_)
  ·exact X_skip (thN (Ok_block (rh G (ibN (wL G hm)))))
  ·exact Ok_exit (thE (thE (ibE (wD G hm hb))))
 rintro v2 hm
 refine jn hm (fun v5 => ⟨[(0, .own 0), (1, dV a), (4, .fn 186 []), (12, dV v2), (13, dV v5)], [aX 0 74 ((data.set a.toNat e4).set pivot.toNat e5)], 48⟩) (fun v5 hm => ?_) ?_
 ·refine Ok_block (lp G hm (fun v3 => ⟨[(0, .own 0), (1, dV a), (4, .fn 186 []), (12, dV v2), (13, dV v3)], [aX 0 74 ((data.set a.toNat e4).set pivot.toNat e5)], 48⟩) ?_)
  rintro v3 r0 hb2 hm
  rw [zq129_L2] at hm
  refine Ok_seq (jn hm (fun v4 => ⟨[(0, .own 0), (1, dV a), (4, .fn 186 []), (12, dV v2), (13, dV v3), (66, dV v4)], [aX 0 74 ((data.set a.toNat e4).set pivot.toNat e5)], 48⟩) (fun v4 hm => ?_) ?_)
  ·rcases bf hm with ⟨hb3, hm⟩ | ⟨hb3, hm⟩
   ·obtain ⟨e14, h17, hm⟩ := obind hm
    obtain ⟨e15, h18, hm⟩ := obind hm
    obtain ⟨r3, h19, hm⟩ := obind hm
    have h19 : zq30 e14 e15 = some r3 := by rw [← hf_cmp] at h19; exact h19
    refine de G [(13, [])] (hO 3 (.b true) (hP hb3 (hD 7 h17 (hE 8 h17 (hD 11 h18 (hE 12 h18 (hC 13 (zq30_c h19) h0))))))) ?_
    exact wJ G hm
   ·refine de G [(13, [])] (hO 3 (.b false) (hP hb3 h0)) ?_
    exact wJ G hm
  rintro v4 hm
  refine cd hm (fun hm => ?_) (fun hm => ?_)
  ·exact X_skip (thN (Ok_block (rh G (ibN (wL G hm)))))
  ·exact Ok_exit (thE (thE (ibE (wD G hm hb2))))
 rintro v5 hm
 refine Ok_seq (rg G (cd hm (fun hm => ?_) (fun hm => ?_)))
 ·obtain ⟨e20, h24, hm⟩ := obind hm
  obtain ⟨e21, h25, hm⟩ := obind hm
  obtain ⟨e22, h26, hm⟩ := obind hm
  obtain ⟨e23, h27, hm⟩ := obind hm
  refine ds G [(13, [0]), (15, [0])] (hD 6 h24 (hE 7 h24 (hD 10 h25 (hE 11 h25 (hD 12 h26 (hS 13 h26 e20 (hD 14 h27 (hS 15 h27 e21 h0)))))))) ?_
  refine rg G ?_
  cases hm
  exact rt [] []
 ·refine X_skip (thN ?_)
  obtain ⟨e28, h32, hm⟩ := obind hm
  obtain ⟨e29, h33, hm⟩ := obind hm
  obtain ⟨e30, h34, hm⟩ := obind hm
  obtain ⟨e31, h35, hm⟩ := obind hm
  refine ds G [(13, [0]), (15, [0])] (hD 6 h32 (hE 7 h32 (hD 10 h33 (hE 11 h33 (hD 12 h34 (hS 13 h34 e28 (hD 14 h35 (hS 15 h35 e29 h0)))))))) ?_
  refine rg G (rg G (jn hm (fun (v14, data2) => ⟨[(0, .own 0), (1, dV a), (4, .fn 186 []), (13, dV v14)], [aX 0 74 data2], 48⟩) (fun vv hm => ?_) ?_))
  ·refine Ok_block (lp G hm (fun (v6, v7, data1) => ⟨[(0, .own 0), (1, dV a), (4, .fn 186 []), (12, dV v6), (13, dV v7)], [aX 0 74 data1], 48⟩) ?_)
   rintro ⟨v6, v7, data1⟩ r0 hb4 hm
   rw [zq129_L5] at hm
   refine Ok_block (jn hm (fun v10 => ⟨[(0, .own 0), (1, dV a), (4, .fn 186 []), (12, dV v10), (13, dV v7)], [aX 0 74 data1], 48⟩) (fun v10 hm => ?_) ?_)
   ·refine Ok_block (lp G hm (fun v8 => ⟨[(0, .own 0), (1, dV a), (4, .fn 186 []), (12, dV v8), (13, dV v7)], [aX 0 74 data1], 48⟩) ?_)
    rintro v8 r0 hb5 hm
    rw [zq129_L3] at hm
    refine Ok_seq (jn hm (fun v9 => ⟨[(0, .own 0), (1, dV a), (4, .fn 186 []), (12, dV v8), (13, dV v7), (120, dV v9)], [aX 0 74 data1], 48⟩) (fun v9 hm => ?_) ?_)
    ·rcases bf hm with ⟨hb6, hm⟩ | ⟨hb6, hm⟩
     ·obtain ⟨e34, h39, hm⟩ := obind hm
      obtain ⟨e35, h40, hm⟩ := obind hm
      obtain ⟨r5, h41, hm⟩ := obind hm
      have h41 : zq30 e34 e35 = some r5 := by rw [← hf_cmp] at h41; exact h41
      refine de G [(13, [])] (hO 3 (.b true) (hP hb6 (hD 7 h39 (hE 8 h39 (hD 11 h40 (hE 12 h40 (hC 13 (zq30_c h41) h0))))))) ?_
      exact wJ G hm
     ·refine de G [(13, [])] (hO 3 (.b false) (hP hb6 h0)) ?_
      exact wJ G hm
    rintro v9 hm
    refine cd hm (fun hm => ?_) (fun hm => ?_)
    ·exact X_skip (thN (Ok_block (rh G (ibN (wL G hm)))))
    ·exact Ok_exit (thE (thE (ibE (wD G hm hb5))))
   rintro v10 hm
   refine jn hm (fun v13 => ⟨[(0, .own 0), (1, dV a), (4, .fn 186 []), (12, dV v10), (13, dV v13)], [aX 0 74 data1], 48⟩) (fun v13 hm => ?_) ?_
   ·refine Ok_block (lp G hm (fun v11 => ⟨[(0, .own 0), (1, dV a), (4, .fn 186 []), (12, dV v10), (13, dV v11)], [aX 0 74 data1], 48⟩) ?_)
    rintro v11 r0 hb7 hm
    rw [zq129_L4] at hm
    refine Ok_seq (jn hm (fun v12 => ⟨[(0, .own 0), (1, dV a), (4, .fn 186 []), (12, dV v10), (13, dV v11), (139, dV v12)], [aX 0 74 data1], 48⟩) (fun v12 hm => ?_) ?_)
    ·rcases bf hm with ⟨hb8, hm⟩ | ⟨hb8, hm⟩
     ·obtain ⟨e38, h45, hm⟩ := obind hm
      obtain ⟨e39, h46, hm⟩ := obind hm
      obtain ⟨r7, h47, hm⟩ := obind hm
      have h47 : zq30 e38 e39 = some r7 := by rw [← hf_cmp] at h47; exact h47
      refine de G [(13, [])] (hO 3 (.b true) (hP hb8 (hD 7 h45 (hE 8 h45 (hD 11 h46 (hE 12 h46 (hC 13 (zq30_c h47) h0))))))) ?_
      exact wJ G hm
     ·refine de G [(13, [])] (hO 3 (.b false) (hP hb8 h0)) ?_
      exact wJ G hm
    rintro v12 hm
    refine cd hm (fun hm => ?_) (fun hm => ?_)
    ·exact X_skip (thN (Ok_block (rh G (ibN (wL G hm)))))
    ·exact Ok_exit (thE (thE (ibE (wD G hm hb7))))
   rintro v13 hm
   refine Ok_seq (rg G (cd hm (fun hm => ?_) (fun hm => ?_)))
   ·exact Ok_exit (thE (ibX rfl (thE (ibE (wD G hm hb4)))))
   ·refine X_skip (thN ?_)
    obtain ⟨e44, h52, hm⟩ := obind hm
    obtain ⟨e45, h53, hm⟩ := obind hm
    obtain ⟨e46, h54, hm⟩ := obind hm
    obtain ⟨e47, h55, hm⟩ := obind hm
    refine ds G [(13, [0]), (15, [0])] (hD 6 h52 (hE 7 h52 (hD 10 h53 (hE 11 h53 (hD 12 h54 (hS 13 h54 e44 (hD 14 h55 (hS 15 h55 e45 h0)))))))) ?_
    exact rg G (rh G (ibN (wL G hm)))
  rintro ⟨v14, data2⟩ hm
  obtain ⟨e52, h60, hm⟩ := obind hm
  obtain ⟨e53, h61, hm⟩ := obind hm
  obtain ⟨e54, h62, hm⟩ := obind hm
  obtain ⟨e55, h63, hm⟩ := obind hm
  refine ds G [(13, [0]), (15, [0])] (hD 6 h60 (hE 7 h60 (hD 10 h61 (hE 11 h61 (hD 12 h62 (hS 13 h62 e52 (hD 14 h63 (hS 15 h63 e53 h0)))))))) ?_
  refine rg G ?_
  cases hm
  exact rt [] []
noncomputable def zq105_M : MS ((List Match) × Int × Int) ((List Match)) := ⟨⟨[.sl, .rd, .rd, .fn 186 []], fun x => [.sc undef, Enc.e x.2.1, Enc.e x.2.2, .agg []], fun x => [arO 74 x.1], 1, 1, fun _ => rfl, fun _ => rfl, rfl, (by
  rintro ⟨a0, a1, a2⟩ ⟨b0, b1, b2⟩ h hO
  have q0 : a0 = b0 := Enc.inj _ _ (congrArg (fun l => D.sl 3 (obL l 0)) hO)
  have q1 : a1 = b1 := qI 1 h
  have q2 : a2 = b2 := qI 2 h
  subst q0; subst q1; subst q2; rfl)⟩, fun x => zq105 x.1 x.2.1 x.2.2, fun _ => .tup [], fun _ => [], fun _ y => [arO 74 y]⟩
theorem zq105_c {data a b y} (hm : zq105 data a b = some y) : zq105_M.C (data, a, b) y := zq105_M.c (data, a, b) hm
theorem zq105_ok : FnOK Tryz.prog 240 zq105_M.S := by
 refine fm tt zq105_M [fo zq122_ok, fo zq149_ok] Tryz.call240 Tryz.func240 rfl Tryz.results240 Tryz.ntmps240 ?_
 rintro ⟨data, a, b⟩ y cx G hm
 have hm : zq105 data a b = some y := hm
 obtain ⟨cmp, hf_cmp⟩ : ∃ q, (fun (z0 : Match) (z1 : Match) => zq30 z0 z1) = q := ⟨_, rfl⟩
 have hm : zq103 data a b cmp = some y := by rw [← hf_cmp]; exact hm
 unfold zq103 at hm
 refine rg G (rg G (cd hm (fun hm => ?_) (fun hm => ?_)))
 ·refine rg G ?_
  obtain ⟨r, h, hm⟩ := obind hm
  refine rs G (hC 1 (zq122_c h) h0) ?_
  obtain ⟨u, h1, hm⟩ := obind hm
  refine rs G (hK h1 h0) ?_
  refine Ok_block (lp G hm (fun (v, data1, v1) => ⟨[(0, .own 0), (1, dV a), (3, .fn 186 []), (8, dV (w64 (b - a))), (9, .ref 32 0), (10, kV .u64 r.v), (11, dV v)], [aX 0 74 data1, bX 32 [kV .u64 v1]], 64⟩) ?_)
  rintro ⟨v, data1, v1⟩ r0 hb hm
  rw [zq103_L1] at hm
  refine Ok_seq ?_
  obtain ⟨u1, h2, hm⟩ := obind hm
  refine rs G (hK h2 h0) ?_
  refine cd hm (fun hm => ?_) (fun hm => ?_)
  ·refine X_skip (thN (Ok_seq (Ok_block ?_)))
   obtain ⟨r1, h3, hm⟩ := obind hm
   refine rs G (hC 0 (zq149_c h3) h0) ?_
   refine jn hm (fun v2 => ⟨[(0, .own 0), (1, dV a), (3, .fn 186 []), (8, dV (w64 (b - a))), (9, .ref 32 0), (10, kV .u64 r.v), (11, dV v), (12, dV v2)], [aX 0 74 data1, bX 32 [kV .u64 r1.2.v]], 64⟩) (fun v2 hm => ?_) ?_
   ·refine rg G (cd hm (fun hm => ?_) (fun hm => ?_))
    ·exact rh G (wJ G hm)
    ·exact X_skip (wJ G hm)
   rintro v2 hm
   obtain ⟨e4, h8, hm⟩ := obind hm
   obtain ⟨e5, h9, hm⟩ := obind hm
   obtain ⟨e6, h10, hm⟩ := obind hm
   obtain ⟨e7, h11, hm⟩ := obind hm
   refine de G [(17, [0]), (19, [0])] (hD 10 h8 (hE 11 h8 (hD 14 h9 (hE 15 h9 (hD 16 h10 (hS 17 h10 e4 (hD 18 h11 (hS 19 h11 e5 h0)))))))) ?_
   exact ibN (thN (rh G (wL G hm)))
  ·have hm := eD hm hb
   refine Ok_exit (thE (thE (ibE ?_)))
   cases hm
   exact fN [] []
 ·refine X_skip ?_
  cases hm
  exact fN [] []
noncomputable def zq136_MR (rec_ : (List Match) → Int → Int → Int → Option ((List Match))) : MS ((List Match) × Int × Int × Int) ((List Match)) := ⟨⟨[.sl, .rd, .rd, .rd, .fn 186 []], fun x => [.sc undef, Enc.e x.2.1, Enc.e x.2.2.1, Enc.e x.2.2.2, .agg []], fun x => [arO 74 x.1], 1, 1, fun _ => rfl, fun _ => rfl, rfl, (by
  rintro ⟨a0, a1, a2, a3⟩ ⟨b0, b1, b2, b3⟩ h hO
  have q0 : a0 = b0 := Enc.inj _ _ (congrArg (fun l => D.sl 3 (obL l 0)) hO)
  have q1 : a1 = b1 := qI 1 h
  have q2 : a2 = b2 := qI 2 h
  have q3 : a3 = b3 := qI 3 h
  subst q0; subst q1; subst q2; subst q3; rfl)⟩, fun x => rec_ x.1 x.2.1 x.2.2.1 x.2.2.2, fun _ => .tup [], fun _ => [], fun _ y => [arO 74 y]⟩
noncomputable def zq136_M : MS ((List Match) × Int × Int × Int) ((List Match)) := zq136_MR zq136
theorem zq136_c {data a b limit y} (hm : zq136 data a b limit = some y) : zq136_M.C (data, a, b, limit) y := zq136_M.c (data, a, b, limit) hm
theorem zq136_cR {rec_ : (List Match) → Int → Int → Int → Option ((List Match))} {data a b limit y} (hm : rec_ data a b limit = some y) : (zq136_MR rec_).C (data, a, b, limit) y := (zq136_MR rec_).c (data, a, b, limit) hm
theorem zq136_okF {rec_ : (List Match) → Int → Int → Int → Option ((List Match))} (hrec : FnOK Tryz.prog 224 (zq136_MR rec_).S) : FnOK Tryz.prog 224 (zq136_MR (zq136_F rec_)).S := by
 refine fm tt (zq136_MR (zq136_F rec_)) [fo hrec, fo zq115_ok, fo zq111_ok, fo zq105_ok, fo zq108_ok, fo zq139_ok, fo zq128_ok, fo zq30_ok, fo zq134_ok, fo zq131_ok] Tryz.call224 Tryz.func224 rfl Tryz.results224 Tryz.ntmps224 ?_
 rintro ⟨data, a, b, limit⟩ y cx G hm
 have hm : zq136_F rec_ data a b limit = some y := hm
 unfold zq136_F at hm
 refine rg G (rg G (Ok_block (lp G hm (fun (a1, b1, limit1, mid, mid1, data1) => ⟨[(0, .own 0), (1, dV a1), (2, dV b1), (3, dV limit1), (4, .fn 186 []), (10, dV mid), (11, dV mid1)], [aX 0 74 data1], 48⟩) ?_)))
 rintro ⟨a1, b1, limit1, mid, mid1, data1⟩ r0 hb hm
 rw [zq136_L1] at hm
 refine Ok_block (rg G (Ok_seq (rg G (cd hm (fun hm => ?_) (fun hm => ?_)))))
 ·obtain ⟨r, h, hm⟩ := obind hm
  refine rs G (hC 4 (zq115_c h) h0) ?_
  have hm := eD hm hb
  cases hm
  exact rt [] []
 ·refine X_skip (thN (Ok_seq (rg G (cd hm (fun hm => ?_) (fun hm => ?_)))))
  ·obtain ⟨r2, h1, hm⟩ := obind hm
   refine rs G (hC 4 (zq111_c h1) h0) ?_
   have hm := eD hm hb
   cases hm
   exact rt [] []
  ·refine X_skip (thN (jn hm (fun (limit2, data2) => ⟨[(0, .own 0), (1, dV a1), (2, dV b1), (3, dV limit2), (4, .fn 186 []), (10, dV mid), (11, dV mid1), (12, dV (w64 (b1 - a1)))], [aX 0 74 data2], 48⟩) (fun vv1 hm => ?_) ?_))
   ·refine rg G (cd hm (fun hm => ?_) (fun hm => ?_))
    ·obtain ⟨r4, h2, hm⟩ := obind hm
     refine rs G (hC 4 (zq105_c h2) h0) ?_
     exact rh G (wJ G hm)
    ·exact X_skip (wJ G hm)
   rintro ⟨limit2, data2⟩ hm
   obtain ⟨r5, h3, hm⟩ := obind hm
   refine rs G (hC 4 (zq108_c h3) h0) ?_
   refine jn hm (fun (leftLen, rightLen, data3) => ⟨[(0, .own 0), (1, dV a1), (2, dV b1), (3, dV limit2), (4, .fn 186 []), (10, dV mid), (11, dV mid1), (12, dV (w64 (b1 - a1))), (13, dV leftLen), (14, dV rightLen)], [aX 0 74 data3], 48⟩) (fun vv hm => ?_) ?_
   ·refine rg G (cd hm (fun hm => ?_) (fun hm => ?_))
    ·obtain ⟨r6, h4, hm⟩ := obind hm
     refine rs G (hC 4 (zq139_c h4) h0) ?_
     exact rg G (rh G (wJ G hm))
    ·exact X_skip (wJ G hm)
   rintro ⟨leftLen, rightLen, data3⟩ hm
   refine jF hm (fun data4 => ⟨[(0, .own 0), (1, dV a1), (2, dV b1), (3, dV limit2), (4, .fn 186 []), (10, dV mid), (11, dV mid1), (12, dV (w64 (b1 - a1))), (13, dV leftLen)], [aX 0 74 data4], 48⟩) (fun v2 hr3 hm => ?_) ?_
   ·refine jn hm (fun v => ⟨[(0, .own 0), (1, dV a1), (2, dV b1), (3, dV limit2), (4, .fn 186 []), (10, dV mid), (11, dV mid1), (12, dV (w64 (b1 - a1))), (13, dV leftLen), (75, dV v)], [aX 0 74 data3], 48⟩) (fun v hm => ?_) ?_
    ·rcases bf hm with ⟨hb1, hm⟩ | ⟨hb1, hm⟩
     ·rcases bf hm with ⟨hb2, hm⟩ | ⟨hb2, hm⟩
      ·refine re G (hO 1 (.b true) (hP hb1 (hO 4 (.b true) (hP hb2 h0)))) ?_
       exact wJ G hm
      ·refine re G (hO 1 (.b true) (hP hb1 (hO 4 (.b false) (hP hb2 h0)))) ?_
       exact wJ G hm
     ·refine re G (hO 1 (.b false) (hP hb1 h0)) ?_
      exact wJ G hm
    rintro v hm
    refine cd hm (fun hm => ?_) (fun hm => ?_)
    ·obtain ⟨r7, h5, hm⟩ := obind hm
     refine rs G (hC 4 (zq128_c h5) h0) ?_
     refine cd hm (fun hm => ?_) (fun hm => ?_)
     ·have hm := eR hm hr3
      have hm := eD hm hb
      cases hm
      exact rt [] []
     ·exact X_skip (wF G hm)
    ·exact X_skip (wF G hm)
   rintro data4 hm
   refine Ok_seq (jn hm (fun v1 => ⟨[(0, .own 0), (1, dV a1), (2, dV b1), (3, dV limit2), (4, .fn 186 []), (10, dV mid), (11, dV mid1), (12, dV (w64 (b1 - a1))), (13, dV leftLen), (97, dV v1)], [aX 0 74 data4], 48⟩) (fun v1 hm => ?_) ?_)
   ·rcases bf hm with ⟨hb3, hm⟩ | ⟨hb3, hm⟩
    ·obtain ⟨e6, h9, hm⟩ := obind hm
     obtain ⟨e7, h10, hm⟩ := obind hm
     obtain ⟨r11, h11, hm⟩ := obind hm
     refine de G [(13, [])] (hO 2 (.b true) (hP hb3 (hD 7 h9 (hE 8 h9 (hD 11 h10 (hE 12 h10 (hC 13 (zq30_c h11) h0))))))) ?_
     exact wJ G hm
    ·refine de G [(13, [])] (hO 2 (.b false) (hP hb3 h0)) ?_
     exact wJ G hm
   rintro v1 hm
   refine cd hm (fun hm => ?_) (fun hm => ?_)
   ·obtain ⟨r12, h12, hm⟩ := obind hm
    refine rs G (hC 5 (zq134_c h12) h0) ?_
    exact rg G (Ok_exit (thE (ibE (wL G hm))))
   ·refine X_skip (thN ?_)
    obtain ⟨r13, h13, hm⟩ := obind hm
    refine rs G (hC 5 (zq131_c h13) h0) ?_
    refine rg G (rg G ?_)
    obtain ⟨u, h14, hm⟩ := obind hm
    refine rs G (hK h14 h0) ?_
    refine rg G (cd hm (fun hm => ?_) (fun hm => ?_))
    ·refine rg G ?_
     obtain ⟨r14, h15, hm⟩ := obind hm
     refine rs G (hC 5 (zq136_cR h15) h0) ?_
     exact rh G (ibN (wL G hm))
    ·refine rg G ?_
     obtain ⟨r15, h16, hm⟩ := obind hm
     refine rs G (hC 6 (zq136_cR h16) h0) ?_
     exact rh G (ibN (wL G hm))
theorem zq136_okn : ∀ k, FnOK Tryz.prog 224 (zq136_MR (zq136_k k)).S
 | 0 => ⟨fun args w => Tryz.call224 args w, fun vs w F ds obs κ hp => by obtain ⟨x, y, _, _, h⟩ := hp; cases h⟩
 | k + 1 => zq136_okF (zq136_okn k)
theorem zq136_ok : FnOK Tryz.prog 224 zq136_M.S := zq136_okn 4294967296
noncomputable def zq101_M : MS ((List Match)) ((List Match)) := ⟨⟨[.sl, .fn 186 []], fun x => [.sc undef, .agg []], fun x => [arO 74 x], 1, 1, fun _ => rfl, fun _ => rfl, rfl, (by
  rintro a0 b0 h hO
  have q0 : a0 = b0 := Enc.inj _ _ (congrArg (fun l => D.sl 3 (obL l 0)) hO)
  subst q0; rfl)⟩, zq101, fun _ => .tup [], fun _ => [], fun _ y => [arO 74 y]⟩
theorem zq101_c {x y} (hm : zq101 x = some y) : zq101_M.C x y := zq101_M.c x hm
theorem zq101_ok : FnOK Tryz.prog 183 zq101_M.S := by
 refine fm tt zq101_M [fo zq33_ok, fo zq136_ok] Tryz.call183 Tryz.func183 rfl Tryz.results183 Tryz.ntmps183 ?_
 rintro x y cx G hm
 have hm : zq101 x = some y := hm
 unfold zq101 at hm
 refine rs G (hN 1 x h0) ?_
 obtain ⟨r, h, hm⟩ := obind hm
 obtain ⟨r1, h1, hm⟩ := obind hm
 refine re G (hC 4 (zq33_c h) (hC 6 (zq136_c h1) h0)) ?_
 cases hm
 exact fN [] []
noncomputable def zq27_M : MS (Timetable × (List Report) × Int) ((List Match)) := ⟨.x .r (.x .r .r), fun x => zq27 x.1 x.2.1 x.2.2, fun _ => .own 0, fun y => [arO 74 y], fun _ _ => []⟩
theorem zq27_c {t list limit y} (hm : zq27 t list limit = some y) : zq27_M.C (t, list, limit) y := zq27_M.c (t, list, limit) hm
theorem zq27_ok : FnOK Tryz.prog 110 zq27_M.S := by
 refine fm tt zq27_M [fo zq25_ok, fo zq18_ok, fo zq12_ok, fo zq100_ok, fo zq93_ok, fo zq101_ok] Tryz.call110 Tryz.func110 rfl Tryz.results110 Tryz.ntmps110 ?_
 rintro ⟨t, list, limit⟩ y cx G hm
 have hm : zq27 t list limit = some y := hm
 unfold zq27 at hm
 refine rg G (rg G (Ok_seq ?_))
 obtain ⟨r, h, hm⟩ := obind hm
 refine rs G (hC 1 (zq25_c h) (hN 2 r h0)) ?_
 refine tl hm (fun v6 => ⟨[(7, .own 16)], [aX 16 74 v6], 48⟩) (fun v6 hm => ?_) ?_
 ·refine Ok_block (lpP hm (fun (v, v1) => ⟨[(2, dV limit), (3, .ref 16 0), (7, .own 32), (16, .own 48), (17, dV (r.length : Int)), (18, dV v)], [bX 16 [dV t.Network.Stops, dV t.Network.Lines, dV t.Trips], aX 32 74 v1, aX 48 76 r], 80⟩) (Wk_J G.hL ⟨[(2, []), (3, []), (7, [.o 32]), (16, []), (17, []), (18, [])], [(16, 16, []), (48, 80, [])], [(32, 74, 3, [])], 80⟩ (by kernel_rfl)) ?_)
  rintro ⟨v, v1⟩ r0 hb hm
  rw [zq27_L2] at hm
  refine rg G (Ok_seq (cd hm (fun hm => ?_) (fun hm => ?_)))
  ·refine X_skip (thN (Ok_seq (Ok_block ?_)))
   obtain ⟨e, h1, hm⟩ := obind hm
   refine rs G (hD 0 h1 (hE 1 h1 h0)) ?_
   obtain ⟨r1, h2, hm⟩ := obind hm
   refine rs G (hC 2 (zq18_c h2) (hN 3 r1 h0)) ?_
   refine tl hm (fun v5 => ⟨[(2, dV limit), (3, .ref 16 0), (7, .own 32), (16, .own 48), (17, dV (r.length : Int)), (18, dV v)], [bX 16 [dV t.Network.Stops, dV t.Network.Lines, dV t.Trips], aX 32 74 v5, aX 48 76 r], 80⟩) (fun v5 hm => ?_) ?_
   ·refine Ok_block (lp G hm (fun (v2, v3) => ⟨[(2, dV limit), (3, .ref 16 0), (7, .own 32), (16, .own 48), (17, dV (r.length : Int)), (18, dV v), (24, .own 64), (25, dV (r1.length : Int)), (26, dV v2)], [bX 16 [dV t.Network.Stops, dV t.Network.Lines, dV t.Trips], aX 32 74 v3, aX 48 76 r, aX 64 74 r1], 96⟩) ?_)
    rintro ⟨v2, v3⟩ r0 hb1 hm
    rw [zq27_L1] at hm
    refine rg G (Ok_seq (cd hm (fun hm => ?_) (fun hm => ?_)))
    ·refine X_skip (thN (jn hm (fun v4 => ⟨[(2, dV limit), (3, .ref 16 0), (7, .own 32), (16, .own 48), (17, dV (r.length : Int)), (18, dV v), (24, .own 64), (25, dV (r1.length : Int)), (26, dV v2)], [bX 16 [dV t.Network.Stops, dV t.Network.Lines, dV t.Trips], aX 32 74 v4, aX 48 76 r, aX 64 74 r1], 96⟩) (fun v4 hm => ?_) ?_))
     ·refine Ok_block ?_
      obtain ⟨e1, h3, hm⟩ := obind hm
      refine rs G (hD 0 h3 (hE 1 h3 h0)) ?_
      obtain ⟨r2, h4, hm⟩ := obind hm
      refine rs G (hC 2 (zq12_c h4) h0) ?_
      refine cd hm (fun hm => ?_) (fun hm => ?_)
      ·obtain ⟨u, h5, hm⟩ := obind hm
       refine re G (hA 3 24 h5 h0) ?_
       exact ibN (wJ G hm)
      ·exact X_skip (ibN (wJ G hm))
     rintro v4 hm
     exact rh G (wL G hm)
    ·exact Ok_exit (thE (thE (ibE (wD G hm hb1))))
   rintro v5 hm s hw
   refine ibN (thN (Ok_weak hw ?_))
   exact rh G (wL G hm)
  ·exact Ok_exit (thE (thE (ibE (wD G hm hb))))
 rintro v6 hm s1 hw1
 refine thN (Ok_weak hw1 ?_)
 obtain ⟨r3, h6, hm⟩ := obind hm
 refine rs G (hC 1 (zq100_c h6) h0) ?_
 refine rg G (Ok_seq (rs G (hN 1 r3 h0) ?_))
 refine tl hm (fun v10 => ⟨[(12, .own 16)], [aX 16 74 v10], 48⟩) (fun v10 hm => ?_) ?_
 ·refine Ok_block (lpP hm (fun (v7, v8) => ⟨[(12, .own 16), (43, .own 32), (44, dV (r3.length : Int)), (45, dV v7)], [aX 16 74 v8, aX 32 74 r3], 64⟩) (Wk_J G.hL ⟨[(12, [.o 16]), (43, []), (44, []), (45, [])], [(32, 16, [])], [(16, 74, 3, [])], 64⟩ (by kernel_rfl)) ?_)
  rintro ⟨v7, v8⟩ r0 hb2 hm
  rw [zq27_L3] at hm
  refine rg G (Ok_seq (cd hm (fun hm => ?_) (fun hm => ?_)))
  ·refine X_skip (thN (jn hm (fun v9 => ⟨[(12, .own 16), (43, .own 32), (44, dV (r3.length : Int)), (45, dV v7)], [aX 16 74 v9, aX 32 74 r3], 64⟩) (fun v9 hm => ?_) ?_))
   ·refine Ok_block ?_
    obtain ⟨e2, h7, hm⟩ := obind hm
    refine rs G (hD 0 h7 (hE 1 h7 h0)) ?_
    obtain ⟨r4, h8, hm⟩ := obind hm
    refine rs G (hC 2 (zq93_c h8) h0) ?_
    refine cd hm (fun hm => ?_) (fun hm => ?_)
    ·obtain ⟨u1, h9, hm⟩ := obind hm
     refine re G (hA 3 24 h9 h0) ?_
     exact ibN (wJ G hm)
    ·exact X_skip (ibN (wJ G hm))
   rintro v9 hm
   exact rh G (wL G hm)
  ·exact Ok_exit (thE (thE (ibE (wD G hm hb2))))
 rintro v10 hm s2 hw2
 refine thN (Ok_weak hw2 ?_)
 obtain ⟨r5, h10, hm⟩ := obind hm
 refine rs (G.f (fo zq101_ok)) (hC 1 (zq101_c h10) h0) ?_
 refine rg G ?_
 cases hm
 exact rt [16] []
noncomputable def zq9_M : MS (Timetable × (List Report) × Int) ((List Match) × Bool) := ⟨.x .r (.x .r .r), fun x => zq9 x.1 x.2.1 x.2.2, fun y => .tup [dV y.1, dV y.2], fun _ => [], fun _ _ => []⟩
theorem zq9_c {t list limit y} (hm : zq9 t list limit = some y) : zq9_M.C (t, list, limit) y := zq9_M.c (t, list, limit) hm
theorem zq9_ok : FnOK Tryz.prog 38 zq9_M.S := by
 refine fm tt zq9_M [fo zq13_ok, fo zq27_ok] Tryz.call38 Tryz.func38 rfl Tryz.results38 Tryz.ntmps38 ?_
 rintro ⟨t, list, limit⟩ y cx G hm
 have hm : zq9 t list limit = some y := hm
 unfold zq9 at hm
 refine rg G (Ok_seq ?_)
 obtain ⟨r, h, hm⟩ := obind hm
 refine rs G (hC 3 (zq13_c h) h0) ?_
 refine cd hm (fun hm => ?_) (fun hm => ?_)
 ·refine rg G ?_
  cases hm
  exact rt [] [[.z 3]]
 ·refine X_skip (thN ?_)
  obtain ⟨r1, h1, hm⟩ := obind hm
  refine rs G (hC 3 (zq27_c h1) h0) ?_
  cases hm
  exact rt [] []
noncomputable def zq72_M : MS (Timetable × Report) Bool := ⟨.x .r .r, fun x => zq72 x.1 x.2, fun y => dV y, fun _ => [], fun _ _ => []⟩
theorem zq72_c {t r y} (hm : zq72 t r = some y) : zq72_M.C (t, r) y := zq72_M.c (t, r) hm
theorem zq72_ok : FnOK Tryz.prog 226 zq72_M.S := by
 refine fm tt zq72_M [fo zq59_ok, fo zq84_ok, fo zq70_ok] Tryz.call226 Tryz.func226 rfl Tryz.results226 Tryz.ntmps226 ?_
 rintro ⟨t, r⟩ y cx G hm
 have hm : zq72 t r = some y := hm
 unfold zq72 at hm
 refine rg G ?_
 obtain ⟨r6, h6, hm⟩ := obind hm
 refine jn hm (fun v => ⟨[(4, dV v)], [], 32⟩) (fun v hm => ?_) ?_
 ·rcases bf hm with ⟨hb, hm⟩ | ⟨hb, hm⟩
  ·obtain ⟨r7, h7, hm⟩ := obind hm
   rcases bf hm with ⟨hb1, hm⟩ | ⟨hb1, hm⟩
   ·obtain ⟨r8, h8, hm⟩ := obind hm
    rcases bf hm with ⟨hb2, hm⟩ | ⟨hb2, hm⟩
    ·obtain ⟨e1, h9, hm⟩ := obind hm
     obtain ⟨r9, h10, hm⟩ := obind hm
     obtain ⟨r10, h11, hm⟩ := obind hm
     refine de G [] (hC 2 (zq59_c h6) (hO 3 (.b true) (hP hb (hC 6 (zq84_c h7) (hO 8 (.b true) (hP hb1 (hN 14 t.Network.Lines (hC 16 (zq59_c h8) (hO 18 (.b true) (hP hb2 (hD 26 h9 (hC 28 (zq70_c h10) (hC 29 (zq59_c h11) h0))))))))))))) ?_
     exact wJ G hm
    ·refine de G [] (hC 2 (zq59_c h6) (hO 3 (.b true) (hP hb (hC 6 (zq84_c h7) (hO 8 (.b true) (hP hb1 (hN 14 t.Network.Lines (hC 16 (zq59_c h8) (hO 18 (.b false) (hP hb2 h0)))))))))) ?_
     exact wJ G hm
   ·refine de G [] (hC 2 (zq59_c h6) (hO 3 (.b true) (hP hb (hC 6 (zq84_c h7) (hO 8 (.b false) (hP hb1 h0)))))) ?_
    exact wJ G hm
  ·refine de G [] (hC 2 (zq59_c h6) (hO 3 (.b false) (hP hb h0))) ?_
   exact wJ G hm
 rintro v hm
 cases hm
 exact rt [] []
noncomputable def zq68_M : MS (Timetable × (List Report)) Bool := ⟨.x .r .r, fun x => zq68 x.1 x.2, fun y => dV y, fun _ => [], fun _ _ => []⟩
theorem zq68_c {t list y} (hm : zq68 t list = some y) : zq68_M.C (t, list) y := zq68_M.c (t, list) hm
theorem zq68_ok : FnOK Tryz.prog 187 zq68_M.S := by
 refine fm tt zq68_M [fo zq87_ok, fo zq72_ok] Tryz.call187 Tryz.func187 rfl Tryz.results187 Tryz.ntmps187 ?_
 rintro ⟨t, list⟩ y cx G hm
 have hm : zq68 t list = some y := hm
 unfold zq68 at hm
 refine rg G (Ok_seq ?_)
 obtain ⟨r, h, hm⟩ := obind hm
 refine jn hm (fun v => ⟨[(1, dV list), (2, .ref 16 0), (13, dV v)], [bX 16 [dV t.Network.Stops, dV t.Network.Lines, dV t.Trips]], 48⟩) (fun v hm => ?_) ?_
 ·rcases bf hm with ⟨hb, hm⟩ | ⟨hb, hm⟩
  ·refine re G (hC 1 (zq87_c h) (hO 3 (.b true) (hP hb h0))) ?_
   exact wJ G hm
  ·refine re G (hC 1 (zq87_c h) (hO 3 (.b false) (hP hb (hN 5 list h0)))) ?_
   exact wJ G hm
 rintro v hm
 refine cd hm (fun hm => ?_) (fun hm => ?_)
 ·refine rg G ?_
  cases hm
  exact rt [] []
 ·refine X_skip (thN (Ok_seq (rg G (tF hm (fun _ => ⟨[], [], 32⟩) (fun v3 hr hm => ?_) ?_))))
  ·refine Ok_block (lp G hm (fun v1 => ⟨[(1, dV list), (2, .ref 16 0), (5, dV v1)], [bX 16 [dV t.Network.Stops, dV t.Network.Lines, dV t.Trips]], 48⟩) ?_)
   rintro v1 r0 hb1 hm
   rw [zq68_L1] at hm
   refine Ok_seq (rs G (hN 2 list h0) ?_)
   refine cd hm (fun hm => ?_) (fun hm => ?_)
   ·refine X_skip (thN (Ok_seq (Ok_block (Ok_seq ?_))))
    obtain ⟨e1, h3, hm⟩ := obind hm
    obtain ⟨r2, h4, hm⟩ := obind hm
    refine ds G [] (hD 3 h3 (hC 5 (zq72_c h4) h0)) ?_
    refine cd hm (fun hm => ?_) (fun hm => ?_)
    ·refine rg G ?_
     have hm := eL hm hb1 hr
     cases hm
     exact rt [] []
    ·refine X_skip (thN (jn hm (fun v2 => ⟨[(1, dV list), (2, .ref 16 0), (5, dV v1), (70, dV v2)], [bX 16 [dV t.Network.Stops, dV t.Network.Lines, dV t.Trips]], 48⟩) (fun v2 hm => ?_) ?_))
     ·rcases bf hm with ⟨hb2, hm⟩ | ⟨hb2, hm⟩
      ·obtain ⟨e9, h11, hm⟩ := obind hm
       obtain ⟨e10, h12, hm⟩ := obind hm
       rcases bf hm with ⟨hb3, hm⟩ | ⟨hb3, hm⟩
       ·refine de G [] (hO 2 (.b true) (hP hb2 (hD 6 h11 (hD 11 h12 (hO 15 (.b true) (hP hb3 h0)))))) ?_
        exact wJ G hm
       ·obtain ⟨e11, h13, hm⟩ := obind hm
        obtain ⟨e12, h14, hm⟩ := obind hm
        rcases bf hm with ⟨hb4, hm⟩ | ⟨hb4, hm⟩
        ·obtain ⟨e13, h15, hm⟩ := obind hm
         obtain ⟨e14, h16, hm⟩ := obind hm
         refine de G [] (hO 2 (.b true) (hP hb2 (hD 6 h11 (hD 11 h12 (hO 15 (.b false) (hP hb3 (hD 19 h13 (hD 24 h14 (hO 28 (.b true) (hP hb4 (hD 32 h15 (hD 37 h16 h0)))))))))))) ?_
         exact wJ G hm
        ·refine de G [] (hO 2 (.b true) (hP hb2 (hD 6 h11 (hD 11 h12 (hO 15 (.b false) (hP hb3 (hD 19 h13 (hD 24 h14 (hO 28 (.b false) (hP hb4 h0)))))))))) ?_
         exact wJ G hm
      ·refine de G [] (hO 2 (.b false) (hP hb2 h0)) ?_
       exact wJ G hm
     rintro v2 hm
     refine cd hm (fun hm => ?_) (fun hm => ?_)
     ·refine rg G ?_
      have hm := eL hm hb1 hr
      cases hm
      exact rt [] []
     ·exact X_skip (ibN (thN (rh G (wL G hm))))
   ·exact Ok_exit (thE (thE (ibE (wE G hm hb1))))
  rintro ⟨⟩ hm s hw
  refine thN (Ok_weak hw ?_)
  refine rg G ?_
  cases hm
  exact rt [] []
noncomputable def zq65_M : MS (Timetable × (List Report) × Int) Bool := ⟨.x .r (.x .r .r), fun x => zq65 x.1 x.2.1 x.2.2, fun y => dV y, fun _ => [], fun _ _ => []⟩
theorem zq65_c {t list limit y} (hm : zq65 t list limit = some y) : zq65_M.C (t, list, limit) y := zq65_M.c (t, list, limit) hm
theorem zq65_ok : FnOK Tryz.prog 111 zq65_M.S := by
 refine fm tt zq65_M [fo zq68_ok, fo zq59_ok] Tryz.call111 Tryz.func111 rfl Tryz.results111 Tryz.ntmps111 ?_
 rintro ⟨t, list, limit⟩ y cx G hm
 have hm : zq65 t list limit = some y := hm
 unfold zq65 at hm
 refine rg G ?_
 obtain ⟨r, h, hm⟩ := obind hm
 refine jn hm (fun v => ⟨[(6, dV v)], [], 32⟩) (fun v hm => ?_) ?_
 ·rcases bf hm with ⟨hb, hm⟩ | ⟨hb, hm⟩
  ·obtain ⟨r1, h1, hm⟩ := obind hm
   refine re G (hC 2 (zq68_c h) (hO 3 (.b true) (hP hb (hC 5 (zq59_c h1) h0)))) ?_
   exact wJ G hm
  ·refine re G (hC 2 (zq68_c h) (hO 3 (.b false) (hP hb h0))) ?_
   exact wJ G hm
 rintro v hm
 cases hm
 exact rt [] []
noncomputable def zq69_M : MS ((List Report)) ((List Report)) := ⟨.r, zq69, fun _ => .own 0, fun y => [arO 76 y], fun _ _ => []⟩
theorem zq69_c {list y} (hm : zq69 list = some y) : zq69_M.C list y := zq69_M.c list hm
theorem zq69_ok : FnOK Tryz.prog 188 zq69_M.S := by
 refine fm tt zq69_M [] Tryz.call188 Tryz.func188 rfl Tryz.results188 Tryz.ntmps188 ?_
 rintro list y cx G hm
 have hm : zq69 list = some y := hm
 unfold zq69 at hm
 refine rg G (rg G (Ok_seq (rg G (tl hm (fun v4 => ⟨[(3, .own 16)], [aX 16 76 v4], 48⟩) (fun v4 hm => ?_) ?_))))
 ·refine Ok_block (lp G hm (fun (i, v) => ⟨[(0, dV list), (3, .own 16), (4, dV i)], [aX 16 76 v], 48⟩) ?_)
  rintro ⟨i, v⟩ r0 hb hm
  rw [zq69_L2] at hm
  refine Ok_seq (rg G (cd hm (fun hm => ?_) (fun hm => ?_)))
  ·refine X_skip (thN (jn hm (fun v1 => ⟨[(0, dV list), (3, .own 16), (4, dV i)], [aX 16 76 v1], 48⟩) (fun v1 hm => ?_) ?_))
   ·refine Ok_block (rs G (hN 1 list h0) ?_)
    refine tl hm (fun v3 => ⟨[(0, dV list), (3, .own 16), (4, dV i)], [aX 16 76 v3], 48⟩) (fun v3 hm => ?_) ?_
    ·refine Ok_block (lp G hm (fun v2 => ⟨[(0, dV list), (3, .own 16), (4, dV i), (5, dV v2)], [aX 16 76 v], 48⟩) ?_)
     rintro v2 r0 hb1 hm
     rw [zq69_L1] at hm
     refine Ok_seq (rg G (cd hm (fun hm => ?_) (fun hm => ?_)))
     ·refine X_skip (thN (Ok_seq (Ok_block ?_)))
      obtain ⟨e, h, hm⟩ := obind hm
      refine rs G (hD 2 h h0) ?_
      refine cd hm (fun hm => ?_) (fun hm => ?_)
      ·obtain ⟨e1, h1, hm⟩ := obind hm
       obtain ⟨u, h2, hm⟩ := obind hm
       refine rs G (hD 3 h1 (hA 6 32 h2 h0)) ?_
       exact Ok_exit (ibX rfl (thE (thE (ibE (wD G hm hb1)))))
      ·exact X_skip (ibN (thN (rh G (wL G hm))))
     ·exact Ok_exit (thE (thE (ibE (wD G hm hb1))))
    rintro v3 hm s hw
    exact ibN (wJp hm (Wk.trans hw (Wk_J G.hL ⟨[(0, []), (3, []), (4, [])], [(16, 16, [])], [], 48⟩ (by kernel_rfl))))
   rintro v1 hm
   exact rh G (wL G hm)
  ·exact Ok_exit (thE (thE (ibE (wD G hm hb))))
 rintro v4 hm s1 hw1
 refine thN (Ok_weak hw1 ?_)
 refine rg G ?_
 cases hm
 exact rt [16] []
noncomputable def zq60_M : MS (Int × Int) Int := ⟨.x .r .r, fun x => zq60 x.1 x.2, fun y => dV y, fun _ => [], fun _ _ => []⟩
theorem zq60_c {a b y} (hm : zq60 a b = some y) : zq60_M.C (a, b) y := zq60_M.c (a, b) hm
theorem zq60_ok : FnOK Tryz.prog 153 zq60_M.S := by
 refine fm tt zq60_M [] Tryz.call153 Tryz.func153 rfl Tryz.results153 Tryz.ntmps153 ?_
 rintro ⟨a, b⟩ y cx G hm
 have hm : zq60 a b = some y := hm
 unfold zq60 at hm
 refine rg G (Ok_seq (rg G (cd hm (fun hm => ?_) (fun hm => ?_))))
 ·refine rg G ?_
  cases hm
  exact rt [] []
 ·refine X_skip (thN (rg G ?_))
  cases hm
  exact rt [] []
noncomputable def zq64_M : MS Int Int := ⟨.r, zq64, fun y => dV y, fun _ => [], fun _ _ => []⟩
theorem zq64_c {x y} (hm : zq64 x = some y) : zq64_M.C x y := zq64_M.c x hm
theorem zq64_ok : FnOK Tryz.prog 190 zq64_M.S := by
 refine fm tt zq64_M [fo zq60_ok] Tryz.call190 Tryz.func190 rfl Tryz.results190 Tryz.ntmps190 ?_
 rintro x y cx G hm
 have hm : zq64 x = some y := hm
 unfold zq64 at hm
 refine rg G ?_
 obtain ⟨r, h, hm⟩ := obind hm
 refine rs G (hC 3 (zq60_c h) h0) ?_
 cases hm
 exact rt [] []
noncomputable def zq67_M : MS (Timetable × Report) ((List Match)) := ⟨.x .r .r, fun x => zq67 x.1 x.2, fun _ => .own 0, fun y => [arO 74 y], fun _ _ => []⟩
theorem zq67_c {t r y} (hm : zq67 t r = some y) : zq67_M.C (t, r) y := zq67_M.c (t, r) hm
theorem zq67_ok : FnOK Tryz.prog 189 zq67_M.S := by
 refine fm tt zq67_M [fo zq64_ok] Tryz.call189 Tryz.func189 rfl Tryz.results189 Tryz.ntmps189 ?_
 rintro ⟨t, r⟩ y cx G hm
 have hm : zq67 t r = some y := hm
 unfold zq67 at hm
 refine rg G (rg G (Ok_seq (rg G (tl hm (fun m2 => ⟨[(5, .own 16)], [aX 16 74 m2], 48⟩) (fun m2 hm => ?_) ?_))))
 ·refine Ok_block (lp G hm (fun (k, m) => ⟨[(2, .ref 16 0), (3, .ref 32 0), (5, .own 48), (6, dV k)], [bX 16 [dV t.Network.Stops, dV t.Network.Lines, dV t.Trips], bX 32 [dV r.Vehicle, dV r.Time, dV r.Line, dV r.Done], aX 48 74 m], 80⟩) ?_)
  rintro ⟨k, m⟩ r0 hb hm
  rw [zq67_L2] at hm
  refine Ok_seq (rs G (hN 3 t.Trips h0) ?_)
  refine cd hm (fun hm => ?_) (fun hm => ?_)
  ·refine X_skip (thN (jn hm (fun m1 => ⟨[(2, .ref 16 0), (3, .ref 32 0), (5, .own 48), (6, dV k)], [bX 16 [dV t.Network.Stops, dV t.Network.Lines, dV t.Trips], bX 32 [dV r.Vehicle, dV r.Time, dV r.Line, dV r.Done], aX 48 74 m1], 80⟩) (fun m1 hm => ?_) ?_))
   ·refine Ok_block (Ok_seq ?_)
    obtain ⟨e1, h1, hm⟩ := obind hm
    refine ds G [] (hD 3 h1 h0) ?_
    refine cd hm (fun hm => ?_) (fun hm => ?_)
    ·exact Ok_exit (thE (ibE (wJ G hm)))
    ·refine X_skip (thN ?_)
     obtain ⟨e4, h4, hm⟩ := obind hm
     obtain ⟨e5, h5, hm⟩ := obind hm
     refine ds G [(22, [640])] (hD 5 h4 (hD 13 h5 h0)) ?_
     refine rs G (hN 1 m h0) ?_
     refine jn hm (fun v2 => ⟨[(2, .ref 16 0), (3, .ref 32 0), (5, .own 48), (6, dV k), (7, .ref 64 0), (8, dV v2)], [bX 16 [dV t.Network.Stops, dV t.Network.Lines, dV t.Trips], bX 32 [dV r.Vehicle, dV r.Time, dV r.Line, dV r.Done], aX 48 74 m, bX 64 [dV r.Vehicle, dV e4.Id, dV (w64 ((w64 (r.Time - e5.Start)) - r.Done))]], 96⟩) (fun v2 hm => ?_) ?_
     ·refine Ok_block (lp G hm (fun v => ⟨[(2, .ref 16 0), (3, .ref 32 0), (5, .own 48), (6, dV k), (7, .ref 64 0), (8, dV v)], [bX 16 [dV t.Network.Stops, dV t.Network.Lines, dV t.Trips], bX 32 [dV r.Vehicle, dV r.Time, dV r.Line, dV r.Done], aX 48 74 m, bX 64 [dV r.Vehicle, dV e4.Id, dV (w64 ((w64 (r.Time - e5.Start)) - r.Done))]], 96⟩) ?_)
      rintro v r0 hb1 hm
      rw [zq67_L1] at hm
      refine Ok_seq (jn hm (fun v1 => ⟨[(2, .ref 16 0), (3, .ref 32 0), (5, .own 48), (6, dV k), (7, .ref 64 0), (8, dV v), (87, dV v1)], [bX 16 [dV t.Network.Stops, dV t.Network.Lines, dV t.Trips], bX 32 [dV r.Vehicle, dV r.Time, dV r.Line, dV r.Done], aX 48 74 m, bX 64 [dV r.Vehicle, dV e4.Id, dV (w64 ((w64 (r.Time - e5.Start)) - r.Done))]], 96⟩) (fun v1 hm => ?_) ?_)
      ·rcases bf hm with ⟨hb2, hm⟩ | ⟨hb2, hm⟩
       ·obtain ⟨e9, h13, hm⟩ := obind hm
        obtain ⟨r5, h14, hm⟩ := obind hm
        obtain ⟨r6, h15, hm⟩ := obind hm
        rcases bf hm with ⟨hb3, hm⟩ | ⟨hb3, hm⟩
        ·refine de G [] (hO 2 (.b true) (hP hb2 (hD 6 h13 (hE 8 h13 (hC 9 (zq64_c h14) (hC 12 (zq64_c h15) (hO 14 (.b true) (hP hb3 h0)))))))) ?_
         exact wJ G hm
        ·obtain ⟨e10, h16, hm⟩ := obind hm
         obtain ⟨r7, h17, hm⟩ := obind hm
         obtain ⟨r8, h18, hm⟩ := obind hm
         rcases bf hm with ⟨hb4, hm⟩ | ⟨hb4, hm⟩
         ·obtain ⟨e11, h19, hm⟩ := obind hm
          refine de G [] (hO 2 (.b true) (hP hb2 (hD 6 h13 (hE 8 h13 (hC 9 (zq64_c h14) (hC 12 (zq64_c h15) (hO 14 (.b false) (hP hb3 (hD 18 h16 (hE 20 h16 (hC 21 (zq64_c h17) (hC 24 (zq64_c h18) (hO 26 (.b true) (hP hb4 (hD 30 h19 (hE 32 h19 h0)))))))))))))))) ?_
          exact wJ G hm
         ·refine de G [] (hO 2 (.b true) (hP hb2 (hD 6 h13 (hE 8 h13 (hC 9 (zq64_c h14) (hC 12 (zq64_c h15) (hO 14 (.b false) (hP hb3 (hD 18 h16 (hE 20 h16 (hC 21 (zq64_c h17) (hC 24 (zq64_c h18) (hO 26 (.b false) (hP hb4 h0)))))))))))))) ?_
          exact wJ G hm
       ·refine de G [] (hO 2 (.b false) (hP hb2 h0)) ?_
        exact wJ G hm
      rintro v1 hm
      refine cd hm (fun hm => ?_) (fun hm => ?_)
      ·exact X_skip (thN (Ok_block (rh G (ibN (wL G hm)))))
      ·exact Ok_exit (thE (thE (ibE (wD G hm hb1))))
     rintro v2 hm
     refine Ok_weak (Wk_J (x' := (⟨[(2, .ref 16 0), (3, .ref 32 0), (5, dV m), (6, dV k), (7, .ref 48 0), (8, dV v2)], [bX 16 [dV t.Network.Stops, dV t.Network.Lines, dV t.Trips], bX 32 [dV r.Vehicle, dV r.Time, dV r.Line, dV r.Done], bX 48 [dV r.Vehicle, dV e4.Id, dV (w64 ((w64 (r.Time - e5.Start)) - r.Done))]], 80⟩ : X)) G.hL ⟨[(2, []), (3, []), (5, []), (6, []), (7, []), (8, [])], [(16, 16, []), (32, 32, []), (48, 64, [])], [], 80⟩ (by kernel_rfl)) ?_
     obtain ⟨u5, h25, hm⟩ := obind hm
     obtain ⟨u6, h26, hm⟩ := obind hm
     obtain ⟨u7, h27, hm⟩ := obind hm
     obtain ⟨u8, h28, hm⟩ := obind hm
     obtain ⟨u9, h29, hm⟩ := obind hm
     refine de G [(3, []), (4, [80]), (7, [144, 176]), (10, []), (11, [192])] (hU 3 h25 (hA 4 24 h26 (hA 7 24 h27 (hV 10 h28 (hA 11 24 h29 h0))))) ?_
     exact ibN (wJ G hm)
   rintro m1 hm
   exact rh G (wL G hm)
  ·exact Ok_exit (thE (thE (ibE (wD G hm hb))))
 rintro m2 hm s hw
 refine thN (Ok_weak hw ?_)
 refine rg G ?_
 cases hm
 exact rt [16] []
noncomputable def zq58_M : MS ((List Int) × Int) Bool := ⟨.x .r .r, fun x => zq58 x.1 x.2, fun y => dV y, fun _ => [], fun _ _ => []⟩
theorem zq58_c {l n y} (hm : zq58 l n = some y) : zq58_M.C (l, n) y := zq58_M.c (l, n) hm
theorem zq58_ok : FnOK Tryz.prog 150 zq58_M.S := by
 refine fm tt zq58_M [] Tryz.call150 Tryz.func150 rfl Tryz.results150 Tryz.ntmps150 ?_
 rintro ⟨l, n⟩ y cx G hm
 have hm : zq58 l n = some y := hm
 unfold zq58 at hm
 refine rg G (Ok_seq (rg G (tF hm (fun _ => ⟨[], [], 32⟩) (fun v1 hr hm => ?_) ?_)))
 ·refine Ok_block (lp G hm (fun v => ⟨[(0, dV l), (1, dV n), (5, dV v)], [], 32⟩) ?_)
  rintro v r0 hb hm
  rw [zq58_L1] at hm
  refine Ok_seq (rs G (hN 2 l h0) ?_)
  refine cd hm (fun hm => ?_) (fun hm => ?_)
  ·refine X_skip (thN (Ok_seq (Ok_block ?_)))
   obtain ⟨e, h, hm⟩ := obind hm
   refine rs G (hD 2 h h0) ?_
   refine cd hm (fun hm => ?_) (fun hm => ?_)
   ·refine rg G ?_
    have hm := eL hm hb hr
    cases hm
    exact rt [] []
   ·exact X_skip (ibN (thN (rh G (wL G hm))))
  ·exact Ok_exit (thE (thE (ibE (wE G hm hb))))
 rintro ⟨⟩ hm s hw
 refine thN (Ok_weak hw ?_)
 refine rg G ?_
 cases hm
 exact rt [] []
noncomputable def zq66_M : MS (Match × Match) Bool := ⟨.x .r .r, fun x => zq66 x.1 x.2, fun y => dV y, fun _ => [], fun _ _ => []⟩
theorem zq66_c {a b y} (hm : zq66 a b = some y) : zq66_M.C (a, b) y := zq66_M.c (a, b) hm
theorem zq66_ok : FnOK Tryz.prog 191 zq66_M.S := by
 refine fm tt zq66_M [fo zq64_ok] Tryz.call191 Tryz.func191 rfl Tryz.results191 Tryz.ntmps191 ?_
 rintro ⟨a, b⟩ y cx G hm
 have hm : zq66 a b = some y := hm
 unfold zq66 at hm
 refine rg G ?_
 obtain ⟨r2, h2, hm⟩ := obind hm
 obtain ⟨r3, h3, hm⟩ := obind hm
 refine ds G [] (hC 2 (zq64_c h2) (hC 5 (zq64_c h3) h0)) ?_
 refine jn hm (fun y_ => ⟨[(4, dV y_)], [], 32⟩) (fun y_ hm => ?_) ?_
 ·rcases bf hm with ⟨hb, hm⟩ | ⟨hb, hm⟩
  ·refine re G (hO 3 (.b true) (hP hb h0)) ?_
   exact wJ G hm
  ·rcases bf hm with ⟨hb1, hm⟩ | ⟨hb1, hm⟩
   ·rcases bf hm with ⟨hb2, hm⟩ | ⟨hb2, hm⟩
    ·refine re G (hO 3 (.b false) (hP hb (hO 7 (.b true) (hP hb1 (hO 13 (.b true) (hP hb2 h0)))))) ?_
     exact wJ G hm
    ·rcases bf hm with ⟨hb3, hm⟩ | ⟨hb3, hm⟩
     ·refine re G (hO 3 (.b false) (hP hb (hO 7 (.b true) (hP hb1 (hO 13 (.b false) (hP hb2 (hO 19 (.b true) (hP hb3 h0)))))))) ?_
      exact wJ G hm
     ·refine re G (hO 3 (.b false) (hP hb (hO 7 (.b true) (hP hb1 (hO 13 (.b false) (hP hb2 (hO 19 (.b false) (hP hb3 h0)))))))) ?_
      exact wJ G hm
   ·refine re G (hO 3 (.b false) (hP hb (hO 7 (.b false) (hP hb1 h0)))) ?_
    exact wJ G hm
 rintro y_ hm
 cases hm
 exact rt [] []
noncomputable def zq71_M : MS (Timetable × (List Report) × Int) ((List Match)) := ⟨.x .r (.x .r .r), fun x => zq71 x.1 x.2.1 x.2.2, fun _ => .own 0, fun y => [arO 74 y], fun _ _ => []⟩
theorem zq71_c {t list limit y} (hm : zq71 t list limit = some y) : zq71_M.C (t, list, limit) y := zq71_M.c (t, list, limit) hm
theorem zq71_ok : FnOK Tryz.prog 112 zq71_M.S := by
 refine fm tt zq71_M [fo zq69_ok, fo zq67_ok, fo zq64_ok, fo zq58_ok, fo zq66_ok] Tryz.call112 Tryz.func112 rfl Tryz.results112 Tryz.ntmps112 ?_
 rintro ⟨t, list, limit⟩ y cx G hm
 have hm : zq71 t list limit = some y := hm
 unfold zq71 at hm
 refine rg G (rg G ?_)
 obtain ⟨r, h, hm⟩ := obind hm
 refine rs G (hC 1 (zq69_c h) h0) ?_
 refine rg G (Ok_block (lp G hm (fun (ids, i, some_) => ⟨[(2, dV limit), (3, .ref 16 0), (7, .own 32), (8, .own 48), (9, .own 64), (10, .own 80)], [bX 16 [dV t.Network.Stops, dV t.Network.Lines, dV t.Trips], aX 32 74 ids, aX 48 76 r, aX 64 3 i, aX 80 3 some_], 112⟩) ?_))
 rintro ⟨ids, i, some_⟩ r0 hb hm
 rw [zq71_L4] at hm
 refine Ok_block (rg G (Ok_seq (rg G (tl hm (fun (v15, v16, v17) => ⟨[(2, dV limit), (3, .ref 16 0), (7, .own 32), (8, .own 48), (9, .own 64), (10, .own 80), (11, .ref 96 0)], [bX 16 [dV t.Network.Stops, dV t.Network.Lines, dV t.Trips], aX 32 74 ids, aX 48 76 r, aX 64 3 i, aX 80 3 some_, bX 96 [dV v15, dV v16, dV v17]], 128⟩) (fun vv2 hm => ?_) ?_))))
 ·refine Ok_block (lp G hm (fun (m, v, v1, v2) => ⟨[(2, dV limit), (3, .ref 16 0), (7, .own 32), (8, .own 48), (9, .own 64), (10, .own 80), (11, .ref 96 0), (12, dV m)], [bX 16 [dV t.Network.Stops, dV t.Network.Lines, dV t.Trips], aX 32 74 ids, aX 48 76 r, aX 64 3 i, aX 80 3 some_, bX 96 [dV v, dV v1, dV v2]], 128⟩) ?_)
  rintro ⟨m, v, v1, v2⟩ r0 hb1 hm
  rw [zq71_L2] at hm
  refine Ok_seq (rs G (hN 2 r h0) ?_)
  refine cd hm (fun hm => ?_) (fun hm => ?_)
  ·refine X_skip (thN (Ok_seq (Ok_block ?_)))
   obtain ⟨e1, h3, hm⟩ := obind hm
   obtain ⟨r2, h4, hm⟩ := obind hm
   refine ds G [] (hD 3 h3 (hE 4 h3 (hC 5 (zq67_c h4) h0))) ?_
   refine rg G (tl hm (fun (v12, v13, v14) => ⟨[(2, dV limit), (3, .ref 16 0), (7, .own 32), (8, .own 48), (9, .own 64), (10, .own 80), (11, .ref 96 0), (12, dV m)], [bX 16 [dV t.Network.Stops, dV t.Network.Lines, dV t.Trips], aX 32 74 ids, aX 48 76 r, aX 64 3 i, aX 80 3 some_, bX 96 [dV v12, dV v13, dV v14]], 128⟩) (fun vv1 hm => ?_) ?_)
   ·refine Ok_block (lp G hm (fun (v3, v4, v5, v6) => ⟨[(2, dV limit), (3, .ref 16 0), (7, .own 32), (8, .own 48), (9, .own 64), (10, .own 80), (11, .ref 96 0), (12, dV m), (13, .own 112), (14, dV v3)], [bX 16 [dV t.Network.Stops, dV t.Network.Lines, dV t.Trips], aX 32 74 ids, aX 48 76 r, aX 64 3 i, aX 80 3 some_, bX 96 [dV v4, dV v5, dV v6], aX 112 74 r2], 144⟩) ?_)
    rintro ⟨v3, v4, v5, v6⟩ r0 hb2 hm
    rw [zq71_L1] at hm
    refine Ok_seq (rs G (hN 2 r2 h0) ?_)
    refine cd hm (fun hm => ?_) (fun hm => ?_)
    ·refine X_skip (thN (jn hm (fun (v7, v8, v9) => ⟨[(2, dV limit), (3, .ref 16 0), (7, .own 32), (8, .own 48), (9, .own 64), (10, .own 80), (11, .ref 96 0), (12, dV m), (13, .own 112), (14, dV v3)], [bX 16 [dV t.Network.Stops, dV t.Network.Lines, dV t.Trips], aX 32 74 ids, aX 48 76 r, aX 64 3 i, aX 80 3 some_, bX 96 [dV v7, dV v8, dV v9], aX 112 74 r2], 144⟩) (fun vv hm => ?_) ?_))
     ·refine Ok_block ?_
      obtain ⟨e2, h5, hm⟩ := obind hm
      refine rs G (hD 2 h5 (hE 3 h5 h0)) ?_
      refine Ok_seq ?_
      obtain ⟨r3, h6, hm⟩ := obind hm
      refine jn hm (fun v10 => ⟨[(2, dV limit), (3, .ref 16 0), (7, .own 32), (8, .own 48), (9, .own 64), (10, .own 80), (11, .ref 96 0), (12, dV m), (13, .own 112), (14, dV v3), (15, .ref 128 0), (61, dV v10)], [bX 16 [dV t.Network.Stops, dV t.Network.Lines, dV t.Trips], aX 32 74 ids, aX 48 76 r, aX 64 3 i, aX 80 3 some_, bX 96 [dV v4, dV v5, dV v6], aX 112 74 r2, bX 128 [dV e2.Vehicle, dV e2.Id, dV e2.Delay]], 160⟩) (fun v10 hm => ?_) ?_
      ·rcases bf hm with ⟨hb3, hm⟩ | ⟨hb3, hm⟩
       ·refine re G (hC 2 (zq64_c h6) (hO 5 (.b true) (hP hb3 h0))) ?_
        exact wJ G hm
       ·obtain ⟨r4, h7, hm⟩ := obind hm
        rcases bf hm with ⟨hb4, hm⟩ | ⟨hb4, hm⟩
        ·refine re G (hC 2 (zq64_c h6) (hO 5 (.b false) (hP hb3 (hC 9 (zq58_c h7) (hO 11 (.b true) (hP hb4 h0)))))) ?_
         exact wJ G hm
        ·obtain ⟨r5, h8, hm⟩ := obind hm
         refine re G (hC 2 (zq64_c h6) (hO 5 (.b false) (hP hb3 (hC 9 (zq58_c h7) (hO 11 (.b false) (hP hb4 (hC 15 (zq58_c h8) h0))))))) ?_
         exact wJ G hm
      rintro v10 hm
      refine cd hm (fun hm => ?_) (fun hm => ?_)
      ·exact Ok_exit (thE (ibE (wJ G hm)))
      ·refine X_skip (thN (jn hm (fun v11 => ⟨[(2, dV limit), (3, .ref 16 0), (7, .own 32), (8, .own 48), (9, .own 64), (10, .own 80), (11, .ref 96 0), (12, dV m), (13, .own 112), (14, dV v3), (15, .ref 128 0), (69, dV v11)], [bX 16 [dV t.Network.Stops, dV t.Network.Lines, dV t.Trips], aX 32 74 ids, aX 48 76 r, aX 64 3 i, aX 80 3 some_, bX 96 [dV v4, dV v5, dV v6], aX 112 74 r2, bX 128 [dV e2.Vehicle, dV e2.Id, dV e2.Delay]], 160⟩) (fun v11 hm => ?_) ?_))
       ·rcases bf hm with ⟨hb5, hm⟩ | ⟨hb5, hm⟩
        ·refine re G (hO 3 (.b true) (hP hb5 h0)) ?_
         exact wJ G hm
        ·obtain ⟨r6, h9, hm⟩ := obind hm
         refine re G (hO 3 (.b false) (hP hb5 (hC 6 (zq66_c h9) h0))) ?_
         exact wJ G hm
       rintro v11 hm
       refine cd hm (fun hm => ?_) (fun hm => ?_)
       ·exact rh G (ibN (wJ G hm))
       ·exact X_skip (ibN (wJ G hm))
     rintro ⟨v7, v8, v9⟩ hm
     exact rh G (wL G hm)
    ·exact Ok_exit (thE (thE (ibE (wD G hm hb2))))
   rintro ⟨v12, v13, v14⟩ hm s hw
   refine ibN (thN (Ok_weak hw ?_))
   exact rh G (wL G hm)
  ·exact Ok_exit (thE (thE (ibE (wD G hm hb1))))
 rintro ⟨v15, v16, v17⟩ hm s1 hw1
 refine thN (Ok_weak hw1 ?_)
 refine Ok_seq (rg G (cd hm (fun hm => ?_) (fun hm => ?_)))
 ·refine rg G ?_
  have hm := eD hm hb
  cases hm
  exact rt [32] []
 ·refine X_skip (thN ?_)
  obtain ⟨u, h10, hm⟩ := obind hm
  refine rs G (hA 4 8 h10 h0) ?_
  obtain ⟨u1, h11, hm⟩ := obind hm
  refine rs G (hA 4 8 h11 h0) ?_
  refine rs G (hN 1 ids h0) ?_
  refine jn hm (fun v20 => ⟨[(2, dV limit), (3, .ref 16 0), (7, .own 32), (8, .own 48), (9, .own 64), (10, .own 80), (11, .ref 96 0), (16, dV v20)], [bX 16 [dV t.Network.Stops, dV t.Network.Lines, dV t.Trips], aX 32 74 ids, aX 48 76 r, aX 64 3 (i ++ ([v15] : List Int)), aX 80 3 (some_ ++ ([v16] : List Int)), bX 96 [dV v15, dV v16, dV v17]], 128⟩) (fun v20 hm => ?_) ?_
  ·refine Ok_block (lp G hm (fun v18 => ⟨[(2, dV limit), (3, .ref 16 0), (7, .own 32), (8, .own 48), (9, .own 64), (10, .own 80), (11, .ref 96 0), (16, dV v18)], [bX 16 [dV t.Network.Stops, dV t.Network.Lines, dV t.Trips], aX 32 74 ids, aX 48 76 r, aX 64 3 (i ++ ([v15] : List Int)), aX 80 3 (some_ ++ ([v16] : List Int)), bX 96 [dV v15, dV v16, dV v17]], 128⟩) ?_)
   rintro v18 r0 hb6 hm
   rw [zq71_L3] at hm
   refine Ok_seq (jn hm (fun v19 => ⟨[(2, dV limit), (3, .ref 16 0), (7, .own 32), (8, .own 48), (9, .own 64), (10, .own 80), (11, .ref 96 0), (16, dV v18), (99, dV v19)], [bX 16 [dV t.Network.Stops, dV t.Network.Lines, dV t.Trips], aX 32 74 ids, aX 48 76 r, aX 64 3 (i ++ ([v15] : List Int)), aX 80 3 (some_ ++ ([v16] : List Int)), bX 96 [dV v15, dV v16, dV v17]], 128⟩) (fun v19 hm => ?_) ?_)
   ·rcases bf hm with ⟨hb7, hm⟩ | ⟨hb7, hm⟩
    ·obtain ⟨e5, h13, hm⟩ := obind hm
     refine de G [] (hO 2 (.b true) (hP hb7 (hD 6 h13 (hE 8 h13 h0)))) ?_
     exact wJ G hm
    ·refine de G [] (hO 2 (.b false) (hP hb7 h0)) ?_
     exact wJ G hm
   rintro v19 hm
   refine cd hm (fun hm => ?_) (fun hm => ?_)
   ·exact X_skip (thN (Ok_block (rh G (ibN (wL G hm)))))
   ·exact Ok_exit (thE (thE (ibE (wD G hm hb6))))
  rintro v20 hm
  refine Ok_weak (Wk_J (x' := (⟨[(2, dV limit), (3, .ref 16 0), (7, dV ids), (8, .own 32), (9, .own 48), (10, .own 64), (11, .ref 80 0), (16, dV v20)], [bX 16 [dV t.Network.Stops, dV t.Network.Lines, dV t.Trips], aX 32 76 r, aX 48 3 (i ++ ([v15] : List Int)), aX 64 3 (some_ ++ ([v16] : List Int)), bX 80 [dV v15, dV v16, dV v17]], 112⟩ : X)) G.hL ⟨[(2, []), (3, []), (7, []), (8, []), (9, []), (10, []), (11, []), (16, [])], [(16, 16, []), (32, 48, []), (48, 64, []), (64, 80, []), (80, 96, [])], [], 112⟩ (by kernel_rfl)) ?_
  obtain ⟨u7, h19, hm⟩ := obind hm
  obtain ⟨u8, h20, hm⟩ := obind hm
  obtain ⟨u9, h21, hm⟩ := obind hm
  obtain ⟨u10, h22, hm⟩ := obind hm
  obtain ⟨u11, h23, hm⟩ := obind hm
  refine de G [(3, []), (4, [112]), (7, [176, 208]), (10, []), (11, [224])] (hU 3 h19 (hA 4 24 h20 (hA 7 24 h21 (hV 10 h22 (hA 11 24 h23 h0))))) ?_
  exact ibN (wL G hm)
noncomputable def zq37_M : MS (Timetable × (List Report) × Int) ((List Match) × Bool) := ⟨.x .r (.x .r .r), fun x => zq37 x.1 x.2.1 x.2.2, fun y => .tup [.own 0, dV y.2], fun y => [arO 74 y.1], fun _ _ => []⟩
theorem zq37_c {t list limit y} (hm : zq37 t list limit = some y) : zq37_M.C (t, list, limit) y := zq37_M.c (t, list, limit) hm
theorem zq37_ok : FnOK Tryz.prog 39 zq37_M.S := by
 refine fm tt zq37_M [fo zq65_ok, fo zq71_ok] Tryz.call39 Tryz.func39 rfl Tryz.results39 Tryz.ntmps39 ?_
 rintro ⟨t, list, limit⟩ y cx G hm
 have hm : zq37 t list limit = some y := hm
 unfold zq37 at hm
 refine rg G (Ok_seq ?_)
 obtain ⟨r, h, hm⟩ := obind hm
 refine rs G (hC 3 (zq65_c h) h0) ?_
 refine cd hm (fun hm => ?_) (fun hm => ?_)
 ·refine rg G ?_
  cases hm
  exact rt [144] []
 ·refine X_skip (thN ?_)
  obtain ⟨r1, h1, hm⟩ := obind hm
  refine rs G (hC 3 (zq71_c h1) h0) ?_
  cases hm
  exact rt [192] []
noncomputable def zq8_M : MS (Match × Report) Bool := ⟨.x .r .b, fun x => zq8 x.1 x.2, fun y => dV y, fun _ => [], fun x _ => [bxO x.2]⟩
theorem zq8_c {m c1 y} (hm : zq8 m c1 = some y) : zq8_M.C (m, c1) y := zq8_M.c (m, c1) hm
theorem zq8_ok : FnOK Tryz.prog 116 zq8_M.S := by
 refine fm tt zq8_M [] Tryz.call116 Tryz.func116 rfl Tryz.results116 Tryz.ntmps116 ?_
 rintro ⟨m, c1⟩ y cx G hm
 have hm : zq8 m c1 = some y := hm
 unfold zq8 at hm
 refine rg G (rg G ?_)
 cases hm
 exact rt [] []
noncomputable def zq95_M : MS ((List Match) × Report) Int := ⟨⟨[.rd, .fn 116 [.bx]], fun x => [Enc.e x.1, .agg [.sc undef]], fun x => [bxO x.2], 1, 1, fun _ => rfl, fun _ => rfl, rfl, (by
  rintro ⟨a0, a1⟩ ⟨b0, b1⟩ h hO
  have q0 : a0 = b0 := qI 0 h
  have q1 : a1 = b1 := Enc.inj _ _ (congrArg (fun l => D.agg (obD l 0)) hO)
  subst q0; subst q1; rfl)⟩, fun x => zq95 x.1 x.2, fun y => dV y, fun _ => [], fun x _ => [bxO x.2]⟩
theorem zq95_c {s c1 y} (hm : zq95 s c1 = some y) : zq95_M.C (s, c1) y := zq95_M.c (s, c1) hm
theorem zq95_ok : FnOK Tryz.prog 193 zq95_M.S := by
 refine fm tt zq95_M [fo zq8_ok] Tryz.call193 Tryz.func193 rfl Tryz.results193 Tryz.ntmps193 ?_
 rintro ⟨s, c1⟩ y cx G hm
 have hm : zq95 s c1 = some y := hm
 obtain ⟨f, hf_f⟩ : ∃ q, (fun (z0 : Match) => zq8 z0 c1) = q := ⟨_, rfl⟩
 have hm : zq94 s f = some y := by rw [← hf_f]; exact hm
 unfold zq94 at hm
 refine rg G (Ok_seq (rs G (hN 1 s h0) ?_))
 refine tF hm (fun _ => ⟨[(1, .fn 116 [.ref 0 0])], [bX 0 [dV c1.Vehicle, dV c1.Time, dV c1.Line, dV c1.Done]], 48⟩) (fun v1 hr hm => ?_) ?_
 ·refine Ok_block (lp G hm (fun v => ⟨[(0, dV s), (1, .fn 116 [.ref 0 0]), (7, dV (s.length : Int)), (8, dV v)], [bX 0 [dV c1.Vehicle, dV c1.Time, dV c1.Line, dV c1.Done]], 48⟩) ?_)
  rintro v r0 hb hm
  rw [zq94_L1] at hm
  refine rg G (Ok_seq (cd hm (fun hm => ?_) (fun hm => ?_)))
  ·refine X_skip (thN (Ok_seq (Ok_block (rg G ?_))))
   obtain ⟨e, h, hm⟩ := obind hm
   obtain ⟨r, h1, hm⟩ := obind hm
   have h1 : zq8 e c1 = some r := by rw [← hf_f] at h1; exact h1
   refine rs G (hD 3 h (hC 5 (zq8_c h1) h0)) ?_
   refine cd hm (fun hm => ?_) (fun hm => ?_)
   ·refine rg G ?_
    have hm := eL hm hb hr
    cases hm
    exact rt [] []
   ·exact X_skip (ibN (thN (rh G (wL G hm))))
  ·exact Ok_exit (thE (thE (ibE (wE G hm hb))))
 rintro ⟨⟩ hm s1 hw
 refine thN (Ok_weak hw ?_)
 refine rg G ?_
 cases hm
 exact rt [] []
noncomputable def zq91_M : MS ((List Match) × Report) Bool := ⟨⟨[.rd, .fn 116 [.bx]], fun x => [Enc.e x.1, .agg [.sc undef]], fun x => [bxO x.2], 1, 1, fun _ => rfl, fun _ => rfl, rfl, (by
  rintro ⟨a0, a1⟩ ⟨b0, b1⟩ h hO
  have q0 : a0 = b0 := qI 0 h
  have q1 : a1 = b1 := Enc.inj _ _ (congrArg (fun l => D.agg (obD l 0)) hO)
  subst q0; subst q1; rfl)⟩, fun x => zq91 x.1 x.2, fun y => dV y, fun _ => [], fun x _ => [bxO x.2]⟩
theorem zq91_c {s c1 y} (hm : zq91 s c1 = some y) : zq91_M.C (s, c1) y := zq91_M.c (s, c1) hm
theorem zq91_ok : FnOK Tryz.prog 115 zq91_M.S := by
 refine fm tt zq91_M [fo zq95_ok] Tryz.call115 Tryz.func115 rfl Tryz.results115 Tryz.ntmps115 ?_
 rintro ⟨s, c1⟩ y cx G hm
 have hm : zq91 s c1 = some y := hm
 obtain ⟨f, hf_f⟩ : ∃ q, (fun (z0 : Match) => zq8 z0 c1) = q := ⟨_, rfl⟩
 have hm : zq90 s f = some y := by rw [← hf_f]; exact hm
 unfold zq90 at hm
 refine rg G ?_
 obtain ⟨r, h, hm⟩ := obind hm
 have h : zq95 s c1 = some r := by rw [← hf_f] at h; exact h
 refine rs G (hC 2 (zq95_c h) h0) ?_
 cases hm
 exact rt [] []
noncomputable def zq7_M : MS (Timetable × (List Report) × Int) ((List Int) × Bool) := ⟨.x .r (.x .r .r), fun x => zq7 x.1 x.2.1 x.2.2, fun y => .tup [dV y.1, dV y.2], fun _ => [], fun _ _ => []⟩
theorem zq7_c {t list limit y} (hm : zq7 t list limit = some y) : zq7_M.C (t, list, limit) y := zq7_M.c (t, list, limit) hm
theorem zq7_ok : FnOK Tryz.prog 41 zq7_M.S := by
 refine fm tt zq7_M [fo zq13_ok, fo zq27_ok, fo zq25_ok, fo zq91_ok] Tryz.call41 Tryz.func41 rfl Tryz.results41 Tryz.ntmps41 ?_
 rintro ⟨t, list, limit⟩ y cx G hm
 have hm : zq7 t list limit = some y := hm
 unfold zq7 at hm
 refine rg G (Ok_seq ?_)
 obtain ⟨r, h, hm⟩ := obind hm
 refine rs G (hC 3 (zq13_c h) h0) ?_
 refine cd hm (fun hm => ?_) (fun hm => ?_)
 ·refine rg G ?_
  cases hm
  exact rt [] [[.z 1]]
 ·refine X_skip (thN ?_)
  obtain ⟨r1, h1, hm⟩ := obind hm
  refine rs G (hC 3 (zq27_c h1) h0) ?_
  refine rg G (Ok_seq ?_)
  obtain ⟨r2, h2, hm⟩ := obind hm
  refine rs G (hC 1 (zq25_c h2) (hN 2 r2 h0)) ?_
  refine tl hm (fun v3 => ⟨[(9, .own 16)], [aX 16 3 v3], 48⟩) (fun v3 hm => ?_) ?_
  ·refine Ok_block (lpP hm (fun (v, v1) => ⟨[(8, .own 16), (9, .own 32), (22, .own 48), (23, dV (r2.length : Int)), (24, dV v)], [aX 16 74 r1, aX 32 3 v1, aX 48 76 r2], 80⟩) (Wk_J G.hL ⟨[(8, []), (9, [.o 32]), (22, []), (23, []), (24, [])], [(16, 192, []), (48, 256, [])], [(32, 3, 1, [])], 80⟩ (by kernel_rfl)) ?_)
   rintro ⟨v, v1⟩ r0 hb hm
   rw [zq7_L1] at hm
   refine rg G (Ok_seq (cd hm (fun hm => ?_) (fun hm => ?_)))
   ·refine X_skip (thN (jn hm (fun v2 => ⟨[(8, .own 16), (9, .own 32), (22, .own 48), (23, dV (r2.length : Int)), (24, dV v)], [aX 16 74 r1, aX 32 3 v2, aX 48 76 r2], 80⟩) (fun v2 hm => ?_) ?_))
    ·refine Ok_block ?_
     obtain ⟨e, h3, hm⟩ := obind hm
     refine rs G (hD 0 h3 (hE 1 h3 h0)) ?_
     obtain ⟨r3, h4, hm⟩ := obind hm
     refine rs G (hC 2 (zq91_c h4) h0) ?_
     refine cd hm (fun hm => ?_) (fun hm => ?_)
     ·obtain ⟨u, h5, hm⟩ := obind hm
      refine re G (hA 4 8 h5 h0) ?_
      exact ibN (wJ G hm)
     ·exact X_skip (ibN (wJ G hm))
    rintro v2 hm
    exact rh G (wL G hm)
   ·exact Ok_exit (thE (thE (ibE (wD G hm hb))))
  rintro v3 hm s hw
  refine thN (Ok_weak hw ?_)
  refine rg G ?_
  cases hm
  exact rt [] []
noncomputable def zq151_M : MS ((List Int) × Int) Bool := ⟨.x .r .r, fun x => zq151 x.1 x.2, fun y => dV y, fun _ => [], fun _ _ => []⟩
theorem zq151_c {list x y} (hm : zq151 list x = some y) : zq151_M.C (list, x) y := zq151_M.c (list, x) hm
theorem zq151_ok : FnOK Tryz.prog 42 zq151_M.S := by
 refine fm tt zq151_M [] Tryz.call42 Tryz.func42 rfl Tryz.results42 Tryz.ntmps42 ?_
 rintro ⟨list, x⟩ y cx G hm
 have hm : zq151 list x = some y := hm
 unfold zq151 at hm
 refine rg G (Ok_seq (rg G (tF hm (fun _ => ⟨[], [], 32⟩) (fun v1 hr hm => ?_) ?_)))
 ·refine Ok_block (lp G hm (fun v => ⟨[(0, dV list), (1, dV x), (5, dV v)], [], 32⟩) ?_)
  rintro v r0 hb hm
  rw [zq151_L1] at hm
  refine Ok_seq (rs G (hN 2 list h0) ?_)
  refine cd hm (fun hm => ?_) (fun hm => ?_)
  ·refine X_skip (thN (Ok_seq (Ok_block ?_)))
   obtain ⟨e, h, hm⟩ := obind hm
   refine rs G (hD 2 h h0) ?_
   refine cd hm (fun hm => ?_) (fun hm => ?_)
   ·refine rg G ?_
    have hm := eL hm hb hr
    cases hm
    exact rt [] []
   ·exact X_skip (ibN (thN (rh G (wL G hm))))
  ·exact Ok_exit (thE (thE (ibE (wE G hm hb))))
 rintro ⟨⟩ hm s hw
 refine thN (Ok_weak hw ?_)
 refine rg G ?_
 cases hm
 exact rt [] []
noncomputable def zq36_M : MS ((List UInt8)) (Timetable × (List Report) × Int × Int) := ⟨.r, zq36, fun y => .tup [dV y.1, .own 0, dV y.2.2.1, dV y.2.2.2], fun y => [arO 76 y.2.1], fun _ _ => []⟩
theorem zq36_c {code y} (hm : zq36 code = some y) : zq36_M.C code y := zq36_M.c code hm
theorem zq36_ok : FnOK Tryz.prog 43 zq36_M.S := by
 refine fm tt zq36_M [fo zq42_ok, fo zq55_ok, fo zq43_ok, fo zq49_ok] Tryz.call43 Tryz.func43 rfl Tryz.results43 Tryz.ntmps43 ?_
 rintro code y cx G hm
 have hm : zq36 code = some y := hm
 unfold zq36 at hm
 refine rg G (rg G ?_)
 obtain ⟨r, h, hm⟩ := obind hm
 refine rs G (hC 1 (zq42_c h) h0) ?_
 obtain ⟨r1, h1, hm⟩ := obind hm
 refine rs G (hO 2 (.fz [160, 161] [] []) (hC 2 (zq55_c h1) h0)) ?_
 obtain ⟨r2, h2, hm⟩ := obind hm
 refine rs G (hC 1 (zq43_c h2) h0) ?_
 obtain ⟨r4, h4, hm⟩ := obind hm
 refine ds G [(5, [112]), (6, [16])] (hC 5 (zq49_c h4) h0) ?_
 cases hm
 exact rt [240] []
noncomputable def zq11_M : MS (Match × Trip) Bool := ⟨.x .r .b, fun x => zq11 x.1 x.2, fun y => dV y, fun _ => [], fun x _ => [bxO x.2]⟩
theorem zq11_c {m c1 y} (hm : zq11 m c1 = some y) : zq11_M.C (m, c1) y := zq11_M.c (m, c1) hm
theorem zq11_ok : FnOK Tryz.prog 119 zq11_M.S := by
 refine fm tt zq11_M [] Tryz.call119 Tryz.func119 rfl Tryz.results119 Tryz.ntmps119 ?_
 rintro ⟨m, c1⟩ y cx G hm
 have hm : zq11 m c1 = some y := hm
 unfold zq11 at hm
 refine rg G (rg G ?_)
 cases hm
 exact rt [] []
noncomputable def zq96_M : MS ((List Match) × Trip) Int := ⟨⟨[.rd, .fn 119 [.bx]], fun x => [Enc.e x.1, .agg [.sc undef]], fun x => [bxO x.2], 1, 1, fun _ => rfl, fun _ => rfl, rfl, (by
  rintro ⟨a0, a1⟩ ⟨b0, b1⟩ h hO
  have q0 : a0 = b0 := qI 0 h
  have q1 : a1 = b1 := Enc.inj _ _ (congrArg (fun l => D.agg (obD l 0)) hO)
  subst q0; subst q1; rfl)⟩, fun x => zq96 x.1 x.2, fun y => dV y, fun _ => [], fun x _ => [bxO x.2]⟩
theorem zq96_c {s c1 y} (hm : zq96 s c1 = some y) : zq96_M.C (s, c1) y := zq96_M.c (s, c1) hm
theorem zq96_ok : FnOK Tryz.prog 193 zq96_M.S := by
 refine fm tt zq96_M [fo zq11_ok] Tryz.call193 Tryz.func193 rfl Tryz.results193 Tryz.ntmps193 ?_
 rintro ⟨s, c1⟩ y cx G hm
 have hm : zq96 s c1 = some y := hm
 obtain ⟨f, hf_f⟩ : ∃ q, (fun (z0 : Match) => zq11 z0 c1) = q := ⟨_, rfl⟩
 have hm : zq94 s f = some y := by rw [← hf_f]; exact hm
 unfold zq94 at hm
 refine rg G (Ok_seq (rs G (hN 1 s h0) ?_))
 refine tF hm (fun _ => ⟨[(1, .fn 119 [.ref 0 0])], [bX 0 [dV c1.Id, dV c1.Line, dV c1.Start]], 48⟩) (fun v1 hr hm => ?_) ?_
 ·refine Ok_block (lp G hm (fun v => ⟨[(0, dV s), (1, .fn 119 [.ref 0 0]), (7, dV (s.length : Int)), (8, dV v)], [bX 0 [dV c1.Id, dV c1.Line, dV c1.Start]], 48⟩) ?_)
  rintro v r0 hb hm
  rw [zq94_L1] at hm
  refine rg G (Ok_seq (cd hm (fun hm => ?_) (fun hm => ?_)))
  ·refine X_skip (thN (Ok_seq (Ok_block (rg G ?_))))
   obtain ⟨e, h, hm⟩ := obind hm
   obtain ⟨r, h1, hm⟩ := obind hm
   have h1 : zq11 e c1 = some r := by rw [← hf_f] at h1; exact h1
   refine rs G (hD 3 h (hC 5 (zq11_c h1) h0)) ?_
   refine cd hm (fun hm => ?_) (fun hm => ?_)
   ·refine rg G ?_
    have hm := eL hm hb hr
    cases hm
    exact rt [] []
   ·exact X_skip (ibN (thN (rh G (wL G hm))))
  ·exact Ok_exit (thE (thE (ibE (wE G hm hb))))
 rintro ⟨⟩ hm s1 hw
 refine thN (Ok_weak hw ?_)
 refine rg G ?_
 cases hm
 exact rt [] []
noncomputable def zq92_M : MS ((List Match) × Trip) Bool := ⟨⟨[.rd, .fn 119 [.bx]], fun x => [Enc.e x.1, .agg [.sc undef]], fun x => [bxO x.2], 1, 1, fun _ => rfl, fun _ => rfl, rfl, (by
  rintro ⟨a0, a1⟩ ⟨b0, b1⟩ h hO
  have q0 : a0 = b0 := qI 0 h
  have q1 : a1 = b1 := Enc.inj _ _ (congrArg (fun l => D.agg (obD l 0)) hO)
  subst q0; subst q1; rfl)⟩, fun x => zq92 x.1 x.2, fun y => dV y, fun _ => [], fun x _ => [bxO x.2]⟩
theorem zq92_c {s c1 y} (hm : zq92 s c1 = some y) : zq92_M.C (s, c1) y := zq92_M.c (s, c1) hm
theorem zq92_ok : FnOK Tryz.prog 115 zq92_M.S := by
 refine fm tt zq92_M [fo zq96_ok] Tryz.call115 Tryz.func115 rfl Tryz.results115 Tryz.ntmps115 ?_
 rintro ⟨s, c1⟩ y cx G hm
 have hm : zq92 s c1 = some y := hm
 obtain ⟨f, hf_f⟩ : ∃ q, (fun (z0 : Match) => zq11 z0 c1) = q := ⟨_, rfl⟩
 have hm : zq90 s f = some y := by rw [← hf_f]; exact hm
 unfold zq90 at hm
 refine rg G ?_
 obtain ⟨r, h, hm⟩ := obind hm
 have h : zq96 s c1 = some r := by rw [← hf_f] at h; exact h
 refine rs G (hC 2 (zq96_c h) h0) ?_
 cases hm
 exact rt [] []
noncomputable def zq10_M : MS (Timetable × (List Report) × Int × Int) ((List Int) × Bool) := ⟨.x .r (.x .r (.x .r .r)), fun x => zq10 x.1 x.2.1 x.2.2.1 x.2.2.2, fun y => .tup [dV y.1, dV y.2], fun _ => [], fun _ _ => []⟩
theorem zq10_c {t list limit now y} (hm : zq10 t list limit now = some y) : zq10_M.C (t, list, limit, now) y := zq10_M.c (t, list, limit, now) hm
theorem zq10_ok : FnOK Tryz.prog 44 zq10_M.S := by
 refine fm tt zq10_M [fo zq13_ok, fo zq5_ok, fo zq27_ok, fo zq17_ok, fo zq32_ok, fo zq92_ok] Tryz.call44 Tryz.func44 rfl Tryz.results44 Tryz.ntmps44 ?_
 rintro ⟨t, list, limit, now⟩ y cx G hm
 have hm : zq10 t list limit now = some y := hm
 unfold zq10 at hm
 refine rg G (Ok_seq ?_)
 obtain ⟨r, h, hm⟩ := obind hm
 refine jn hm (fun v => ⟨[(1, dV list), (2, dV limit), (3, dV now), (4, .ref 16 0), (23, dV v)], [bX 16 [dV t.Network.Stops, dV t.Network.Lines, dV t.Trips]], 48⟩) (fun v hm => ?_) ?_
 ·rcases bf hm with ⟨hb, hm⟩ | ⟨hb, hm⟩
  ·refine re G (hC 3 (zq13_c h) (hO 5 (.b true) (hP hb h0))) ?_
   exact wJ G hm
  ·obtain ⟨r1, h1, hm⟩ := obind hm
   refine re G (hC 3 (zq13_c h) (hO 5 (.b false) (hP hb (hC 7 (zq5_c h1) h0)))) ?_
   exact wJ G hm
 rintro v hm
 refine cd hm (fun hm => ?_) (fun hm => ?_)
 ·refine rg G ?_
  cases hm
  exact rt [] [[.z 1]]
 ·refine X_skip (thN ?_)
  obtain ⟨r2, h2, hm⟩ := obind hm
  refine rs G (hC 3 (zq27_c h2) h0) ?_
  refine rg G (Ok_seq (rs G (hN 2 t.Trips h0) ?_))
  refine tl hm (fun v5 => ⟨[(11, .own 16)], [aX 16 3 v5], 48⟩) (fun v5 hm => ?_) ?_
  ·refine Ok_block (lpP hm (fun (v1, v2) => ⟨[(3, dV now), (4, .ref 16 0), (10, .own 32), (11, .own 48), (29, dV t.Trips), (30, dV (t.Trips.length : Int)), (31, dV v1)], [bX 16 [dV t.Network.Stops, dV t.Network.Lines, dV t.Trips], aX 32 74 r2, aX 48 3 v2], 80⟩) (Wk_J G.hL ⟨[(3, []), (4, []), (10, []), (11, [.o 48]), (29, []), (30, []), (31, [])], [(16, 16, []), (32, 96, [])], [(48, 3, 1, [])], 80⟩ (by kernel_rfl)) ?_)
   rintro ⟨v1, v2⟩ r0 hb1 hm
   rw [zq10_L1] at hm
   refine rg G (Ok_seq (cd hm (fun hm => ?_) (fun hm => ?_)))
   ·refine X_skip (thN (jn hm (fun v3 => ⟨[(3, dV now), (4, .ref 16 0), (10, .own 32), (11, .own 48), (29, dV t.Trips), (30, dV (t.Trips.length : Int)), (31, dV v1)], [bX 16 [dV t.Network.Stops, dV t.Network.Lines, dV t.Trips], aX 32 74 r2, aX 48 3 v3], 80⟩) (fun v3 hm => ?_) ?_))
    ·refine Ok_block ?_
     obtain ⟨e, h3, hm⟩ := obind hm
     refine rs G (hD 0 h3 h0) ?_
     obtain ⟨r6, h7, hm⟩ := obind hm
     obtain ⟨r7, h8, hm⟩ := obind hm
     refine jn hm (fun v4 => ⟨[(3, dV now), (4, .ref 16 0), (10, .own 32), (11, .own 48), (13, .ref 64 0), (29, dV t.Trips), (30, dV (t.Trips.length : Int)), (31, dV v1), (47, dV v4)], [bX 16 [dV t.Network.Stops, dV t.Network.Lines, dV t.Trips], aX 32 74 r2, aX 48 3 v2, bX 64 [dV e.Id, dV e.Line, dV e.Start]], 96⟩) (fun v4 hm => ?_) ?_
     ·rcases bf hm with ⟨hb2, hm⟩ | ⟨hb2, hm⟩
      ·obtain ⟨r8, h9, hm⟩ := obind hm
       refine de G [(10, [32, 128])] (hC 5 (zq17_c h7) (hC 6 (zq32_c h8) (hO 7 (.b true) (hP hb2 (hC 10 (zq92_c h9) h0))))) ?_
       exact wJ G hm
      ·refine de G [(10, [32, 128])] (hC 5 (zq17_c h7) (hC 6 (zq32_c h8) (hO 7 (.b false) (hP hb2 h0)))) ?_
       exact wJ G hm
     rintro v4 hm
     refine cd hm (fun hm => ?_) (fun hm => ?_)
     ·obtain ⟨u, h10, hm⟩ := obind hm
      refine re G (hA 4 8 h10 h0) ?_
      exact ibN (wJ G hm)
     ·exact X_skip (ibN (wJ G hm))
    rintro v3 hm
    exact rh G (wL G hm)
   ·exact Ok_exit (thE (thE (ibE (wD G hm hb1))))
  rintro v5 hm s hw
  refine thN (Ok_weak hw ?_)
  refine rg G ?_
  cases hm
  exact rt [] []
noncomputable def zq38_M : MS (Timetable × (List Report) × Int × Int) ((List Int) × Bool) := ⟨.x .r (.x .r (.x .r .r)), fun x => zq38 x.1 x.2.1 x.2.2.1 x.2.2.2, fun y => .tup [.own 0, dV y.2], fun y => [arO 3 y.1], fun _ _ => []⟩
theorem zq38_c {t list limit now y} (hm : zq38 t list limit now = some y) : zq38_M.C (t, list, limit, now) y := zq38_M.c (t, list, limit, now) hm
theorem zq38_ok : FnOK Tryz.prog 45 zq38_M.S := by
 refine fm tt zq38_M [fo zq65_ok, fo zq84_ok, fo zq71_ok, fo zq86_ok, fo zq59_ok] Tryz.call45 Tryz.func45 rfl Tryz.results45 Tryz.ntmps45 ?_
 rintro ⟨t, list, limit, now⟩ y cx G hm
 have hm : zq38 t list limit now = some y := hm
 unfold zq38 at hm
 refine rg G (rg G (Ok_seq ?_))
 obtain ⟨r, h, hm⟩ := obind hm
 refine jn hm (fun v => ⟨[(1, dV list), (2, dV limit), (3, dV now), (4, .ref 16 0), (10, .own 32), (25, dV v)], [bX 16 [dV t.Network.Stops, dV t.Network.Lines, dV t.Trips], aX 32 3 ([] : List Int)], 64⟩) (fun v hm => ?_) ?_
 ·rcases bf hm with ⟨hb, hm⟩ | ⟨hb, hm⟩
  ·refine re G (hC 3 (zq65_c h) (hO 5 (.b true) (hP hb h0))) ?_
   exact wJ G hm
  ·obtain ⟨r1, h1, hm⟩ := obind hm
   refine re G (hC 3 (zq65_c h) (hO 5 (.b false) (hP hb (hC 7 (zq84_c h1) h0)))) ?_
   exact wJ G hm
 rintro v hm
 refine cd hm (fun hm => ?_) (fun hm => ?_)
 ·refine rg G ?_
  cases hm
  exact rt [32] []
 ·refine X_skip (thN ?_)
  obtain ⟨r2, h2, hm⟩ := obind hm
  refine rs G (hC 3 (zq71_c h2) h0) ?_
  refine Ok_seq (rg G (tl hm (fun k2 => ⟨[(10, .own 16)], [aX 16 3 k2], 48⟩) (fun k2 hm => ?_) ?_))
  ·refine Ok_block (lp G hm (fun (v1, k) => ⟨[(3, dV now), (4, .ref 16 0), (10, .own 32), (11, .own 48), (12, dV v1)], [bX 16 [dV t.Network.Stops, dV t.Network.Lines, dV t.Trips], aX 32 3 k, aX 48 74 r2], 80⟩) ?_)
   rintro ⟨v1, k⟩ r0 hb1 hm
   rw [zq38_L2] at hm
   refine Ok_seq (rs G (hN 3 t.Trips h0) ?_)
   refine cd hm (fun hm => ?_) (fun hm => ?_)
   ·refine X_skip (thN (jn hm (fun k1 => ⟨[(3, dV now), (4, .ref 16 0), (10, .own 32), (11, .own 48), (12, dV v1)], [bX 16 [dV t.Network.Stops, dV t.Network.Lines, dV t.Trips], aX 32 3 k1, aX 48 74 r2], 80⟩) (fun k1 hm => ?_) ?_))
    ·refine Ok_block ?_
     obtain ⟨e1, h6, hm⟩ := obind hm
     obtain ⟨r5, h7, hm⟩ := obind hm
     obtain ⟨r6, h8, hm⟩ := obind hm
     refine ds G [] (hD 4 h6 (hC 9 (zq86_c h7) (hC 10 (zq59_c h8) h0))) ?_
     refine Ok_seq (rg G (tl hm (fun v4 => ⟨[(3, dV now), (4, .ref 16 0), (10, .own 32), (11, .own 48), (12, dV v1), (13, dV v4)], [bX 16 [dV t.Network.Stops, dV t.Network.Lines, dV t.Trips], aX 32 3 k, aX 48 74 r2], 80⟩) (fun v4 hm => ?_) ?_))
     ·refine Ok_block (lp G hm (fun (v2, v3) => ⟨[(3, dV now), (4, .ref 16 0), (10, .own 32), (11, .own 48), (12, dV v1), (13, dV v2), (14, dV v3)], [bX 16 [dV t.Network.Stops, dV t.Network.Lines, dV t.Trips], aX 32 3 k, aX 48 74 r2], 80⟩) ?_)
      rintro ⟨v2, v3⟩ r0 hb2 hm
      rw [zq38_L1] at hm
      refine Ok_seq (rs G (hN 2 r2 h0) ?_)
      refine cd hm (fun hm => ?_) (fun hm => ?_)
      ·refine X_skip (thN (Ok_seq (Ok_block ?_)))
       rcases bf hm with ⟨hb3, hm⟩ | ⟨hb3, hm⟩
       ·obtain ⟨e4, h11, hm⟩ := obind hm
        obtain ⟨e5, h12, hm⟩ := obind hm
        refine de G [] (hO 1 (.b true) (hP hb3 (hD 4 h11 (hE 6 h11 (hD 10 h12 h0))))) ?_
        exact ibN (thN (rh G (wL G hm)))
       ·refine de G [] (hO 1 (.b false) (hP hb3 h0)) ?_
        exact ibN (thN (rh G (wL G hm)))
      ·exact Ok_exit (thE (thE (ibE (wD G hm hb2))))
     rintro v4 hm s hw
     refine thN (Ok_weak hw ?_)
     refine rg G (cd hm (fun hm => ?_) (fun hm => ?_))
     ·obtain ⟨e6, h13, hm⟩ := obind hm
      obtain ⟨u, h14, hm⟩ := obind hm
      refine re G (hD 4 h13 (hA 8 8 h14 h0)) ?_
      exact ibN (wJ G hm)
     ·exact X_skip (ibN (wJ G hm))
    rintro k1 hm
    exact rh G (wL G hm)
   ·exact Ok_exit (thE (thE (ibE (wD G hm hb1))))
  rintro k2 hm s1 hw1
  refine thN (Ok_weak hw1 ?_)
  refine rg G ?_
  cases hm
  exact rt [16] []
noncomputable def zq152_M : MS ((List Int) × (List Int)) Bool := ⟨.x .r .r, fun x => zq152 x.1 x.2, fun y => dV y, fun _ => [], fun _ _ => []⟩
theorem zq152_c {a b y} (hm : zq152 a b = some y) : zq152_M.C (a, b) y := zq152_M.c (a, b) hm
theorem zq152_ok : FnOK Tryz.prog 46 zq152_M.S := by
 refine fm tt zq152_M [] Tryz.call46 Tryz.func46 rfl Tryz.results46 Tryz.ntmps46 ?_
 rintro ⟨a, b⟩ y cx G hm
 have hm : zq152 a b = some y := hm
 unfold zq152 at hm
 refine rg G (Ok_seq (rs G (hN 1 a (hN 3 b h0)) ?_))
 refine cd hm (fun hm => ?_) (fun hm => ?_)
 ·refine rg G ?_
  cases hm
  exact rt [] []
 ·refine X_skip (thN (Ok_seq (rg G (tF hm (fun _ => ⟨[], [], 32⟩) (fun v1 hr hm => ?_) ?_))))
  ·refine Ok_block (lp G hm (fun v => ⟨[(0, dV a), (1, dV b), (5, dV v)], [], 32⟩) ?_)
   rintro v r0 hb hm
   rw [zq152_L1] at hm
   refine Ok_seq (rs G (hN 2 a h0) ?_)
   refine cd hm (fun hm => ?_) (fun hm => ?_)
   ·refine X_skip (thN (Ok_seq (Ok_block ?_)))
    obtain ⟨e2, h2, hm⟩ := obind hm
    obtain ⟨e3, h3, hm⟩ := obind hm
    refine ds G [] (hD 2 h2 (hD 6 h3 h0)) ?_
    refine cd hm (fun hm => ?_) (fun hm => ?_)
    ·refine rg G ?_
     have hm := eL hm hb hr
     cases hm
     exact rt [] []
    ·exact X_skip (ibN (thN (rh G (wL G hm))))
   ·exact Ok_exit (thE (thE (ibE (wE G hm hb))))
  rintro ⟨⟩ hm s hw
  refine thN (Ok_weak hw ?_)
  refine rg G ?_
  cases hm
  exact rt [] []
noncomputable def v_FnMatches_M : MS ((List UInt8)) Bool := ⟨.r, v_FnMatches, fun y => dV y, fun _ => [], fun _ _ => []⟩
theorem v_FnMatches_c {code y} (hm : v_FnMatches code = some y) : v_FnMatches_M.C code y := v_FnMatches_M.c code hm
theorem v_FnMatches_ok : FnOK Tryz.prog 6 v_FnMatches_M.S := by
 refine fm tt v_FnMatches_M [fo zq150_ok, fo zq35_ok, fo zq9_ok, fo zq37_ok, fo zq4_ok, fo zq7_ok, fo zq151_ok, fo zq36_ok, fo zq10_ok, fo zq38_ok, fo zq152_ok] Tryz.call6 Tryz.func6 rfl Tryz.results6 Tryz.ntmps6 ?_
 rintro code y cx G hm
 have hm : v_FnMatches code = some y := hm
 unfold v_FnMatches at hm
 refine rg G (Ok_seq ?_)
 obtain ⟨r, h, hm⟩ := obind hm
 refine rs G (hC 1 (zq150_c h) h0) ?_
 refine cd hm (fun hm => ?_) (fun hm => ?_)
 ·refine rg G ?_
  cases hm
  exact rt [] []
 ·refine X_skip (thN ?_)
  obtain ⟨r1, h1, hm⟩ := obind hm
  refine rs G (hC 1 (zq35_c h1) h0) ?_
  obtain ⟨r2, h2, hm⟩ := obind hm
  refine rs G (hO 3 (.fz [80] [] []) (hC 3 (zq9_c h2) h0)) ?_
  obtain ⟨r3, h3, hm⟩ := obind hm
  refine rs G (hC 3 (zq37_c h3) h0) ?_
  refine Ok_seq (jn hm (fun v => ⟨[(0, dV code), (3, .ref 16 0), (4, dV r1.2.1), (5, dV r1.2.2), (6, dV r2.1), (7, dV r2.2), (8, .own 32), (66, dV v)], [bX 16 [dV r1.1.Network.Stops, dV r1.1.Network.Lines, dV r1.1.Trips], aX 32 74 r3.1], 64⟩) (fun v hm => ?_) ?_)
  ·rcases bf hm with ⟨hb, hm⟩ | ⟨hb, hm⟩
   ·refine re G (hO 3 (.b true) (hP hb h0)) ?_
    exact wJ G hm
   ·rcases bf hm with ⟨hb1, hm⟩ | ⟨hb1, hm⟩
    ·refine re G (hO 3 (.b false) (hP hb (hN 5 r2.1 (hN 7 r3.1 (hO 10 (.b true) (hP hb1 h0)))))) ?_
     exact wJ G hm
    ·rcases bf hm with ⟨hb2, hm⟩ | ⟨hb2, hm⟩
     ·obtain ⟨r4, h4, hm⟩ := obind hm
      refine re G (hO 3 (.b false) (hP hb (hN 5 r2.1 (hN 7 r3.1 (hO 10 (.b false) (hP hb1 (hO 12 (.b true) (hP hb2 (hC 15 (zq4_c h4) h0))))))))) ?_
      exact wJ G hm
     ·refine re G (hO 3 (.b false) (hP hb (hN 5 r2.1 (hN 7 r3.1 (hO 10 (.b false) (hP hb1 (hO 12 (.b false) (hP hb2 h0)))))))) ?_
      exact wJ G hm
  rintro v hm
  refine cd hm (fun hm => ?_) (fun hm => ?_)
  ·refine rg G ?_
   cases hm
   exact rt [] []
  ·refine X_skip (thN ?_)
   obtain ⟨r5, h5, hm⟩ := obind hm
   refine rs G (hC 3 (zq7_c h5) h0) ?_
   refine Ok_seq (rg G (cd hm (fun hm => ?_) (fun hm => ?_)))
   ·refine rg G ?_
    cases hm
    exact rt [] []
   ·refine X_skip (thN (Ok_seq (rg G (tF hm (fun _ => ⟨[(0, dV code), (4, dV r1.2.1), (6, dV r2.1), (7, dV r2.2), (10, dV r5.1)], [], 32⟩) (fun v5 hr hm => ?_) ?_))))
    ·refine Ok_block (lp G hm (fun m => ⟨[(0, dV code), (4, dV r1.2.1), (5, dV r1.2.2), (6, dV r2.1), (7, dV r2.2), (8, .own 16), (10, dV r5.1), (12, dV m)], [aX 16 74 r3.1], 48⟩) ?_)
     rintro m r0 hb3 hm
     rw [v_FnMatches_L2] at hm
     refine Ok_seq (rs G (hN 2 r2.1 h0) ?_)
     refine cd hm (fun hm => ?_) (fun hm => ?_)
     ·refine X_skip (thN (Ok_seq (Ok_block ?_)))
      obtain ⟨e, h6, hm⟩ := obind hm
      refine rs G (hD 2 h6 h0) ?_
      refine Ok_seq ?_
      obtain ⟨e3, h10, hm⟩ := obind hm
      refine jn hm (fun v1 => ⟨[(0, dV code), (4, dV r1.2.1), (5, dV r1.2.2), (6, dV r2.1), (7, dV r2.2), (8, .own 16), (10, dV r5.1), (12, dV m), (13, .ref 32 0), (126, dV v1)], [aX 16 74 r3.1, bX 32 [dV e.Vehicle, dV e.Id, dV e.Delay]], 64⟩) (fun v1 hm => ?_) ?_
      ·rcases bf hm with ⟨hb4, hm⟩ | ⟨hb4, hm⟩
       ·refine de G [] (hD 3 h10 (hE 4 h10 (hO 6 (.b true) (hP hb4 h0)))) ?_
        exact wJ G hm
       ·rcases bf hm with ⟨hb5, hm⟩ | ⟨hb5, hm⟩
        ·refine de G [] (hD 3 h10 (hE 4 h10 (hO 6 (.b false) (hP hb4 (hO 12 (.b true) (hP hb5 h0)))))) ?_
         exact wJ G hm
        ·rcases bf hm with ⟨hb6, hm⟩ | ⟨hb6, hm⟩
         ·refine de G [] (hD 3 h10 (hE 4 h10 (hO 6 (.b false) (hP hb4 (hO 12 (.b false) (hP hb5 (hO 19 (.b true) (hP hb6 h0)))))))) ?_
          exact wJ G hm
         ·obtain ⟨r7, h11, hm⟩ := obind hm
          rcases bf hm with ⟨hb7, hm⟩ | ⟨hb7, hm⟩
          ·refine de G [] (hD 3 h10 (hE 4 h10 (hO 6 (.b false) (hP hb4 (hO 12 (.b false) (hP hb5 (hO 19 (.b false) (hP hb6 (hC 23 (zq151_c h11) (hO 25 (.b true) (hP hb7 h0))))))))))) ?_
           exact wJ G hm
          ·rcases bf hm with ⟨hb8, hm⟩ | ⟨hb8, hm⟩
           ·obtain ⟨e4, h12, hm⟩ := obind hm
            refine de G [] (hD 3 h10 (hE 4 h10 (hO 6 (.b false) (hP hb4 (hO 12 (.b false) (hP hb5 (hO 19 (.b false) (hP hb6 (hC 23 (zq151_c h11) (hO 25 (.b false) (hP hb7 (hO 28 (.b true) (hP hb8 (hD 32 h12 h0)))))))))))))) ?_
            exact wJ G hm
           ·refine de G [] (hD 3 h10 (hE 4 h10 (hO 6 (.b false) (hP hb4 (hO 12 (.b false) (hP hb5 (hO 19 (.b false) (hP hb6 (hC 23 (zq151_c h11) (hO 25 (.b false) (hP hb7 (hO 28 (.b false) (hP hb8 h0))))))))))))) ?_
            exact wJ G hm
      rintro v1 hm
      refine cd hm (fun hm => ?_) (fun hm => ?_)
      ·refine rg G ?_
       have hm := eL hm hb3 hr
       cases hm
       exact rt [] []
      ·refine X_skip (thN (rg G (tF hm (fun _ => ⟨[(0, dV code), (4, dV r1.2.1), (5, dV r1.2.2), (6, dV r2.1), (7, dV r2.2), (8, .own 16), (10, dV r5.1), (12, dV m)], [aX 16 74 r3.1], 48⟩) (fun v2 hr1 hm => ?_) ?_)))
       ·refine Ok_block (lp G hm (fun i => ⟨[(0, dV code), (4, dV r1.2.1), (5, dV r1.2.2), (6, dV r2.1), (7, dV r2.2), (8, .own 16), (10, dV r5.1), (12, dV m), (13, .ref 32 0), (14, dV i)], [aX 16 74 r3.1, bX 32 [dV e.Vehicle, dV e.Id, dV e.Delay]], 64⟩) ?_)
        rintro i r0 hb9 hm
        rw [v_FnMatches_L1] at hm
        refine Ok_seq (rg G (cd hm (fun hm => ?_) (fun hm => ?_)))
        ·refine X_skip (thN (Ok_seq (Ok_block ?_)))
         obtain ⟨e7, h14, hm⟩ := obind hm
         refine ds G [] (hD 2 h14 h0) ?_
         refine cd hm (fun hm => ?_) (fun hm => ?_)
         ·refine rg G ?_
          have hm := eL hm hb9 hr1
          have hm := eL hm hb3 hr
          cases hm
          exact rt [] []
         ·exact X_skip (ibN (thN (rh G (wL G hm))))
        ·exact Ok_exit (thE (thE (ibE (wE G hm hb9))))
       rintro ⟨⟩ hm s hw
       refine ibN (thN (Ok_weak hw ?_))
       exact rh G (wL G hm)
     ·exact Ok_exit (thE (thE (ibE (wE G hm hb3))))
    rintro ⟨⟩ hm s1 hw1
    refine thN (Ok_weak hw1 ?_)
    refine Ok_seq (rg G (tF hm (fun _ => ⟨[(0, dV code)], [], 32⟩) (fun v4 hr2 hm => ?_) ?_))
    ·refine Ok_block (lp G hm (fun there => ⟨[(0, dV code), (4, dV r1.2.1), (6, dV r2.1), (7, dV r2.2), (10, dV r5.1), (15, dV there)], [], 32⟩) ?_)
     rintro there r0 hb10 hm
     rw [v_FnMatches_L4] at hm
     refine Ok_seq (jn hm (fun v3 => ⟨[(0, dV code), (4, dV r1.2.1), (6, dV r2.1), (7, dV r2.2), (10, dV r5.1), (15, dV there), (146, dV v3)], [], 32⟩) (fun v3 hm => ?_) ?_)
     ·rcases bf hm with ⟨hb11, hm⟩ | ⟨hb11, hm⟩
      ·refine re G (hN 2 r1.2.1 (hO 4 (.b true) (hP hb11 h0))) ?_
       exact wJ G hm
      ·refine re G (hN 2 r1.2.1 (hO 4 (.b false) (hP hb11 h0))) ?_
       exact wJ G hm
     rintro v3 hm
     refine cd hm (fun hm => ?_) (fun hm => ?_)
     ·refine X_skip (thN (Ok_seq (Ok_block ?_)))
      obtain ⟨e10, h15, hm⟩ := obind hm
      obtain ⟨r11, h16, hm⟩ := obind hm
      refine rs G (hD 3 h15 (hC 6 (zq151_c h16) h0)) ?_
      refine Ok_seq (rg G (tl hm (fun k1 => ⟨[(0, dV code), (4, dV r1.2.1), (6, dV r2.1), (7, dV r2.2), (10, dV r5.1), (15, dV there), (16, dV k1)], [], 32⟩) (fun k1 hm => ?_) ?_))
      ·refine Ok_block (lp G hm (fun (k, u) => ⟨[(0, dV code), (4, dV r1.2.1), (6, dV r2.1), (7, dV r2.2), (10, dV r5.1), (15, dV there), (16, dV k), (17, dV u)], [], 32⟩) ?_)
       rintro ⟨k, u⟩ r0 hb12 hm
       rw [v_FnMatches_L3] at hm
       refine Ok_seq (rs G (hN 2 r2.1 h0) ?_)
       refine cd hm (fun hm => ?_) (fun hm => ?_)
       ·refine X_skip (thN (Ok_seq (Ok_block ?_)))
        rcases bf hm with ⟨hb13, hm⟩ | ⟨hb13, hm⟩
        ·refine de G [] (hO 1 (.b true) (hP hb13 h0)) ?_
         exact ibN (thN (rh G (wL G hm)))
        ·obtain ⟨e13, h19, hm⟩ := obind hm
         obtain ⟨e14, h20, hm⟩ := obind hm
         refine de G [] (hO 1 (.b false) (hP hb13 (hD 4 h19 (hD 9 h20 h0)))) ?_
         exact ibN (thN (rh G (wL G hm)))
       ·exact Ok_exit (thE (thE (ibE (wD G hm hb12))))
      rintro k1 hm s2 hw2
      refine thN (Ok_weak hw2 ?_)
      refine rg G (cd hm (fun hm => ?_) (fun hm => ?_))
      ·refine rg G ?_
       have hm := eL hm hb10 hr2
       cases hm
       exact rt [] []
      ·exact X_skip (ibN (thN (rh G (wL G hm))))
     ·exact Ok_exit (thE (thE (ibE (wE G hm hb10))))
    rintro ⟨⟩ hm s3 hw3
    refine thN (Ok_weak hw3 ?_)
    obtain ⟨r13, h21, hm⟩ := obind hm
    refine rs G (hC 1 (zq36_c h21) h0) ?_
    obtain ⟨r14, h22, hm⟩ := obind hm
    refine rs G (hO 4 (.fz [48] [] []) (hC 4 (zq10_c h22) h0)) ?_
    obtain ⟨r15, h23, hm⟩ := obind hm
    refine rs G (hC 4 (zq38_c h23) h0) ?_
    refine jn hm (fun t => ⟨[(2, dV t)], [], 32⟩) (fun t hm => ?_) ?_
    ·rcases bf hm with ⟨hb14, hm⟩ | ⟨hb14, hm⟩
     ·obtain ⟨r16, h24, hm⟩ := obind hm
      refine re G (hO 3 (.b true) (hP hb14 (hC 6 (zq152_c h24) h0))) ?_
      exact wJ G hm
     ·refine re G (hO 3 (.b false) (hP hb14 h0)) ?_
      exact wJ G hm
    rintro t hm
    cases hm
    exact rt [] []
end Go.Proofs.YtaegkodcjpgndaaGreat
