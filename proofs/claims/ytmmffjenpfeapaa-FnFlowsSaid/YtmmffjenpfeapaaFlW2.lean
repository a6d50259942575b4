/- Each function computes what its model says. Made by program (dec.py). -/
import Derived.Test.YtmmffjenpfeapaaFlW1
namespace Go.Proofs.Ytmmffjenpfeapaa
open Go Go.Ab Try
set_option maxRecDepth 100000
set_option maxHeartbeats 4000000
set_option linter.unusedVariables false
set_option linter.unusedSimpArgs false
noncomputable def zq6_M : MS (Timetable × (List Flow) × Int) ((List Int) × Bool) := ⟨.x .r (.x .r .r), fun x => zq6 x.1 x.2.1 x.2.2, fun y => .tup [dV y.1, dV y.2], fun _ => [], fun _ _ => []⟩
theorem zq6_c {t list capacity y} (Z : zq6 t list capacity = some y) : zq6_M.C (t, list, capacity) y := zq6_M.c (t, list, capacity) Z
theorem zq6_ok : FnOK Try.prog tJ 15 zq6_M.S := by
 refine fm tt zq6_M [fo zq11_ok, fo zq15_ok] call15 func15 rfl results15 ntmps15 ?_
 rintro ⟨t, list, capacity⟩ y cx G (Z : zq6 t list capacity = some y)
 unfold zq6 at Z
 refine rg G (Ok_seq ?_)
 obtain ⟨r, h, Z⟩ := obind Z
 refine rs G (hC 3 (zq11_M.c (_, _, _) h) h0) ?_
 refine cd Z ?_ ?_ <;> intro Z
 ·refine rg G ?_
  cases Z
  exact rt [] [[.z 1]]
 ·refine X_skip (thN ?_)
  obtain ⟨r1, h1, Z⟩ := obind Z
  refine rs G (hC 3 (zq15_c h1) h0) ?_
  cases Z
  exact rt [] []
noncomputable def zq97_M : MS ((List Int)) Int := ⟨.r, zq97, fun y => dV y, fun _ => [], fun _ _ => []⟩
theorem zq97_ok : FnOK Try.prog tJ 16 zq97_M.S := by
 refine fm tt zq97_M [] call16 func16 rfl results16 ntmps16 ?_
 rintro list y cx G (Z : zq97 list = some y)
 unfold zq97 at Z
 refine rg G (rg G (Ok_seq (rg G (tl Z (fun i1 => ⟨[(3, dV i1)], [], 32⟩) (fun i1 Z => ?_) ?_))))
 ·refine Ok_block (lp G Z (fun (i, v) => ⟨[(0, dV list), (3, dV i), (4, dV v)], [], 32⟩) ?_)
  rintro ⟨i, v⟩ r0 hb Z
  rw [zq97_L1] at Z
  refine Ok_seq (rs G (hN 2 list h0) ?_)
  refine cd Z ?_ ?_ <;> intro Z
  ·refine X_skip (thN (Ok_seq (Ok_block ?_)))
   obtain ⟨e, h, Z⟩ := obind Z
   refine re G (hD 3 h h0) ?_
   exact ibN (thN (rh G (wL G Z)))
  ·exact Ok_exit (thE (thE (ibE (wD G Z hb))))
 rintro i1 Z s hw
 refine thN (Ok_weak hw ?_)
 refine rg G ?_
 cases Z
 exact rt [] []
noncomputable def zq30_M : MS ((List UInt8)) (Timetable × (List Flow)) := ⟨.r, zq30, fun y => .tup [dV y.1, .own 0], fun y => [arO 44 y.2], fun _ _ => []⟩
theorem zq30_ok : FnOK Try.prog tJ 17 zq30_M.S := by
 refine fm tt zq30_M [fo zq29_ok] call17 func17 rfl results17 ntmps17 ?_
 rintro code y cx G (Z : zq30 code = some y)
 unfold zq30 at Z
 refine rg G ?_
 obtain ⟨r, h, Z⟩ := obind Z
 refine rs G (hC 1 (zq29_M.c _ h) h0) ?_
 cases Z
 exact rt [64] []
noncomputable def zq8_M : MS (Flow × Flow) Bool := ⟨.x .r (.b 44), fun x => zq8 x.1 x.2, fun y => dV y, fun _ => [], fun x _ => [bxO 44 x.2]⟩
theorem zq8_ok : FnOK Try.prog tJ 93 zq8_M.S := by
 refine fm tt zq8_M [] call93 func93 rfl results93 ntmps93 ?_
 rintro ⟨g, c1⟩ y cx G (Z : zq8 g c1 = some y)
 unfold zq8 at Z
 refine rg G (jn Z (fun v => ⟨[(1, .ref 0 0), (3, dV v)], [bX 0 44 [dV c1.From, dV c1.To, dV c1.Time, dV c1.Persons]], 48⟩) (fun v Z => ?_) ?_)
 ·rcases bf Z with ⟨hb, Z⟩ | ⟨hb, Z⟩
  ·rcases bf Z with ⟨hb1, Z⟩ | ⟨hb1, Z⟩
   ·refine re G (hO 5 (.b true) (hP hb (hO 12 (.b true) (hP hb1 h0)))) ?_
    exact wJ G Z
   ·refine re G (hO 5 (.b true) (hP hb (hO 12 (.b false) (hP hb1 h0)))) ?_
    exact wJ G Z
  ·refine re G (hO 5 (.b false) (hP hb h0)) ?_
   exact wJ G Z
 rintro v Z
 cases Z
 exact rt [] []
noncomputable def zq82_M : MS ((List Flow) × Flow) Int := ⟨⟨[.rd, .fn 93 [.bx]], fun x => [Enc.e x.1, .agg [.sc undef]], fun x => [bxO 44 x.2], 1, 1, fun _ => rfl, fun _ => rfl, rfl, (by
  rintro ⟨a0, a1⟩ ⟨b0, b1⟩ h hO
  have q0 : a0 = b0 := qI 0 h
  have q1 : a1 = b1 := Enc.inj _ _ (congrArg (fun l => D.agg (obD l 0)) hO)
  subst q0; subst q1; rfl)⟩, fun x => zq82 x.1 x.2, fun y => dV y, fun _ => [], fun x _ => [bxO 44 x.2]⟩
theorem zq82_ok : FnOK Try.prog tJ 92 zq82_M.S := by
 refine fm tt zq82_M [fo zq8_ok] call92 func92 rfl results92 ntmps92 ?_
 rintro ⟨s, c1⟩ y cx G (Z : zq82 s c1 = some y)
 obtain ⟨f, hf_f⟩ : ∃ q, (fun (z0 : Flow) => zq8 z0 c1) = q := ⟨_, rfl⟩
 have Z : zq81 s f = some y := by rw [← hf_f]; exact Z
 unfold zq81 at Z
 refine rg G (Ok_seq (rs G (hN 1 s h0) ?_))
 refine tF Z (fun _ => ⟨[(1, .fn 93 [.ref 0 0])], [bX 0 44 [dV c1.From, dV c1.To, dV c1.Time, dV c1.Persons]], 48⟩) (fun v1 hr Z => ?_) ?_
 ·refine Ok_block (lp G Z (fun v => ⟨[(0, dV s), (1, .fn 93 [.ref 0 0]), (7, dV (s.length : Int)), (8, dV v)], [bX 0 44 [dV c1.From, dV c1.To, dV c1.Time, dV c1.Persons]], 48⟩) ?_)
  rintro v r0 hb Z
  rw [zq81_L1] at Z
  refine rg G (Ok_seq (cd Z ?_ ?_)) <;> intro Z
  ·refine X_skip (thN (Ok_seq (Ok_block (rg G ?_))))
   obtain ⟨e, h, r, h1, Z⟩ := ob2 Z
   have h1 : zq8 e c1 = some r := by rw [← hf_f] at h1; exact h1
   refine rs G (hD 3 h (hC 5 (zq8_M.c (_, _) h1) h0)) ?_
   refine cd Z ?_ ?_ <;> intro Z
   ·refine rg G ?_
    have Z := eL Z hb hr
    cases Z
    exact rt [] []
   ·exact X_skip (ibN (thN (rh G (wL G Z))))
  ·exact Ok_exit (thE (thE (ibE (wE G Z hb))))
 rintro ⟨⟩ Z s1 hw
 refine thN (Ok_weak hw ?_)
 refine rg G ?_
 cases Z
 exact rt [] []
noncomputable def zq7_M : MS (Timetable × (List Flow)) ((List Flow) × Bool) := ⟨.x .r .r, fun x => zq7 x.1 x.2, fun y => .tup [dV y.1, dV y.2], fun _ => [], fun _ _ => []⟩
theorem zq7_ok : FnOK Try.prog tJ 18 zq7_M.S := by
 refine fm tt zq7_M [fo zq2_ok, fo zq82_ok, fo zq12_ok] call18 func18 rfl results18 ntmps18 ?_
 rintro ⟨t, list⟩ y cx G (Z : zq7 t list = some y)
 unfold zq7 at Z
 refine rg G (Ok_seq ?_)
 obtain ⟨r, h, Z⟩ := obind Z
 refine rs G (hC 2 (zq2_M.c (_, _) h) h0) ?_
 refine cd Z ?_ ?_ <;> intro Z
 ·refine rg G ?_
  cases Z
  exact rt [] [[.z 4]]
 ·refine X_skip (thN (rg G (Ok_seq (rs G (hN 1 list h0) ?_))))
  refine tl Z (fun f2 => ⟨[(2, .ref 16 0), (6, .own 32)], [bX 16 30 [dV t.Network.Stops, dV t.Network.Lines, dV t.Trips], aX 32 44 f2], 64⟩) (fun f2 Z => ?_) ?_
  ·refine Ok_block (lpP Z (fun (v, f) => ⟨[(2, .ref 16 0), (6, .own 32), (14, dV list), (15, dV (list.length : Int)), (16, dV v)], [bX 16 30 [dV t.Network.Stops, dV t.Network.Lines, dV t.Trips], aX 32 44 f], 64⟩) (Wk_J G.hL ⟨[(2, []), (6, [.o 32]), (14, []), (15, []), (16, [])], [(16, 16, [])], [(32, 44, 4, [])], 64⟩ (by kernel_rfl)) ?_)
   rintro ⟨v, f⟩ r0 hb Z
   rw [zq7_L1] at Z
   refine rg G (Ok_seq (cd Z ?_ ?_)) <;> intro Z
   ·refine X_skip (thN (jn Z (fun f1 => ⟨[(2, .ref 16 0), (6, .own 32), (14, dV list), (15, dV (list.length : Int)), (16, dV v)], [bX 16 30 [dV t.Network.Stops, dV t.Network.Lines, dV t.Trips], aX 32 44 f1], 64⟩) (fun f1 Z => ?_) ?_))
    ·refine Ok_block ?_
     obtain ⟨e, h1, Z⟩ := obind Z
     refine rs G (hD 0 h1 h0) ?_
     obtain ⟨r1, h2, Z⟩ := obind Z
     refine rs G (hC 2 (zq82_M.c (_, _) h2) h0) ?_
     refine rg G (cd Z ?_ ?_) <;> intro Z
     ·obtain ⟨u, h3, Z⟩ := obind Z
      refine re G (hA 3 32 h3 h0) ?_
      exact ibN (wJ G Z)
     ·obtain ⟨e3, h6, e4, h7, Z⟩ := ob2 Z
      refine de G [(10, [32])] (hD 2 h6 (hE 4 h6 (hD 8 h7 (hS 10 h7 (⟨e4.From, e4.To, e4.Time, (w64 (e3.Persons + e.Persons))⟩ : Flow) h0)))) ?_
      exact ibN (wJ G Z)
    rintro f1 Z
    exact rh G (wL G Z)
   ·exact Ok_exit (thE (thE (ibE (wD G Z hb))))
  rintro f2 Z s hw
  refine thN (Ok_weak hw ?_)
  refine Ok_seq ?_
  obtain ⟨r2, h8, Z⟩ := obind Z
  refine rs G (hC 2 (zq12_M.c (_, _) h8) h0) ?_
  refine cd Z ?_ ?_ <;> intro Z
  ·refine rg G ?_
   cases Z
   exact rt [] [[.z 4]]
  ·refine X_skip (thN (rg G ?_))
   cases Z
   exact rt [] []
noncomputable def zq33_M : MS (Timetable × (List Flow)) ((List Flow) × Bool) := ⟨.x .r .r, fun x => zq33 x.1 x.2, fun y => .tup [.own 0, dV y.2], fun y => [arO 44 y.1], fun _ _ => []⟩
theorem zq33_ok : FnOK Try.prog tJ 19 zq33_M.S := by
 refine fm tt zq33_M [fo zq60_ok] call19 func19 rfl results19 ntmps19 ?_
 rintro ⟨t, list⟩ y cx G (Z : zq33 t list = some y)
 unfold zq33 at Z
 refine rg G (rg G (Ok_seq ?_))
 obtain ⟨r, h, Z⟩ := obind Z
 refine rs G (hC 2 (zq60_M.c (_, _) h) h0) ?_
 refine cd Z ?_ ?_ <;> intro Z
 ·refine rg G ?_
  cases Z
  exact rt [64] []
 ·refine X_skip (thN (Ok_seq (rg G (tl Z (fun k2 => ⟨[(2, .ref 16 0), (6, .own 32)], [bX 16 30 [dV t.Network.Stops, dV t.Network.Lines, dV t.Trips], aX 32 44 k2], 64⟩) (fun k2 Z => ?_) ?_))))
  ·refine Ok_block (lp G Z (fun (x, k) => ⟨[(1, dV list), (2, .ref 16 0), (6, .own 32), (7, dV x)], [bX 16 30 [dV t.Network.Stops, dV t.Network.Lines, dV t.Trips], aX 32 44 k], 64⟩) ?_)
   rintro ⟨x, k⟩ r0 hb Z
   rw [zq33_L2] at Z
   refine Ok_seq (rs G (hN 2 list h0) ?_)
   refine cd Z ?_ ?_ <;> intro Z
   ·refine X_skip (thN (jn Z (fun k1 => ⟨[(1, dV list), (2, .ref 16 0), (6, .own 32), (7, dV x)], [bX 16 30 [dV t.Network.Stops, dV t.Network.Lines, dV t.Trips], aX 32 44 k1], 64⟩) (fun k1 Z => ?_) ?_))
    ·refine Ok_block (rg G (jn Z (fun v2 => ⟨[(1, dV list), (2, .ref 16 0), (6, .own 32), (7, dV x), (8, dV v2)], [bX 16 30 [dV t.Network.Stops, dV t.Network.Lines, dV t.Trips], aX 32 44 k], 64⟩) (fun v2 Z => ?_) ?_))
     ·refine Ok_block (lp G Z (fun v => ⟨[(1, dV list), (2, .ref 16 0), (6, .own 32), (7, dV x), (8, dV v)], [bX 16 30 [dV t.Network.Stops, dV t.Network.Lines, dV t.Trips], aX 32 44 k], 64⟩) ?_)
      rintro v r0 hb1 Z
      rw [zq33_L1] at Z
      refine Ok_seq (jn Z (fun v1 => ⟨[(1, dV list), (2, .ref 16 0), (6, .own 32), (7, dV x), (8, dV v), (64, dV v1)], [bX 16 30 [dV t.Network.Stops, dV t.Network.Lines, dV t.Trips], aX 32 44 k], 64⟩) (fun v1 Z => ?_) ?_)
      ·rcases bf Z with ⟨hb2, Z⟩ | ⟨hb2, Z⟩
       ·obtain ⟨e6, h7, e7, h8, Z⟩ := ob2 Z
        rcases bf Z with ⟨hb3, Z⟩ | ⟨hb3, Z⟩
        ·refine de G [] (hN 2 k (hO 4 (.b true) (hP hb2 (hD 7 h7 (hE 9 h7 (hD 12 h8 (hO 16 (.b true) (hP hb3 h0)))))))) ?_
         exact wJ G Z
        ·obtain ⟨e8, h9, e9, h10, Z⟩ := ob2 Z
         rcases bf Z with ⟨hb4, Z⟩ | ⟨hb4, Z⟩
         ·refine de G [] (hN 2 k (hO 4 (.b true) (hP hb2 (hD 7 h7 (hE 9 h7 (hD 12 h8 (hO 16 (.b false) (hP hb3 (hD 19 h9 (hE 21 h9 (hD 24 h10 (hO 29 (.b true) (hP hb4 h0))))))))))))) ?_
          exact wJ G Z
         ·obtain ⟨e10, h11, e11, h12, Z⟩ := ob2 Z
          refine de G [] (hN 2 k (hO 4 (.b true) (hP hb2 (hD 7 h7 (hE 9 h7 (hD 12 h8 (hO 16 (.b false) (hP hb3 (hD 19 h9 (hE 21 h9 (hD 24 h10 (hO 29 (.b false) (hP hb4 (hD 32 h11 (hE 34 h11 (hD 37 h12 h0)))))))))))))))) ?_
          exact wJ G Z
       ·refine de G [] (hN 2 k (hO 4 (.b false) (hP hb2 h0))) ?_
        exact wJ G Z
      rintro v1 Z
      refine cd Z ?_ ?_ <;> intro Z
      ·exact X_skip (thN (Ok_block (rh G (ibN (wL G Z)))))
      ·exact Ok_exit (thE (thE (ibE (wD G Z hb1))))
     rintro v2 Z
     refine Ok_seq (rs G (hN 2 k h0) ?_)
     refine cd Z ?_ ?_ <;> intro Z
     ·obtain ⟨e12, h13, u, h14, Z⟩ := ob2 Z
      refine rs G (hD 3 h13 (hA 6 32 h14 h0)) ?_
      exact Ok_exit (thE (ibE (wJ G Z)))
     ·refine X_skip (thN ?_)
      obtain ⟨e13, h15, Z⟩ := obind Z
      refine rs G (hD 2 h15 (hE 3 h15 h0)) ?_
      obtain ⟨e15, h17, Z⟩ := obind Z
      refine ds G [(9, [192])] (hD 4 h17 h0) ?_
      obtain ⟨e16, h18, Z⟩ := obind Z
      refine re G (hD 3 h18 (hS 4 h18 (⟨e13.From, e13.To, e13.Time, (w64 (e13.Persons + e15.Persons))⟩ : Flow) h0)) ?_
      exact ibN (wJ G Z)
    rintro k1 Z
    exact rh G (wL G Z)
   ·exact Ok_exit (thE (thE (ibE (wD G Z hb))))
  rintro k2 Z s hw
  refine thN (Ok_weak hw ?_)
  refine Ok_seq ?_
  obtain ⟨r1, h19, Z⟩ := obind Z
  refine rs G (hC 2 (zq60_M.c (_, _) h19) h0) ?_
  refine cd Z ?_ ?_ <;> intro Z
  ·refine rg G ?_
   cases Z
   exact rt [128] []
  ·refine X_skip (thN (rg G ?_))
   cases Z
   exact rt [32] []
noncomputable def zq32_M : MS ((List UInt8)) (Timetable × Flow) := ⟨.r, zq32, fun y => .tup [dV y.1, dV y.2], fun _ => [], fun _ _ => []⟩
theorem zq32_ok : FnOK Try.prog tJ 20 zq32_M.S := by
 refine fm tt zq32_M [fo zq39_ok, fo zq37_ok, fo zq40_ok] call20 func20 rfl results20 ntmps20 ?_
 rintro code y cx G (Z : zq32 code = some y)
 unfold zq32 at Z
 refine rg G (rg G ?_)
 obtain ⟨r, h, Z⟩ := obind Z
 refine rs G (hC 1 (zq39_M.c _ h) h0) ?_
 refine Ok_weak (Wk_J (x' := (⟨[(2, .ref 16 0), (3, .ref 32 0), (4, .ref 48 0), (5, .ref 64 0)], [bX 16 30 [.dat (.sc (.slice none 0 0)), .dat (.sc (.slice none 0 0)), .dat (.sc (.slice none 0 0))], bX 32 44 [kV .i64 0, kV .i64 0, kV .i64 0, kV .i64 0], bX 48 150 [dV r.2.code_, dV r.2.at_, kV .u64 r.2.seed_.v], bX 64 30 [dV r.1.Network.Stops, dV r.1.Network.Lines, dV r.1.Trips]], 96⟩ : X)) G.hL ⟨[(2, []), (3, []), (4, []), (5, [])], [(16, 16, []), (32, 32, []), (48, 80, []), (64, 144, [])], [], 96⟩ (by kernel_rfl)) ?_
 obtain ⟨r3, h3, r4, h4, Z⟩ := ob2 Z
 refine ds G [(5, [48, 160]), (6, [48]), (7, [16]), (8, [32])] (hC 5 (zq37_M.c (_, _) h3) (hC 6 (zq40_M.c (_, _, _) h4) h0)) ?_
 cases Z
 exact rt [] []
noncomputable def zq10_M : MS (Timetable × Flow) ((List Int) × Bool) := ⟨.x .r .r, fun x => zq10 x.1 x.2, fun y => .tup [dV y.1, dV y.2], fun _ => [], fun _ _ => []⟩
theorem zq10_ok : FnOK Try.prog tJ 21 zq10_M.S := by
 refine fm tt zq10_M [fo zq5_ok, fo zq17_ok, fo zq24_ok] call21 func21 rfl results21 ntmps21 ?_
 rintro ⟨t, f⟩ y cx G (Z : zq10 t f = some y)
 unfold zq10 at Z
 refine rg G (Ok_seq ?_)
 obtain ⟨r, h, Z⟩ := obind Z
 refine jn Z (fun v => ⟨[(2, .ref 16 0), (3, .ref 32 0), (17, dV v)], [bX 16 30 [dV t.Network.Stops, dV t.Network.Lines, dV t.Trips], bX 32 44 [dV f.From, dV f.To, dV f.Time, dV f.Persons]], 64⟩) (fun v Z => ?_) ?_
 ·rcases bf Z with ⟨hb, Z⟩ | ⟨hb, Z⟩
  ·refine re G (hC 1 (zq5_M.c _ h) (hO 3 (.b true) (hP hb h0))) ?_
   exact wJ G Z
  ·obtain ⟨r1, h1, Z⟩ := obind Z
   refine re G (hC 1 (zq5_M.c _ h) (hO 3 (.b false) (hP hb (hC 6 (zq17_M.c (_, _) h1) h0)))) ?_
   exact wJ G Z
 rintro v Z
 refine cd Z ?_ ?_ <;> intro Z
 ·refine rg G ?_
  cases Z
  exact rt [] [[.z 1]]
 ·refine X_skip (thN (rg G (Ok_seq ?_)))
  obtain ⟨r2, h2, Z⟩ := obind Z
  refine rs G (hC 2 (zq24_M.c (_, _) h2) (hN 3 r2 h0)) ?_
  refine tl Z (fun s1 => ⟨[(6, .own 16)], [aX 16 3 s1], 48⟩) (fun s1 Z => ?_) ?_
  ·refine Ok_block (lpP Z (fun (v1, s) => ⟨[(2, .ref 16 0), (6, .own 32), (20, .own 48), (21, dV (r2.length : Int)), (22, dV v1)], [bX 16 30 [dV t.Network.Stops, dV t.Network.Lines, dV t.Trips], aX 32 3 s, aX 48 157 r2], 80⟩) (Wk_J G.hL ⟨[(2, []), (6, [.o 32]), (20, []), (21, []), (22, [])], [(16, 16, []), (48, 112, [])], [(32, 3, 1, [])], 80⟩ (by kernel_rfl)) ?_)
   rintro ⟨v1, s⟩ r0 hb1 Z
   rw [zq10_L1] at Z
   refine rg G (Ok_seq (cd Z ?_ ?_)) <;> intro Z
   ·refine X_skip (thN (Ok_seq (Ok_block ?_)))
    obtain ⟨e, h3, Z⟩ := obind Z
    refine rs G (hD 0 h3 (hE 1 h3 h0)) ?_
    obtain ⟨e1, h4, u, h5, Z⟩ := ob2 Z
    refine re G (hD 5 h4 (hA 9 8 h5 h0)) ?_
    exact ibN (thN (rh G (wL G Z)))
   ·exact Ok_exit (thE (thE (ibE (wD G Z hb1))))
  rintro s1 Z s2 hw
  refine thN (Ok_weak hw ?_)
  refine rg G ?_
  cases Z
  exact rt [] []
noncomputable def zq35_M : MS (Timetable × Flow) ((List Int) × Bool) := ⟨.x .r .r, fun x => zq35 x.1 x.2, fun y => .tup [.own 0, dV y.2], fun y => [arO 3 y.1], fun _ _ => []⟩
theorem zq35_ok : FnOK Try.prog tJ 22 zq35_M.S := by
 refine fm tt zq35_M [fo zq60_ok, fo zq63_ok] call22 func22 rfl results22 ntmps22 ?_
 rintro ⟨t, f⟩ y cx G (Z : zq35 t f = some y)
 unfold zq35 at Z
 refine rg G (rg G (Ok_seq ?_))
 obtain ⟨r, h, Z⟩ := obind Z
 refine rs G (hC 3 (zq60_M.c (_, _) h) h0) ?_
 refine cd Z ?_ ?_ <;> intro Z
 ·refine rg G ?_
  cases Z
  exact rt [80] []
 ·refine X_skip (thN ?_)
  obtain ⟨r1, h1, Z⟩ := obind Z
  refine rs G (hC 2 (zq63_M.c (_, _) h1) h0) ?_
  refine Ok_seq (rg G (tl Z (fun i1 => ⟨[(6, .own 16)], [aX 16 3 i1], 48⟩) (fun i1 Z => ?_) ?_))
  ·refine Ok_block (lp G Z (fun (v, i) => ⟨[(2, .ref 16 0), (6, .own 32), (7, .own 48), (8, dV v)], [bX 16 30 [dV t.Network.Stops, dV t.Network.Lines, dV t.Trips], aX 32 3 i, aX 48 3 r1], 80⟩) ?_)
   rintro ⟨v, i⟩ r0 hb Z
   rw [zq35_L1] at Z
   refine Ok_seq (rs G (hN 2 r1 h0) ?_)
   refine cd Z ?_ ?_ <;> intro Z
   ·refine X_skip (thN (Ok_seq (Ok_block ?_)))
    obtain ⟨e2, h5, e3, h6, u1, h7, Z⟩ := ob3 Z
    refine de G [(11, [32, 304])] (hD 5 h5 (hE 6 h5 (hD 7 h6 (hA 11 8 h7 h0)))) ?_
    exact ibN (thN (rh G (wL G Z)))
   ·exact Ok_exit (thE (thE (ibE (wD G Z hb))))
  rintro i1 Z s hw
  refine thN (Ok_weak hw ?_)
  refine rg G ?_
  cases Z
  exact rt [16] []
noncomputable def zq96_M : MS ((List Int) × (List Int)) Bool := ⟨.x .r .r, fun x => zq96 x.1 x.2, fun y => dV y, fun _ => [], fun _ _ => []⟩
theorem zq96_ok : FnOK Try.prog tJ 23 zq96_M.S := by
 refine fm tt zq96_M [] call23 func23 rfl results23 ntmps23 ?_
 rintro ⟨a, b⟩ y cx G (Z : zq96 a b = some y)
 unfold zq96 at Z
 refine rg G (Ok_seq (rs G (hN 1 a (hN 3 b h0)) ?_))
 refine cd Z ?_ ?_ <;> intro Z
 ·refine rg G ?_
  cases Z
  exact rt [] []
 ·refine X_skip (thN (Ok_seq (rg G (tF Z (fun _ => ⟨[], [], 32⟩) (fun v1 hr Z => ?_) ?_))))
  ·refine Ok_block (lp G Z (fun v => ⟨[(0, dV a), (1, dV b), (5, dV v)], [], 32⟩) ?_)
   rintro v r0 hb Z
   rw [zq96_L1] at Z
   refine Ok_seq (rs G (hN 2 a h0) ?_)
   refine cd Z ?_ ?_ <;> intro Z
   ·refine X_skip (thN (Ok_seq (Ok_block ?_)))
    obtain ⟨e2, h2, e3, h3, Z⟩ := ob2 Z
    refine ds G [] (hD 2 h2 (hD 6 h3 h0)) ?_
    refine cd Z ?_ ?_ <;> intro Z
    ·refine rg G ?_
     have Z := eL Z hb hr
     cases Z
     exact rt [] []
    ·exact X_skip (ibN (thN (rh G (wL G Z))))
   ·exact Ok_exit (thE (thE (ibE (wE G Z hb))))
  rintro ⟨⟩ Z s hw
  refine thN (Ok_weak hw ?_)
  refine rg G ?_
  cases Z
  exact rt [] []
noncomputable def v_FnFlows_M : MS ((List UInt8)) Bool := ⟨.r, v_FnFlows, fun y => dV y, fun _ => [], fun _ _ => []⟩
theorem v_FnFlows_ok : FnOK Try.prog tJ 3 v_FnFlows_M.S := by
 refine fm tt v_FnFlows_M [fo zq95_ok, fo zq31_ok, fo zq9_ok, fo zq34_ok, fo zq2_ok, fo zq6_ok, fo zq97_ok, fo zq30_ok, fo zq7_ok, fo zq33_ok, fo zq32_ok, fo zq10_ok, fo zq35_ok, fo zq96_ok] call3 func3 rfl results3 ntmps3 ?_
 rintro code y cx G (Z : v_FnFlows code = some y)
 unfold v_FnFlows at Z
 refine rg G (Ok_seq ?_)
 obtain ⟨r, h, Z⟩ := obind Z
 refine rs G (hC 1 (zq95_M.c _ h) h0) ?_
 refine cd Z ?_ ?_ <;> intro Z
 ·refine rg G ?_
  cases Z
  exact rt [] []
 ·refine X_skip (thN ?_)
  obtain ⟨r1, h1, Z⟩ := obind Z
  refine rs G (hC 1 (zq31_M.c _ h1) h0) ?_
  obtain ⟨r2, h2, Z⟩ := obind Z
  refine rs G (hC 2 (zq9_M.c (_, _) h2) h0) ?_
  refine Ok_seq ?_
  obtain ⟨r3, h3, Z⟩ := obind Z
  refine rs G (hC 2 (zq34_M.c (_, _) h3) h0) ?_
  refine jn Z (fun v => ⟨[(0, dV code), (3, .ref 16 0), (4, .own 32), (5, dV r2.1), (6, dV r2.2), (61, dV v)], [bX 16 30 [dV r1.1.Network.Stops, dV r1.1.Network.Lines, dV r1.1.Trips], aX 32 44 r1.2], 64⟩) (fun v Z => ?_) ?_
  ·rcases bf Z with ⟨hb, Z⟩ | ⟨hb, Z⟩
   ·refine re G (hO 3 (.b true) (hP hb h0)) ?_
    exact wJ G Z
   ·rcases bf Z with ⟨hb1, Z⟩ | ⟨hb1, Z⟩
    ·refine re G (hO 3 (.b false) (hP hb (hO 8 (.b true) (hP hb1 h0)))) ?_
     exact wJ G Z
    ·obtain ⟨r4, h4, Z⟩ := obind Z
     refine re G (hO 3 (.b false) (hP hb (hO 8 (.b false) (hP hb1 (hC 12 (zq2_M.c (_, _) h4) h0))))) ?_
     exact wJ G Z
  rintro v Z
  refine cd Z ?_ ?_ <;> intro Z
  ·refine rg G ?_
   cases Z
   exact rt [] []
  ·refine X_skip (thN (jF Z (fun _ => ⟨[(0, dV code)], [], 32⟩) (fun v5 hr Z => ?_) ?_))
   ·refine rg G (cd Z ?_ ?_) <;> intro Z
    ·obtain ⟨r5, h5, Z⟩ := obind Z
     refine rs G (hO 3 (.fz [32] [] []) (hC 3 (zq6_c h5) h0)) ?_
     obtain ⟨r6, h6, Z⟩ := obind Z
     refine rs G (hC 2 (zq6_c h6) h0) ?_
     refine jn Z (fun v1 => ⟨[(0, dV code), (88, dV v1)], [], 32⟩) (fun v1 Z => ?_) ?_
     ·rcases bf Z with ⟨hb2, Z⟩ | ⟨hb2, Z⟩
      ·refine re G (hO 2 (.b true) (hP hb2 h0)) ?_
       exact wJ G Z
      ·rcases bf Z with ⟨hb3, Z⟩ | ⟨hb3, Z⟩
       ·refine re G (hO 2 (.b false) (hP hb2 (hO 6 (.b true) (hP hb3 h0)))) ?_
        exact wJ G Z
       ·obtain ⟨r7, h7, r8, h8, Z⟩ := ob2 Z
        refine re G (hO 2 (.b false) (hP hb2 (hO 6 (.b false) (hP hb3 (hC 8 (zq97_M.c _ h7) (hC 10 (zq97_M.c _ h8) h0)))))) ?_
        exact wJ G Z
     rintro v1 Z
     refine cd Z ?_ ?_ <;> intro Z
     ·refine rg G ?_
      have Z := eR Z hr
      cases Z
      exact rt [] []
     ·exact X_skip (wF G Z)
    ·exact X_skip (wF G Z)
   rintro ⟨⟩ Z
   obtain ⟨r10, h9, Z⟩ := obind Z
   refine rs G (hC 1 (zq30_M.c _ h9) h0) ?_
   obtain ⟨r11, h10, Z⟩ := obind Z
   refine rs G (hO 2 (.fz [48] [] []) (hC 2 (zq7_M.c (_, _) h10) h0)) ?_
   refine Ok_seq ?_
   obtain ⟨r12, h11, Z⟩ := obind Z
   refine rs G (hC 2 (zq33_M.c (_, _) h11) h0) ?_
   refine jn Z (fun v2 => ⟨[(0, dV code), (14, dV r10.2), (15, dV r11.1), (16, dV r11.2), (115, dV v2)], [], 32⟩) (fun v2 Z => ?_) ?_
   ·rcases bf Z with ⟨hb4, Z⟩ | ⟨hb4, Z⟩
    ·refine re G (hO 3 (.b true) (hP hb4 h0)) ?_
     exact wJ G Z
    ·refine re G (hO 3 (.b false) (hP hb4 (hN 5 r11.1 (hN 7 r12.1 h0)))) ?_
     exact wJ G Z
   rintro v2 Z
   refine cd Z ?_ ?_ <;> intro Z
   ·refine rg G ?_
    cases Z
    exact rt [] []
   ·refine X_skip (thN (jF Z (fun _ => ⟨[(0, dV code)], [], 32⟩) (fun v4 hr1 Z => ?_) ?_))
    ·refine rg G (cd Z ?_ ?_) <;> intro Z
     ·refine rg G (Ok_seq (rg G (tl Z (fun i2 => ⟨[(0, dV code), (15, dV r11.1), (19, dV i2)], [], 32⟩) (fun i2 Z => ?_) ?_)))
      ·refine Ok_block (lp G Z (fun (i, i1) => ⟨[(0, dV code), (14, dV r10.2), (15, dV r11.1), (19, dV i), (20, dV i1)], [], 32⟩) ?_)
       rintro ⟨i, i1⟩ r0 hb5 Z
       rw [v_FnFlows_L1] at Z
       refine Ok_seq (rs G (hN 2 r10.2 h0) ?_)
       refine cd Z ?_ ?_ <;> intro Z
       ·refine X_skip (thN (Ok_seq (Ok_block ?_)))
        obtain ⟨e1, h12, Z⟩ := obind Z
        refine re G (hD 3 h12 h0) ?_
        exact ibN (thN (rh G (wL G Z)))
       ·exact Ok_exit (thE (thE (ibE (wD G Z hb5))))
      rintro i2 Z s hw
      refine thN (Ok_weak hw ?_)
      refine Ok_seq (rg G (tl Z (fun i4 => ⟨[(0, dV code), (19, dV i4)], [], 32⟩) (fun i4 Z => ?_) ?_))
      ·refine Ok_block (lp G Z (fun (i3, v3) => ⟨[(0, dV code), (15, dV r11.1), (19, dV i3), (21, dV v3)], [], 32⟩) ?_)
       rintro ⟨i3, v3⟩ r0 hb6 Z
       rw [v_FnFlows_L2] at Z
       refine Ok_seq (rs G (hN 2 r11.1 h0) ?_)
       refine cd Z ?_ ?_ <;> intro Z
       ·refine X_skip (thN (Ok_seq (Ok_block ?_)))
        obtain ⟨e2, h13, Z⟩ := obind Z
        refine re G (hD 3 h13 h0) ?_
        exact ibN (thN (rh G (wL G Z)))
       ·exact Ok_exit (thE (thE (ibE (wD G Z hb6))))
      rintro i4 Z s1 hw1
      refine thN (Ok_weak hw1 ?_)
      refine rg G (cd Z ?_ ?_) <;> intro Z
      ·refine rg G ?_
       have Z := eR Z hr1
       cases Z
       exact rt [] []
      ·exact X_skip (wF G Z)
     ·exact X_skip (wF G Z)
    rintro ⟨⟩ Z
    obtain ⟨r14, h14, Z⟩ := obind Z
    refine rs G (hC 1 (zq32_M.c _ h14) h0) ?_
    obtain ⟨r15, h15, Z⟩ := obind Z
    refine rs G (hC 2 (zq10_M.c (_, _) h15) h0) ?_
    obtain ⟨r16, h16, Z⟩ := obind Z
    refine rs G (hC 2 (zq35_M.c (_, _) h16) h0) ?_
    refine jn Z (fun t => ⟨[(2, dV t)], [], 32⟩) (fun t Z => ?_) ?_
    ·rcases bf Z with ⟨hb7, Z⟩ | ⟨hb7, Z⟩
     ·obtain ⟨r17, h17, Z⟩ := obind Z
      refine re G (hO 3 (.b true) (hP hb7 (hC 6 (zq96_M.c (_, _) h17) h0))) ?_
      exact wJ G Z
     ·refine re G (hO 3 (.b false) (hP hb7 h0)) ?_
      exact wJ G Z
    rintro t Z
    cases Z
    exact rt [] []
end Go.Proofs.Ytmmffjenpfeapaa
