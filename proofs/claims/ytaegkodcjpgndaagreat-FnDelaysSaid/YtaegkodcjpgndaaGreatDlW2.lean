/- Each function computes what its model says. Made by program (dec.py). -/
import Derived.Test.YtaegkodcjpgndaaGreatDlW1
namespace Go.Proofs.YtaegkodcjpgndaaGreat
open Go Go.Ab
set_option maxRecDepth 100000
set_option maxHeartbeats 4000000
set_option linter.unusedVariables false
set_option linter.unusedSimpArgs false
noncomputable def zq61_M : MS ((List Delay) × Int) Int := ⟨.x .r .r, fun x => zq61 x.1 x.2, fun y => dV y, fun _ => [], fun _ _ => []⟩
theorem zq61_c {list id y} (hm : zq61 list id = some y) : zq61_M.C (list, id) y := zq61_M.c (list, id) hm
theorem zq61_ok : FnOK Tryz.prog 155 zq61_M.S := by
 refine fm tt zq61_M [] Tryz.call155 Tryz.func155 rfl Tryz.results155 Tryz.ntmps155 ?_
 rintro ⟨list, id⟩ y cx G hm
 have hm : zq61 list id = some y := hm
 unfold zq61 at hm
 refine rg G (Ok_seq (rg G (tF hm (fun _ => ⟨[], [], 32⟩) (fun v1 hr hm => ?_) ?_)))
 ·refine Ok_block (lp G hm (fun v => ⟨[(0, dV list), (1, dV id), (5, dV v)], [], 32⟩) ?_)
  rintro v r0 hb hm
  rw [zq61_L1] at hm
  refine Ok_seq (rs G (hN 2 list h0) ?_)
  refine cd hm (fun hm => ?_) (fun hm => ?_)
  ·refine X_skip (thN (Ok_seq (Ok_block ?_)))
   obtain ⟨e, h, hm⟩ := obind hm
   refine rs G (hD 2 h h0) ?_
   refine cd hm (fun hm => ?_) (fun hm => ?_)
   ·obtain ⟨e1, h1, hm⟩ := obind hm
    refine rs G (hD 2 h1 h0) ?_
    have hm := eL hm hb hr
    cases hm
    exact rt [] []
   ·exact X_skip (ibN (thN (rh G (wL G hm))))
  ·exact Ok_exit (thE (thE (ibE (wE G hm hb))))
 rintro ⟨⟩ hm s hw
 refine thN (Ok_weak hw ?_)
 refine rg G ?_
 cases hm
 exact rt [] []
noncomputable def zq59_M : MS (Timetable × Fleet × (List (List Int)) × (List Delay)) ((List Int)) := ⟨.x .r (.x .r (.x .r .r)), fun x => zq59 x.1 x.2.1 x.2.2.1 x.2.2.2, fun _ => .own 0, fun y => [arO 3 y], fun _ _ => []⟩
theorem zq59_c {t f blocks list y} (hm : zq59 t f blocks list = some y) : zq59_M.C (t, f, blocks, list) y := zq59_M.c (t, f, blocks, list) hm
theorem zq59_ok : FnOK Tryz.prog 77 zq59_M.S := by
 refine fm tt zq59_M [fo zq108_ok, fo zq107_ok, fo zq52_ok, fo zq90_ok, fo zq61_ok] Tryz.call77 Tryz.func77 rfl Tryz.results77 Tryz.ntmps77 ?_
 rintro ⟨t, f, blocks, list⟩ y cx G hm
 have hm : zq59 t f blocks list = some y := hm
 unfold zq59 at hm
 refine rg G ?_
 obtain ⟨u, h, hm⟩ := obind hm
 refine rs G (hN 2 t.Trips (hO 3 (.l (List.map Enc.e (List.replicate (t.Trips.length : Int).toNat (0 : Int)))) (hP (mk_p (b := 8) (chk_t h) rfl) (hP (rep_m Enc.e (t.Trips.length : Int).toNat (0 : Int)) h0)))) ?_
 refine Ok_seq (rg G (tl hm (fun start3 => ⟨[(9, .own 16)], [aX 16 3 start3], 48⟩) (fun start3 hm => ?_) ?_))
 ·refine Ok_block (lp G hm (fun (before, start) => ⟨[(2, dV blocks), (3, dV list), (4, .ref 16 0), (5, .ref 32 0), (9, .own 48), (10, dV before)], [bX 16 [dV t.Network.Stops, dV t.Network.Lines, dV t.Trips], bX 32 [dV f.Dead, dV f.Turn], aX 48 3 start], 80⟩) ?_)
  rintro ⟨before, start⟩ r0 hb hm
  rw [zq59_L2] at hm
  refine Ok_seq (rs G (hN 2 blocks h0) ?_)
  refine cd hm (fun hm => ?_) (fun hm => ?_)
  ·refine X_skip (thN (Ok_seq (Ok_block (rg G (tl hm (fun start2 => ⟨[(2, dV blocks), (3, dV list), (4, .ref 16 0), (5, .ref 32 0), (9, .own 48), (10, dV before)], [bX 16 [dV t.Network.Stops, dV t.Network.Lines, dV t.Trips], bX 32 [dV f.Dead, dV f.Turn], aX 48 3 start2], 80⟩) (fun start2 hm => ?_) ?_)))))
   ·refine Ok_block (lp G hm (fun (v, start1) => ⟨[(2, dV blocks), (3, dV list), (4, .ref 16 0), (5, .ref 32 0), (9, .own 48), (10, dV before), (11, dV v)], [bX 16 [dV t.Network.Stops, dV t.Network.Lines, dV t.Trips], bX 32 [dV f.Dead, dV f.Turn], aX 48 3 start1], 80⟩) ?_)
    rintro ⟨v, start1⟩ r0 hb1 hm
    rw [zq59_L1] at hm
    refine Ok_seq ?_
    obtain ⟨e, h1, hm⟩ := obind hm
    refine rs G (hD 3 h1 (hN 5 e h0)) ?_
    refine cd hm (fun hm => ?_) (fun hm => ?_)
    ·refine X_skip (thN (Ok_seq (Ok_block ?_)))
     obtain ⟨e3, h5, hm⟩ := obind hm
     obtain ⟨e4, h6, hm⟩ := obind hm
     obtain ⟨r1, h7, hm⟩ := obind hm
     refine ds G [] (hD 3 h5 (hD 6 h6 (hC 8 (zq108_c h7) h0))) ?_
     obtain ⟨e5, h8, hm⟩ := obind hm
     refine rs G (hD 3 h8 h0) ?_
     refine jn hm (fun v1 => ⟨[(2, dV blocks), (3, dV list), (4, .ref 16 0), (5, .ref 32 0), (9, .own 48), (10, dV before), (11, dV v), (12, dV r1), (13, dV v1)], [bX 16 [dV t.Network.Stops, dV t.Network.Lines, dV t.Trips], bX 32 [dV f.Dead, dV f.Turn], aX 48 3 start1], 80⟩) (fun v1 hm => ?_) ?_
     ·refine rg G (cd hm (fun hm => ?_) (fun hm => ?_))
      ·obtain ⟨e8, h12, hm⟩ := obind hm
       obtain ⟨e9, h13, hm⟩ := obind hm
       obtain ⟨r3, h14, hm⟩ := obind hm
       refine ds G [] (hD 3 h12 (hD 7 h13 (hC 9 (zq108_c h14) h0))) ?_
       obtain ⟨r7, h19, hm⟩ := obind hm
       obtain ⟨e11, h20, hm⟩ := obind hm
       obtain ⟨r8, h21, hm⟩ := obind hm
       obtain ⟨r9, h22, hm⟩ := obind hm
       refine de G [] (hC 3 (zq107_c h19) (hD 6 h20 (hE 7 h20 (hC 16 (zq52_c h21) (hC 18 (zq90_c h22) h0))))) ?_
       exact wJ G hm
      ·exact X_skip (wJ G hm)
     rintro v1 hm
     obtain ⟨e16, h28, hm⟩ := obind hm
     obtain ⟨e17, h29, hm⟩ := obind hm
     obtain ⟨r11, h30, hm⟩ := obind hm
     obtain ⟨e18, h31, hm⟩ := obind hm
     obtain ⟨e19, h32, hm⟩ := obind hm
     refine de G [(21, [48])] (hD 6 h28 (hD 9 h29 (hC 11 (zq61_c h30) (hD 16 h31 (hD 20 h32 (hS 21 h32 (w64 ((w64 (v1 + r11)) - e18.Start)) h0)))))) ?_
     exact ibN (thN (rh G (wL G hm)))
    ·exact Ok_exit (thE (thE (ibE (wD G hm hb1))))
   rintro start2 hm s hw
   refine ibN (thN (Ok_weak hw ?_))
   exact rh G (wL G hm)
  ·exact Ok_exit (thE (thE (ibE (wD G hm hb))))
 rintro start3 hm s1 hw1
 refine thN (Ok_weak hw1 ?_)
 refine rg G ?_
 cases hm
 exact rt [16] []
noncomputable def zq42_M : MS (Timetable × Fleet × (List (List Int)) × (List Delay)) ((List Int) × Bool) := ⟨.x .r (.x .r (.x .r .r)), fun x => zq42 x.1 x.2.1 x.2.2.1 x.2.2.2, fun y => .tup [.own 0, dV y.2], fun y => [arO 3 y.1], fun _ _ => []⟩
theorem zq42_c {t f blocks list y} (hm : zq42 t f blocks list = some y) : zq42_M.C (t, f, blocks, list) y := zq42_M.c (t, f, blocks, list) hm
theorem zq42_ok : FnOK Tryz.prog 19 zq42_M.S := by
 refine fm tt zq42_M [fo zq58_ok, fo zq59_ok] Tryz.call19 Tryz.func19 rfl Tryz.results19 Tryz.ntmps19 ?_
 rintro ⟨t, f, blocks, list⟩ y cx G hm
 have hm : zq42 t f blocks list = some y := hm
 unfold zq42 at hm
 refine rg G (Ok_seq ?_)
 obtain ⟨r, h, hm⟩ := obind hm
 refine rs G (hC 4 (zq58_c h) h0) ?_
 refine cd hm (fun hm => ?_) (fun hm => ?_)
 ·refine rg G ?_
  cases hm
  exact rt [176] []
 ·refine X_skip (thN ?_)
  obtain ⟨r1, h1, hm⟩ := obind hm
  refine rs G (hC 4 (zq59_c h1) h0) ?_
  cases hm
  exact rt [240] []
noncomputable def zq118_M : MS ((List Int) × (List Int)) Bool := ⟨.x .r .r, fun x => zq118 x.1 x.2, fun y => dV y, fun _ => [], fun _ _ => []⟩
theorem zq118_c {a b y} (hm : zq118 a b = some y) : zq118_M.C (a, b) y := zq118_M.c (a, b) hm
theorem zq118_ok : FnOK Tryz.prog 13 zq118_M.S := by
 refine fm tt zq118_M [] Tryz.call13 Tryz.func13 rfl Tryz.results13 Tryz.ntmps13 ?_
 rintro ⟨a, b⟩ y cx G hm
 have hm : zq118 a b = some y := hm
 unfold zq118 at hm
 refine rg G (Ok_seq (rs G (hN 1 a (hN 3 b h0)) ?_))
 refine cd hm (fun hm => ?_) (fun hm => ?_)
 ·refine rg G ?_
  cases hm
  exact rt [] []
 ·refine X_skip (thN (Ok_seq (rg G (tF hm (fun _ => ⟨[], [], 32⟩) (fun v1 hr hm => ?_) ?_))))
  ·refine Ok_block (lp G hm (fun v => ⟨[(0, dV a), (1, dV b), (5, dV v)], [], 32⟩) ?_)
   rintro v r0 hb hm
   rw [zq118_L1] at hm
   refine Ok_seq (rs G (hN 2 a h0) ?_)
   refine cd hm (fun hm => ?_) (fun hm => ?_)
   ·refine X_skip (thN (Ok_seq (Ok_block ?_)))
    obtain ⟨e2, h2, hm⟩ := obind hm
    obtain ⟨e3, h3, hm⟩ := obind hm
    refine ds G [] (hD 2 h2 (hD 6 h3 h0)) ?_
    refine cd hm (fun hm => ?_) (fun hm => ?_)
    ·refine rg G ?_
     have hm := eL hm hb hr
     cases hm
     exact rt [] []
    ·exact X_skip (ibN (thN (rh G (wL G hm))))
   ·exact Ok_exit (thE (thE (ibE (wE G hm hb))))
  rintro ⟨⟩ hm s hw
  refine thN (Ok_weak hw ?_)
  refine rg G ?_
  cases hm
  exact rt [] []
noncomputable def zq5_M : MS (Timetable × (List Delay)) Bool := ⟨.x .r .r, fun x => zq5 x.1 x.2, fun y => dV y, fun _ => [], fun _ _ => []⟩
theorem zq5_c {t list y} (hm : zq5 t list = some y) : zq5_M.C (t, list) y := zq5_M.c (t, list) hm
theorem zq5_ok : FnOK Tryz.prog 20 zq5_M.S := by
 refine fm tt zq5_M [fo zq9_ok, fo zq13_ok] Tryz.call20 Tryz.func20 rfl Tryz.results20 Tryz.ntmps20 ?_
 rintro ⟨t, list⟩ y cx G hm
 have hm : zq5 t list = some y := hm
 unfold zq5 at hm
 refine rg G ?_
 obtain ⟨r, h, hm⟩ := obind hm
 refine jn hm (fun v => ⟨[(4, dV v)], [], 32⟩) (fun v hm => ?_) ?_
 ·rcases bf hm with ⟨hb, hm⟩ | ⟨hb, hm⟩
  ·obtain ⟨r1, h1, hm⟩ := obind hm
   refine re G (hC 1 (zq9_c h) (hO 2 (.b true) (hP hb (hC 5 (zq13_c h1) h0)))) ?_
   exact wJ G hm
  ·refine re G (hC 1 (zq9_c h) (hO 2 (.b false) (hP hb h0))) ?_
   exact wJ G hm
 rintro v hm
 cases hm
 exact rt [] []
noncomputable def zq45_M : MS (Timetable × (List Delay)) Bool := ⟨.x .r .r, fun x => zq45 x.1 x.2, fun y => dV y, fun _ => [], fun _ _ => []⟩
theorem zq45_c {t list y} (hm : zq45 t list = some y) : zq45_M.C (t, list) y := zq45_M.c (t, list) hm
theorem zq45_ok : FnOK Tryz.prog 21 zq45_M.S := by
 refine fm tt zq45_M [fo zq109_ok, fo zq60_ok] Tryz.call21 Tryz.func21 rfl Tryz.results21 Tryz.ntmps21 ?_
 rintro ⟨t, list⟩ y cx G hm
 have hm : zq45 t list = some y := hm
 unfold zq45 at hm
 refine rg G ?_
 obtain ⟨r, h, hm⟩ := obind hm
 refine jn hm (fun v => ⟨[(4, dV v)], [], 32⟩) (fun v hm => ?_) ?_
 ·rcases bf hm with ⟨hb, hm⟩ | ⟨hb, hm⟩
  ·obtain ⟨r1, h1, hm⟩ := obind hm
   refine re G (hC 1 (zq109_c h) (hO 2 (.b true) (hP hb (hC 5 (zq60_c h1) h0)))) ?_
   exact wJ G hm
  ·refine re G (hC 1 (zq109_c h) (hO 2 (.b false) (hP hb h0))) ?_
   exact wJ G hm
 rintro v hm
 cases hm
 exact rt [] []
noncomputable def zq3_M : MS (Timetable × Fleet × (List (List Int)) × (List Delay) × Int) ((List Int) × Bool) := ⟨.x .r (.x .r (.x .r (.x .r .r))), fun x => zq3 x.1 x.2.1 x.2.2.1 x.2.2.2.1 x.2.2.2.2, fun y => .tup [dV y.1, dV y.2], fun _ => [], fun _ _ => []⟩
theorem zq3_c {t f blocks list limit y} (hm : zq3 t f blocks list limit = some y) : zq3_M.C (t, f, blocks, list, limit) y := zq3_M.c (t, f, blocks, list, limit) hm
theorem zq3_ok : FnOK Tryz.prog 22 zq3_M.S := by
 refine fm tt zq3_M [fo zq14_ok, fo zq19_ok] Tryz.call22 Tryz.func22 rfl Tryz.results22 Tryz.ntmps22 ?_
 rintro ⟨t, f, blocks, list, limit⟩ y cx G hm
 have hm : zq3 t f blocks list limit = some y := hm
 unfold zq3 at hm
 refine rg G (Ok_seq ?_)
 obtain ⟨r, h, hm⟩ := obind hm
 refine rs G (hC 4 (zq14_c h) h0) ?_
 refine cd hm (fun hm => ?_) (fun hm => ?_)
 ·refine rg G ?_
  cases hm
  exact rt [] [[.z 1]]
 ·refine X_skip (thN (rg G (Ok_seq ?_)))
  obtain ⟨r1, h1, hm⟩ := obind hm
  refine rs G (hC 4 (zq19_c h1) (hN 5 r1 h0)) ?_
  refine tl hm (fun v3 => ⟨[(12, .own 16)], [aX 16 3 v3], 48⟩) (fun v3 hm => ?_) ?_
  ·refine Ok_block (lpP hm (fun (v, v1) => ⟨[(4, dV limit), (5, .ref 16 0), (12, .own 32), (25, .own 48), (26, dV (r1.length : Int)), (27, dV v)], [bX 16 [dV t.Network.Stops, dV t.Network.Lines, dV t.Trips], aX 32 3 v1, aX 48 3 r1], 80⟩) (Wk_J G.hL ⟨[(4, []), (5, []), (12, [.o 32]), (25, []), (26, []), (27, [])], [(16, 16, []), (48, 256, [])], [(32, 3, 1, [])], 80⟩ (by kernel_rfl)) ?_)
   rintro ⟨v, v1⟩ r0 hb hm
   rw [zq3_L1] at hm
   refine rg G (Ok_seq (cd hm (fun hm => ?_) (fun hm => ?_)))
   ·refine X_skip (thN (jn hm (fun v2 => ⟨[(4, dV limit), (5, .ref 16 0), (12, .own 32), (25, .own 48), (26, dV (r1.length : Int)), (27, dV v)], [bX 16 [dV t.Network.Stops, dV t.Network.Lines, dV t.Trips], aX 32 3 v2, aX 48 3 r1], 80⟩) (fun v2 hm => ?_) ?_))
    ·refine Ok_block ?_
     obtain ⟨e, h2, hm⟩ := obind hm
     refine rs G (hD 1 h2 (hE 2 h2 h0)) ?_
     refine rg G (cd hm (fun hm => ?_) (fun hm => ?_))
     ·obtain ⟨e1, h3, hm⟩ := obind hm
      obtain ⟨u, h4, hm⟩ := obind hm
      refine re G (hD 4 h3 (hA 8 8 h4 h0)) ?_
      exact ibN (wJ G hm)
     ·exact X_skip (ibN (wJ G hm))
    rintro v2 hm
    exact rh G (wL G hm)
   ·exact Ok_exit (thE (thE (ibE (wD G hm hb))))
  rintro v3 hm s hw
  refine thN (Ok_weak hw ?_)
  refine rg G ?_
  cases hm
  exact rt [] []
noncomputable def zq10_M : MS (Timetable × Fleet × (List (List Int)) × (List Delay) × Int) (Int × Bool) := ⟨.x .r (.x .r (.x .r (.x .r .r))), fun x => zq10 x.1 x.2.1 x.2.2.1 x.2.2.2.1 x.2.2.2.2, fun y => .tup [dV y.1, dV y.2], fun _ => [], fun _ _ => []⟩
theorem zq10_c {t f blocks list id y} (hm : zq10 t f blocks list id = some y) : zq10_M.C (t, f, blocks, list, id) y := zq10_M.c (t, f, blocks, list, id) hm
theorem zq10_ok : FnOK Tryz.prog 23 zq10_M.S := by
 refine fm tt zq10_M [fo zq14_ok, fo zq36_ok, fo zq19_ok, fo zq32_ok] Tryz.call23 Tryz.func23 rfl Tryz.results23 Tryz.ntmps23 ?_
 rintro ⟨t, f, blocks, list, id⟩ y cx G hm
 have hm : zq10 t f blocks list id = some y := hm
 unfold zq10 at hm
 refine rg G (Ok_seq ?_)
 obtain ⟨r, h, hm⟩ := obind hm
 refine rs G (hC 4 (zq14_c h) h0) ?_
 refine cd hm (fun hm => ?_) (fun hm => ?_)
 ·refine rg G ?_
  cases hm
  exact rt [] []
 ·refine X_skip (thN ?_)
  obtain ⟨r1, h1, hm⟩ := obind hm
  refine rs G (hC 2 (zq36_c h1) h0) ?_
  refine Ok_seq (rg G (cd hm (fun hm => ?_) (fun hm => ?_)))
  ·refine rg G ?_
   cases hm
   exact rt [] []
  ·refine X_skip (thN ?_)
   obtain ⟨r4, h5, hm⟩ := obind hm
   obtain ⟨e1, h6, hm⟩ := obind hm
   obtain ⟨r5, h7, hm⟩ := obind hm
   refine ds G [] (hC 4 (zq19_c h5) (hD 6 h6 (hE 7 h6 (hC 10 (zq32_c h7) h0)))) ?_
   cases hm
   exact rt [] []
noncomputable def zq33_M : MS (Timetable × Trip) ((List Int)) := ⟨.x .r .r, fun x => zq33 x.1 x.2, fun _ => .own 0, fun y => [arO 3 y], fun _ _ => []⟩
theorem zq33_c {t x y} (hm : zq33 t x = some y) : zq33_M.C (t, x) y := zq33_M.c (t, x) hm
theorem zq33_ok : FnOK Tryz.prog 83 zq33_M.S := by
 refine fm tt zq33_M [fo zq30_ok] Tryz.call83 Tryz.func83 rfl Tryz.results83 Tryz.ntmps83 ?_
 rintro ⟨t, x⟩ y cx G hm
 have hm : zq33 t x = some y := hm
 unfold zq33 at hm
 refine rg G (rg G (Ok_seq ?_))
 obtain ⟨r, h, hm⟩ := obind hm
 refine rs G (hC 2 (zq30_c h) (hN 4 r.Runs h0)) ?_
 refine tl hm (fun r2 => ⟨[(5, .own 16)], [aX 16 3 r2], 48⟩) (fun r2 hm => ?_) ?_
 ·refine Ok_block (lp G hm (fun (v, r1) => ⟨[(5, .own 16), (14, dV r.Runs), (15, dV (r.Runs.length : Int)), (16, dV v)], [aX 16 3 r1], 48⟩) ?_)
  rintro ⟨v, r1⟩ r0 hb hm
  rw [zq33_L1] at hm
  refine rg G (Ok_seq (cd hm (fun hm => ?_) (fun hm => ?_)))
  ·refine X_skip (thN (Ok_seq (Ok_block ?_)))
   obtain ⟨e, h1, hm⟩ := obind hm
   refine rs G (hD 1 h1 h0) ?_
   obtain ⟨e1, h2, hm⟩ := obind hm
   obtain ⟨u, h3, hm⟩ := obind hm
   refine re G (hD 3 h2 (hE 4 h2 (hA 8 8 h3 h0))) ?_
   exact ibN (thN (rh G (wL G hm)))
  ·exact Ok_exit (thE (thE (ibE (wD G hm hb))))
 rintro r2 hm s hw
 refine thN (Ok_weak hw ?_)
 refine rg G ?_
 cases hm
 exact rt [16] []
noncomputable def zq0_M : MS (Timetable × Fleet × (List (List Int)) × (List Delay) × Int) ((List Int) × Bool) := ⟨.x .r (.x .r (.x .r (.x .r .r))), fun x => zq0 x.1 x.2.1 x.2.2.1 x.2.2.2.1 x.2.2.2.2, fun y => .tup [dV y.1, dV y.2], fun _ => [], fun _ _ => []⟩
theorem zq0_c {t f blocks list id y} (hm : zq0 t f blocks list id = some y) : zq0_M.C (t, f, blocks, list, id) y := zq0_M.c (t, f, blocks, list, id) hm
theorem zq0_ok : FnOK Tryz.prog 24 zq0_M.S := by
 refine fm tt zq0_M [fo zq14_ok, fo zq36_ok, fo zq19_ok, fo zq33_ok] Tryz.call24 Tryz.func24 rfl Tryz.results24 Tryz.ntmps24 ?_
 rintro ⟨t, f, blocks, list, id⟩ y cx G hm
 have hm : zq0 t f blocks list id = some y := hm
 unfold zq0 at hm
 refine rg G (Ok_seq ?_)
 obtain ⟨r, h, hm⟩ := obind hm
 refine rs G (hC 4 (zq14_c h) h0) ?_
 refine cd hm (fun hm => ?_) (fun hm => ?_)
 ·refine rg G ?_
  cases hm
  exact rt [] [[.z 1]]
 ·refine X_skip (thN ?_)
  obtain ⟨r1, h1, hm⟩ := obind hm
  refine rs G (hC 2 (zq36_c h1) h0) ?_
  refine Ok_seq (rg G (cd hm (fun hm => ?_) (fun hm => ?_)))
  ·refine rg G ?_
   cases hm
   exact rt [] [[.z 1]]
  ·refine X_skip (thN ?_)
   obtain ⟨r2, h2, hm⟩ := obind hm
   obtain ⟨e, h3, hm⟩ := obind hm
   refine rs G (hC 4 (zq19_c h2) (hD 6 h3 (hE 7 h3 h0))) ?_
   obtain ⟨e2, h6, hm⟩ := obind hm
   obtain ⟨r4, h7, hm⟩ := obind hm
   refine ds G [] (hD 4 h6 (hC 6 (zq33_c h7) h0)) ?_
   refine Ok_seq (rs G (hN 1 r4 h0) ?_)
   refine tl hm (fun v2 => ⟨[(14, .own 16)], [aX 16 3 v2], 48⟩) (fun v2 hm => ?_) ?_
   ·refine Ok_block (lp G hm (fun (v, v1) => ⟨[(13, dV e), (14, .own 16), (43, dV (r4.length : Int)), (44, dV v)], [aX 16 3 v1], 48⟩) ?_)
    rintro ⟨v, v1⟩ r0 hb hm
    rw [zq0_L1] at hm
    refine rg G (Ok_seq (cd hm (fun hm => ?_) (fun hm => ?_)))
    ·refine X_skip (thN (Ok_seq (Ok_block (rg G ?_))))
     obtain ⟨e3, h8, hm⟩ := obind hm
     obtain ⟨e4, h9, hm⟩ := obind hm
     refine re G (hD 2 h8 (hE 3 h8 (hD 6 h9 (hS 7 h9 (w64 (e3 + e)) h0)))) ?_
     exact ibN (thN (rh G (wL G hm)))
    ·exact Ok_exit (thE (thE (ibE (wD G hm hb))))
   rintro v2 hm s hw
   refine thN (Ok_weak hw ?_)
   refine rg G ?_
   cases hm
   exact rt [] []
noncomputable def zq117_M : MS ((List Int) × Int) Bool := ⟨.x .r .r, fun x => zq117 x.1 x.2, fun y => dV y, fun _ => [], fun _ _ => []⟩
theorem zq117_c {l x y} (hm : zq117 l x = some y) : zq117_M.C (l, x) y := zq117_M.c (l, x) hm
theorem zq117_ok : FnOK Tryz.prog 15 zq117_M.S := by
 refine fm tt zq117_M [] Tryz.call15 Tryz.func15 rfl Tryz.results15 Tryz.ntmps15 ?_
 rintro ⟨l, x⟩ y cx G hm
 have hm : zq117 l x = some y := hm
 unfold zq117 at hm
 refine rg G (Ok_seq (rg G (tF hm (fun _ => ⟨[], [], 32⟩) (fun v1 hr hm => ?_) ?_)))
 ·refine Ok_block (lp G hm (fun v => ⟨[(0, dV l), (1, dV x), (5, dV v)], [], 32⟩) ?_)
  rintro v r0 hb hm
  rw [zq117_L1] at hm
  refine Ok_seq (rs G (hN 2 l h0) ?_)
  refine cd hm (fun hm => ?_) (fun hm => ?_)
  ·refine X_skip (thN (Ok_seq (Ok_block ?_)))
   obtain ⟨e, h, hm⟩ := obind hm
   refine rs G (hD 2 h h0) ?_
   refine cd hm (fun hm => ?_) (fun hm => ?_)
   ·refine rg G ?_
    have hm := eL hm hb hr
    cases hm
    exact rt [] []
   ·exact X_skip (ibN (thN (rh G (wL G hm))))
  ·exact Ok_exit (thE (thE (ibE (wE G hm hb))))
 rintro ⟨⟩ hm s hw
 refine thN (Ok_weak hw ?_)
 refine rg G ?_
 cases hm
 exact rt [] []
noncomputable def zq31_M : MS ((List (List Int)) × Int) (Int × Int) := ⟨.x .r .r, fun x => zq31 x.1 x.2, fun y => .tup [dV y.1, dV y.2], fun _ => [], fun _ _ => []⟩
theorem zq31_c {blocks id y} (hm : zq31 blocks id = some y) : zq31_M.C (blocks, id) y := zq31_M.c (blocks, id) hm
theorem zq31_ok : FnOK Tryz.prog 85 zq31_M.S := by
 refine fm tt zq31_M [fo zq114_ok] Tryz.call85 Tryz.func85 rfl Tryz.results85 Tryz.ntmps85 ?_
 rintro ⟨blocks, id⟩ y cx G hm
 have hm : zq31 blocks id = some y := hm
 unfold zq31 at hm
 refine rg G (Ok_seq (rs G (hN 1 blocks h0) ?_))
 refine tF hm (fun _ => ⟨[], [], 32⟩) (fun v1 hr hm => ?_) ?_
 ·refine Ok_block (lp G hm (fun v => ⟨[(1, dV id), (9, dV blocks), (10, dV (blocks.length : Int)), (11, dV v)], [], 32⟩) ?_)
  rintro v r0 hb hm
  rw [zq31_L1] at hm
  refine rg G (Ok_seq (cd hm (fun hm => ?_) (fun hm => ?_)))
  ·refine X_skip (thN (Ok_seq (Ok_block ?_)))
   obtain ⟨e, h, hm⟩ := obind hm
   refine rs G (hD 1 h h0) ?_
   obtain ⟨r, h1, hm⟩ := obind hm
   refine rs G (hC 2 (zq114_c h1) h0) ?_
   refine rg G (cd hm (fun hm => ?_) (fun hm => ?_))
   ·refine rg G ?_
    have hm := eL hm hb hr
    cases hm
    exact rt [] []
   ·exact X_skip (ibN (thN (rh G (wL G hm))))
  ·exact Ok_exit (thE (thE (ibE (wE G hm hb))))
 rintro ⟨⟩ hm s hw
 refine thN (Ok_weak hw ?_)
 refine rg G ?_
 cases hm
 exact rt [] []
noncomputable def zq1_M : MS (Timetable × Fleet × (List (List Int)) × Int) (Int × Bool × Bool) := ⟨.x .r (.x .r (.x .r .r)), fun x => zq1 x.1 x.2.1 x.2.2.1 x.2.2.2, fun y => .tup [dV y.1, dV y.2.1, dV y.2.2], fun _ => [], fun _ _ => []⟩
theorem zq1_c {t f blocks id y} (hm : zq1 t f blocks id = some y) : zq1_M.C (t, f, blocks, id) y := zq1_M.c (t, f, blocks, id) hm
theorem zq1_ok : FnOK Tryz.prog 25 zq1_M.S := by
 refine fm tt zq1_M [fo zq6_ok, fo zq31_ok, fo zq38_ok, fo zq20_ok, fo zq18_ok] Tryz.call25 Tryz.func25 rfl Tryz.results25 Tryz.ntmps25 ?_
 rintro ⟨t, f, blocks, id⟩ y cx G hm
 have hm : zq1 t f blocks id = some y := hm
 unfold zq1 at hm
 refine rg G (Ok_seq ?_)
 obtain ⟨r, h, hm⟩ := obind hm
 refine rs G (hC 3 (zq6_c h) h0) ?_
 refine cd hm (fun hm => ?_) (fun hm => ?_)
 ·refine rg G ?_
  cases hm
  exact rt [] []
 ·refine X_skip (thN ?_)
  obtain ⟨r1, h1, hm⟩ := obind hm
  refine rs G (hC 2 (zq31_c h1) h0) ?_
  refine Ok_seq (rg G (cd hm (fun hm => ?_) (fun hm => ?_)))
  ·refine rg G ?_
   cases hm
   exact rt [] []
  ·refine X_skip (thN (Ok_seq ?_))
   obtain ⟨e, h2, hm⟩ := obind hm
   refine rs G (hD 3 h2 (hN 5 e h0)) ?_
   refine cd hm (fun hm => ?_) (fun hm => ?_)
   ·refine rg G ?_
    cases hm
    exact rt [] []
   ·refine X_skip (thN ?_)
    obtain ⟨r4, h7, hm⟩ := obind hm
    obtain ⟨e3, h8, hm⟩ := obind hm
    obtain ⟨e4, h9, hm⟩ := obind hm
    obtain ⟨r5, h10, hm⟩ := obind hm
    refine ds G [(15, [672]), (16, [688])] (hC 2 (zq38_c h7) (hD 6 h8 (hD 10 h9 (hC 12 (zq38_c h10) h0)))) ?_
    obtain ⟨r8, h13, hm⟩ := obind hm
    obtain ⟨r9, h14, hm⟩ := obind hm
    refine ds G [] (hC 4 (zq20_c h13) (hC 13 (zq18_c h14) h0)) ?_
    cases hm
    exact rt [] []
noncomputable def zq55_M : MS ((List (List Int)) × Int) (Int × Int) := ⟨.x .r .r, fun x => zq55 x.1 x.2, fun y => .tup [dV y.1, dV y.2], fun _ => [], fun _ _ => []⟩
theorem zq55_c {blocks id y} (hm : zq55 blocks id = some y) : zq55_M.C (blocks, id) y := zq55_M.c (blocks, id) hm
theorem zq55_ok : FnOK Tryz.prog 89 zq55_M.S := by
 refine fm tt zq55_M [] Tryz.call89 Tryz.func89 rfl Tryz.results89 Tryz.ntmps89 ?_
 rintro ⟨blocks, id⟩ y cx G hm
 have hm : zq55 blocks id = some y := hm
 unfold zq55 at hm
 refine rg G (Ok_seq (rg G (tF hm (fun _ => ⟨[], [], 32⟩) (fun v3 hr hm => ?_) ?_)))
 ·refine Ok_block (lp G hm (fun v => ⟨[(0, dV blocks), (1, dV id), (6, dV v)], [], 32⟩) ?_)
  rintro v r0 hb hm
  rw [zq55_L2] at hm
  refine Ok_seq (rs G (hN 2 blocks h0) ?_)
  refine cd hm (fun hm => ?_) (fun hm => ?_)
  ·refine X_skip (thN (Ok_seq (Ok_block (rg G (tF hm (fun _ => ⟨[(0, dV blocks), (1, dV id), (6, dV v)], [], 32⟩) (fun v2 hr1 hm => ?_) ?_)))))
   ·refine Ok_block (lp G hm (fun v1 => ⟨[(0, dV blocks), (1, dV id), (6, dV v), (7, dV v1)], [], 32⟩) ?_)
    rintro v1 r0 hb1 hm
    rw [zq55_L1] at hm
    refine Ok_seq ?_
    obtain ⟨e, h, hm⟩ := obind hm
    refine rs G (hD 3 h (hN 5 e h0)) ?_
    refine cd hm (fun hm => ?_) (fun hm => ?_)
    ·refine X_skip (thN (Ok_seq (Ok_block ?_)))
     obtain ⟨e1, h1, hm⟩ := obind hm
     obtain ⟨e2, h2, hm⟩ := obind hm
     refine rs G (hD 2 h1 (hD 5 h2 h0)) ?_
     refine cd hm (fun hm => ?_) (fun hm => ?_)
     ·refine rg G ?_
      have hm := eL hm hb1 hr1
      have hm := eL hm hb hr
      cases hm
      exact rt [] []
     ·exact X_skip (ibN (thN (rh G (wL G hm))))
    ·exact Ok_exit (thE (thE (ibE (wE G hm hb1))))
   rintro ⟨⟩ hm s hw
   refine ibN (thN (Ok_weak hw ?_))
   exact rh G (wL G hm)
  ·exact Ok_exit (thE (thE (ibE (wE G hm hb))))
 rintro ⟨⟩ hm s1 hw1
 refine thN (Ok_weak hw1 ?_)
 refine rg G ?_
 cases hm
 exact rt [] []
noncomputable def zq40_M : MS (Timetable × Fleet × (List (List Int)) × Int) (Int × Int × Bool) := ⟨.x .r (.x .r (.x .r .r)), fun x => zq40 x.1 x.2.1 x.2.2.1 x.2.2.2, fun y => .tup [dV y.1, dV y.2.1, dV y.2.2], fun _ => [], fun _ _ => []⟩
theorem zq40_c {t f blocks id y} (hm : zq40 t f blocks id = some y) : zq40_M.C (t, f, blocks, id) y := zq40_M.c (t, f, blocks, id) hm
theorem zq40_ok : FnOK Tryz.prog 26 zq40_M.S := by
 refine fm tt zq40_M [fo zq55_ok, fo zq46_ok, fo zq48_ok] Tryz.call26 Tryz.func26 rfl Tryz.results26 Tryz.ntmps26 ?_
 rintro ⟨t, f, blocks, id⟩ y cx G hm
 have hm : zq40 t f blocks id = some y := hm
 unfold zq40 at hm
 refine rg G ?_
 obtain ⟨r, h, hm⟩ := obind hm
 refine rs G (hC 2 (zq55_c h) h0) ?_
 refine Ok_seq ?_
 obtain ⟨r1, h1, hm⟩ := obind hm
 refine jn hm (fun v => ⟨[(11, dV r.1), (12, dV r.2), (33, dV v)], [], 32⟩) (fun v hm => ?_) ?_
 ·rcases bf hm with ⟨hb, hm⟩ | ⟨hb, hm⟩
  ·refine re G (hC 2 (zq46_c h1) (hO 4 (.b true) (hP hb h0))) ?_
   exact wJ G hm
  ·obtain ⟨r2, h2, hm⟩ := obind hm
   rcases bf hm with ⟨hb1, hm⟩ | ⟨hb1, hm⟩
   ·refine re G (hC 2 (zq46_c h1) (hO 4 (.b false) (hP hb (hC 8 (zq48_c h2) (hO 11 (.b true) (hP hb1 h0)))))) ?_
    exact wJ G hm
   ·refine re G (hC 2 (zq46_c h1) (hO 4 (.b false) (hP hb (hC 8 (zq48_c h2) (hO 11 (.b false) (hP hb1 h0)))))) ?_
    exact wJ G hm
 rintro v hm
 refine cd hm (fun hm => ?_) (fun hm => ?_)
 ·refine rg G ?_
  cases hm
  exact rt [] []
 ·refine X_skip (thN (rg G ?_))
  cases hm
  exact rt [] []
noncomputable def zq35_M : MS (Timetable × (List Int)) Int := ⟨.x .r .r, fun x => zq35 x.1 x.2, fun y => dV y, fun _ => [], fun _ _ => []⟩
theorem zq35_c {t delays y} (hm : zq35 t delays = some y) : zq35_M.C (t, delays) y := zq35_M.c (t, delays) hm
theorem zq35_ok : FnOK Tryz.prog 92 zq35_M.S := by
 refine fm tt zq35_M [fo zq30_ok] Tryz.call92 Tryz.func92 rfl Tryz.results92 Tryz.ntmps92 ?_
 rintro ⟨t, delays⟩ y cx G hm
 have hm : zq35 t delays = some y := hm
 unfold zq35 at hm
 refine rg G (rg G (Ok_seq (rs G (hN 1 delays h0) ?_)))
 refine tl hm (fun d1 => ⟨[(5, dV d1)], [], 32⟩) (fun d1 hm => ?_) ?_
 ·refine Ok_block (lp G hm (fun (d, v) => ⟨[(2, .ref 16 0), (5, dV d), (8, dV delays), (9, dV (delays.length : Int)), (10, dV v)], [bX 16 [dV t.Network.Stops, dV t.Network.Lines, dV t.Trips]], 48⟩) ?_)
  rintro ⟨d, v⟩ r0 hb hm
  rw [zq35_L1] at hm
  refine rg G (Ok_seq (cd hm (fun hm => ?_) (fun hm => ?_)))
  ·refine X_skip (thN (Ok_seq (Ok_block ?_)))
   obtain ⟨e, h, hm⟩ := obind hm
   refine rs G (hD 1 h h0) ?_
   obtain ⟨e2, h3, hm⟩ := obind hm
   obtain ⟨r1, h4, hm⟩ := obind hm
   refine de G [] (hD 6 h3 (hC 8 (zq30_c h4) (hN 10 r1.Stops h0))) ?_
   exact ibN (thN (rh G (wL G hm)))
  ·exact Ok_exit (thE (thE (ibE (wD G hm hb))))
 rintro d1 hm s hw
 refine thN (Ok_weak hw ?_)
 refine rg G ?_
 cases hm
 exact rt [] []
noncomputable def zq11_M : MS (Timetable × Fleet × (List (List Int)) × (List Delay)) (Int × Bool) := ⟨.x .r (.x .r (.x .r .r)), fun x => zq11 x.1 x.2.1 x.2.2.1 x.2.2.2, fun y => .tup [dV y.1, dV y.2], fun _ => [], fun _ _ => []⟩
theorem zq11_c {t f blocks list y} (hm : zq11 t f blocks list = some y) : zq11_M.C (t, f, blocks, list) y := zq11_M.c (t, f, blocks, list) hm
theorem zq11_ok : FnOK Tryz.prog 27 zq11_M.S := by
 refine fm tt zq11_M [fo zq14_ok, fo zq19_ok, fo zq35_ok] Tryz.call27 Tryz.func27 rfl Tryz.results27 Tryz.ntmps27 ?_
 rintro ⟨t, f, blocks, list⟩ y cx G hm
 have hm : zq11 t f blocks list = some y := hm
 unfold zq11 at hm
 refine rg G (Ok_seq ?_)
 obtain ⟨r, h, hm⟩ := obind hm
 refine rs G (hC 4 (zq14_c h) h0) ?_
 refine cd hm (fun hm => ?_) (fun hm => ?_)
 ·refine rg G ?_
  cases hm
  exact rt [] []
 ·refine X_skip (thN ?_)
  obtain ⟨r3, h3, hm⟩ := obind hm
  obtain ⟨r4, h4, hm⟩ := obind hm
  refine ds G [] (hC 5 (zq19_c h3) (hC 6 (zq35_c h4) h0)) ?_
  cases hm
  exact rt [] []
noncomputable def zq2_M : MS (Timetable × Fleet × (List (List Int)) × (List Delay) × Int) (Int × Bool) := ⟨.x .r (.x .r (.x .r (.x .r .r))), fun x => zq2 x.1 x.2.1 x.2.2.1 x.2.2.2.1 x.2.2.2.2, fun y => .tup [dV y.1, dV y.2], fun _ => [], fun _ _ => []⟩
theorem zq2_c {t f blocks list id y} (hm : zq2 t f blocks list id = some y) : zq2_M.C (t, f, blocks, list, id) y := zq2_M.c (t, f, blocks, list, id) hm
theorem zq2_ok : FnOK Tryz.prog 28 zq2_M.S := by
 refine fm tt zq2_M [fo zq14_ok, fo zq36_ok, fo zq19_ok, fo zq35_ok] Tryz.call28 Tryz.func28 rfl Tryz.results28 Tryz.ntmps28 ?_
 rintro ⟨t, f, blocks, list, id⟩ y cx G hm
 have hm : zq2 t f blocks list id = some y := hm
 unfold zq2 at hm
 refine rg G (Ok_seq ?_)
 obtain ⟨r, h, hm⟩ := obind hm
 refine jn hm (fun v => ⟨[(2, dV blocks), (3, dV list), (4, dV id), (5, .ref 16 0), (6, .ref 32 0), (26, dV v)], [bX 16 [dV t.Network.Stops, dV t.Network.Lines, dV t.Trips], bX 32 [dV f.Dead, dV f.Turn]], 64⟩) (fun v hm => ?_) ?_
 ·rcases bf hm with ⟨hb, hm⟩ | ⟨hb, hm⟩
  ·refine re G (hC 4 (zq14_c h) (hO 6 (.b true) (hP hb h0))) ?_
   exact wJ G hm
  ·obtain ⟨r1, h1, hm⟩ := obind hm
   refine re G (hC 4 (zq14_c h) (hO 6 (.b false) (hP hb (hC 9 (zq36_c h1) h0)))) ?_
   exact wJ G hm
 rintro v hm
 refine cd hm (fun hm => ?_) (fun hm => ?_)
 ·refine rg G ?_
  cases hm
  exact rt [] []
 ·refine X_skip (thN (rg G (Ok_seq (rs G (hN 1 list h0) ?_))))
  refine tl hm (fun v4 => ⟨[(2, dV blocks), (3, dV list), (5, .ref 16 0), (6, .ref 32 0), (12, .own 48)], [bX 16 [dV t.Network.Stops, dV t.Network.Lines, dV t.Trips], bX 32 [dV f.Dead, dV f.Turn], aX 48 126 v4], 80⟩) (fun v4 hm => ?_) ?_
  ·refine Ok_block (lpP hm (fun (v1, v2) => ⟨[(2, dV blocks), (3, dV list), (4, dV id), (5, .ref 16 0), (6, .ref 32 0), (12, .own 48), (27, dV list), (28, dV (list.length : Int)), (29, dV v1)], [bX 16 [dV t.Network.Stops, dV t.Network.Lines, dV t.Trips], bX 32 [dV f.Dead, dV f.Turn], aX 48 126 v2], 80⟩) (Wk_J G.hL ⟨[(2, []), (3, []), (4, []), (5, []), (6, []), (12, [.o 48]), (27, []), (28, []), (29, [])], [(16, 16, []), (32, 32, [])], [(48, 126, 2, [])], 80⟩ (by kernel_rfl)) ?_)
   rintro ⟨v1, v2⟩ r0 hb1 hm
   rw [zq2_L1] at hm
   refine rg G (Ok_seq (cd hm (fun hm => ?_) (fun hm => ?_)))
   ·refine X_skip (thN (jn hm (fun v3 => ⟨[(2, dV blocks), (3, dV list), (4, dV id), (5, .ref 16 0), (6, .ref 32 0), (12, .own 48), (27, dV list), (28, dV (list.length : Int)), (29, dV v1)], [bX 16 [dV t.Network.Stops, dV t.Network.Lines, dV t.Trips], bX 32 [dV f.Dead, dV f.Turn], aX 48 126 v3], 80⟩) (fun v3 hm => ?_) ?_))
    ·refine Ok_block ?_
     obtain ⟨e, h2, hm⟩ := obind hm
     refine rs G (hD 0 h2 h0) ?_
     refine rg G (cd hm (fun hm => ?_) (fun hm => ?_))
     ·obtain ⟨u, h3, hm⟩ := obind hm
      refine re G (hA 3 16 h3 h0) ?_
      exact ibN (wJ G hm)
     ·exact X_skip (ibN (wJ G hm))
    rintro v3 hm
    exact rh G (wL G hm)
   ·exact Ok_exit (thE (thE (ibE (wD G hm hb1))))
  rintro v4 hm s hw
  refine thN (Ok_weak hw ?_)
  obtain ⟨r6, h8, hm⟩ := obind hm
  obtain ⟨r7, h9, hm⟩ := obind hm
  obtain ⟨r8, h10, hm⟩ := obind hm
  obtain ⟨r9, h11, hm⟩ := obind hm
  refine ds G [] (hC 5 (zq19_c h8) (hC 6 (zq35_c h9) (hF 12 (zq19_c h10) ⟨(flat_cons flat_arr flat_nil), flat_nil⟩ (hC 13 (zq35_c h11) h0)))) ?_
  cases hm
  exact rt [] []
noncomputable def zq62_M : MS (Timetable × Fleet × (List (List Int)) × (List Delay)) Int := ⟨.x .r (.x .r (.x .r .r)), fun x => zq62 x.1 x.2.1 x.2.2.1 x.2.2.2, fun y => dV y, fun _ => [], fun _ _ => []⟩
theorem zq62_c {t f blocks list y} (hm : zq62 t f blocks list = some y) : zq62_M.C (t, f, blocks, list) y := zq62_M.c (t, f, blocks, list) hm
theorem zq62_ok : FnOK Tryz.prog 94 zq62_M.S := by
 refine fm tt zq62_M [fo zq59_ok, fo zq111_ok] Tryz.call94 Tryz.func94 rfl Tryz.results94 Tryz.ntmps94 ?_
 rintro ⟨t, f, blocks, list⟩ y cx G hm
 have hm : zq62 t f blocks list = some y := hm
 unfold zq62 at hm
 refine rg G ?_
 obtain ⟨r, h, hm⟩ := obind hm
 refine rs G (hC 4 (zq59_c h) h0) ?_
 refine rg G (Ok_seq (rg G (tl hm (fun v2 => ⟨[(10, dV v2)], [], 32⟩) (fun v2 hm => ?_) ?_)))
 ·refine Ok_block (lp G hm (fun (v, v1) => ⟨[(4, .ref 16 0), (9, .own 32), (10, dV v), (11, dV v1)], [bX 16 [dV t.Network.Stops, dV t.Network.Lines, dV t.Trips], aX 32 3 r], 64⟩) ?_)
  rintro ⟨v, v1⟩ r0 hb hm
  rw [zq62_L1] at hm
  refine Ok_seq (rs G (hN 2 r h0) ?_)
  refine cd hm (fun hm => ?_) (fun hm => ?_)
  ·refine X_skip (thN (Ok_seq (Ok_block ?_)))
   obtain ⟨e1, h3, hm⟩ := obind hm
   obtain ⟨r2, h4, hm⟩ := obind hm
   refine de G [] (hD 3 h3 (hE 4 h3 (hC 7 (zq111_c h4) (hN 8 r2 h0)))) ?_
   exact ibN (thN (rh G (wL G hm)))
  ·exact Ok_exit (thE (thE (ibE (wD G hm hb))))
 rintro v2 hm s hw
 refine thN (Ok_weak hw ?_)
 refine rg G ?_
 cases hm
 exact rt [] []
noncomputable def zq41_M : MS (Timetable × Fleet × (List (List Int)) × (List Delay) × Int) (Int × Bool) := ⟨.x .r (.x .r (.x .r (.x .r .r))), fun x => zq41 x.1 x.2.1 x.2.2.1 x.2.2.2.1 x.2.2.2.2, fun y => .tup [dV y.1, dV y.2], fun _ => [], fun _ _ => []⟩
theorem zq41_c {t f blocks list id y} (hm : zq41 t f blocks list id = some y) : zq41_M.C (t, f, blocks, list, id) y := zq41_M.c (t, f, blocks, list, id) hm
theorem zq41_ok : FnOK Tryz.prog 29 zq41_M.S := by
 refine fm tt zq41_M [fo zq58_ok, fo zq108_ok, fo zq62_ok] Tryz.call29 Tryz.func29 rfl Tryz.results29 Tryz.ntmps29 ?_
 rintro ⟨t, f, blocks, list, id⟩ y cx G hm
 have hm : zq41 t f blocks list id = some y := hm
 unfold zq41 at hm
 refine rg G (Ok_seq ?_)
 obtain ⟨r, h, hm⟩ := obind hm
 refine jn hm (fun v => ⟨[(2, dV blocks), (3, dV list), (4, dV id), (5, .ref 16 0), (6, .ref 32 0), (25, dV v)], [bX 16 [dV t.Network.Stops, dV t.Network.Lines, dV t.Trips], bX 32 [dV f.Dead, dV f.Turn]], 64⟩) (fun v hm => ?_) ?_
 ·rcases bf hm with ⟨hb, hm⟩ | ⟨hb, hm⟩
  ·refine re G (hC 4 (zq58_c h) (hO 6 (.b true) (hP hb h0))) ?_
   exact wJ G hm
  ·obtain ⟨r1, h1, hm⟩ := obind hm
   refine re G (hC 4 (zq58_c h) (hO 6 (.b false) (hP hb (hC 9 (zq108_c h1) h0)))) ?_
   exact wJ G hm
 rintro v hm
 refine cd hm (fun hm => ?_) (fun hm => ?_)
 ·refine rg G ?_
  cases hm
  exact rt [] []
 ·refine X_skip (thN (rg G (Ok_seq (rg G (tl hm (fun v4 => ⟨[(2, dV blocks), (3, dV list), (5, .ref 16 0), (6, .ref 32 0), (12, .own 48)], [bX 16 [dV t.Network.Stops, dV t.Network.Lines, dV t.Trips], bX 32 [dV f.Dead, dV f.Turn], aX 48 126 v4], 80⟩) (fun v4 hm => ?_) ?_)))))
  ·refine Ok_block (lp G hm (fun (v1, v2) => ⟨[(2, dV blocks), (3, dV list), (4, dV id), (5, .ref 16 0), (6, .ref 32 0), (12, .own 48), (13, dV v1)], [bX 16 [dV t.Network.Stops, dV t.Network.Lines, dV t.Trips], bX 32 [dV f.Dead, dV f.Turn], aX 48 126 v2], 80⟩) ?_)
   rintro ⟨v1, v2⟩ r0 hb1 hm
   rw [zq41_L1] at hm
   refine Ok_seq (rs G (hN 2 list h0) ?_)
   refine cd hm (fun hm => ?_) (fun hm => ?_)
   ·refine X_skip (thN (jn hm (fun v3 => ⟨[(2, dV blocks), (3, dV list), (4, dV id), (5, .ref 16 0), (6, .ref 32 0), (12, .own 48), (13, dV v1)], [bX 16 [dV t.Network.Stops, dV t.Network.Lines, dV t.Trips], bX 32 [dV f.Dead, dV f.Turn], aX 48 126 v3], 80⟩) (fun v3 hm => ?_) ?_))
    ·refine Ok_block ?_
     obtain ⟨e, h2, hm⟩ := obind hm
     refine rs G (hD 2 h2 h0) ?_
     refine cd hm (fun hm => ?_) (fun hm => ?_)
     ·obtain ⟨e1, h3, hm⟩ := obind hm
      obtain ⟨u, h4, hm⟩ := obind hm
      refine re G (hD 3 h3 (hA 6 16 h4 h0)) ?_
      exact ibN (wJ G hm)
     ·exact X_skip (ibN (wJ G hm))
    rintro v3 hm
    exact rh G (wL G hm)
   ·exact Ok_exit (thE (thE (ibE (wD G hm hb1))))
  rintro v4 hm s hw
  refine thN (Ok_weak hw ?_)
  obtain ⟨r4, h7, hm⟩ := obind hm
  obtain ⟨r5, h8, hm⟩ := obind hm
  refine ds G [] (hC 4 (zq62_c h7) (hC 9 (zq62_c h8) h0)) ?_
  cases hm
  exact rt [] []
noncomputable def v_FnDelays_M : MS ((List UInt8)) Bool := ⟨.r, v_FnDelays, fun y => dV y, fun _ => [], fun _ _ => []⟩
theorem v_FnDelays_c {code y} (hm : v_FnDelays code = some y) : v_FnDelays_M.C code y := v_FnDelays_M.c code hm
theorem v_FnDelays_ok : FnOK Tryz.prog 4 v_FnDelays_M.S := by
 refine fm tt v_FnDelays_M [fo zq116_ok, fo zq43_ok, fo zq4_ok, fo zq42_ok, fo zq118_ok, fo zq5_ok, fo zq45_ok, fo zq3_ok, fo zq10_ok, fo zq0_ok, fo zq117_ok, fo zq1_ok, fo zq40_ok, fo zq11_ok, fo zq2_ok, fo zq41_ok] Tryz.call4 Tryz.func4 rfl Tryz.results4 Tryz.ntmps4 ?_
 rintro code y cx G hm
 have hm : v_FnDelays code = some y := hm
 unfold v_FnDelays at hm
 refine rg G (Ok_seq ?_)
 obtain ⟨r, h, hm⟩ := obind hm
 refine rs G (hC 1 (zq116_c h) h0) ?_
 refine cd hm (fun hm => ?_) (fun hm => ?_)
 ·refine rg G ?_
  cases hm
  exact rt [] []
 ·refine X_skip (thN ?_)
  obtain ⟨r1, h1, hm⟩ := obind hm
  refine rs G (hC 1 (zq43_c h1) h0) ?_
  obtain ⟨r2, h2, hm⟩ := obind hm
  refine rs G (hO 4 (.fz [80, 81] [] []) (hC 4 (zq4_c h2) h0)) ?_
  refine Ok_seq ?_
  obtain ⟨r3, h3, hm⟩ := obind hm
  refine rs G (hC 4 (zq42_c h3) h0) ?_
  refine jn hm (fun v => ⟨[(3, .ref 16 0), (4, .ref 32 0), (5, dV r1.2.2.1), (6, dV r1.2.2.2.1), (7, dV r1.2.2.2.2), (8, dV r2.1), (9, dV r2.2), (76, dV v)], [bX 16 [dV r1.1.Network.Stops, dV r1.1.Network.Lines, dV r1.1.Trips], bX 32 [dV r1.2.1.Dead, dV r1.2.1.Turn]], 64⟩) (fun v hm => ?_) ?_
  ·rcases bf hm with ⟨hb, hm⟩ | ⟨hb, hm⟩
   ·refine de G [] (hO 3 (.b true) (hP hb h0)) ?_
    exact wJ G hm
   ·obtain ⟨r7, h7, hm⟩ := obind hm
    rcases bf hm with ⟨hb1, hm⟩ | ⟨hb1, hm⟩
    ·refine de G [] (hO 3 (.b false) (hP hb (hC 6 (zq118_c h7) (hO 9 (.b true) (hP hb1 h0))))) ?_
     exact wJ G hm
    ·obtain ⟨r8, h8, hm⟩ := obind hm
     obtain ⟨r9, h9, hm⟩ := obind hm
     refine de G [] (hO 3 (.b false) (hP hb (hC 6 (zq118_c h7) (hO 9 (.b false) (hP hb1 (hC 12 (zq5_c h8) (hC 15 (zq45_c h9) h0))))))) ?_
     exact wJ G hm
  rintro v hm
  refine cd hm (fun hm => ?_) (fun hm => ?_)
  ·refine rg G ?_
   cases hm
   exact rt [] []
  ·refine X_skip (thN (Ok_seq (rg G (cd hm (fun hm => ?_) (fun hm => ?_)))))
   ·refine rs G (hN 1 r2.1 h0) ?_
    cases hm
    exact rt [] []
   ·refine X_skip (thN ?_)
    obtain ⟨r10, h10, hm⟩ := obind hm
    refine rs G (hC 4 (zq3_c h10) h0) ?_
    refine Ok_seq (jn hm (fun v1 => ⟨[(3, .ref 16 0), (4, .ref 32 0), (5, dV r1.2.2.1), (6, dV r1.2.2.2.1), (7, dV r1.2.2.2.2), (8, dV r2.1), (12, dV r10.1), (99, dV v1)], [bX 16 [dV r1.1.Network.Stops, dV r1.1.Network.Lines, dV r1.1.Trips], bX 32 [dV r1.2.1.Dead, dV r1.2.1.Turn]], 64⟩) (fun v1 hm => ?_) ?_)
    ·rcases bf hm with ⟨hb2, hm⟩ | ⟨hb2, hm⟩
     ·refine re G (hO 2 (.b true) (hP hb2 h0)) ?_
      exact wJ G hm
     ·refine re G (hO 2 (.b false) (hP hb2 (hN 4 r2.1 (hN 7 r1.1.Trips h0)))) ?_
      exact wJ G hm
    rintro v1 hm
    refine cd hm (fun hm => ?_) (fun hm => ?_)
    ·refine rg G ?_
     cases hm
     exact rt [] []
    ·refine X_skip (thN (Ok_seq (rg G (tF hm (fun _ => ⟨[(3, .ref 16 0), (4, .ref 32 0), (5, dV r1.2.2.1), (6, dV r1.2.2.2.1), (7, dV r1.2.2.2.2)], [bX 16 [dV r1.1.Network.Stops, dV r1.1.Network.Lines, dV r1.1.Trips], bX 32 [dV r1.2.1.Dead, dV r1.2.1.Turn]], 64⟩) (fun v6 hr hm => ?_) ?_))))
     ·refine Ok_block (lp G hm (fun more => ⟨[(3, .ref 16 0), (4, .ref 32 0), (5, dV r1.2.2.1), (6, dV r1.2.2.2.1), (7, dV r1.2.2.2.2), (8, dV r2.1), (12, dV r10.1), (14, dV more)], [bX 16 [dV r1.1.Network.Stops, dV r1.1.Network.Lines, dV r1.1.Trips], bX 32 [dV r1.2.1.Dead, dV r1.2.1.Turn]], 64⟩) ?_)
      rintro more r0 hb3 hm
      rw [v_FnDelays_L1] at hm
      refine Ok_seq (rs G (hN 2 r2.1 h0) ?_)
      refine cd hm (fun hm => ?_) (fun hm => ?_)
      ·refine X_skip (thN (jF hm (fun _ => ⟨[(3, .ref 16 0), (4, .ref 32 0), (5, dV r1.2.2.1), (6, dV r1.2.2.2.1), (7, dV r1.2.2.2.2), (8, dV r2.1), (12, dV r10.1), (14, dV more)], [bX 16 [dV r1.1.Network.Stops, dV r1.1.Network.Lines, dV r1.1.Trips], bX 32 [dV r1.2.1.Dead, dV r1.2.1.Turn]], 64⟩) (fun v5 hr1 hm => ?_) ?_))
       ·refine Ok_block ?_
        obtain ⟨e1, h13, hm⟩ := obind hm
        obtain ⟨r12, h14, hm⟩ := obind hm
        refine ds G [] (hD 7 h13 (hC 10 (zq10_c h14) h0)) ?_
        obtain ⟨e3, h17, hm⟩ := obind hm
        obtain ⟨r14, h18, hm⟩ := obind hm
        refine ds G [] (hD 7 h17 (hC 10 (zq0_c h18) h0)) ?_
        refine Ok_seq (jn hm (fun v2 => ⟨[(3, .ref 16 0), (4, .ref 32 0), (5, dV r1.2.2.1), (6, dV r1.2.2.2.1), (7, dV r1.2.2.2.2), (8, dV r2.1), (12, dV r10.1), (14, dV more), (181, dV v2)], [bX 16 [dV r1.1.Network.Stops, dV r1.1.Network.Lines, dV r1.1.Trips], bX 32 [dV r1.2.1.Dead, dV r1.2.1.Turn]], 64⟩) (fun v2 hm => ?_) ?_)
        ·rcases bf hm with ⟨hb4, hm⟩ | ⟨hb4, hm⟩
         ·refine de G [] (hO 2 (.b true) (hP hb4 h0)) ?_
          exact wJ G hm
         ·rcases bf hm with ⟨hb5, hm⟩ | ⟨hb5, hm⟩
          ·refine de G [] (hO 2 (.b false) (hP hb4 (hO 6 (.b true) (hP hb5 h0)))) ?_
           exact wJ G hm
          ·rcases bf hm with ⟨hb6, hm⟩ | ⟨hb6, hm⟩
           ·refine de G [] (hO 2 (.b false) (hP hb4 (hO 6 (.b false) (hP hb5 (hO 10 (.b true) (hP hb6 h0)))))) ?_
            exact wJ G hm
           ·rcases bf hm with ⟨hb7, hm⟩ | ⟨hb7, hm⟩
            ·refine de G [] (hO 2 (.b false) (hP hb4 (hO 6 (.b false) (hP hb5 (hO 10 (.b false) (hP hb6 (hN 12 r14.1 (hO 15 (.b true) (hP hb7 h0))))))))) ?_
             exact wJ G hm
            ·obtain ⟨e9, h25, hm⟩ := obind hm
             obtain ⟨e10, h26, hm⟩ := obind hm
             obtain ⟨e11, h27, hm⟩ := obind hm
             rcases bf hm with ⟨hb8, hm⟩ | ⟨hb8, hm⟩
             ·refine de G [] (hO 2 (.b false) (hP hb4 (hO 6 (.b false) (hP hb5 (hO 10 (.b false) (hP hb6 (hN 12 r14.1 (hO 15 (.b false) (hP hb7 (hD 17 h25 (hD 22 h26 (hD 27 h27 (hO 32 (.b true) (hP hb8 h0)))))))))))))) ?_
              exact wJ G hm
             ·obtain ⟨e12, h28, hm⟩ := obind hm
              obtain ⟨r16, h29, hm⟩ := obind hm
              obtain ⟨e13, h30, hm⟩ := obind hm
              refine de G [] (hO 2 (.b false) (hP hb4 (hO 6 (.b false) (hP hb5 (hO 10 (.b false) (hP hb6 (hN 12 r14.1 (hO 15 (.b false) (hP hb7 (hD 17 h25 (hD 22 h26 (hD 27 h27 (hO 32 (.b false) (hP hb8 (hD 37 h28 (hC 40 (zq117_c h29) (hD 43 h30 h0))))))))))))))))) ?_
              exact wJ G hm
        rintro v2 hm
        refine cd hm (fun hm => ?_) (fun hm => ?_)
        ·refine rg G ?_
         have hm := eR hm hr1
         have hm := eL hm hb3 hr
         cases hm
         exact rt [] []
        ·refine X_skip (thN ?_)
         obtain ⟨e17, h33, hm⟩ := obind hm
         obtain ⟨r20, h34, hm⟩ := obind hm
         refine ds G [] (hD 6 h33 (hC 9 (zq1_c h34) h0)) ?_
         obtain ⟨e19, h37, hm⟩ := obind hm
         obtain ⟨r22, h38, hm⟩ := obind hm
         refine ds G [] (hD 6 h37 (hC 9 (zq40_c h38) h0)) ?_
         refine Ok_seq (jn hm (fun v3 => ⟨[(3, .ref 16 0), (4, .ref 32 0), (5, dV r1.2.2.1), (6, dV r1.2.2.2.1), (7, dV r1.2.2.2.2), (8, dV r2.1), (12, dV r10.1), (14, dV more), (19, dV r20.1), (20, dV r20.2.1), (22, dV r22.1), (23, dV r22.2.1), (227, dV v3)], [bX 16 [dV r1.1.Network.Stops, dV r1.1.Network.Lines, dV r1.1.Trips], bX 32 [dV r1.2.1.Dead, dV r1.2.1.Turn]], 64⟩) (fun v3 hm => ?_) ?_)
         ·rcases bf hm with ⟨hb9, hm⟩ | ⟨hb9, hm⟩
          ·refine re G (hO 2 (.b true) (hP hb9 h0)) ?_
           exact wJ G hm
          ·rcases bf hm with ⟨hb10, hm⟩ | ⟨hb10, hm⟩
           ·refine re G (hO 2 (.b false) (hP hb9 (hO 6 (.b true) (hP hb10 h0)))) ?_
            exact wJ G hm
           ·obtain ⟨e20, h39, hm⟩ := obind hm
            refine re G (hO 2 (.b false) (hP hb9 (hO 6 (.b false) (hP hb10 (hD 12 h39 (hN 14 e20 h0)))))) ?_
            exact wJ G hm
         rintro v3 hm
         refine cd hm (fun hm => ?_) (fun hm => ?_)
         ·refine rg G ?_
          have hm := eR hm hr1
          have hm := eL hm hb3 hr
          cases hm
          exact rt [] []
         ·refine X_skip (thN (rg G (cd hm (fun hm => ?_) (fun hm => ?_))))
          ·obtain ⟨e25, h43, hm⟩ := obind hm
           obtain ⟨e26, h44, hm⟩ := obind hm
           obtain ⟨r26, h45, hm⟩ := obind hm
           refine ds G [] (hD 6 h43 (hD 10 h44 (hC 12 (zq10_c h45) h0))) ?_
           refine jn hm (fun v4 => ⟨[(3, .ref 16 0), (4, .ref 32 0), (5, dV r1.2.2.1), (6, dV r1.2.2.2.1), (7, dV r1.2.2.2.2), (8, dV r2.1), (12, dV r10.1), (14, dV more), (257, dV v4)], [bX 16 [dV r1.1.Network.Stops, dV r1.1.Network.Lines, dV r1.1.Trips], bX 32 [dV r1.2.1.Dead, dV r1.2.1.Turn]], 64⟩) (fun v4 hm => ?_) ?_
           ·rcases bf hm with ⟨hb11, hm⟩ | ⟨hb11, hm⟩
            ·refine re G (hO 2 (.b true) (hP hb11 h0)) ?_
             exact wJ G hm
            ·obtain ⟨e27, h46, hm⟩ := obind hm
             refine re G (hO 2 (.b false) (hP hb11 (hD 7 h46 h0))) ?_
             exact wJ G hm
           rintro v4 hm
           refine cd hm (fun hm => ?_) (fun hm => ?_)
           ·refine rg G ?_
            have hm := eR hm hr1
            have hm := eL hm hb3 hr
            cases hm
            exact rt [] []
           ·exact X_skip (ibN (wF G hm))
          ·exact X_skip (ibN (wF G hm))
       rintro ⟨⟩ hm
       exact rh G (wL G hm)
      ·exact Ok_exit (thE (thE (ibE (wE G hm hb3))))
     rintro ⟨⟩ hm s hw
     refine thN (Ok_weak hw ?_)
     obtain ⟨r29, h47, hm⟩ := obind hm
     refine rs G (hC 4 (zq11_c h47) h0) ?_
     obtain ⟨r30, h48, hm⟩ := obind hm
     refine rs G (hC 5 (zq2_c h48) h0) ?_
     obtain ⟨r31, h49, hm⟩ := obind hm
     refine rs G (hC 5 (zq41_c h49) h0) ?_
     refine jn hm (fun t => ⟨[(2, dV t)], [], 32⟩) (fun t hm => ?_) ?_
     ·rcases bf hm with ⟨hb12, hm⟩ | ⟨hb12, hm⟩
      ·rcases bf hm with ⟨hb13, hm⟩ | ⟨hb13, hm⟩
       ·rcases bf hm with ⟨hb14, hm⟩ | ⟨hb14, hm⟩
        ·rcases bf hm with ⟨hb15, hm⟩ | ⟨hb15, hm⟩
         ·refine re G (hO 1 (.b true) (hP hb12 (hO 6 (.b true) (hP hb13 (hO 11 (.b true) (hP hb14 (hO 15 (.b true) (hP hb15 h0)))))))) ?_
          exact wJ G hm
         ·refine re G (hO 1 (.b true) (hP hb12 (hO 6 (.b true) (hP hb13 (hO 11 (.b true) (hP hb14 (hO 15 (.b false) (hP hb15 h0)))))))) ?_
          exact wJ G hm
        ·refine re G (hO 1 (.b true) (hP hb12 (hO 6 (.b true) (hP hb13 (hO 11 (.b false) (hP hb14 h0)))))) ?_
         exact wJ G hm
       ·refine re G (hO 1 (.b true) (hP hb12 (hO 6 (.b false) (hP hb13 h0)))) ?_
        exact wJ G hm
      ·refine re G (hO 1 (.b false) (hP hb12 h0)) ?_
       exact wJ G hm
     rintro t hm
     cases hm
     exact rt [] []
end Go.Proofs.YtaegkodcjpgndaaGreat
