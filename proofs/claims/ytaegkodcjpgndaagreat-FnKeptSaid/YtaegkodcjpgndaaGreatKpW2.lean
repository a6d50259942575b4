/- Each function computes what its model says. Made by program (dec.py). -/
import Derived.Test.YtaegkodcjpgndaaGreatKpW1
namespace Go.Proofs.YtaegkodcjpgndaaGreat
open Go Go.Ab
set_option maxRecDepth 100000
set_option maxHeartbeats 4000000
set_option linter.unusedVariables false
set_option linter.unusedSimpArgs false
noncomputable def zq0_M : MS (Timetable × Fleet × (List (List Int)) × (List Delay) × (List Int)) ((List Int) × Bool) := ⟨.x .r (.x .r (.x .r (.x .r .r))), fun x => zq0 x.1 x.2.1 x.2.2.1 x.2.2.2.1 x.2.2.2.2, fun y => .tup [dV y.1, dV y.2], fun _ => [], fun _ _ => []⟩
theorem zq0_c {t f blocks list cancelled y} (hm : zq0 t f blocks list cancelled = some y) : zq0_M.C (t, f, blocks, list, cancelled) y := zq0_M.c (t, f, blocks, list, cancelled) hm
theorem zq0_ok : FnOK Tryz.prog 11 zq0_M.S := by
 refine fm tt zq0_M [fo zq1_ok, fo zq10_ok, fo zq14_ok] Tryz.call11 Tryz.func11 rfl Tryz.results11 Tryz.ntmps11 ?_
 rintro ⟨t, f, blocks, list, cancelled⟩ y cx G hm
 have hm : zq0 t f blocks list cancelled = some y := hm
 unfold zq0 at hm
 refine rg G (Ok_seq ?_)
 obtain ⟨r, h, hm⟩ := obind hm
 refine jn hm (fun v => ⟨[(2, dV blocks), (3, dV list), (4, dV cancelled), (5, .ref 16 0), (6, .ref 32 0), (23, dV v)], [bX 16 [dV t.Network.Stops, dV t.Network.Lines, dV t.Trips], bX 32 [dV f.Dead, dV f.Turn]], 64⟩) (fun v hm => ?_) ?_
 ·rcases bf hm with ⟨hb, hm⟩ | ⟨hb, hm⟩
  ·refine re G (hC 4 (zq1_c h) (hO 6 (.b true) (hP hb h0))) ?_
   exact wJ G hm
  ·obtain ⟨r1, h1, hm⟩ := obind hm
   refine re G (hC 4 (zq1_c h) (hO 6 (.b false) (hP hb (hC 9 (zq10_c h1) h0)))) ?_
   exact wJ G hm
 rintro v hm
 refine cd hm (fun hm => ?_) (fun hm => ?_)
 ·refine rg G ?_
  cases hm
  exact rt [] [[.z 1]]
 ·refine X_skip (thN ?_)
  obtain ⟨r2, h2, hm⟩ := obind hm
  refine rs G (hC 5 (zq14_c h2) h0) ?_
  cases hm
  exact rt [] []
noncomputable def zq107_M : MS (Timetable × Int) Int := ⟨.x .r .r, fun x => zq107 x.1 x.2, fun y => dV y, fun _ => [], fun _ _ => []⟩
theorem zq107_c {t id y} (hm : zq107 t id = some y) : zq107_M.C (t, id) y := zq107_M.c (t, id) hm
theorem zq107_ok : FnOK Tryz.prog 93 zq107_M.S := by
 refine fm tt zq107_M [] Tryz.call93 Tryz.func93 rfl Tryz.results93 Tryz.ntmps93 ?_
 rintro ⟨t, id⟩ y cx G hm
 have hm : zq107 t id = some y := hm
 unfold zq107 at hm
 refine rg G (Ok_seq (rg G (tF hm (fun _ => ⟨[], [], 32⟩) (fun v1 hr hm => ?_) ?_)))
 ·refine Ok_block (lp G hm (fun v => ⟨[(1, dV id), (2, .ref 16 0), (5, dV v)], [bX 16 [dV t.Network.Stops, dV t.Network.Lines, dV t.Trips]], 48⟩) ?_)
  rintro v r0 hb hm
  rw [zq107_L1] at hm
  refine Ok_seq (rs G (hN 3 t.Trips h0) ?_)
  refine cd hm (fun hm => ?_) (fun hm => ?_)
  ·refine X_skip (thN (Ok_seq (Ok_block ?_)))
   obtain ⟨e, h, hm⟩ := obind hm
   refine rs G (hD 3 h h0) ?_
   refine cd hm (fun hm => ?_) (fun hm => ?_)
   ·refine rg G ?_
    have hm := eL hm hb hr
    cases hm
    exact rt [] []
   ·exact X_skip (ibN (thN (rh G (wL G hm))))
  ·exact Ok_exit (thE (thE (ibE (wE G hm hb))))
 rintro ⟨⟩ hm s hw
 refine thN (Ok_weak hw ?_)
 refine rg G ?_
 cases hm
 exact rt [] []
noncomputable def zq86_M : MS ((List Int) × Int) Bool := ⟨.x .r .r, fun x => zq86 x.1 x.2, fun y => dV y, fun _ => [], fun _ _ => []⟩
theorem zq86_c {l n y} (hm : zq86 l n = some y) : zq86_M.C (l, n) y := zq86_M.c (l, n) hm
theorem zq86_ok : FnOK Tryz.prog 150 zq86_M.S := by
 refine fm tt zq86_M [] Tryz.call150 Tryz.func150 rfl Tryz.results150 Tryz.ntmps150 ?_
 rintro ⟨l, n⟩ y cx G hm
 have hm : zq86 l n = some y := hm
 unfold zq86 at hm
 refine rg G (Ok_seq (rg G (tF hm (fun _ => ⟨[], [], 32⟩) (fun v1 hr hm => ?_) ?_)))
 ·refine Ok_block (lp G hm (fun v => ⟨[(0, dV l), (1, dV n), (5, dV v)], [], 32⟩) ?_)
  rintro v r0 hb hm
  rw [zq86_L1] at hm
  refine Ok_seq (rs G (hN 2 l h0) ?_)
  refine cd hm (fun hm => ?_) (fun hm => ?_)
  ·refine X_skip (thN (Ok_seq (Ok_block ?_)))
   obtain ⟨e, h, hm⟩ := obind hm
   refine rs G (hD 2 h h0) ?_
   refine cd hm (fun hm => ?_) (fun hm => ?_)
   ·refine rg G ?_
    have hm := eL hm hb hr
    cases hm
    exact rt [] []
   ·exact X_skip (ibN (thN (rh G (wL G hm))))
  ·exact Ok_exit (thE (thE (ibE (wE G hm hb))))
 rintro ⟨⟩ hm s hw
 refine thN (Ok_weak hw ?_)
 refine rg G ?_
 cases hm
 exact rt [] []
noncomputable def zq41_M : MS (Timetable × Fleet × (List (List Int))) Bool := ⟨.x .r (.x .r .r), fun x => zq41 x.1 x.2.1 x.2.2, fun y => dV y, fun _ => [], fun _ _ => []⟩
theorem zq41_c {t f blocks y} (hm : zq41 t f blocks = some y) : zq41_M.C (t, f, blocks) y := zq41_M.c (t, f, blocks) hm
theorem zq41_ok : FnOK Tryz.prog 91 zq41_M.S := by
 refine fm tt zq41_M [fo zq107_ok, fo zq86_ok, fo zq47_ok] Tryz.call91 Tryz.func91 rfl Tryz.results91 Tryz.ntmps91 ?_
 rintro ⟨t, f, blocks⟩ y cx G hm
 have hm : zq41 t f blocks = some y := hm
 unfold zq41 at hm
 refine rg G (rg G (Ok_seq (rg G (tF hm (fun at_3 => ⟨[(3, .ref 16 0), (7, .own 32)], [bX 16 [dV t.Network.Stops, dV t.Network.Lines, dV t.Trips], aX 32 3 at_3], 64⟩) (fun v5 hr hm => ?_) ?_))))
 ·refine Ok_block (lp G hm (fun (v, at_) => ⟨[(2, dV blocks), (3, .ref 16 0), (4, .ref 32 0), (7, .own 48), (8, dV v)], [bX 16 [dV t.Network.Stops, dV t.Network.Lines, dV t.Trips], bX 32 [dV f.Dead, dV f.Turn], aX 48 3 at_], 80⟩) ?_)
  rintro ⟨v, at_⟩ r0 hb hm
  rw [zq41_L2] at hm
  refine Ok_seq (rs G (hN 2 blocks h0) ?_)
  refine cd hm (fun hm => ?_) (fun hm => ?_)
  ·refine X_skip (thN (Ok_seq (Ok_block (Ok_seq ?_))))
   obtain ⟨e5, h5, hm⟩ := obind hm
   refine jn hm (fun v1 => ⟨[(2, dV blocks), (3, .ref 16 0), (4, .ref 32 0), (7, .own 48), (8, dV v), (43, dV v1)], [bX 16 [dV t.Network.Stops, dV t.Network.Lines, dV t.Trips], bX 32 [dV f.Dead, dV f.Turn], aX 48 3 at_], 80⟩) (fun v1 hm => ?_) ?_
   ·rcases bf hm with ⟨hb1, hm⟩ | ⟨hb1, hm⟩
    ·refine de G [] (hD 2 h5 (hN 4 e5 (hO 6 (.b true) (hP hb1 h0)))) ?_
     exact wJ G hm
    ·rcases bf hm with ⟨hb2, hm⟩ | ⟨hb2, hm⟩
     ·obtain ⟨e6, h6, hm⟩ := obind hm
      obtain ⟨e7, h7, hm⟩ := obind hm
      obtain ⟨e8, h8, hm⟩ := obind hm
      obtain ⟨e9, h9, hm⟩ := obind hm
      refine de G [] (hD 2 h5 (hN 4 e5 (hO 6 (.b false) (hP hb1 (hO 9 (.b true) (hP hb2 (hD 13 h6 (hD 15 h7 (hD 19 h8 (hD 21 h9 h0)))))))))) ?_
      exact wJ G hm
     ·refine de G [] (hD 2 h5 (hN 4 e5 (hO 6 (.b false) (hP hb1 (hO 9 (.b false) (hP hb2 h0)))))) ?_
      exact wJ G hm
   rintro v1 hm
   refine cd hm (fun hm => ?_) (fun hm => ?_)
   ·refine rg G ?_
    have hm := eL hm hb hr
    cases hm
    exact rt [] []
   ·refine X_skip (thN (rg G (tF hm (fun at_2 => ⟨[(2, dV blocks), (3, .ref 16 0), (4, .ref 32 0), (7, .own 48), (8, dV v)], [bX 16 [dV t.Network.Stops, dV t.Network.Lines, dV t.Trips], bX 32 [dV f.Dead, dV f.Turn], aX 48 3 at_2], 80⟩) (fun v4 hr1 hm => ?_) ?_)))
    ·refine Ok_block (lp G hm (fun (v2, at_1) => ⟨[(2, dV blocks), (3, .ref 16 0), (4, .ref 32 0), (7, .own 48), (8, dV v), (9, dV v2)], [bX 16 [dV t.Network.Stops, dV t.Network.Lines, dV t.Trips], bX 32 [dV f.Dead, dV f.Turn], aX 48 3 at_1], 80⟩) ?_)
     rintro ⟨v2, at_1⟩ r0 hb3 hm
     rw [zq41_L1] at hm
     refine Ok_seq ?_
     obtain ⟨e11, h10, hm⟩ := obind hm
     refine rs G (hD 3 h10 (hN 5 e11 h0)) ?_
     refine cd hm (fun hm => ?_) (fun hm => ?_)
     ·refine X_skip (thN (Ok_seq (Ok_block ?_)))
      obtain ⟨e14, h14, hm⟩ := obind hm
      obtain ⟨e15, h15, hm⟩ := obind hm
      obtain ⟨r2, h16, hm⟩ := obind hm
      refine ds G [] (hD 3 h14 (hD 6 h15 (hC 8 (zq107_c h16) h0))) ?_
      refine Ok_seq (jn hm (fun v3 => ⟨[(2, dV blocks), (3, .ref 16 0), (4, .ref 32 0), (7, .own 48), (8, dV v), (9, dV v2), (10, dV r2), (89, dV v3)], [bX 16 [dV t.Network.Stops, dV t.Network.Lines, dV t.Trips], bX 32 [dV f.Dead, dV f.Turn], aX 48 3 at_1], 80⟩) (fun v3 hm => ?_) ?_)
      ·rcases bf hm with ⟨hb4, hm⟩ | ⟨hb4, hm⟩
       ·refine de G [] (hO 2 (.b true) (hP hb4 h0)) ?_
        exact wJ G hm
       ·obtain ⟨r6, h22, hm⟩ := obind hm
        rcases bf hm with ⟨hb5, hm⟩ | ⟨hb5, hm⟩
        ·refine de G [] (hO 2 (.b false) (hP hb4 (hC 5 (zq86_c h22) (hO 7 (.b true) (hP hb5 h0))))) ?_
         exact wJ G hm
        ·rcases bf hm with ⟨hb6, hm⟩ | ⟨hb6, hm⟩
         ·obtain ⟨e18, h23, hm⟩ := obind hm
          obtain ⟨e19, h24, hm⟩ := obind hm
          obtain ⟨r7, h25, hm⟩ := obind hm
          obtain ⟨r8, h26, hm⟩ := obind hm
          refine de G [] (hO 2 (.b false) (hP hb4 (hC 5 (zq86_c h22) (hO 7 (.b false) (hP hb5 (hO 10 (.b true) (hP hb6 (hD 16 h23 (hD 20 h24 (hC 22 (zq107_c h25) (hC 24 (zq47_c h26) h0))))))))))) ?_
          exact wJ G hm
         ·refine de G [] (hO 2 (.b false) (hP hb4 (hC 5 (zq86_c h22) (hO 7 (.b false) (hP hb5 (hO 10 (.b false) (hP hb6 h0))))))) ?_
          exact wJ G hm
      rintro v3 hm
      refine cd hm (fun hm => ?_) (fun hm => ?_)
      ·refine rg G ?_
       have hm := eL hm hb3 hr1
       have hm := eL hm hb hr
       cases hm
       exact rt [] []
      ·refine X_skip (thN ?_)
       obtain ⟨u, h27, hm⟩ := obind hm
       refine re G (hA 3 8 h27 h0) ?_
       exact ibN (thN (rh G (wL G hm)))
     ·exact Ok_exit (thE (thE (ibE (wE G hm hb3))))
    rintro at_2 hm s hw
    refine ibN (thN (Ok_weak hw ?_))
    exact rh G (wL G hm)
  ·exact Ok_exit (thE (thE (ibE (wE G hm hb))))
 rintro at_3 hm s1 hw1
 refine thN (Ok_weak hw1 ?_)
 refine rs G (hN 1 at_3 (hN 4 t.Trips h0)) ?_
 cases hm
 exact rt [] []
noncomputable def zq49_M : MS (Timetable × Fleet × (List (List Int))) Bool := ⟨.x .r (.x .r .r), fun x => zq49 x.1 x.2.1 x.2.2, fun y => dV y, fun _ => [], fun _ _ => []⟩
theorem zq49_c {t f blocks y} (hm : zq49 t f blocks = some y) : zq49_M.C (t, f, blocks) y := zq49_M.c (t, f, blocks) hm
theorem zq49_ok : FnOK Tryz.prog 152 zq49_M.S := by
 refine fm tt zq49_M [fo zq39_ok, fo zq41_ok] Tryz.call152 Tryz.func152 rfl Tryz.results152 Tryz.ntmps152 ?_
 rintro ⟨t, f, blocks⟩ y cx G hm
 have hm : zq49 t f blocks = some y := hm
 unfold zq49 at hm
 refine rg G ?_
 obtain ⟨r, h, hm⟩ := obind hm
 refine jn hm (fun v => ⟨[(6, dV v)], [], 32⟩) (fun v hm => ?_) ?_
 ·rcases bf hm with ⟨hb, hm⟩ | ⟨hb, hm⟩
  ·obtain ⟨r1, h1, hm⟩ := obind hm
   refine re G (hC 2 (zq39_c h) (hO 3 (.b true) (hP hb (hC 7 (zq41_c h1) h0)))) ?_
   exact wJ G hm
  ·refine re G (hC 2 (zq39_c h) (hO 3 (.b false) (hP hb h0))) ?_
   exact wJ G hm
 rintro v hm
 cases hm
 exact rt [] []
noncomputable def zq52_M : MS (Timetable × (List Delay)) Bool := ⟨.x .r .r, fun x => zq52 x.1 x.2, fun y => dV y, fun _ => [], fun _ _ => []⟩
theorem zq52_c {t list y} (hm : zq52 t list = some y) : zq52_M.C (t, list) y := zq52_M.c (t, list) hm
theorem zq52_ok : FnOK Tryz.prog 80 zq52_M.S := by
 refine fm tt zq52_M [fo zq107_ok, fo zq87_ok] Tryz.call80 Tryz.func80 rfl Tryz.results80 Tryz.ntmps80 ?_
 rintro ⟨t, list⟩ y cx G hm
 have hm : zq52 t list = some y := hm
 unfold zq52 at hm
 refine rg G (Ok_seq (rg G (tF hm (fun _ => ⟨[], [], 32⟩) (fun v2 hr hm => ?_) ?_)))
 ·refine Ok_block (lp G hm (fun v => ⟨[(1, dV list), (2, .ref 16 0), (5, dV v)], [bX 16 [dV t.Network.Stops, dV t.Network.Lines, dV t.Trips]], 48⟩) ?_)
  rintro v r0 hb hm
  rw [zq52_L1] at hm
  refine Ok_seq (rs G (hN 2 list h0) ?_)
  refine cd hm (fun hm => ?_) (fun hm => ?_)
  ·refine X_skip (thN (Ok_seq (Ok_block ?_)))
   obtain ⟨e4, h6, hm⟩ := obind hm
   obtain ⟨r2, h7, hm⟩ := obind hm
   refine jn hm (fun v1 => ⟨[(1, dV list), (2, .ref 16 0), (5, dV v), (46, dV v1)], [bX 16 [dV t.Network.Stops, dV t.Network.Lines, dV t.Trips]], 48⟩) (fun v1 hm => ?_) ?_
   ·rcases bf hm with ⟨hb1, hm⟩ | ⟨hb1, hm⟩
    ·refine de G [] (hD 3 h6 (hC 6 (zq107_c h7) (hO 8 (.b true) (hP hb1 h0)))) ?_
     exact wJ G hm
    ·obtain ⟨e5, h8, hm⟩ := obind hm
     obtain ⟨r3, h9, hm⟩ := obind hm
     rcases bf hm with ⟨hb2, hm⟩ | ⟨hb2, hm⟩
     ·refine de G [] (hD 3 h6 (hC 6 (zq107_c h7) (hO 8 (.b false) (hP hb1 (hD 11 h8 (hC 14 (zq87_c h9) (hO 17 (.b true) (hP hb2 h0)))))))) ?_
      exact wJ G hm
     ·rcases bf hm with ⟨hb3, hm⟩ | ⟨hb3, hm⟩
      ·obtain ⟨e6, h10, hm⟩ := obind hm
       obtain ⟨e7, h11, hm⟩ := obind hm
       refine de G [] (hD 3 h6 (hC 6 (zq107_c h7) (hO 8 (.b false) (hP hb1 (hD 11 h8 (hC 14 (zq87_c h9) (hO 17 (.b false) (hP hb2 (hO 20 (.b true) (hP hb3 (hD 24 h10 (hD 29 h11 h0)))))))))))) ?_
       exact wJ G hm
      ·refine de G [] (hD 3 h6 (hC 6 (zq107_c h7) (hO 8 (.b false) (hP hb1 (hD 11 h8 (hC 14 (zq87_c h9) (hO 17 (.b false) (hP hb2 (hO 20 (.b false) (hP hb3 h0)))))))))) ?_
       exact wJ G hm
   rintro v1 hm
   refine cd hm (fun hm => ?_) (fun hm => ?_)
   ·refine rg G ?_
    have hm := eL hm hb hr
    cases hm
    exact rt [] []
   ·exact X_skip (ibN (thN (rh G (wL G hm))))
  ·exact Ok_exit (thE (thE (ibE (wE G hm hb))))
 rintro ⟨⟩ hm s hw
 refine thN (Ok_weak hw ?_)
 refine rg G ?_
 cases hm
 exact rt [] []
noncomputable def zq50_M : MS (Timetable × Fleet × (List (List Int)) × (List Delay)) Bool := ⟨.x .r (.x .r (.x .r .r)), fun x => zq50 x.1 x.2.1 x.2.2.1 x.2.2.2, fun y => dV y, fun _ => [], fun _ _ => []⟩
theorem zq50_c {t f blocks list y} (hm : zq50 t f blocks list = some y) : zq50_M.C (t, f, blocks, list) y := zq50_M.c (t, f, blocks, list) hm
theorem zq50_ok : FnOK Tryz.prog 76 zq50_M.S := by
 refine fm tt zq50_M [fo zq49_ok, fo zq52_ok] Tryz.call76 Tryz.func76 rfl Tryz.results76 Tryz.ntmps76 ?_
 rintro ⟨t, f, blocks, list⟩ y cx G hm
 have hm : zq50 t f blocks list = some y := hm
 unfold zq50 at hm
 refine rg G ?_
 obtain ⟨r, h, hm⟩ := obind hm
 refine jn hm (fun v => ⟨[(8, dV v)], [], 32⟩) (fun v hm => ?_) ?_
 ·rcases bf hm with ⟨hb, hm⟩ | ⟨hb, hm⟩
  ·obtain ⟨r1, h1, hm⟩ := obind hm
   refine re G (hC 3 (zq49_c h) (hO 4 (.b true) (hP hb (hC 7 (zq52_c h1) h0)))) ?_
   exact wJ G hm
  ·refine re G (hC 3 (zq49_c h) (hO 4 (.b false) (hP hb h0))) ?_
   exact wJ G hm
 rintro v hm
 cases hm
 exact rt [] []
noncomputable def zq59_M : MS (Timetable × (List Int)) Bool := ⟨.x .r .r, fun x => zq59 x.1 x.2, fun y => dV y, fun _ => [], fun _ _ => []⟩
theorem zq59_c {t list y} (hm : zq59 t list = some y) : zq59_M.C (t, list) y := zq59_M.c (t, list) hm
theorem zq59_ok : FnOK Tryz.prog 207 zq59_M.S := by
 refine fm tt zq59_M [fo zq107_ok] Tryz.call207 Tryz.func207 rfl Tryz.results207 Tryz.ntmps207 ?_
 rintro ⟨t, list⟩ y cx G hm
 have hm : zq59 t list = some y := hm
 unfold zq59 at hm
 refine rg G (Ok_seq (rg G (tF hm (fun _ => ⟨[], [], 32⟩) (fun v2 hr hm => ?_) ?_)))
 ·refine Ok_block (lp G hm (fun v => ⟨[(1, dV list), (2, .ref 16 0), (5, dV v)], [bX 16 [dV t.Network.Stops, dV t.Network.Lines, dV t.Trips]], 48⟩) ?_)
  rintro v r0 hb hm
  rw [zq59_L1] at hm
  refine Ok_seq (rs G (hN 2 list h0) ?_)
  refine cd hm (fun hm => ?_) (fun hm => ?_)
  ·refine X_skip (thN (Ok_seq (Ok_block ?_)))
   obtain ⟨e3, h4, hm⟩ := obind hm
   obtain ⟨r1, h5, hm⟩ := obind hm
   refine jn hm (fun v1 => ⟨[(1, dV list), (2, .ref 16 0), (5, dV v), (34, dV v1)], [bX 16 [dV t.Network.Stops, dV t.Network.Lines, dV t.Trips]], 48⟩) (fun v1 hm => ?_) ?_
   ·rcases bf hm with ⟨hb1, hm⟩ | ⟨hb1, hm⟩
    ·refine de G [] (hD 3 h4 (hC 5 (zq107_c h5) (hO 7 (.b true) (hP hb1 h0)))) ?_
     exact wJ G hm
    ·rcases bf hm with ⟨hb2, hm⟩ | ⟨hb2, hm⟩
     ·obtain ⟨e4, h6, hm⟩ := obind hm
      obtain ⟨e5, h7, hm⟩ := obind hm
      refine de G [] (hD 3 h4 (hC 5 (zq107_c h5) (hO 7 (.b false) (hP hb1 (hO 10 (.b true) (hP hb2 (hD 14 h6 (hD 18 h7 h0)))))))) ?_
      exact wJ G hm
     ·refine de G [] (hD 3 h4 (hC 5 (zq107_c h5) (hO 7 (.b false) (hP hb1 (hO 10 (.b false) (hP hb2 h0)))))) ?_
      exact wJ G hm
   rintro v1 hm
   refine cd hm (fun hm => ?_) (fun hm => ?_)
   ·refine rg G ?_
    have hm := eL hm hb hr
    cases hm
    exact rt [] []
   ·exact X_skip (ibN (thN (rh G (wL G hm))))
  ·exact Ok_exit (thE (thE (ibE (wE G hm hb))))
 rintro ⟨⟩ hm s hw
 refine thN (Ok_weak hw ?_)
 refine rg G ?_
 cases hm
 exact rt [] []
noncomputable def zq57_M : MS ((List Int) × (List Int)) ((List Int)) := ⟨.x .r .r, fun x => zq57 x.1 x.2, fun _ => .own 0, fun y => [arO 3 y], fun _ _ => []⟩
theorem zq57_c {block cancelled y} (hm : zq57 block cancelled = some y) : zq57_M.C (block, cancelled) y := zq57_M.c (block, cancelled) hm
theorem zq57_ok : FnOK Tryz.prog 174 zq57_M.S := by
 refine fm tt zq57_M [fo zq86_ok] Tryz.call174 Tryz.func174 rfl Tryz.results174 Tryz.ntmps174 ?_
 rintro ⟨block, cancelled⟩ y cx G hm
 have hm : zq57 block cancelled = some y := hm
 unfold zq57 at hm
 refine rg G (rg G (Ok_seq (rg G (tl hm (fun v3 => ⟨[(5, .own 16)], [aX 16 3 v3], 48⟩) (fun v3 hm => ?_) ?_))))
 ·refine Ok_block (lp G hm (fun (v, v1) => ⟨[(0, dV block), (1, dV cancelled), (5, .own 16), (6, dV v)], [aX 16 3 v1], 48⟩) ?_)
  rintro ⟨v, v1⟩ r0 hb hm
  rw [zq57_L1] at hm
  refine Ok_seq (rs G (hN 2 block h0) ?_)
  refine cd hm (fun hm => ?_) (fun hm => ?_)
  ·refine X_skip (thN (jn hm (fun v2 => ⟨[(0, dV block), (1, dV cancelled), (5, .own 16), (6, dV v)], [aX 16 3 v2], 48⟩) (fun v2 hm => ?_) ?_))
   ·refine Ok_block ?_
    obtain ⟨e, h, hm⟩ := obind hm
    obtain ⟨r, h1, hm⟩ := obind hm
    refine rs G (hD 3 h (hC 5 (zq86_c h1) h0)) ?_
    refine cd hm (fun hm => ?_) (fun hm => ?_)
    ·obtain ⟨e1, h2, hm⟩ := obind hm
     obtain ⟨u, h3, hm⟩ := obind hm
     refine re G (hD 3 h2 (hA 6 8 h3 h0)) ?_
     exact ibN (wJ G hm)
    ·exact X_skip (ibN (wJ G hm))
   rintro v2 hm
   exact rh G (wL G hm)
  ·exact Ok_exit (thE (thE (ibE (wD G hm hb))))
 rintro v3 hm s hw
 refine thN (Ok_weak hw ?_)
 refine rg G ?_
 cases hm
 exact rt [16] []
noncomputable def zq56_M : MS (Timetable × Fleet × (List Int)) Bool := ⟨.x .r (.x .r .r), fun x => zq56 x.1 x.2.1 x.2.2, fun y => dV y, fun _ => [], fun _ _ => []⟩
theorem zq56_c {t f list y} (hm : zq56 t f list = some y) : zq56_M.C (t, f, list) y := zq56_M.c (t, f, list) hm
theorem zq56_ok : FnOK Tryz.prog 175 zq56_M.S := by
 refine fm tt zq56_M [fo zq107_ok, fo zq47_ok] Tryz.call175 Tryz.func175 rfl Tryz.results175 Tryz.ntmps175 ?_
 rintro ⟨t, f, list⟩ y cx G hm
 have hm : zq56 t f list = some y := hm
 unfold zq56 at hm
 refine rg G (Ok_seq (rg G (tF hm (fun _ => ⟨[], [], 32⟩) (fun v1 hr hm => ?_) ?_)))
 ·refine Ok_block (lp G hm (fun v => ⟨[(2, dV list), (3, .ref 16 0), (4, .ref 32 0), (7, dV v)], [bX 16 [dV t.Network.Stops, dV t.Network.Lines, dV t.Trips], bX 32 [dV f.Dead, dV f.Turn]], 64⟩) ?_)
  rintro v r0 hb hm
  rw [zq56_L1] at hm
  refine Ok_seq (rs G (hN 2 list h0) ?_)
  refine cd hm (fun hm => ?_) (fun hm => ?_)
  ·refine X_skip (thN (Ok_seq (Ok_block ?_)))
   obtain ⟨e2, h5, hm⟩ := obind hm
   obtain ⟨r3, h6, hm⟩ := obind hm
   obtain ⟨e3, h7, hm⟩ := obind hm
   obtain ⟨r4, h8, hm⟩ := obind hm
   obtain ⟨r5, h9, hm⟩ := obind hm
   refine ds G [] (hD 6 h5 (hC 8 (zq107_c h6) (hD 12 h7 (hC 14 (zq107_c h8) (hC 15 (zq47_c h9) h0))))) ?_
   refine cd hm (fun hm => ?_) (fun hm => ?_)
   ·refine rg G ?_
    have hm := eL hm hb hr
    cases hm
    exact rt [] []
   ·exact X_skip (ibN (thN (rh G (wL G hm))))
  ·exact Ok_exit (thE (thE (ibE (wE G hm hb))))
 rintro ⟨⟩ hm s hw
 refine thN (Ok_weak hw ?_)
 refine rg G ?_
 cases hm
 exact rt [] []
noncomputable def zq60_M : MS (Timetable × Fleet × (List (List Int)) × (List Int)) Bool := ⟨.x .r (.x .r (.x .r .r)), fun x => zq60 x.1 x.2.1 x.2.2.1 x.2.2.2, fun y => dV y, fun _ => [], fun _ _ => []⟩
theorem zq60_c {t f blocks cancelled y} (hm : zq60 t f blocks cancelled = some y) : zq60_M.C (t, f, blocks, cancelled) y := zq60_M.c (t, f, blocks, cancelled) hm
theorem zq60_ok : FnOK Tryz.prog 148 zq60_M.S := by
 refine fm tt zq60_M [fo zq59_ok, fo zq57_ok, fo zq56_ok] Tryz.call148 Tryz.func148 rfl Tryz.results148 Tryz.ntmps148 ?_
 rintro ⟨t, f, blocks, cancelled⟩ y cx G hm
 have hm : zq60 t f blocks cancelled = some y := hm
 unfold zq60 at hm
 refine rg G (Ok_seq ?_)
 obtain ⟨r, h, hm⟩ := obind hm
 refine rs G (hC 2 (zq59_c h) h0) ?_
 refine cd hm (fun hm => ?_) (fun hm => ?_)
 ·refine rg G ?_
  cases hm
  exact rt [] []
 ·refine X_skip (thN (Ok_seq (rg G (tF hm (fun _ => ⟨[], [], 32⟩) (fun v1 hr hm => ?_) ?_))))
  ·refine Ok_block (lp G hm (fun v => ⟨[(2, dV blocks), (3, dV cancelled), (4, .ref 16 0), (5, .ref 32 0), (9, dV v)], [bX 16 [dV t.Network.Stops, dV t.Network.Lines, dV t.Trips], bX 32 [dV f.Dead, dV f.Turn]], 64⟩) ?_)
   rintro v r0 hb hm
   rw [zq60_L1] at hm
   refine Ok_seq (rs G (hN 2 blocks h0) ?_)
   refine cd hm (fun hm => ?_) (fun hm => ?_)
   ·refine X_skip (thN (Ok_seq (Ok_block ?_)))
    obtain ⟨e1, h4, hm⟩ := obind hm
    obtain ⟨r3, h5, hm⟩ := obind hm
    obtain ⟨r4, h6, hm⟩ := obind hm
    refine ds G [] (hD 4 h4 (hC 7 (zq57_c h5) (hC 8 (zq56_c h6) h0))) ?_
    refine cd hm (fun hm => ?_) (fun hm => ?_)
    ·refine rg G ?_
     have hm := eL hm hb hr
     cases hm
     exact rt [] []
    ·exact X_skip (ibN (thN (rh G (wL G hm))))
   ·exact Ok_exit (thE (thE (ibE (wE G hm hb))))
  rintro ⟨⟩ hm s hw
  refine thN (Ok_weak hw ?_)
  refine rg G ?_
  cases hm
  exact rt [] []
noncomputable def zq54_M : MS (Timetable × Fleet × (List (List Int)) × (List Delay) × (List Int)) Bool := ⟨.x .r (.x .r (.x .r (.x .r .r))), fun x => zq54 x.1 x.2.1 x.2.2.1 x.2.2.2.1 x.2.2.2.2, fun y => dV y, fun _ => [], fun _ _ => []⟩
theorem zq54_c {t f blocks list cancelled y} (hm : zq54 t f blocks list cancelled = some y) : zq54_M.C (t, f, blocks, list, cancelled) y := zq54_M.c (t, f, blocks, list, cancelled) hm
theorem zq54_ok : FnOK Tryz.prog 68 zq54_M.S := by
 refine fm tt zq54_M [fo zq50_ok, fo zq60_ok] Tryz.call68 Tryz.func68 rfl Tryz.results68 Tryz.ntmps68 ?_
 rintro ⟨t, f, blocks, list, cancelled⟩ y cx G hm
 have hm : zq54 t f blocks list cancelled = some y := hm
 unfold zq54 at hm
 refine rg G ?_
 obtain ⟨r, h, hm⟩ := obind hm
 refine jn hm (fun v => ⟨[(10, dV v)], [], 32⟩) (fun v hm => ?_) ?_
 ·rcases bf hm with ⟨hb, hm⟩ | ⟨hb, hm⟩
  ·obtain ⟨r1, h1, hm⟩ := obind hm
   refine re G (hC 4 (zq50_c h) (hO 5 (.b true) (hP hb (hC 10 (zq60_c h1) h0)))) ?_
   exact wJ G hm
  ·refine re G (hC 4 (zq50_c h) (hO 5 (.b false) (hP hb h0))) ?_
   exact wJ G hm
 rintro v hm
 cases hm
 exact rt [] []
noncomputable def zq58_M : MS ((List (List Int)) × (List Int)) ((List (List Int))) := ⟨.x .r .r, fun x => zq58 x.1 x.2, fun _ => .own 0, fun y => [arO 35 y], fun _ _ => []⟩
theorem zq58_c {blocks cancelled y} (hm : zq58 blocks cancelled = some y) : zq58_M.C (blocks, cancelled) y := zq58_M.c (blocks, cancelled) hm
theorem zq58_ok : FnOK Tryz.prog 149 zq58_M.S := by
 refine fm tt zq58_M [fo zq57_ok] Tryz.call149 Tryz.func149 rfl Tryz.results149 Tryz.ntmps149 ?_
 rintro ⟨blocks, cancelled⟩ y cx G hm
 have hm : zq58 blocks cancelled = some y := hm
 unfold zq58 at hm
 refine rg G (rg G (Ok_seq (rg G (tl hm (fun v2 => ⟨[(5, .own 16)], [aX 16 35 v2], 48⟩) (fun v2 hm => ?_) ?_))))
 ·refine Ok_block (lp G hm (fun (v, v1) => ⟨[(0, dV blocks), (1, dV cancelled), (5, .own 16), (6, dV v)], [aX 16 35 v1], 48⟩) ?_)
  rintro ⟨v, v1⟩ r0 hb hm
  rw [zq58_L1] at hm
  refine Ok_seq (rs G (hN 2 blocks h0) ?_)
  refine cd hm (fun hm => ?_) (fun hm => ?_)
  ·refine X_skip (thN (Ok_seq (Ok_block ?_)))
   obtain ⟨e, h, hm⟩ := obind hm
   obtain ⟨r, h1, hm⟩ := obind hm
   obtain ⟨u, h2, hm⟩ := obind hm
   refine re G (hD 3 h (hC 6 (zq57_c h1) (hO 7 (.fz [208] [] []) (hA 8 24 h2 h0)))) ?_
   exact ibN (thN (rh G (wL G hm)))
  ·exact Ok_exit (thE (thE (ibE (wD G hm hb))))
 rintro v2 hm s hw
 refine thN (Ok_weak hw ?_)
 refine rg G ?_
 cases hm
 exact rt [16] []
noncomputable def zq53_M : MS ((List Delay) × Int) Int := ⟨.x .r .r, fun x => zq53 x.1 x.2, fun y => dV y, fun _ => [], fun _ _ => []⟩
theorem zq53_c {list id y} (hm : zq53 list id = some y) : zq53_M.C (list, id) y := zq53_M.c (list, id) hm
theorem zq53_ok : FnOK Tryz.prog 155 zq53_M.S := by
 refine fm tt zq53_M [] Tryz.call155 Tryz.func155 rfl Tryz.results155 Tryz.ntmps155 ?_
 rintro ⟨list, id⟩ y cx G hm
 have hm : zq53 list id = some y := hm
 unfold zq53 at hm
 refine rg G (Ok_seq (rg G (tF hm (fun _ => ⟨[], [], 32⟩) (fun v1 hr hm => ?_) ?_)))
 ·refine Ok_block (lp G hm (fun v => ⟨[(0, dV list), (1, dV id), (5, dV v)], [], 32⟩) ?_)
  rintro v r0 hb hm
  rw [zq53_L1] at hm
  refine Ok_seq (rs G (hN 2 list h0) ?_)
  refine cd hm (fun hm => ?_) (fun hm => ?_)
  ·refine X_skip (thN (Ok_seq (Ok_block ?_)))
   obtain ⟨e, h, hm⟩ := obind hm
   refine rs G (hD 2 h h0) ?_
   refine cd hm (fun hm => ?_) (fun hm => ?_)
   ·obtain ⟨e1, h1, hm⟩ := obind hm
    refine rs G (hD 2 h1 h0) ?_
    have hm := eL hm hb hr
    cases hm
    exact rt [] []
   ·exact X_skip (ibN (thN (rh G (wL G hm))))
  ·exact Ok_exit (thE (thE (ibE (wE G hm hb))))
 rintro ⟨⟩ hm s hw
 refine thN (Ok_weak hw ?_)
 refine rg G ?_
 cases hm
 exact rt [] []
noncomputable def zq51_M : MS (Timetable × Fleet × (List (List Int)) × (List Delay)) ((List Int)) := ⟨.x .r (.x .r (.x .r .r)), fun x => zq51 x.1 x.2.1 x.2.2.1 x.2.2.2, fun _ => .own 0, fun y => [arO 3 y], fun _ _ => []⟩
theorem zq51_c {t f blocks list y} (hm : zq51 t f blocks list = some y) : zq51_M.C (t, f, blocks, list) y := zq51_M.c (t, f, blocks, list) hm
theorem zq51_ok : FnOK Tryz.prog 77 zq51_M.S := by
 refine fm tt zq51_M [fo zq107_ok, fo zq106_ok, fo zq45_ok, fo zq89_ok, fo zq53_ok] Tryz.call77 Tryz.func77 rfl Tryz.results77 Tryz.ntmps77 ?_
 rintro ⟨t, f, blocks, list⟩ y cx G hm
 have hm : zq51 t f blocks list = some y := hm
 unfold zq51 at hm
 refine rg G ?_
 obtain ⟨u, h, hm⟩ := obind hm
 refine rs G (hN 2 t.Trips (hO 3 (.l (List.map Enc.e (List.replicate (t.Trips.length : Int).toNat (0 : Int)))) (hP (mk_p (b := 8) (chk_t h) rfl) (hP (rep_m Enc.e (t.Trips.length : Int).toNat (0 : Int)) h0)))) ?_
 refine Ok_seq (rg G (tl hm (fun start3 => ⟨[(9, .own 16)], [aX 16 3 start3], 48⟩) (fun start3 hm => ?_) ?_))
 ·refine Ok_block (lp G hm (fun (before, start) => ⟨[(2, dV blocks), (3, dV list), (4, .ref 16 0), (5, .ref 32 0), (9, .own 48), (10, dV before)], [bX 16 [dV t.Network.Stops, dV t.Network.Lines, dV t.Trips], bX 32 [dV f.Dead, dV f.Turn], aX 48 3 start], 80⟩) ?_)
  rintro ⟨before, start⟩ r0 hb hm
  rw [zq51_L2] at hm
  refine Ok_seq (rs G (hN 2 blocks h0) ?_)
  refine cd hm (fun hm => ?_) (fun hm => ?_)
  ·refine X_skip (thN (Ok_seq (Ok_block (rg G (tl hm (fun start2 => ⟨[(2, dV blocks), (3, dV list), (4, .ref 16 0), (5, .ref 32 0), (9, .own 48), (10, dV before)], [bX 16 [dV t.Network.Stops, dV t.Network.Lines, dV t.Trips], bX 32 [dV f.Dead, dV f.Turn], aX 48 3 start2], 80⟩) (fun start2 hm => ?_) ?_)))))
   ·refine Ok_block (lp G hm (fun (v, start1) => ⟨[(2, dV blocks), (3, dV list), (4, .ref 16 0), (5, .ref 32 0), (9, .own 48), (10, dV before), (11, dV v)], [bX 16 [dV t.Network.Stops, dV t.Network.Lines, dV t.Trips], bX 32 [dV f.Dead, dV f.Turn], aX 48 3 start1], 80⟩) ?_)
    rintro ⟨v, start1⟩ r0 hb1 hm
    rw [zq51_L1] at hm
    refine Ok_seq ?_
    obtain ⟨e, h1, hm⟩ := obind hm
    refine rs G (hD 3 h1 (hN 5 e h0)) ?_
    refine cd hm (fun hm => ?_) (fun hm => ?_)
    ·refine X_skip (thN (Ok_seq (Ok_block ?_)))
     obtain ⟨e3, h5, hm⟩ := obind hm
     obtain ⟨e4, h6, hm⟩ := obind hm
     obtain ⟨r1, h7, hm⟩ := obind hm
     refine ds G [] (hD 3 h5 (hD 6 h6 (hC 8 (zq107_c h7) h0))) ?_
     obtain ⟨e5, h8, hm⟩ := obind hm
     refine rs G (hD 3 h8 h0) ?_
     refine jn hm (fun v1 => ⟨[(2, dV blocks), (3, dV list), (4, .ref 16 0), (5, .ref 32 0), (9, .own 48), (10, dV before), (11, dV v), (12, dV r1), (13, dV v1)], [bX 16 [dV t.Network.Stops, dV t.Network.Lines, dV t.Trips], bX 32 [dV f.Dead, dV f.Turn], aX 48 3 start1], 80⟩) (fun v1 hm => ?_) ?_
     ·refine rg G (cd hm (fun hm => ?_) (fun hm => ?_))
      ·obtain ⟨e8, h12, hm⟩ := obind hm
       obtain ⟨e9, h13, hm⟩ := obind hm
       obtain ⟨r3, h14, hm⟩ := obind hm
       refine ds G [] (hD 3 h12 (hD 7 h13 (hC 9 (zq107_c h14) h0))) ?_
       obtain ⟨r7, h19, hm⟩ := obind hm
       obtain ⟨e11, h20, hm⟩ := obind hm
       obtain ⟨r8, h21, hm⟩ := obind hm
       obtain ⟨r9, h22, hm⟩ := obind hm
       refine de G [] (hC 3 (zq106_c h19) (hD 6 h20 (hE 7 h20 (hC 16 (zq45_c h21) (hC 18 (zq89_c h22) h0))))) ?_
       exact wJ G hm
      ·exact X_skip (wJ G hm)
     rintro v1 hm
     obtain ⟨e16, h28, hm⟩ := obind hm
     obtain ⟨e17, h29, hm⟩ := obind hm
     obtain ⟨r11, h30, hm⟩ := obind hm
     obtain ⟨e18, h31, hm⟩ := obind hm
     obtain ⟨e19, h32, hm⟩ := obind hm
     refine de G [(21, [48])] (hD 6 h28 (hD 9 h29 (hC 11 (zq53_c h30) (hD 16 h31 (hD 20 h32 (hS 21 h32 (w64 ((w64 (v1 + r11)) - e18.Start)) h0)))))) ?_
     exact ibN (thN (rh G (wL G hm)))
    ·exact Ok_exit (thE (thE (ibE (wD G hm hb1))))
   rintro start2 hm s hw
   refine ibN (thN (Ok_weak hw ?_))
   exact rh G (wL G hm)
  ·exact Ok_exit (thE (thE (ibE (wD G hm hb))))
 rintro start3 hm s1 hw1
 refine thN (Ok_weak hw1 ?_)
 refine rg G ?_
 cases hm
 exact rt [16] []
noncomputable def zq55_M : MS (Timetable × Fleet × (List (List Int)) × (List Delay) × (List Int)) ((List Int)) := ⟨.x .r (.x .r (.x .r (.x .r .r))), fun x => zq55 x.1 x.2.1 x.2.2.1 x.2.2.2.1 x.2.2.2.2, fun _ => .own 0, fun y => [arO 3 y], fun _ _ => []⟩
theorem zq55_c {t f blocks list cancelled y} (hm : zq55 t f blocks list cancelled = some y) : zq55_M.C (t, f, blocks, list, cancelled) y := zq55_M.c (t, f, blocks, list, cancelled) hm
theorem zq55_ok : FnOK Tryz.prog 69 zq55_M.S := by
 refine fm tt zq55_M [fo zq58_ok, fo zq51_ok, fo zq86_ok] Tryz.call69 Tryz.func69 rfl Tryz.results69 Tryz.ntmps69 ?_
 rintro ⟨t, f, blocks, list, cancelled⟩ y cx G hm
 have hm : zq55 t f blocks list cancelled = some y := hm
 unfold zq55 at hm
 refine rg G ?_
 obtain ⟨r2, h2, hm⟩ := obind hm
 obtain ⟨r3, h3, hm⟩ := obind hm
 refine ds G [] (hC 4 (zq58_c h2) (hF 6 (zq51_c h3) ⟨(flat_cons flat_arr flat_nil), flat_nil⟩ h0)) ?_
 refine Ok_seq (rg G (tl hm (fun v3 => ⟨[(11, .own 16)], [aX 16 3 v3], 48⟩) (fun v3 hm => ?_) ?_))
 ·refine Ok_block (lp G hm (fun (v, v1) => ⟨[(4, dV cancelled), (5, .ref 16 0), (11, .own 32), (12, dV v)], [bX 16 [dV t.Network.Stops, dV t.Network.Lines, dV t.Trips], aX 32 3 v1], 64⟩) ?_)
  rintro ⟨v, v1⟩ r0 hb hm
  rw [zq55_L1] at hm
  refine Ok_seq (rs G (hN 2 v1 h0) ?_)
  refine cd hm (fun hm => ?_) (fun hm => ?_)
  ·refine X_skip (thN (jn hm (fun v2 => ⟨[(4, dV cancelled), (5, .ref 16 0), (11, .own 32), (12, dV v)], [bX 16 [dV t.Network.Stops, dV t.Network.Lines, dV t.Trips], aX 32 3 v2], 64⟩) (fun v2 hm => ?_) ?_))
   ·refine Ok_block ?_
    obtain ⟨e, h4, hm⟩ := obind hm
    obtain ⟨r4, h5, hm⟩ := obind hm
    refine rs G (hD 4 h4 (hC 7 (zq86_c h5) h0)) ?_
    refine cd hm (fun hm => ?_) (fun hm => ?_)
    ·obtain ⟨e1, h6, hm⟩ := obind hm
     refine re G (hD 2 h6 (hS 3 h6 (-1) h0)) ?_
     exact ibN (wJ G hm)
    ·exact X_skip (ibN (wJ G hm))
   rintro v2 hm
   exact rh G (wL G hm)
  ·exact Ok_exit (thE (thE (ibE (wD G hm hb))))
 rintro v3 hm s hw
 refine thN (Ok_weak hw ?_)
 refine rg G ?_
 cases hm
 exact rt [16] []
noncomputable def zq37_M : MS (Timetable × Fleet × (List (List Int)) × (List Delay) × (List Int)) ((List Int) × Bool) := ⟨.x .r (.x .r (.x .r (.x .r .r))), fun x => zq37 x.1 x.2.1 x.2.2.1 x.2.2.2.1 x.2.2.2.2, fun y => .tup [.own 0, dV y.2], fun y => [arO 3 y.1], fun _ _ => []⟩
theorem zq37_c {t f blocks list cancelled y} (hm : zq37 t f blocks list cancelled = some y) : zq37_M.C (t, f, blocks, list, cancelled) y := zq37_M.c (t, f, blocks, list, cancelled) hm
theorem zq37_ok : FnOK Tryz.prog 12 zq37_M.S := by
 refine fm tt zq37_M [fo zq54_ok, fo zq55_ok] Tryz.call12 Tryz.func12 rfl Tryz.results12 Tryz.ntmps12 ?_
 rintro ⟨t, f, blocks, list, cancelled⟩ y cx G hm
 have hm : zq37 t f blocks list cancelled = some y := hm
 unfold zq37 at hm
 refine rg G (Ok_seq ?_)
 obtain ⟨r, h, hm⟩ := obind hm
 refine rs G (hC 5 (zq54_c h) h0) ?_
 refine cd hm (fun hm => ?_) (fun hm => ?_)
 ·refine rg G ?_
  cases hm
  exact rt [192] []
 ·refine X_skip (thN ?_)
  obtain ⟨r1, h1, hm⟩ := obind hm
  refine rs G (hC 5 (zq55_c h1) h0) ?_
  cases hm
  exact rt [272] []
noncomputable def zq118_M : MS ((List Int) × (List Int)) Bool := ⟨.x .r .r, fun x => zq118 x.1 x.2, fun y => dV y, fun _ => [], fun _ _ => []⟩
theorem zq118_c {a b y} (hm : zq118 a b = some y) : zq118_M.C (a, b) y := zq118_M.c (a, b) hm
theorem zq118_ok : FnOK Tryz.prog 13 zq118_M.S := by
 refine fm tt zq118_M [] Tryz.call13 Tryz.func13 rfl Tryz.results13 Tryz.ntmps13 ?_
 rintro ⟨a, b⟩ y cx G hm
 have hm : zq118 a b = some y := hm
 unfold zq118 at hm
 refine rg G (Ok_seq (rs G (hN 1 a (hN 3 b h0)) ?_))
 refine cd hm (fun hm => ?_) (fun hm => ?_)
 ·refine rg G ?_
  cases hm
  exact rt [] []
 ·refine X_skip (thN (Ok_seq (rg G (tF hm (fun _ => ⟨[], [], 32⟩) (fun v1 hr hm => ?_) ?_))))
  ·refine Ok_block (lp G hm (fun v => ⟨[(0, dV a), (1, dV b), (5, dV v)], [], 32⟩) ?_)
   rintro v r0 hb hm
   rw [zq118_L1] at hm
   refine Ok_seq (rs G (hN 2 a h0) ?_)
   refine cd hm (fun hm => ?_) (fun hm => ?_)
   ·refine X_skip (thN (Ok_seq (Ok_block ?_)))
    obtain ⟨e2, h2, hm⟩ := obind hm
    obtain ⟨e3, h3, hm⟩ := obind hm
    refine ds G [] (hD 2 h2 (hD 6 h3 h0)) ?_
    refine cd hm (fun hm => ?_) (fun hm => ?_)
    ·refine rg G ?_
     have hm := eL hm hb hr
     cases hm
     exact rt [] []
    ·exact X_skip (ibN (thN (rh G (wL G hm))))
   ·exact Ok_exit (thE (thE (ibE (wE G hm hb))))
  rintro ⟨⟩ hm s hw
  refine thN (Ok_weak hw ?_)
  refine rg G ?_
  cases hm
  exact rt [] []
noncomputable def zq6_M : MS (Timetable × Fleet × (List (List Int)) × (List Int)) ((List (List Int)) × Bool) := ⟨.x .r (.x .r (.x .r .r)), fun x => zq6 x.1 x.2.1 x.2.2.1 x.2.2.2, fun y => .tup [dV y.1, dV y.2], fun _ => [], fun _ _ => []⟩
theorem zq6_c {t f blocks cancelled y} (hm : zq6 t f blocks cancelled = some y) : zq6_M.C (t, f, blocks, cancelled) y := zq6_M.c (t, f, blocks, cancelled) hm
theorem zq6_ok : FnOK Tryz.prog 14 zq6_M.S := by
 refine fm tt zq6_M [fo zq1_ok, fo zq27_ok] Tryz.call14 Tryz.func14 rfl Tryz.results14 Tryz.ntmps14 ?_
 rintro ⟨t, f, blocks, cancelled⟩ y cx G hm
 have hm : zq6 t f blocks cancelled = some y := hm
 unfold zq6 at hm
 refine rg G (Ok_seq ?_)
 obtain ⟨r, h, hm⟩ := obind hm
 refine rs G (hC 4 (zq1_c h) h0) ?_
 refine cd hm (fun hm => ?_) (fun hm => ?_)
 ·refine rg G ?_
  cases hm
  exact rt [] [[.z 1]]
 ·refine X_skip (thN ?_)
  obtain ⟨r1, h1, hm⟩ := obind hm
  refine rs G (hC 2 (zq27_c h1) h0) ?_
  cases hm
  exact rt [] []
noncomputable def zq117_M : MS ((List Int) × Int) Bool := ⟨.x .r .r, fun x => zq117 x.1 x.2, fun y => dV y, fun _ => [], fun _ _ => []⟩
theorem zq117_c {l x y} (hm : zq117 l x = some y) : zq117_M.C (l, x) y := zq117_M.c (l, x) hm
theorem zq117_ok : FnOK Tryz.prog 15 zq117_M.S := by
 refine fm tt zq117_M [] Tryz.call15 Tryz.func15 rfl Tryz.results15 Tryz.ntmps15 ?_
 rintro ⟨l, x⟩ y cx G hm
 have hm : zq117 l x = some y := hm
 unfold zq117 at hm
 refine rg G (Ok_seq (rg G (tF hm (fun _ => ⟨[], [], 32⟩) (fun v1 hr hm => ?_) ?_)))
 ·refine Ok_block (lp G hm (fun v => ⟨[(0, dV l), (1, dV x), (5, dV v)], [], 32⟩) ?_)
  rintro v r0 hb hm
  rw [zq117_L1] at hm
  refine Ok_seq (rs G (hN 2 l h0) ?_)
  refine cd hm (fun hm => ?_) (fun hm => ?_)
  ·refine X_skip (thN (Ok_seq (Ok_block ?_)))
   obtain ⟨e, h, hm⟩ := obind hm
   refine rs G (hD 2 h h0) ?_
   refine cd hm (fun hm => ?_) (fun hm => ?_)
   ·refine rg G ?_
    have hm := eL hm hb hr
    cases hm
    exact rt [] []
   ·exact X_skip (ibN (thN (rh G (wL G hm))))
  ·exact Ok_exit (thE (thE (ibE (wE G hm hb))))
 rintro ⟨⟩ hm s hw
 refine thN (Ok_weak hw ?_)
 refine rg G ?_
 cases hm
 exact rt [] []
noncomputable def zq22_M : MS Int Bool := ⟨.r, zq22, fun y => dV y, fun _ => [], fun _ _ => []⟩
theorem zq22_c {penalty y} (hm : zq22 penalty = some y) : zq22_M.C penalty y := zq22_M.c penalty hm
theorem zq22_ok : FnOK Tryz.prog 71 zq22_M.S := by
 refine fm tt zq22_M [fo zq36_ok] Tryz.call71 Tryz.func71 rfl Tryz.results71 Tryz.ntmps71 ?_
 rintro penalty y cx G hm
 have hm : zq22 penalty = some y := hm
 unfold zq22 at hm
 refine rg G ?_
 obtain ⟨r, h, hm⟩ := obind hm
 refine rs G (hC 1 (zq36_c h) h0) ?_
 cases hm
 exact rt [] []
noncomputable def zq7_M : MS (Timetable × Fleet × (List (List Int)) × (List Delay) × (List Int) × (List Int) × Int) (Int × Bool) := ⟨.x .r (.x .r (.x .r (.x .r (.x .r (.x .r .r))))), fun x => zq7 x.1 x.2.1 x.2.2.1 x.2.2.2.1 x.2.2.2.2.1 x.2.2.2.2.2.1 x.2.2.2.2.2.2, fun y => .tup [dV y.1, dV y.2], fun _ => [], fun _ _ => []⟩
theorem zq7_c {t f blocks list cancelled riders wait y} (hm : zq7 t f blocks list cancelled riders wait = some y) : zq7_M.C (t, f, blocks, list, cancelled, riders, wait) y := zq7_M.c (t, f, blocks, list, cancelled, riders, wait) hm
theorem zq7_ok : FnOK Tryz.prog 16 zq7_M.S := by
 refine fm tt zq7_M [fo zq1_ok, fo zq10_ok, fo zq22_ok, fo zq14_ok, fo zq36_ok] Tryz.call16 Tryz.func16 rfl Tryz.results16 Tryz.ntmps16 ?_
 rintro ⟨t, f, blocks, list, cancelled, riders, wait⟩ y cx G hm
 have hm : zq7 t f blocks list cancelled riders wait = some y := hm
 unfold zq7 at hm
 refine rg G (Ok_seq ?_)
 obtain ⟨r, h, hm⟩ := obind hm
 refine jn hm (fun v => ⟨[(2, dV blocks), (3, dV list), (4, dV cancelled), (5, dV riders), (6, dV wait), (7, .ref 16 0), (8, .ref 32 0), (43, dV v)], [bX 16 [dV t.Network.Stops, dV t.Network.Lines, dV t.Trips], bX 32 [dV f.Dead, dV f.Turn]], 64⟩) (fun v hm => ?_) ?_
 ·rcases bf hm with ⟨hb, hm⟩ | ⟨hb, hm⟩
  ·refine re G (hC 4 (zq1_c h) (hO 6 (.b true) (hP hb h0))) ?_
   exact wJ G hm
  ·obtain ⟨r1, h1, hm⟩ := obind hm
   rcases bf hm with ⟨hb1, hm⟩ | ⟨hb1, hm⟩
   ·refine re G (hC 4 (zq1_c h) (hO 6 (.b false) (hP hb (hC 9 (zq10_c h1) (hO 12 (.b true) (hP hb1 h0)))))) ?_
    exact wJ G hm
   ·rcases bf hm with ⟨hb2, hm⟩ | ⟨hb2, hm⟩
    ·refine re G (hC 4 (zq1_c h) (hO 6 (.b false) (hP hb (hC 9 (zq10_c h1) (hO 12 (.b false) (hP hb1 (hN 14 riders (hN 17 t.Trips (hO 20 (.b true) (hP hb2 h0)))))))))) ?_
     exact wJ G hm
    ·obtain ⟨r2, h2, hm⟩ := obind hm
     refine re G (hC 4 (zq1_c h) (hO 6 (.b false) (hP hb (hC 9 (zq10_c h1) (hO 12 (.b false) (hP hb1 (hN 14 riders (hN 17 t.Trips (hO 20 (.b false) (hP hb2 (hC 22 (zq22_c h2) h0))))))))))) ?_
     exact wJ G hm
 rintro v hm
 refine cd hm (fun hm => ?_) (fun hm => ?_)
 ·refine rg G ?_
  cases hm
  exact rt [] []
 ·refine X_skip (thN (rg G (Ok_seq ?_)))
  obtain ⟨r3, h3, hm⟩ := obind hm
  refine rs G (hC 5 (zq14_c h3) (hN 6 r3 h0)) ?_
  refine tF hm (fun v4 => ⟨[(16, dV v4)], [], 32⟩) (fun v5 hr hm => ?_) ?_
  ·refine Ok_block (lp G hm (fun (v1, v2) => ⟨[(5, dV riders), (6, dV wait), (16, dV v1), (49, .own 16), (50, dV (r3.length : Int)), (51, dV v2)], [aX 16 3 r3], 48⟩) ?_)
   rintro ⟨v1, v2⟩ r0 hb3 hm
   rw [zq7_L1] at hm
   refine rg G (Ok_seq (cd hm (fun hm => ?_) (fun hm => ?_)))
   ·refine X_skip (thN (Ok_seq (Ok_block ?_)))
    obtain ⟨e, h4, hm⟩ := obind hm
    refine rs G (hD 1 h4 (hE 2 h4 h0)) ?_
    refine Ok_seq ?_
    obtain ⟨e1, h5, hm⟩ := obind hm
    obtain ⟨r4, h6, hm⟩ := obind hm
    refine rs G (hD 2 h5 (hC 4 (zq36_c h6) h0)) ?_
    refine cd hm (fun hm => ?_) (fun hm => ?_)
    ·refine rg G ?_
     have hm := eL hm hb3 hr
     cases hm
     exact rt [] []
    ·refine X_skip (thN (jn hm (fun v3 => ⟨[(5, dV riders), (6, dV wait), (16, dV v1), (17, dV v2), (18, dV v3), (49, .own 16), (50, dV (r3.length : Int)), (51, dV v2)], [aX 16 3 r3], 48⟩) (fun v3 hm => ?_) ?_))
     ·refine rg G (cd hm (fun hm => ?_) (fun hm => ?_))
      ·exact rh G (wJ G hm)
      ·exact X_skip (wJ G hm)
     rintro v3 hm
     obtain ⟨e3, h7, hm⟩ := obind hm
     refine re G (hD 3 h7 h0) ?_
     exact ibN (thN (rh G (wL G hm)))
   ·exact Ok_exit (thE (thE (ibE (wE G hm hb3))))
  rintro v4 hm s hw
  refine thN (Ok_weak hw ?_)
  refine rg G ?_
  cases hm
  exact rt [] []
noncomputable def v_FnKept_M : MS ((List UInt8)) Bool := ⟨.r, v_FnKept, fun y => dV y, fun _ => [], fun _ _ => []⟩
theorem v_FnKept_c {code y} (hm : v_FnKept code = some y) : v_FnKept_M.C code y := v_FnKept_M.c code hm
theorem v_FnKept_ok : FnOK Tryz.prog 3 v_FnKept_M.S := by
 refine fm tt v_FnKept_M [fo zq116_ok, fo zq38_ok, fo zq0_ok, fo zq37_ok, fo zq118_ok, fo zq6_ok, fo zq117_ok, fo zq7_ok] Tryz.call3 Tryz.func3 rfl Tryz.results3 Tryz.ntmps3 ?_
 rintro code y cx G hm
 have hm : v_FnKept code = some y := hm
 unfold v_FnKept at hm
 refine rg G (Ok_seq ?_)
 obtain ⟨r, h, hm⟩ := obind hm
 refine rs G (hC 1 (zq116_c h) h0) ?_
 refine cd hm (fun hm => ?_) (fun hm => ?_)
 ·refine rg G ?_
  cases hm
  exact rt [] []
 ·refine X_skip (thN ?_)
  obtain ⟨r1, h1, hm⟩ := obind hm
  refine rs G (hC 1 (zq38_c h1) h0) ?_
  obtain ⟨r2, h2, hm⟩ := obind hm
  refine rs G (hO 5 (.fz [80, 81, 82] [] []) (hC 5 (zq0_c h2) h0)) ?_
  refine Ok_seq ?_
  obtain ⟨r3, h3, hm⟩ := obind hm
  refine rs G (hC 5 (zq37_c h3) h0) ?_
  refine jn hm (fun v => ⟨[(3, .ref 16 0), (4, .ref 32 0), (5, dV r1.2.2.1), (6, dV r1.2.2.2.1), (7, dV r1.2.2.2.2), (8, dV r2.1), (9, dV r2.2), (57, dV v)], [bX 16 [dV r1.1.Network.Stops, dV r1.1.Network.Lines, dV r1.1.Trips], bX 32 [dV r1.2.1.Dead, dV r1.2.1.Turn]], 64⟩) (fun v hm => ?_) ?_
  ·rcases bf hm with ⟨hb, hm⟩ | ⟨hb, hm⟩
   ·refine re G (hO 3 (.b true) (hP hb h0)) ?_
    exact wJ G hm
   ·obtain ⟨r4, h4, hm⟩ := obind hm
    refine re G (hO 3 (.b false) (hP hb (hC 6 (zq118_c h4) h0))) ?_
    exact wJ G hm
  rintro v hm
  refine cd hm (fun hm => ?_) (fun hm => ?_)
  ·refine rg G ?_
   cases hm
   exact rt [] []
  ·refine X_skip (thN (Ok_seq (rg G (cd hm (fun hm => ?_) (fun hm => ?_)))))
   ·refine rs G (hN 1 r2.1 h0) ?_
    cases hm
    exact rt [] []
   ·refine X_skip (thN ?_)
    obtain ⟨r5, h5, hm⟩ := obind hm
    refine rs G (hC 4 (zq6_c h5) h0) ?_
    refine Ok_seq (jn hm (fun v1 => ⟨[(3, .ref 16 0), (4, .ref 32 0), (5, dV r1.2.2.1), (6, dV r1.2.2.2.1), (7, dV r1.2.2.2.2), (8, dV r2.1), (12, dV r5.1), (87, dV v1)], [bX 16 [dV r1.1.Network.Stops, dV r1.1.Network.Lines, dV r1.1.Trips], bX 32 [dV r1.2.1.Dead, dV r1.2.1.Turn]], 64⟩) (fun v1 hm => ?_) ?_)
    ·rcases bf hm with ⟨hb1, hm⟩ | ⟨hb1, hm⟩
     ·refine re G (hO 2 (.b true) (hP hb1 h0)) ?_
      exact wJ G hm
     ·rcases bf hm with ⟨hb2, hm⟩ | ⟨hb2, hm⟩
      ·refine re G (hO 2 (.b false) (hP hb1 (hN 4 r5.1 (hN 6 r1.2.2.1 (hO 9 (.b true) (hP hb2 h0)))))) ?_
       exact wJ G hm
      ·refine re G (hO 2 (.b false) (hP hb1 (hN 4 r5.1 (hN 6 r1.2.2.1 (hO 9 (.b false) (hP hb2 (hN 11 r2.1 (hN 14 r1.1.Trips h0)))))))) ?_
       exact wJ G hm
    rintro v1 hm
    refine cd hm (fun hm => ?_) (fun hm => ?_)
    ·refine rg G ?_
     cases hm
     exact rt [] []
    ·refine X_skip (thN (rg G (Ok_seq (rg G (tl hm (fun i1 => ⟨[(3, .ref 16 0), (4, .ref 32 0), (5, dV r1.2.2.1), (6, dV r1.2.2.2.1), (7, dV r1.2.2.2.2), (8, dV r2.1), (14, dV i1)], [bX 16 [dV r1.1.Network.Stops, dV r1.1.Network.Lines, dV r1.1.Trips], bX 32 [dV r1.2.1.Dead, dV r1.2.1.Turn]], 64⟩) (fun i1 hm => ?_) ?_)))))
     ·refine Ok_block (lp G hm (fun (i, riders) => ⟨[(3, .ref 16 0), (4, .ref 32 0), (5, dV r1.2.2.1), (6, dV r1.2.2.2.1), (7, dV r1.2.2.2.2), (8, dV r2.1), (12, dV r5.1), (14, dV i), (15, dV riders)], [bX 16 [dV r1.1.Network.Stops, dV r1.1.Network.Lines, dV r1.1.Trips], bX 32 [dV r1.2.1.Dead, dV r1.2.1.Turn]], 64⟩) ?_)
      rintro ⟨i, riders⟩ r0 hb3 hm
      rw [v_FnKept_L1] at hm
      refine Ok_seq (rs G (hN 2 r5.1 h0) ?_)
      refine cd hm (fun hm => ?_) (fun hm => ?_)
      ·refine X_skip (thN (Ok_seq (Ok_block ?_)))
       obtain ⟨e, h6, hm⟩ := obind hm
       refine re G (hD 3 h6 (hN 5 e h0)) ?_
       exact ibN (thN (rh G (wL G hm)))
      ·exact Ok_exit (thE (thE (ibE (wD G hm hb3))))
     rintro i1 hm s hw
     refine thN (Ok_weak hw ?_)
     refine rg G (rg G (Ok_seq (rg G (tF hm (fun (i4, sum1) => ⟨[(3, .ref 16 0), (4, .ref 32 0), (5, dV r1.2.2.1), (6, dV r1.2.2.2.1), (7, dV r1.2.2.2.2), (14, dV i1), (16, .own 48), (17, dV i4)], [bX 16 [dV r1.1.Network.Stops, dV r1.1.Network.Lines, dV r1.1.Trips], bX 32 [dV r1.2.1.Dead, dV r1.2.1.Turn], aX 48 3 sum1], 80⟩) (fun v3 hr1 hm => ?_) ?_))))
     ·refine Ok_block (lp G hm (fun (i2, total, sum) => ⟨[(3, .ref 16 0), (4, .ref 32 0), (5, dV r1.2.2.1), (6, dV r1.2.2.2.1), (7, dV r1.2.2.2.2), (8, dV r2.1), (14, dV i1), (16, .own 48), (17, dV i2), (18, dV total)], [bX 16 [dV r1.1.Network.Stops, dV r1.1.Network.Lines, dV r1.1.Trips], bX 32 [dV r1.2.1.Dead, dV r1.2.1.Turn], aX 48 3 sum], 80⟩) ?_)
      rintro ⟨i2, total, sum⟩ r0 hb4 hm
      rw [v_FnKept_L2] at hm
      refine Ok_seq (rs G (hN 2 r2.1 h0) ?_)
      refine cd hm (fun hm => ?_) (fun hm => ?_)
      ·refine X_skip (thN (jF hm (fun i3 => ⟨[(3, .ref 16 0), (4, .ref 32 0), (5, dV r1.2.2.1), (6, dV r1.2.2.2.1), (7, dV r1.2.2.2.2), (8, dV r2.1), (14, dV i1), (16, .own 48), (17, dV i3), (18, dV total)], [bX 16 [dV r1.1.Network.Stops, dV r1.1.Network.Lines, dV r1.1.Trips], bX 32 [dV r1.2.1.Dead, dV r1.2.1.Turn], aX 48 3 (sum ++ ([2] : List Int))], 80⟩) (fun v2 hr2 hm => ?_) ?_))
       ·refine Ok_block ?_
        obtain ⟨u, h7, hm⟩ := obind hm
        refine rs G (hA 2 8 h7 h0) ?_
        refine Ok_seq ?_
        obtain ⟨e3, h11, hm⟩ := obind hm
        obtain ⟨e4, h12, hm⟩ := obind hm
        obtain ⟨r7, h13, hm⟩ := obind hm
        refine ds G [] (hD 2 h11 (hD 9 h12 (hC 12 (zq117_c h13) h0))) ?_
        refine cd hm (fun hm => ?_) (fun hm => ?_)
        ·refine rg G ?_
         have hm := eR hm hr2
         have hm := eL hm hb4 hr1
         cases hm
         exact rt [] []
        ·refine X_skip (thN ?_)
         obtain ⟨e7, h14, hm⟩ := obind hm
         refine rs G (hD 2 h14 h0) ?_
         refine cd hm (fun hm => ?_) (fun hm => ?_)
         ·exact rh G (ibN (wF G hm))
         ·obtain ⟨e8, h15, hm⟩ := obind hm
          refine re G (hD 3 h15 h0) ?_
          exact ibN (wF G hm)
       rintro i3 hm
       exact rh G (wL G hm)
      ·exact Ok_exit (thE (thE (ibE (wE G hm hb4))))
     rintro ⟨i4, sum1⟩ hm s1 hw1
     refine thN (Ok_weak hw1 ?_)
     obtain ⟨r10, h16, hm⟩ := obind hm
     refine rs G (hC 6 (zq7_c h16) h0) ?_
     refine jn hm (fun t => ⟨[(2, dV t)], [], 32⟩) (fun t hm => ?_) ?_
     ·rcases bf hm with ⟨hb5, hm⟩ | ⟨hb5, hm⟩
      ·rcases bf hm with ⟨hb6, hm⟩ | ⟨hb6, hm⟩
       ·refine re G (hN 2 r1.2.2.2.2 (hN 6 r1.1.Trips (hO 8 (.b true) (hP hb5 (hO 11 (.b true) (hP hb6 h0)))))) ?_
        exact wJ G hm
       ·refine re G (hN 2 r1.2.2.2.2 (hN 6 r1.1.Trips (hO 8 (.b true) (hP hb5 (hO 11 (.b false) (hP hb6 h0)))))) ?_
        exact wJ G hm
      ·refine re G (hN 2 r1.2.2.2.2 (hN 6 r1.1.Trips (hO 8 (.b false) (hP hb5 h0)))) ?_
       exact wJ G hm
     rintro t hm
     cases hm
     exact rt [] []
end Go.Proofs.YtaegkodcjpgndaaGreat
