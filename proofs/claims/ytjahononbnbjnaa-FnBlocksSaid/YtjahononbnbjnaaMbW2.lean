/- Each function computes what its model says. Made by program (dec.py). -/
import Derived.Test.YtjahononbnbjnaaMbW1
namespace Go.Proofs.Ytjahononbnbjnaa
open Go Go.Ab Try
set_option maxRecDepth 100000
set_option maxHeartbeats 4000000
set_option linter.unusedVariables false
set_option linter.unusedSimpArgs false
noncomputable def zq13_M : MS (Timetable × Fleet × (List (List Int))) Bool := ⟨.x .r (.x .r .r), fun x => zq13 x.1 x.2.1 x.2.2, fun y => dV y, fun _ => [], fun _ _ => []⟩
theorem zq13_ok : FnOK Try.prog tJ 119 zq13_M.S := by
 refine fm tt zq13_M [fo zq37_ok, fo zq39_ok, fo zq16_ok] call119 func119 rfl results119 ntmps119 ?_
 rintro ⟨t, f, blocks⟩ y cx G (p : zq13 t f blocks = some y)
 unfold zq13 at p
 refine rg G (rg G (rg G (Ok_seq (rs G (hN 1 blocks h0) ?_))))
 refine tF p (fun block3 => ⟨[(3, .ref 16 0), (8, dV block3)], [bX 16 63 [dV t.Network.Stops, dV t.Network.Lines, dV t.Trips]], 48⟩) (fun v8 hr p => ?_) ?_
 ·refine Ok_block (lp G p (fun (block, k, v, v1) => ⟨[(3, .ref 16 0), (4, .ref 32 0), (7, .eref 48 1 0 0), (8, dV block), (9, dV k), (15, dV blocks), (16, dV (blocks.length : Int)), (17, dV v)], [bX 16 63 [dV t.Network.Stops, dV t.Network.Lines, dV t.Trips], bX 32 77 [dV f.Dead, dV f.Turn], aX 48 4 v1], 80⟩) ?_)
  rintro ⟨block, k, v, v1⟩ r0 hb p
  rw [zq13_L2] at p
  refine rg G (Ok_seq (cd p ?_ ?_)) <;> intro p
  ·refine X_skip (thN (Ok_seq (Ok_block ?_)))
   obtain ⟨e, h, p⟩ := obind p
   refine rs G (hD 0 h h0) ?_
   refine Ok_seq (jn p (fun v2 => ⟨[(3, .ref 16 0), (4, .ref 32 0), (7, .eref 48 1 0 0), (8, dV block), (11, dV e), (15, dV blocks), (16, dV (blocks.length : Int)), (17, dV v), (30, dV v2)], [bX 16 63 [dV t.Network.Stops, dV t.Network.Lines, dV t.Trips], bX 32 77 [dV f.Dead, dV f.Turn], aX 48 4 v1], 80⟩) (fun v2 p => ?_) ?_)
   ·rcases bf p with ⟨hb1, p⟩ | ⟨hb1, p⟩
    ·refine re G (hN 1 e (hO 3 (.b true) (hP hb1 h0))) ?_
     exact wJ G p
    ·obtain ⟨e1, h1, p⟩ := obind p
     refine re G (hN 1 e (hO 3 (.b false) (hP hb1 (hD 5 h1 h0)))) ?_
     exact wJ G p
   rintro v2 p
   refine cd p ?_ ?_ <;> intro p
   ·refine rg G ?_
    have p := eL p hb hr
    cases p
    exact rt [] []
   ·refine X_skip (thN ?_)
    obtain ⟨e3, h2, p⟩ := obind p
    refine rs G (hD 1 h2 h0) ?_
    refine rs G (hN 1 e h0) ?_
    refine tF p (fun (block2, v6) => ⟨[(3, .ref 16 0), (4, .ref 32 0), (7, .eref 48 1 0 0), (8, dV block2), (9, dV e3), (15, dV blocks), (16, dV (blocks.length : Int)), (17, dV v)], [bX 16 63 [dV t.Network.Stops, dV t.Network.Lines, dV t.Trips], bX 32 77 [dV f.Dead, dV f.Turn], aX 48 4 v6], 80⟩) (fun v7 hr1 p => ?_) ?_
    ·refine Ok_block (lp G p (fun (block1, v3, v4) => ⟨[(3, .ref 16 0), (4, .ref 32 0), (7, .eref 48 1 0 0), (8, dV block1), (9, dV e3), (11, dV e), (15, dV blocks), (16, dV (blocks.length : Int)), (17, dV v), (34, dV e), (35, dV (e.length : Int)), (36, dV v3)], [bX 16 63 [dV t.Network.Stops, dV t.Network.Lines, dV t.Trips], bX 32 77 [dV f.Dead, dV f.Turn], aX 48 4 v4], 80⟩) ?_)
     rintro ⟨block1, v3, v4⟩ r0 hb2 p
     rw [zq13_L1] at p
     refine rg G (Ok_seq (cd p ?_ ?_)) <;> intro p
     ·refine X_skip (thN (Ok_seq (Ok_block ?_)))
      obtain ⟨e4, h3, p⟩ := obind p
      refine rs G (hD 1 h3 h0) ?_
      obtain ⟨r1, h4, p⟩ := obind p
      refine rs G (hC 2 (zq37_M.c (_, _) h4) h0) ?_
      refine Ok_seq (jn p (fun v5 => ⟨[(3, .ref 16 0), (4, .ref 32 0), (7, .eref 48 1 0 0), (8, dV block1), (9, dV e3), (11, dV e), (14, dV r1), (15, dV blocks), (16, dV (blocks.length : Int)), (17, dV v), (34, dV e), (35, dV (e.length : Int)), (36, dV v3), (72, dV v5)], [bX 16 63 [dV t.Network.Stops, dV t.Network.Lines, dV t.Trips], bX 32 77 [dV f.Dead, dV f.Turn], aX 48 4 v4], 80⟩) (fun v5 p => ?_) ?_)
      ·rcases bf p with ⟨hb3, p⟩ | ⟨hb3, p⟩
       ·refine de G [] (hO 2 (.b true) (hP hb3 h0)) ?_
        exact wJ G p
       ·obtain ⟨u1, h12, e8, h11, p⟩ := ob2 p
        rcases bf p with ⟨hb4, p⟩ | ⟨hb4, p⟩
        ·refine de G [] (hO 2 (.b false) (hP hb3 (hK h12 (hE 5 h11 (hO 7 (.b true) (hP hb4 h0)))))) ?_
         exact wJ G p
        ·rcases bf p with ⟨hb5, p⟩ | ⟨hb5, p⟩
         ·obtain ⟨e9, h13, r4, h14, e10, h15, p⟩ := ob3 p
          obtain ⟨r5, h16, p⟩ := obind p
          refine de G [] (hO 2 (.b false) (hP hb3 (hK h12 (hE 5 h11 (hO 7 (.b false) (hP hb4 (hO 10 (.b true) (hP hb5 (hD 17 h13 (hC 19 (zq39_M.c (_, _) h14) (hD 23 h15 (hC 25 (zq16_c h16) h0)))))))))))) ?_
          exact wJ G p
         ·refine de G [] (hO 2 (.b false) (hP hb3 (hK h12 (hE 5 h11 (hO 7 (.b false) (hP hb4 (hO 10 (.b false) (hP hb5 h0)))))))) ?_
          exact wJ G p
      rintro v5 p
      refine cd p ?_ ?_ <;> intro p
      ·refine rg G ?_
       have p := eL p hb2 hr1
       have p := eL p hb hr
       cases p
       exact rt [] []
      ·refine X_skip (thN ?_)
       obtain ⟨u2, h18, e13, h17, p⟩ := ob2 p
       refine rs G (hK h18 (hS 2 h17 true h0)) ?_
       exact rh G (ibN (thN (rh G (wL G p))))
     ·exact Ok_exit (thE (thE (ibE (wE G p hb2))))
    rintro ⟨block2, v6⟩ p s hw
    refine ibN (thN (Ok_weak hw ?_))
    exact rh G (wL G p)
  ·exact Ok_exit (thE (thE (ibE (wE G p hb))))
 rintro block3 p s1 hw1
 refine thN (Ok_weak hw1 ?_)
 refine rs G (hN 3 t.Trips h0) ?_
 cases p
 exact rt [] []
noncomputable def zq7_M : MS (Timetable × Fleet × (List (List Int))) Bool := ⟨.x .r (.x .r .r), fun x => zq7 x.1 x.2.1 x.2.2, fun y => dV y, fun _ => [], fun _ _ => []⟩
theorem zq7_c {t f blocks y} (p : zq7 t f blocks = some y) : zq7_M.C (t, f, blocks) y := zq7_M.c (t, f, blocks) p
theorem zq7_ok : FnOK Try.prog tJ 42 zq7_M.S := by
 refine fm tt zq7_M [fo zq24_ok, fo zq13_ok] call42 func42 rfl results42 ntmps42 ?_
 rintro ⟨t, f, blocks⟩ y cx G (p : zq7 t f blocks = some y)
 unfold zq7 at p
 refine rg G ?_
 obtain ⟨r, h, p⟩ := obind p
 refine jn p (fun v => ⟨[(6, dV v)], [], 32⟩) (fun v p => ?_) ?_
 ·rcases bf p with ⟨hb, p⟩ | ⟨hb, p⟩
  ·obtain ⟨r1, h1, p⟩ := obind p
   refine re G (hC 2 (zq24_M.c (_, _) h) (hO 3 (.b true) (hP hb (hC 7 (zq13_M.c (_, _, _) h1) h0)))) ?_
   exact wJ G p
  ·refine re G (hC 2 (zq24_M.c (_, _) h) (hO 3 (.b false) (hP hb h0))) ?_
   exact wJ G p
 rintro v p
 cases p
 exact rt [] []
noncomputable def zq6_M : MS (Timetable × Fleet × (List (List Int))) (Int × Bool) := ⟨.x .r (.x .r .r), fun x => zq6 x.1 x.2.1 x.2.2, fun y => .tup [dV y.1, dV y.2], fun _ => [], fun _ _ => []⟩
theorem zq6_c {t f blocks y} (p : zq6 t f blocks = some y) : zq6_M.C (t, f, blocks) y := zq6_M.c (t, f, blocks) p
theorem zq6_ok : FnOK Try.prog tJ 40 zq6_M.S := by
 refine fm tt zq6_M [fo zq7_ok, fo zq39_ok, fo zq18_ok] call40 func40 rfl results40 ntmps40 ?_
 rintro ⟨t, f, blocks⟩ y cx G (p : zq6 t f blocks = some y)
 unfold zq6 at p
 refine rg G (Ok_seq ?_)
 obtain ⟨r, h, p⟩ := obind p
 refine rs G (hC 3 (zq7_c h) h0) ?_
 refine cd p ?_ ?_ <;> intro p
 ·refine rg G ?_
  cases p
  exact rt [] []
 ·refine X_skip (thN (rg G (Ok_seq (rs G (hN 1 blocks h0) ?_))))
  refine tl p (fun k3 => ⟨[(8, dV k3)], [], 32⟩) (fun k3 p => ?_) ?_
  ·refine Ok_block (lp G p (fun (k, v) => ⟨[(3, .ref 16 0), (4, .ref 32 0), (8, dV k), (17, dV blocks), (18, dV (blocks.length : Int)), (19, dV v)], [bX 16 63 [dV t.Network.Stops, dV t.Network.Lines, dV t.Trips], bX 32 77 [dV f.Dead, dV f.Turn]], 64⟩) ?_)
   rintro ⟨k, v⟩ r0 hb p
   rw [zq6_L2] at p
   refine rg G (Ok_seq (cd p ?_ ?_)) <;> intro p
   ·refine X_skip (thN (Ok_seq (Ok_block ?_)))
    obtain ⟨e, h1, p⟩ := obind p
    refine rs G (hD 0 h1 h0) ?_
    refine rg G (tl p (fun k2 => ⟨[(3, .ref 16 0), (4, .ref 32 0), (8, dV k2), (17, dV blocks), (18, dV (blocks.length : Int)), (19, dV v)], [bX 16 63 [dV t.Network.Stops, dV t.Network.Lines, dV t.Trips], bX 32 77 [dV f.Dead, dV f.Turn]], 64⟩) (fun k2 p => ?_) ?_)
    ·refine Ok_block (lp G p (fun (k1, v1) => ⟨[(3, .ref 16 0), (4, .ref 32 0), (8, dV k1), (10, dV e), (11, dV v1), (17, dV blocks), (18, dV (blocks.length : Int)), (19, dV v)], [bX 16 63 [dV t.Network.Stops, dV t.Network.Lines, dV t.Trips], bX 32 77 [dV f.Dead, dV f.Turn]], 64⟩) ?_)
     rintro ⟨k1, v1⟩ r0 hb1 p
     rw [zq6_L1] at p
     refine Ok_seq (rs G (hN 2 e h0) ?_)
     refine cd p ?_ ?_ <;> intro p
     ·refine X_skip (thN (Ok_seq (Ok_block ?_)))
      obtain ⟨e3, h7, r4, h8, e4, h9, p⟩ := ob3 p
      obtain ⟨r5, h10, r6, h11, p⟩ := ob2 p
      refine de G [] (hD 7 h7 (hC 9 (zq39_M.c (_, _) h8) (hD 13 h9 (hC 15 (zq39_M.c (_, _) h10) (hC 16 (zq18_c h11) h0))))) ?_
      exact ibN (thN (rh G (wL G p)))
     ·exact Ok_exit (thE (thE (ibE (wD G p hb1))))
    rintro k2 p s hw
    refine ibN (thN (Ok_weak hw ?_))
    exact rh G (wL G p)
   ·exact Ok_exit (thE (thE (ibE (wD G p hb))))
  rintro k3 p s1 hw1
  refine thN (Ok_weak hw1 ?_)
  refine rg G ?_
  cases p
  exact rt [] []
noncomputable def zq35_M : MS (Timetable × (List Int)) Span := ⟨.x .r .r, fun x => zq35 x.1 x.2, fun y => dV y, fun _ => [], fun _ _ => []⟩
theorem zq35_ok : FnOK Try.prog tJ 118 zq35_M.S := by
 refine fm tt zq35_M [fo zq39_ok, fo zq19_ok] call118 func118 rfl results118 ntmps118 ?_
 rintro ⟨t, ids⟩ y cx G (p : zq35 t ids = some y)
 unfold zq35 at p
 refine rg G ?_
 obtain ⟨e2, h5, r3, h6, e3, h7, p⟩ := ob3 p
 obtain ⟨r4, h8, r5, h9, p⟩ := ob2 p
 refine ds G [(17, [32])] (hD 2 h5 (hC 4 (zq39_M.c (_, _) h6) (hN 10 ids (hD 12 h7 (hC 14 (zq39_M.c (_, _) h8) (hC 15 (zq19_M.c (_, _) h9) h0)))))) ?_
 cases p
 exact rt [] []
noncomputable def zq4_M : MS (Timetable × Fleet × (List (List Int))) ((List Span) × Bool) := ⟨.x .r (.x .r .r), fun x => zq4 x.1 x.2.1 x.2.2, fun y => .tup [dV y.1, dV y.2], fun _ => [], fun _ _ => []⟩
theorem zq4_c {t f blocks y} (p : zq4 t f blocks = some y) : zq4_M.C (t, f, blocks) y := zq4_M.c (t, f, blocks) p
theorem zq4_ok : FnOK Try.prog tJ 41 zq4_M.S := by
 refine fm tt zq4_M [fo zq7_ok, fo zq35_ok] call41 func41 rfl results41 ntmps41 ?_
 rintro ⟨t, f, blocks⟩ y cx G (p : zq4 t f blocks = some y)
 unfold zq4 at p
 refine rg G (Ok_seq ?_)
 obtain ⟨r, h, p⟩ := obind p
 refine rs G (hC 3 (zq7_c h) h0) ?_
 refine cd p ?_ ?_ <;> intro p
 ·refine rg G ?_
  cases p
  exact rt [] [[.z 2]]
 ·refine X_skip (thN ?_)
  obtain ⟨u, h1, p⟩ := obind p
  refine rs G (hN 1 blocks (hO 2 (.l (List.map Enc.e (List.replicate (blocks.length : Int).toNat ((⟨0, 0⟩ : Span) : Span)))) (hP (mk_p (b := 16) (chk_t h1) rfl) (hP (rep_m Enc.e (blocks.length : Int).toNat ((⟨0, 0⟩ : Span) : Span)) h0)))) ?_
  refine Ok_seq (rs G (hN 1 blocks h0) ?_)
  refine tl p (fun v2 => ⟨[(8, .own 16)], [aX 16 171 v2], 48⟩) (fun v2 p => ?_) ?_
  ·refine Ok_block (lp G p (fun (v, v1) => ⟨[(3, .ref 16 0), (8, .own 32), (19, dV blocks), (20, dV (blocks.length : Int)), (21, dV v)], [bX 16 63 [dV t.Network.Stops, dV t.Network.Lines, dV t.Trips], aX 32 171 v1], 64⟩) ?_)
   rintro ⟨v, v1⟩ r0 hb p
   rw [zq4_L1] at p
   refine rg G (Ok_seq (cd p ?_ ?_)) <;> intro p
   ·refine X_skip (thN (Ok_seq (Ok_block ?_)))
    obtain ⟨e, h2, p⟩ := obind p
    refine rs G (hD 1 h2 h0) ?_
    obtain ⟨r1, h3, e1, h4, p⟩ := ob2 p
    refine re G (hC 4 (zq35_M.c (_, _) h3) (hD 5 h4 (hS 6 h4 r1 h0))) ?_
    exact ibN (thN (rh G (wL G p)))
   ·exact Ok_exit (thE (thE (ibE (wD G p hb))))
  rintro v2 p s hw
  refine thN (Ok_weak hw ?_)
  refine rg G ?_
  cases p
  exact rt [] []
noncomputable def zq34_M : MS ((List (List Int)) × Int) (Int × Int) := ⟨.x .r .r, fun x => zq34 x.1 x.2, fun y => .tup [dV y.1, dV y.2], fun _ => [], fun _ _ => []⟩
theorem zq34_ok : FnOK Try.prog tJ 83 zq34_M.S := by
 refine fm tt zq34_M [fo zq93_ok] call83 func83 rfl results83 ntmps83 ?_
 rintro ⟨blocks, id⟩ y cx G (p : zq34 blocks id = some y)
 unfold zq34 at p
 refine rg G (Ok_seq (rs G (hN 1 blocks h0) ?_))
 refine tF p (fun _ => ⟨[], [], 32⟩) (fun v1 hr p => ?_) ?_
 ·refine Ok_block (lp G p (fun v => ⟨[(1, dV id), (9, dV blocks), (10, dV (blocks.length : Int)), (11, dV v)], [], 32⟩) ?_)
  rintro v r0 hb p
  rw [zq34_L1] at p
  refine rg G (Ok_seq (cd p ?_ ?_)) <;> intro p
  ·refine X_skip (thN (Ok_seq (Ok_block ?_)))
   obtain ⟨e, h, p⟩ := obind p
   refine rs G (hD 1 h h0) ?_
   obtain ⟨r, h1, p⟩ := obind p
   refine rs G (hC 2 (zq93_M.c (_, _) h1) h0) ?_
   refine rg G (cd p ?_ ?_) <;> intro p
   ·refine rg G ?_
    have p := eL p hb hr
    cases p
    exact rt [] []
   ·exact X_skip (ibN (thN (rh G (wL G p))))
  ·exact Ok_exit (thE (thE (ibE (wE G p hb))))
 rintro ⟨⟩ p s hw
 refine thN (Ok_weak hw ?_)
 refine rg G ?_
 cases p
 exact rt [] []
noncomputable def zq3_M : MS (Timetable × Fleet × (List (List Int)) × Int) (Int × Int × Bool) := ⟨.x .r (.x .r (.x .r .r)), fun x => zq3 x.1 x.2.1 x.2.2.1 x.2.2.2, fun y => .tup [dV y.1, dV y.2.1, dV y.2.2], fun _ => [], fun _ _ => []⟩
theorem zq3_c {t f blocks id y} (p : zq3 t f blocks id = some y) : zq3_M.C (t, f, blocks, id) y := zq3_M.c (t, f, blocks, id) p
theorem zq3_ok : FnOK Try.prog tJ 43 zq3_M.S := by
 refine fm tt zq3_M [fo zq7_ok, fo zq34_ok] call43 func43 rfl results43 ntmps43 ?_
 rintro ⟨t, f, blocks, id⟩ y cx G (p : zq3 t f blocks id = some y)
 unfold zq3 at p
 refine rg G (Ok_seq ?_)
 obtain ⟨r, h, p⟩ := obind p
 refine rs G (hC 3 (zq7_c h) h0) ?_
 refine cd p ?_ ?_ <;> intro p
 ·refine rg G ?_
  cases p
  exact rt [] []
 ·refine X_skip (thN ?_)
  obtain ⟨r1, h1, p⟩ := obind p
  refine rs G (hC 2 (zq34_M.c (_, _) h1) h0) ?_
  refine Ok_seq (rg G (cd p ?_ ?_)) <;> intro p
  ·refine rg G ?_
   cases p
   exact rt [] []
  ·refine X_skip (thN (rg G ?_))
   cases p
   exact rt [] []
noncomputable def zq5_M : MS (Timetable × Fleet × Int × Int) (Bool × Bool) := ⟨.x .r (.x .r (.x .r .r)), fun x => zq5 x.1 x.2.1 x.2.2.1 x.2.2.2, fun y => .tup [dV y.1, dV y.2], fun _ => [], fun _ _ => []⟩
theorem zq5_c {t f a b y} (p : zq5 t f a b = some y) : zq5_M.C (t, f, a, b) y := zq5_M.c (t, f, a, b) p
theorem zq5_ok : FnOK Try.prog tJ 44 zq5_M.S := by
 refine fm tt zq5_M [fo zq24_ok, fo zq37_ok, fo zq16_ok] call44 func44 rfl results44 ntmps44 ?_
 rintro ⟨t, f, a, b⟩ y cx G (p : zq5 t f a b = some y)
 unfold zq5 at p
 refine rg G (Ok_seq ?_)
 obtain ⟨r, h, p⟩ := obind p
 refine jn p (fun v => ⟨[(2, dV a), (3, dV b), (4, .ref 16 0), (5, .ref 32 0), (20, dV v)], [bX 16 63 [dV t.Network.Stops, dV t.Network.Lines, dV t.Trips], bX 32 77 [dV f.Dead, dV f.Turn]], 64⟩) (fun v p => ?_) ?_
 ·rcases bf p with ⟨hb, p⟩ | ⟨hb, p⟩
  ·refine re G (hC 2 (zq24_M.c (_, _) h) (hO 4 (.b true) (hP hb h0))) ?_
   exact wJ G p
  ·refine re G (hC 2 (zq24_M.c (_, _) h) (hO 4 (.b false) (hP hb h0))) ?_
   exact wJ G p
 rintro v p
 refine cd p ?_ ?_ <;> intro p
 ·refine rg G ?_
  cases p
  exact rt [] []
 ·refine X_skip (thN ?_)
  obtain ⟨r3, h3, r4, h4, p⟩ := ob2 p
  refine ds G [] (hC 2 (zq37_M.c (_, _) h3) (hC 5 (zq37_M.c (_, _) h4) h0)) ?_
  refine Ok_seq (jn p (fun v1 => ⟨[(4, .ref 16 0), (5, .ref 32 0), (10, dV r3), (11, dV r4), (32, dV v1)], [bX 16 63 [dV t.Network.Stops, dV t.Network.Lines, dV t.Trips], bX 32 77 [dV f.Dead, dV f.Turn]], 64⟩) (fun v1 p => ?_) ?_)
  ·rcases bf p with ⟨hb1, p⟩ | ⟨hb1, p⟩
   ·refine re G (hO 2 (.b true) (hP hb1 h0)) ?_
    exact wJ G p
   ·refine re G (hO 2 (.b false) (hP hb1 h0)) ?_
    exact wJ G p
  rintro v1 p
  refine cd p ?_ ?_ <;> intro p
  ·refine rg G ?_
   cases p
   exact rt [] []
  ·refine X_skip (thN ?_)
   obtain ⟨e2, h8, e3, h9, r6, h10, p⟩ := ob3 p
   refine ds G [] (hD 5 h8 (hD 10 h9 (hC 12 (zq16_c h10) h0))) ?_
   cases p
   exact rt [] []
noncomputable def v_FnBlocks_M : MS ((List UInt8)) Bool := ⟨.r, v_FnBlocks, fun y => dV y, fun _ => [], fun _ _ => []⟩
theorem v_FnBlocks_ok : FnOK Try.prog tJ 5 v_FnBlocks_M.S := by
 refine fm tt v_FnBlocks_M [fo zq95_ok, fo zq41_ok, fo zq11_ok, fo zq42_ok, fo zq97_ok, fo zq12_ok, fo zq6_ok, fo zq4_ok, fo zq7_ok, fo zq3_ok, fo zq5_ok] call5 func5 rfl results5 ntmps5 ?_
 rintro code y cx G (p : v_FnBlocks code = some y)
 unfold v_FnBlocks at p
 refine rg G (Ok_seq ?_)
 obtain ⟨r, h, p⟩ := obind p
 refine rs G (hC 1 (zq95_M.c _ h) h0) ?_
 refine cd p ?_ ?_ <;> intro p
 ·refine rg G ?_
  cases p
  exact rt [] []
 ·refine X_skip (thN ?_)
  obtain ⟨r1, h1, p⟩ := obind p
  refine rs G (hC 1 (zq41_M.c _ h1) h0) ?_
  obtain ⟨r2, h2, p⟩ := obind p
  refine rs G (hO 2 (.fz [80] [] []) (hC 2 (zq11_M.c (_, _) h2) h0)) ?_
  refine Ok_seq ?_
  obtain ⟨r3, h3, p⟩ := obind p
  refine rs G (hC 2 (zq42_M.c (_, _) h3) h0) ?_
  refine jn p (fun v => ⟨[(3, .ref 16 0), (4, .ref 32 0), (5, dV r2.1), (6, dV r2.2.1), (7, dV r2.2.2), (59, dV v)], [bX 16 63 [dV r1.1.Network.Stops, dV r1.1.Network.Lines, dV r1.1.Trips], bX 32 77 [dV r1.2.Dead, dV r1.2.Turn]], 64⟩) (fun v p => ?_) ?_
  ·rcases bf p with ⟨hb, p⟩ | ⟨hb, p⟩
   ·refine re G (hO 3 (.b true) (hP hb h0)) ?_
    exact wJ G p
   ·rcases bf p with ⟨hb1, p⟩ | ⟨hb1, p⟩
    ·refine re G (hO 3 (.b false) (hP hb (hO 8 (.b true) (hP hb1 h0)))) ?_
     exact wJ G p
    ·obtain ⟨r4, h4, p⟩ := obind p
     refine re G (hO 3 (.b false) (hP hb (hO 8 (.b false) (hP hb1 (hC 11 (zq97_M.c (_, _) h4) h0))))) ?_
     exact wJ G p
  rintro v p
  refine cd p ?_ ?_ <;> intro p
  ·refine rg G ?_
   cases p
   exact rt [] []
  ·refine X_skip (thN (Ok_seq (rg G (cd p ?_ ?_)))) <;> intro p
   ·refine rs G (hN 1 r2.1 h0) ?_
    cases p
    exact rt [] []
   ·refine X_skip (thN ?_)
    obtain ⟨r5, h5, p⟩ := obind p
    refine rs G (hC 1 (zq12_M.c _ h5) h0) ?_
    obtain ⟨r6, h6, p⟩ := obind p
    refine rs G (hC 3 (zq6_c h6) h0) ?_
    obtain ⟨r7, h7, p⟩ := obind p
    refine rs G (hC 3 (zq4_c h7) h0) ?_
    refine Ok_seq (jn p (fun v1 => ⟨[(3, .ref 16 0), (4, .ref 32 0), (5, dV r2.1), (119, dV v1)], [bX 16 63 [dV r1.1.Network.Stops, dV r1.1.Network.Lines, dV r1.1.Trips], bX 32 77 [dV r1.2.Dead, dV r1.2.Turn]], 64⟩) (fun v1 p => ?_) ?_)
    ·rcases bf p with ⟨hb2, p⟩ | ⟨hb2, p⟩
     ·refine re G (hO 2 (.b true) (hP hb2 h0)) ?_
      exact wJ G p
     ·rcases bf p with ⟨hb3, p⟩ | ⟨hb3, p⟩
      ·refine re G (hO 2 (.b false) (hP hb2 (hO 6 (.b true) (hP hb3 h0)))) ?_
       exact wJ G p
      ·rcases bf p with ⟨hb4, p⟩ | ⟨hb4, p⟩
       ·refine re G (hO 2 (.b false) (hP hb2 (hO 6 (.b false) (hP hb3 (hO 10 (.b true) (hP hb4 h0)))))) ?_
        exact wJ G p
       ·obtain ⟨r8, h8, p⟩ := obind p
        rcases bf p with ⟨hb5, p⟩ | ⟨hb5, p⟩
        ·refine re G (hO 2 (.b false) (hP hb2 (hO 6 (.b false) (hP hb3 (hO 10 (.b false) (hP hb4 (hC 14 (zq7_c h8) (hO 17 (.b true) (hP hb5 h0))))))))) ?_
         exact wJ G p
        ·rcases bf p with ⟨hb6, p⟩ | ⟨hb6, p⟩
         ·refine re G (hO 2 (.b false) (hP hb2 (hO 6 (.b false) (hP hb3 (hO 10 (.b false) (hP hb4 (hC 14 (zq7_c h8) (hO 17 (.b false) (hP hb5 (hO 22 (.b true) (hP hb6 h0))))))))))) ?_
          exact wJ G p
         ·rcases bf p with ⟨hb7, p⟩ | ⟨hb7, p⟩
          ·refine re G (hO 2 (.b false) (hP hb2 (hO 6 (.b false) (hP hb3 (hO 10 (.b false) (hP hb4 (hC 14 (zq7_c h8) (hO 17 (.b false) (hP hb5 (hO 22 (.b false) (hP hb6 (hN 24 r2.1 (hO 28 (.b true) (hP hb7 h0)))))))))))))) ?_
           exact wJ G p
          ·refine re G (hO 2 (.b false) (hP hb2 (hO 6 (.b false) (hP hb3 (hO 10 (.b false) (hP hb4 (hC 14 (zq7_c h8) (hO 17 (.b false) (hP hb5 (hO 22 (.b false) (hP hb6 (hN 24 r2.1 (hO 28 (.b false) (hP hb7 (hN 30 r7.1 (hN 32 r2.1 h0)))))))))))))))) ?_
           exact wJ G p
    rintro v1 p
    refine cd p ?_ ?_ <;> intro p
    ·refine rg G ?_
     cases p
     exact rt [] []
    ·refine X_skip (thN (Ok_seq (rg G (tF p (fun _ => ⟨[], [], 32⟩) (fun v6 hr p => ?_) ?_))))
     ·refine Ok_block (lp G p (fun k => ⟨[(3, .ref 16 0), (4, .ref 32 0), (5, dV r2.1), (18, dV k)], [bX 16 63 [dV r1.1.Network.Stops, dV r1.1.Network.Lines, dV r1.1.Trips], bX 32 77 [dV r1.2.Dead, dV r1.2.Turn]], 64⟩) ?_)
      rintro k r0 hb8 p
      rw [v_FnBlocks_L2] at p
      refine Ok_seq (rs G (hN 2 r2.1 h0) ?_)
      refine cd p ?_ ?_ <;> intro p
      ·refine X_skip (thN (Ok_seq (Ok_block (rg G (tF p (fun _ => ⟨[(3, .ref 16 0), (4, .ref 32 0), (5, dV r2.1), (18, dV k)], [bX 16 63 [dV r1.1.Network.Stops, dV r1.1.Network.Lines, dV r1.1.Trips], bX 32 77 [dV r1.2.Dead, dV r1.2.Turn]], 64⟩) (fun v5 hr1 p => ?_) ?_)))))
       ·refine Ok_block (lp G p (fun at_ => ⟨[(3, .ref 16 0), (4, .ref 32 0), (5, dV r2.1), (18, dV k), (19, dV at_)], [bX 16 63 [dV r1.1.Network.Stops, dV r1.1.Network.Lines, dV r1.1.Trips], bX 32 77 [dV r1.2.Dead, dV r1.2.Turn]], 64⟩) ?_)
        rintro at_ r0 hb9 p
        rw [v_FnBlocks_L1] at p
        refine Ok_seq ?_
        obtain ⟨e, h9, p⟩ := obind p
        refine rs G (hD 3 h9 (hN 5 e h0)) ?_
        refine cd p ?_ ?_ <;> intro p
        ·refine X_skip (thN (jF p (fun _ => ⟨[(3, .ref 16 0), (4, .ref 32 0), (5, dV r2.1), (18, dV k), (19, dV at_)], [bX 16 63 [dV r1.1.Network.Stops, dV r1.1.Network.Lines, dV r1.1.Trips], bX 32 77 [dV r1.2.Dead, dV r1.2.Turn]], 64⟩) (fun v4 hr2 p => ?_) ?_))
         ·refine Ok_block ?_
          obtain ⟨e3, h13, e4, h14, r10, h15, p⟩ := ob3 p
          refine ds G [] (hD 5 h13 (hD 8 h14 (hC 10 (zq3_c h15) h0))) ?_
          refine Ok_seq (jn p (fun v2 => ⟨[(3, .ref 16 0), (4, .ref 32 0), (5, dV r2.1), (18, dV k), (19, dV at_), (161, dV v2)], [bX 16 63 [dV r1.1.Network.Stops, dV r1.1.Network.Lines, dV r1.1.Trips], bX 32 77 [dV r1.2.Dead, dV r1.2.Turn]], 64⟩) (fun v2 p => ?_) ?_)
          ·rcases bf p with ⟨hb10, p⟩ | ⟨hb10, p⟩
           ·refine re G (hO 2 (.b true) (hP hb10 h0)) ?_
            exact wJ G p
           ·rcases bf p with ⟨hb11, p⟩ | ⟨hb11, p⟩
            ·refine re G (hO 2 (.b false) (hP hb10 (hO 7 (.b true) (hP hb11 h0)))) ?_
             exact wJ G p
            ·refine re G (hO 2 (.b false) (hP hb10 (hO 7 (.b false) (hP hb11 h0)))) ?_
             exact wJ G p
          rintro v2 p
          refine cd p ?_ ?_ <;> intro p
          ·refine rg G ?_
           have p := eR p hr2
           have p := eL p hb9 hr1
           have p := eL p hb8 hr
           cases p
           exact rt [] []
          ·refine X_skip (thN (rg G (cd p ?_ ?_))) <;> intro p
           ·obtain ⟨e12, h21, e13, h22, e14, h23, p⟩ := ob3 p
            obtain ⟨e15, h24, r15, h25, p⟩ := ob2 p
            refine ds G [] (hD 4 h21 (hD 8 h22 (hD 12 h23 (hD 15 h24 (hC 17 (zq5_c h25) h0))))) ?_
            refine jn p (fun v3 => ⟨[(3, .ref 16 0), (4, .ref 32 0), (5, dV r2.1), (18, dV k), (19, dV at_), (190, dV v3)], [bX 16 63 [dV r1.1.Network.Stops, dV r1.1.Network.Lines, dV r1.1.Trips], bX 32 77 [dV r1.2.Dead, dV r1.2.Turn]], 64⟩) (fun v3 p => ?_) ?_
            ·rcases bf p with ⟨hb12, p⟩ | ⟨hb12, p⟩
             ·refine re G (hO 2 (.b true) (hP hb12 h0)) ?_
              exact wJ G p
             ·refine re G (hO 2 (.b false) (hP hb12 h0)) ?_
              exact wJ G p
            rintro v3 p
            refine cd p ?_ ?_ <;> intro p
            ·refine rg G ?_
             have p := eR p hr2
             have p := eL p hb9 hr1
             have p := eL p hb8 hr
             cases p
             exact rt [] []
            ·exact X_skip (ibN (wF G p))
           ·exact X_skip (ibN (wF G p))
         rintro ⟨⟩ p
         exact rh G (wL G p)
        ·exact Ok_exit (thE (thE (ibE (wE G p hb9))))
       rintro ⟨⟩ p s hw
       refine ibN (thN (Ok_weak hw ?_))
       exact rh G (wL G p)
      ·exact Ok_exit (thE (thE (ibE (wE G p hb8))))
     rintro ⟨⟩ p s1 hw1
     refine thN (Ok_weak hw1 ?_)
     refine rg G ?_
     cases p
     exact rt [] []
end Go.Proofs.Ytjahononbnbjnaa
