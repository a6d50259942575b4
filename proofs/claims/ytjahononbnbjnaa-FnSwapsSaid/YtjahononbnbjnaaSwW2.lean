/- Each function computes what its model says. Made by program (dec.py). -/
import Derived.Test.YtjahononbnbjnaaSwW1
namespace Go.Proofs.Ytjahononbnbjnaa
open Go Go.Ab Try
set_option maxRecDepth 100000
set_option maxHeartbeats 4000000
set_option linter.unusedVariables false
set_option linter.unusedSimpArgs false
noncomputable def zq38_M : MS (Timetable × Fleet × (List (List Int)) × Int × Int) ((List (List Int)) × Bool) := ⟨.x .r (.x .r (.x .r (.x .r .r))), fun x => zq38 x.1 x.2.1 x.2.2.1 x.2.2.2.1 x.2.2.2.2, fun y => .tup [dV y.1, dV y.2], fun _ => [], fun _ _ => []⟩
theorem zq38_ok : FnOK Try.prog tJ 47 zq38_M.S := by
 refine fm tt zq38_M [fo zq46_ok, fo zq39_ok, fo zq41_ok, fo zq71_ok] call47 func47 rfl results47 ntmps47 ?_
 rintro ⟨t, f, blocks, a, b⟩ y cx G (p : zq38 t f blocks a b = some y)
 unfold zq38 at p
 refine rg G ?_
 obtain ⟨r, h, p⟩ := obind p
 refine rs G (hC 2 (zq46_M.c (_, _) h) h0) ?_
 obtain ⟨r1, h1, p⟩ := obind p
 refine rs G (hC 2 (zq46_M.c (_, _) h1) h0) ?_
 refine Ok_seq ?_
 obtain ⟨r2, h2, p⟩ := obind p
 refine jn p (fun v => ⟨[(2, dV blocks), (5, .ref 16 0), (6, .ref 32 0), (12, dV r.1), (13, dV r.2), (14, dV r1.1), (15, dV r1.2), (53, dV v)], [bX 16 63 [dV t.Network.Stops, dV t.Network.Lines, dV t.Trips], bX 32 77 [dV f.Dead, dV f.Turn]], 64⟩) (fun v p => ?_) ?_
 ·rcases bf p with ⟨hb, p⟩ | ⟨hb, p⟩
  ·refine re G (hC 2 (zq39_M.c (_, _) h2) (hO 4 (.b true) (hP hb h0))) ?_
   exact wJ G p
  ·obtain ⟨r3, h3, p⟩ := obind p
   rcases bf p with ⟨hb1, p⟩ | ⟨hb1, p⟩
   ·refine re G (hC 2 (zq39_M.c (_, _) h2) (hO 4 (.b false) (hP hb (hC 8 (zq41_M.c (_, _, _) h3) (hO 11 (.b true) (hP hb1 h0)))))) ?_
    exact wJ G p
   ·rcases bf p with ⟨hb2, p⟩ | ⟨hb2, p⟩
    ·refine re G (hC 2 (zq39_M.c (_, _) h2) (hO 4 (.b false) (hP hb (hC 8 (zq41_M.c (_, _, _) h3) (hO 11 (.b false) (hP hb1 (hO 15 (.b true) (hP hb2 h0)))))))) ?_
     exact wJ G p
    ·rcases bf p with ⟨hb3, p⟩ | ⟨hb3, p⟩
     ·refine re G (hC 2 (zq39_M.c (_, _) h2) (hO 4 (.b false) (hP hb (hC 8 (zq41_M.c (_, _, _) h3) (hO 11 (.b false) (hP hb1 (hO 15 (.b false) (hP hb2 (hO 19 (.b true) (hP hb3 h0)))))))))) ?_
      exact wJ G p
     ·refine re G (hC 2 (zq39_M.c (_, _) h2) (hO 4 (.b false) (hP hb (hC 8 (zq41_M.c (_, _, _) h3) (hO 11 (.b false) (hP hb1 (hO 15 (.b false) (hP hb2 (hO 19 (.b false) (hP hb3 h0)))))))))) ?_
      exact wJ G p
 rintro v p
 refine cd p ?_ ?_ <;> intro p
 ·refine rg G ?_
  cases p
  exact rt [] []
 ·refine X_skip (thN (rg G (Ok_seq (rg G (tl p (fun v4 => ⟨[(5, .ref 16 0), (6, .ref 32 0), (16, .own 48)], [bX 16 63 [dV t.Network.Stops, dV t.Network.Lines, dV t.Trips], bX 32 77 [dV f.Dead, dV f.Turn], tX 48 24 [some 3] v4 48 none], 80⟩) (fun v4 p => ?_) ?_)))))
  ·refine Ok_block (lpP p (fun (v1, v2) => ⟨[(2, dV blocks), (5, .ref 16 0), (6, .ref 32 0), (12, dV r.1), (13, dV r.2), (14, dV r1.1), (15, dV r1.2), (16, .own 48), (17, dV v1)], [bX 16 63 [dV t.Network.Stops, dV t.Network.Lines, dV t.Trips], bX 32 77 [dV f.Dead, dV f.Turn], tX 48 24 [some 3] v2 48 none], 80⟩) (Wk_J G.hL ⟨[(2, []), (5, []), (6, []), (12, []), (13, []), (14, []), (15, []), (16, []), (17, [])], [(16, 16, []), (32, 32, []), (48, 64, [.t [some 3]])], [], 80⟩ (by kernel_rfl)) ?_)
   rintro ⟨v1, v2⟩ r0 hb4 p
   rw [zq38_L1] at p
   refine Ok_seq (rs G (hN 2 blocks h0) ?_)
   refine cd p ?_ ?_ <;> intro p
   ·refine X_skip (thN (jn p (fun v3 => ⟨[(2, dV blocks), (5, .ref 16 0), (6, .ref 32 0), (12, dV r.1), (13, dV r.2), (14, dV r1.1), (15, dV r1.2), (16, .own 48), (17, dV v1)], [bX 16 63 [dV t.Network.Stops, dV t.Network.Lines, dV t.Trips], bX 32 77 [dV f.Dead, dV f.Turn], tX 48 24 [some 3] v3 48 none], 80⟩) (fun v3 p => ?_) ?_))
    ·refine Ok_block (rg G (Ok_block (rg G (cd p ?_ ?_)))) <;> intro p
     ·obtain ⟨e2, h11, u4, h12, r5, h13, p⟩ := ob3 p
      obtain ⟨e3, h14, u5, h15, u6, h16, p⟩ := ob3 p
      obtain ⟨u7, h17, p⟩ := obind p
      refine de G [(7, []), (15, []), (16, [336]), (17, [464]), (18, [48, 480])] (hD 3 h11 (hU 7 h12 (hC 8 (zq71_c h13) (hD 11 h14 (hV 15 h15 (hA 16 8 h16 (hP (nodupB_ok (l := [464]) rfl) (hA 18 24 h17 h0)))))))) ?_
      exact ibN (ibN (wJ G p))
     ·refine rg G (cd p ?_ ?_) <;> intro p
      ·obtain ⟨e6, h25, u12, h26, r7, h27, p⟩ := ob3 p
       obtain ⟨e7, h28, u13, h29, u14, h30, p⟩ := ob3 p
       obtain ⟨u15, h31, p⟩ := obind p
       refine de G [(7, []), (15, []), (16, [384]), (17, [512]), (18, [48, 528])] (hD 3 h25 (hU 7 h26 (hC 8 (zq71_c h27) (hD 11 h28 (hV 15 h29 (hA 16 8 h30 (hP (nodupB_ok (l := [512]) rfl) (hA 18 24 h31 h0)))))))) ?_
       exact ibN (ibN (wJ G p))
      ·obtain ⟨e8, h32, r8, h33, u16, h34, p⟩ := ob3 p
       refine re G (hD 3 h32 (hC 5 (zq71_c h33) (hP (nodupB_ok (l := [336]) rfl) (hA 7 24 h34 h0)))) ?_
       exact ibN (ibN (wJ G p))
    rintro v3 p
    exact rh G (wL G p)
   ·exact Ok_exit (thE (thE (ibE (wD G p hb4))))
  rintro v4 p s hw
  refine thN (Ok_weak hw ?_)
  refine Ok_seq ?_
  obtain ⟨r9, h35, p⟩ := obind p
  refine rs G (hC 3 (zq41_M.c (_, _, _) h35) h0) ?_
  refine cd p ?_ ?_ <;> intro p
  ·refine rg G ?_
   cases p
   exact rt [] []
  ·refine X_skip (thN (rg G ?_))
   cases p
   exact rt [] []
noncomputable def zq99_M : MS ((List Int) × (List Int)) Bool := ⟨.x .r .r, fun x => zq99 x.1 x.2, fun y => dV y, fun _ => [], fun _ _ => []⟩
theorem zq99_ok : FnOK Try.prog tJ 114 zq99_M.S := by
 refine fm tt zq99_M [] call114 func114 rfl results114 ntmps114 ?_
 rintro ⟨a, b⟩ y cx G (p : zq99 a b = some y)
 unfold zq99 at p
 refine rg G (Ok_seq (rs G (hN 1 a (hN 3 b h0)) ?_))
 refine cd p ?_ ?_ <;> intro p
 ·refine rg G ?_
  cases p
  exact rt [] []
 ·refine X_skip (thN (Ok_seq (rg G (tF p (fun _ => ⟨[], [], 32⟩) (fun v1 hr p => ?_) ?_))))
  ·refine Ok_block (lp G p (fun v => ⟨[(0, dV a), (1, dV b), (5, dV v)], [], 32⟩) ?_)
   rintro v r0 hb p
   rw [zq99_L1] at p
   refine Ok_seq (rs G (hN 2 a h0) ?_)
   refine cd p ?_ ?_ <;> intro p
   ·refine X_skip (thN (Ok_seq (Ok_block ?_)))
    obtain ⟨e2, h2, e3, h3, p⟩ := ob2 p
    refine ds G [] (hD 2 h2 (hD 6 h3 h0)) ?_
    refine cd p ?_ ?_ <;> intro p
    ·refine rg G ?_
     have p := eL p hb hr
     cases p
     exact rt [] []
    ·exact X_skip (ibN (thN (rh G (wL G p))))
   ·exact Ok_exit (thE (thE (ibE (wE G p hb))))
  rintro ⟨⟩ p s hw
  refine thN (Ok_weak hw ?_)
  refine rg G ?_
  cases p
  exact rt [] []
noncomputable def zq100_M : MS ((List (List Int)) × (List (List Int))) Bool := ⟨.x .r .r, fun x => zq100 x.1 x.2, fun y => dV y, fun _ => [], fun _ _ => []⟩
theorem zq100_ok : FnOK Try.prog tJ 38 zq100_M.S := by
 refine fm tt zq100_M [fo zq99_ok] call38 func38 rfl results38 ntmps38 ?_
 rintro ⟨a, b⟩ y cx G (p : zq100 a b = some y)
 unfold zq100 at p
 refine rg G (Ok_seq (rs G (hN 1 a (hN 3 b h0)) ?_))
 refine cd p ?_ ?_ <;> intro p
 ·refine rg G ?_
  cases p
  exact rt [] []
 ·refine X_skip (thN (Ok_seq (rg G (tF p (fun _ => ⟨[], [], 32⟩) (fun v1 hr p => ?_) ?_))))
  ·refine Ok_block (lp G p (fun v => ⟨[(0, dV a), (1, dV b), (5, dV v)], [], 32⟩) ?_)
   rintro v r0 hb p
   rw [zq100_L1] at p
   refine Ok_seq (rs G (hN 2 a h0) ?_)
   refine cd p ?_ ?_ <;> intro p
   ·refine X_skip (thN (Ok_seq (Ok_block ?_)))
    obtain ⟨e2, h3, e3, h4, r1, h5, p⟩ := ob3 p
    refine ds G [] (hD 2 h3 (hD 6 h4 (hC 8 (zq99_M.c (_, _) h5) h0))) ?_
    refine cd p ?_ ?_ <;> intro p
    ·refine rg G ?_
     have p := eL p hb hr
     cases p
     exact rt [] []
    ·exact X_skip (ibN (thN (rh G (wL G p))))
   ·exact Ok_exit (thE (thE (ibE (wE G p hb))))
  rintro ⟨⟩ p s hw
  refine thN (Ok_weak hw ?_)
  refine rg G ?_
  cases p
  exact rt [] []
noncomputable def zq37_M : MS (Timetable × Fleet × (List (List Int))) Bool := ⟨.x .r (.x .r .r), fun x => zq37 x.1 x.2.1 x.2.2, fun y => dV y, fun _ => [], fun _ _ => []⟩
theorem zq37_ok : FnOK Try.prog tJ 48 zq37_M.S := by
 refine fm tt zq37_M [fo zq39_ok, fo zq41_ok] call48 func48 rfl results48 ntmps48 ?_
 rintro ⟨t, f, blocks⟩ y cx G (p : zq37 t f blocks = some y)
 unfold zq37 at p
 refine rg G ?_
 obtain ⟨r, h, p⟩ := obind p
 refine jn p (fun v => ⟨[(6, dV v)], [], 32⟩) (fun v p => ?_) ?_
 ·rcases bf p with ⟨hb, p⟩ | ⟨hb, p⟩
  ·obtain ⟨r1, h1, p⟩ := obind p
   refine re G (hC 2 (zq39_M.c (_, _) h) (hO 3 (.b true) (hP hb (hC 7 (zq41_M.c (_, _, _) h1) h0)))) ?_
   exact wJ G p
  ·refine re G (hC 2 (zq39_M.c (_, _) h) (hO 3 (.b false) (hP hb h0))) ?_
   exact wJ G p
 rintro v p
 cases p
 exact rt [] []
noncomputable def zq2_M : MS Int Bool := ⟨.r, zq2, fun y => dV y, fun _ => [], fun _ _ => []⟩
theorem zq2_ok : FnOK Try.prog tJ 238 zq2_M.S := by
 refine fm tt zq2_M [] call238 func238 rfl results238 ntmps238 ?_
 rintro x y cx G (p : zq2 x = some y)
 unfold zq2 at p
 refine rg G (rg G ?_)
 cases p
 exact rt [] []
noncomputable def zq0_M : MS (Int × Int) Int := ⟨.x .r .r, fun x => zq0 x.1 x.2, fun y => dV y, fun _ => [], fun _ _ => []⟩
theorem zq0_ok : FnOK Try.prog tJ 225 zq0_M.S := by
 refine fm tt zq0_M [fo zq2_ok] call225 func225 rfl results225 ntmps225 ?_
 rintro ⟨x, y_⟩ y cx G (p : zq0 x y_ = some y)
 unfold zq0 at p
 refine rg G ?_
 obtain ⟨r, h, p⟩ := obind p
 refine rs G (hC 1 (zq2_M.c _ h) h0) ?_
 obtain ⟨r1, h1, p⟩ := obind p
 refine rs G (hC 1 (zq2_M.c _ h1) h0) ?_
 refine Ok_seq (rg G (cd p ?_ ?_)) <;> intro p
 ·refine Ok_seq (rg G (cd p ?_ ?_)) <;> intro p
  ·refine rg G ?_
   cases p
   exact rt [] []
  ·refine X_skip (thN (rg G ?_))
   cases p
   exact rt [] []
 ·refine X_skip (thN (Ok_seq (rg G (cd p ?_ ?_)))) <;> intro p
  ·refine rg G ?_
   cases p
   exact rt [] []
  ·refine X_skip (thN (Ok_seq (rg G (cd p ?_ ?_)))) <;> intro p
   ·refine rg G ?_
    cases p
    exact rt [] []
   ·refine X_skip (thN (Ok_seq (rg G (cd p ?_ ?_)))) <;> intro p
    ·refine rg G ?_
     cases p
     exact rt [] []
    ·refine X_skip (thN (rg G ?_))
     cases p
     exact rt [] []
noncomputable def zq1_M : MS ((List Int)) Int := ⟨.r, zq1, fun y => dV y, fun _ => [], fun _ _ => []⟩
theorem zq1_ok : FnOK Try.prog tJ 224 zq1_M.S := by
 refine fm tt zq1_M [] call224 func224 rfl results224 ntmps224 ?_
 rintro vals y cx G (p : zq1 vals = some y)
 unfold zq1 at p
 refine rg G (rg G (Ok_seq (rs G (hN 1 vals h0) ?_)))
 refine tF p (fun _ => ⟨[(3, kV .i64 0)], [], 32⟩) (fun v1 hr p => ?_) ?_
 ·refine Ok_block (lp G p (fun v => ⟨[(3, kV .i64 0), (6, dV vals), (7, dV (vals.length : Int)), (8, dV v)], [], 32⟩) ?_)
  rintro v r0 hb p
  rw [zq1_L1] at p
  refine rg G (Ok_seq (cd p ?_ ?_)) <;> intro p
  ·refine X_skip (thN (Ok_seq (Ok_block ?_)))
   obtain ⟨e, h, p⟩ := obind p
   refine rs G (hD 0 h h0) ?_
   refine rg G (cd p ?_ ?_) <;> intro p
   ·refine rg G ?_
    have p := eL p hb hr
    cases p
    exact rt [] []
   ·exact X_skip (ibN (thN (rh G (wL G p))))
  ·exact Ok_exit (thE (thE (ibE (wE G p hb))))
 rintro ⟨⟩ p s hw
 refine thN (Ok_weak hw ?_)
 refine rg G ?_
 cases p
 exact rt [] []
noncomputable def zq13_M : MS (links × links) Int := ⟨.x .r .r, fun x => zq13 x.1 x.2, fun y => dV y, fun _ => [], fun _ _ => []⟩
theorem zq13_ok : FnOK Try.prog tJ 180 zq13_M.S := by
 refine fm tt zq13_M [fo zq0_ok, fo zq1_ok] call180 func180 rfl results180 ntmps180 ?_
 rintro ⟨a, b⟩ y cx G (p : zq13 a b = some y)
 unfold zq13 at p
 refine rg G ?_
 obtain ⟨r3, h3, r4, h4, r5, h5, p⟩ := ob3 p
 refine ds G [] (hC 4 (zq0_M.c (_, _) h3) (hC 9 (zq0_M.c (_, _) h4) (hC 11 (zq1_M.c _ h5) h0))) ?_
 cases p
 exact rt [] []
noncomputable def zq28_MR (rec_ : linker → Int → Int → Option (links × (List ((Int × Int) × links)))) : MS (linker × Int × Int) (links × (List ((Int × Int) × links))) := ⟨⟨[.bo 1, .rd, .rd], fun x => [.sc undef, Enc.e x.2.1, Enc.e x.2.2], fun x => [.box 220 [dV x.1.t_.Network.Stops, dV x.1.t_.Network.Lines, dV x.1.t_.Trips, dV x.1.f_.Dead, dV x.1.f_.Turn, .own 1], mpO 218 x.1.memo_], 2, 2, fun _ => rfl, fun _ => rfl, rfl, (by
  rintro ⟨a0, a1, a2⟩ ⟨b0, b1, b2⟩ h hO
  have q0 : a0 = b0 := Enc.inj _ _ (congrArg D.agg (cons_eq (congrArg (fun l => obC l 0 0) hO) (cons_eq (congrArg (fun l => obC l 0 1) hO) (cons_eq (congrArg (fun l => obC l 0 2) hO) (cons_eq (congrArg (fun l => obC l 0 3) hO) (cons_eq (congrArg (fun l => obC l 0 4) hO) (cons_eq (mpL (congrArg (fun l => obM l 1) hO)) rfl)))))))
  have q1 : a1 = b1 := qI 1 h
  have q2 : a2 = b2 := qI 2 h
  subst q0; subst q1; subst q2; rfl)⟩, fun x => rec_ x.1 x.2.1 x.2.2, fun y => dV y.1, fun _ => [], fun x y => [.box 220 [dV x.1.t_.Network.Stops, dV x.1.t_.Network.Lines, dV x.1.t_.Trips, dV x.1.f_.Dead, dV x.1.f_.Turn, .own 1], mpO 218 y.2]⟩
noncomputable def zq28_M : MS (linker × Int × Int) (links × (List ((Int × Int) × links))) := zq28_MR zq28
theorem zq28_c {x i used y} (p : zq28 x i used = some y) : zq28_M.C (x, i, used) y := zq28_M.c (x, i, used) p
theorem zq28_cR {rec_ : linker → Int → Int → Option (links × (List ((Int × Int) × links)))} {x i used y} (p : rec_ x i used = some y) : (zq28_MR rec_).C (x, i, used) y := (zq28_MR rec_).c (x, i, used) p
noncomputable def zq27_MR (rec_ : linker → Int → Int → Option (links × (List ((Int × Int) × links)))) : MS (linker × Int × Int × Int) (links × Bool × (List ((Int × Int) × links))) := ⟨⟨[.bo 1, .rd, .rd, .rd], fun x => [.sc undef, Enc.e x.2.1, Enc.e x.2.2.1, Enc.e x.2.2.2], fun x => [.box 220 [dV x.1.t_.Network.Stops, dV x.1.t_.Network.Lines, dV x.1.t_.Trips, dV x.1.f_.Dead, dV x.1.f_.Turn, .own 1], mpO 218 x.1.memo_], 2, 2, fun _ => rfl, fun _ => rfl, rfl, (by
  rintro ⟨a0, a1, a2, a3⟩ ⟨b0, b1, b2, b3⟩ h hO
  have q0 : a0 = b0 := Enc.inj _ _ (congrArg D.agg (cons_eq (congrArg (fun l => obC l 0 0) hO) (cons_eq (congrArg (fun l => obC l 0 1) hO) (cons_eq (congrArg (fun l => obC l 0 2) hO) (cons_eq (congrArg (fun l => obC l 0 3) hO) (cons_eq (congrArg (fun l => obC l 0 4) hO) (cons_eq (mpL (congrArg (fun l => obM l 1) hO)) rfl)))))))
  have q1 : a1 = b1 := qI 1 h
  have q2 : a2 = b2 := qI 2 h
  have q3 : a3 = b3 := qI 3 h
  subst q0; subst q1; subst q2; subst q3; rfl)⟩, fun x => zq27 rec_ x.1 x.2.1 x.2.2.1 x.2.2.2, fun y => .tup [dV y.1, dV y.2.1], fun _ => [], fun x y => [.box 220 [dV x.1.t_.Network.Stops, dV x.1.t_.Network.Lines, dV x.1.t_.Trips, dV x.1.f_.Dead, dV x.1.f_.Turn, .own 1], mpO 218 y.2.2]⟩
theorem zq27_cR {rec_ : linker → Int → Int → Option (links × (List ((Int × Int) × links)))} {x i a used y} (p : zq27 rec_ x i a used = some y) : (zq27_MR rec_).C (x, i, a, used) y := (zq27_MR rec_).c (x, i, a, used) p
theorem i_linker_after_b_okR {rec_ : linker → Int → Int → Option (links × (List ((Int × Int) × links)))} (hrec : FnOK Try.prog tJ 179 (zq28_MR rec_).S) : FnOK Try.prog tJ 181 (zq27_MR rec_).S := by
 refine fm tt (zq27_MR rec_) [fo hrec, fo zq12_ok, fo zq15_ok] call181 func181 rfl results181 ntmps181 ?_
 rintro ⟨x, i, a, used⟩ y cx G (p : zq27 rec_ x i a used = some y)
 unfold zq27 at p
 refine rg G (Ok_seq (jn p (fun v => ⟨[(0, .ref 0 0), (1, dV i), (2, dV a), (3, dV used), (8, .ref 32 0), (48, dV v)], [bX 0 220 [dV x.t_.Network.Stops, dV x.t_.Network.Lines, dV x.t_.Trips, dV x.f_.Dead, dV x.f_.Turn, .own 1], mX 1 218 x.memo_, bX 32 222 [kV .i64 0, kV .i64 0]], 64⟩) (fun v p => ?_) ?_))
 ·rcases bf p with ⟨hb, p⟩ | ⟨hb, p⟩
  ·refine de G [] (hO 3 (.b true) (hP hb h0)) ?_
   exact wJ G p
  ·obtain ⟨u1, h4, p⟩ := obind p
   rcases bf p with ⟨hb1, p⟩ | ⟨hb1, p⟩
   ·refine de G [] (hO 3 (.b false) (hP hb (hK h4 (hO 10 (.b true) (hP hb1 h0))))) ?_
    exact wJ G p
   ·obtain ⟨e2, h5, e3, h6, r1, h7, p⟩ := ob3 p
    refine de G [] (hO 3 (.b false) (hP hb (hK h4 (hO 10 (.b false) (hP hb1 (hD 25 h5 (hD 33 h6 (hC 35 (zq12_c h7) h0)))))))) ?_
    exact wJ G p
 rintro v p
 refine cd p ?_ ?_ <;> intro p
 ·refine rg G ?_
  cases p
  exact rt [] []
 ·refine X_skip (thN ?_)
  obtain ⟨u2, h8, r2, h9, p⟩ := ob2 p
  refine rs G (hK h8 (hC 7 (zq28_cR h9) h0)) ?_
  obtain ⟨e6, h13, e7, h14, r4, h15, p⟩ := ob3 p
  refine ds G [(32, [32])] (hD 19 h13 (hD 27 h14 (hC 29 (zq15_c h15) h0))) ?_
  cases p
  exact rt [] []
theorem zq28_okF {rec_ : linker → Int → Int → Option (links × (List ((Int × Int) × links)))} (hrec : FnOK Try.prog tJ 179 (zq28_MR rec_).S) : FnOK Try.prog tJ 179 (zq28_MR (zq28_F rec_)).S := by
 refine fm tt (zq28_MR (zq28_F rec_)) [fo hrec, fo (i_linker_after_b_okR hrec), fo zq13_ok] call179 func179 rfl results179 ntmps179 ?_
 rintro ⟨x, i, used⟩ y cx G (p : zq28_F rec_ x i used = some y)
 unfold zq28_F at p
 refine rg G (Ok_seq (rs G (hN 6 x.t_.Trips h0) ?_))
 refine cd p ?_ ?_ <;> intro p
 ·refine rg G ?_
  cases p
  exact rt [] []
 ·refine X_skip (thN (rg G (Ok_seq ?_)))
  obtain ⟨r1, h1, p⟩ := obind p
  refine ds G [(10, [384])] (hO 5 (.mg (Enc.e r1.1) r1.2) (hP (mg_1 h1) (hP (mg_2 h1) h0))) ?_
  refine rg G (cd p ?_ ?_) <;> intro p
  ·refine rg G ?_
   cases p
   exact rt [] []
  ·refine X_skip (thN ?_)
   obtain ⟨r2, h2, p⟩ := obind p
   refine rs G (hC 4 (zq28_cR h2) h0) ?_
   refine Ok_seq (rs G (hN 5 x.t_.Trips h0) ?_)
   refine tl p (fun (v8, v9, v10) => ⟨[(0, .ref 0 0), (6, .ref 32 0), (7, .ref 48 0), (10, .ref 64 0)], [bX 0 220 [dV x.t_.Network.Stops, dV x.t_.Network.Lines, dV x.t_.Trips, dV x.f_.Dead, dV x.f_.Turn, .own 1], mX 1 218 v8, bX 32 222 [kV .i64 0, kV .i64 0], bX 48 257 [dV i, dV used], bX 64 222 [dV v9, dV v10]], 96⟩) (fun vv1 p => ?_) ?_
   ·refine Ok_block (lp G p (fun (v, v1, v2, v3) => ⟨[(0, .ref 0 0), (1, dV i), (2, dV used), (6, .ref 32 0), (7, .ref 48 0), (10, .ref 64 0), (47, dV (x.t_.Trips.length : Int)), (48, dV v)], [bX 0 220 [dV x.t_.Network.Stops, dV x.t_.Network.Lines, dV x.t_.Trips, dV x.f_.Dead, dV x.f_.Turn, .own 1], mX 1 218 v1, bX 32 222 [kV .i64 0, kV .i64 0], bX 48 257 [dV i, dV used], bX 64 222 [dV v2, dV v3]], 96⟩) ?_)
    rintro ⟨v, v1, v2, v3⟩ r0 hb p
    rw [zq28_L1] at p
    refine rg G (Ok_seq (cd p ?_ ?_)) <;> intro p
    ·refine X_skip (thN (jn p (fun (v4, v5, v6) => ⟨[(0, .ref 0 0), (1, dV i), (2, dV used), (6, .ref 32 0), (7, .ref 48 0), (10, .ref 64 0), (47, dV (x.t_.Trips.length : Int)), (48, dV v)], [bX 0 220 [dV x.t_.Network.Stops, dV x.t_.Network.Lines, dV x.t_.Trips, dV x.f_.Dead, dV x.f_.Turn, .own 1], mX 1 218 v4, bX 32 222 [kV .i64 0, kV .i64 0], bX 48 257 [dV i, dV used], bX 64 222 [dV v5, dV v6]], 96⟩) (fun vv p => ?_) ?_))
     ·refine Ok_block (rg G ?_)
      obtain ⟨r3, h3, p⟩ := obind p
      refine rs G (hC 4 (zq27_cR h3) h0) ?_
      refine jn p (fun v7 => ⟨[(0, .ref 0 0), (1, dV i), (2, dV used), (6, .ref 32 0), (7, .ref 48 0), (10, .ref 64 0), (12, .ref 80 0), (47, dV (x.t_.Trips.length : Int)), (48, dV v), (65, dV v7)], [bX 0 220 [dV x.t_.Network.Stops, dV x.t_.Network.Lines, dV x.t_.Trips, dV x.f_.Dead, dV x.f_.Turn, .own 1], mX 1 218 r3.2.2, bX 32 222 [kV .i64 0, kV .i64 0], bX 48 257 [dV i, dV used], bX 64 222 [dV v2, dV v3], bX 80 222 [dV r3.1.count_, dV r3.1.dead_]], 112⟩) (fun v7 p => ?_) ?_
      ·rcases bf p with ⟨hb1, p⟩ | ⟨hb1, p⟩
       ·obtain ⟨r4, h4, p⟩ := obind p
        refine re G (hO 1 (.b true) (hP hb1 (hC 4 (zq13_M.c (_, _) h4) h0))) ?_
        exact wJ G p
       ·refine re G (hO 1 (.b false) (hP hb1 h0)) ?_
        exact wJ G p
      rintro v7 p
      refine cd p ?_ ?_ <;> intro p
      ·exact rh G (ibN (wJ G p))
      ·exact X_skip (ibN (wJ G p))
     rintro ⟨v4, v5, v6⟩ p
     exact rh G (wL G p)
    ·exact Ok_exit (thE (thE (ibE (wD G p hb))))
   rintro ⟨v8, v9, v10⟩ p s hw
   refine thN (Ok_weak hw ?_)
   refine ds G [(6, [1])] (hO 6 (.mp (encM (putL (i, used) (⟨v9, v10⟩ : links) v8))) (hP (put_m (i, used) (⟨v9, v10⟩ : links) v8) h0)) ?_
   refine rg G ?_
   cases p
   exact rt [] []
theorem zq28_okn : ∀ k, FnOK Try.prog tJ 179 (zq28_MR (zq28_k k)).S
 | 0 => ⟨fun args w => call179 args w, fun vs w F ds obs κ hp => by obtain ⟨x, y, _, _, h⟩ := hp; cases h⟩
 | k + 1 => zq28_okF (zq28_okn k)
theorem zq28_ok : FnOK Try.prog tJ 179 zq28_M.S := zq28_okn 4294967296
theorem zq27_ok : FnOK Try.prog tJ 181 (zq27_MR zq28).S := i_linker_after_b_okR zq28_ok
noncomputable def zq29_M : MS (Timetable × Fleet) ((List (List Int)) × Int) := ⟨.x .r .r, fun x => zq29 x.1 x.2, fun y => .tup [.own 0, dV y.2], fun y => [arO 24 y.1], fun _ _ => []⟩
theorem zq29_ok : FnOK Try.prog tJ 109 zq29_M.S := by
 refine fm tt zq29_M [fo zq28_ok, fo zq13_ok, fo zq27_ok, fo zq96_ok] call109 func109 rfl results109 ntmps109 ?_
 rintro ⟨t, f⟩ y cx G (p : zq29 t f = some y)
 unfold zq29 at p
 refine rg G (rg G ?_)
 obtain ⟨u, h, p⟩ := obind p
 refine rs G (hN 2 t.Trips (hO 3 (.l (List.map Enc.e (List.replicate (t.Trips.length : Int).toNat (0 : Int)))) (hP (mk_p (b := 8) (chk_t h) rfl) (hP (rep_m Enc.e (t.Trips.length : Int).toNat (0 : Int)) h0)))) ?_
 refine rg G (Ok_seq (rs G (hN 2 t.Trips h0) ?_))
 refine tl p (fun (i3, v7) => ⟨[(2, .ref 16 0), (6, .ref 32 0), (7, .own 48)], [bX 16 63 [dV t.Network.Stops, dV t.Network.Lines, dV t.Trips], bX 32 220 [dV t.Network.Stops, dV t.Network.Lines, dV t.Trips, dV f.Dead, dV f.Turn, .own 64], aX 48 3 i3, mX 64 218 v7], 96⟩) (fun vv2 p => ?_) ?_
 ·refine Ok_block (lp G p (fun (want, v, i, v1) => ⟨[(2, .ref 16 0), (6, .ref 32 0), (7, .own 48), (8, dV want), (28, dV (t.Trips.length : Int)), (29, dV v)], [bX 16 63 [dV t.Network.Stops, dV t.Network.Lines, dV t.Trips], bX 32 220 [dV t.Network.Stops, dV t.Network.Lines, dV t.Trips, dV f.Dead, dV f.Turn, .own 64], aX 48 3 i, mX 64 218 v1], 96⟩) ?_)
  rintro ⟨want, v, i, v1⟩ r0 hb p
  rw [zq29_L2] at p
  refine rg G (Ok_seq (cd p ?_ ?_)) <;> intro p
  ·refine X_skip (thN (jn p (fun (want1, i1, v2) => ⟨[(2, .ref 16 0), (6, .ref 32 0), (7, .own 48), (8, dV want1), (28, dV (t.Trips.length : Int)), (29, dV v)], [bX 16 63 [dV t.Network.Stops, dV t.Network.Lines, dV t.Trips], bX 32 220 [dV t.Network.Stops, dV t.Network.Lines, dV t.Trips, dV f.Dead, dV f.Turn, .own 64], aX 48 3 i1, mX 64 218 v2], 96⟩) (fun vv1 p => ?_) ?_))
   ·refine Ok_block (rg G ?_)
    obtain ⟨e, h1, p⟩ := obind p
    refine rs G (hD 2 h1 (hS 3 h1 (-1) h0)) ?_
    obtain ⟨r, h2, p⟩ := obind p
    refine rs G (hC 2 (zq28_c h2) h0) ?_
    refine Ok_seq ?_
    obtain ⟨r3, h5, r4, h6, p⟩ := ob2 p
    refine ds G [(3, [32, 64])] (hC 3 (zq28_c h5) (hC 5 (zq13_M.c (_, _) h6) h0)) ?_
    refine cd p ?_ ?_ <;> intro p
    ·exact Ok_exit (thE (ibE (wJ G p)))
    ·refine X_skip (thN (rs G (hN 2 t.Trips h0) ?_))
     refine tl p (fun (want2, i2, v6) => ⟨[(2, .ref 16 0), (6, .ref 32 0), (7, .own 48), (8, dV want2), (28, dV (t.Trips.length : Int)), (29, dV v)], [bX 16 63 [dV t.Network.Stops, dV t.Network.Lines, dV t.Trips], bX 32 220 [dV t.Network.Stops, dV t.Network.Lines, dV t.Trips, dV f.Dead, dV f.Turn, .own 64], aX 48 3 i2, mX 64 218 v6], 96⟩) (fun vv p => ?_) ?_
     ·refine Ok_block (lp G p (fun (v3, v4) => ⟨[(2, .ref 16 0), (6, .ref 32 0), (7, .own 48), (8, dV want), (9, dV v), (10, .ref 64 0), (28, dV (t.Trips.length : Int)), (29, dV v), (47, dV (t.Trips.length : Int)), (48, dV v3)], [bX 16 63 [dV t.Network.Stops, dV t.Network.Lines, dV t.Trips], bX 32 220 [dV t.Network.Stops, dV t.Network.Lines, dV t.Trips, dV f.Dead, dV f.Turn, .own 80], aX 48 3 (i.set v.toNat (-1)), bX 64 222 [dV r.1.count_, dV r.1.dead_], mX 80 218 v4], 112⟩) ?_)
      rintro ⟨v3, v4⟩ r0 hb1 p
      rw [zq29_L1] at p
      refine rg G (Ok_seq (cd p ?_ ?_)) <;> intro p
      ·refine X_skip (thN (Ok_seq (Ok_block (rg G ?_))))
       obtain ⟨r5, h7, p⟩ := obind p
       refine rs G (hC 3 (zq27_cR h7) h0) ?_
       refine jn p (fun v5 => ⟨[(2, .ref 16 0), (6, .ref 32 0), (7, .own 48), (8, dV want), (9, dV v), (10, .ref 64 0), (11, dV v3), (28, dV (t.Trips.length : Int)), (29, dV v), (47, dV (t.Trips.length : Int)), (48, dV v3), (64, dV v5)], [bX 16 63 [dV t.Network.Stops, dV t.Network.Lines, dV t.Trips], bX 32 220 [dV t.Network.Stops, dV t.Network.Lines, dV t.Trips, dV f.Dead, dV f.Turn, .own 80], aX 48 3 (i.set v.toNat (-1)), bX 64 222 [dV r.1.count_, dV r.1.dead_], mX 80 218 r5.2.2], 112⟩) (fun v5 p => ?_) ?_
       ·rcases bf p with ⟨hb2, p⟩ | ⟨hb2, p⟩
        ·obtain ⟨r6, h8, p⟩ := obind p
         refine re G (hO 1 (.b true) (hP hb2 (hC 4 (zq13_M.c (_, _) h8) h0))) ?_
         exact wJ G p
        ·refine re G (hO 1 (.b false) (hP hb2 h0)) ?_
         exact wJ G p
       rintro v5 p
       refine cd p ?_ ?_ <;> intro p
       ·obtain ⟨e1, h9, p⟩ := obind p
        refine rs G (hD 3 h9 (hS 4 h9 v3 h0)) ?_
        obtain ⟨u1, h10, p⟩ := obind p
        refine rs G (hK h10 h0) ?_
        exact Ok_exit (ibX rfl (thE (thE (ibE (wD G p hb1)))))
       ·exact X_skip (ibN (thN (rh G (wL G p))))
      ·exact Ok_exit (thE (thE (ibE (wD G p hb1))))
     rintro ⟨want2, i2, v6⟩ p s hw
     exact ibN (wJp p (Wk.trans hw (Wk_J G.hL ⟨[(2, []), (6, []), (7, []), (8, []), (28, []), (29, [])], [(16, 16, []), (32, 32, []), (48, 48, []), (64, 64, [])], [], 96⟩ (by kernel_rfl))))
   rintro ⟨want1, i1, v2⟩ p
   exact rh G (wL G p)
  ·exact Ok_exit (thE (thE (ibE (wD G p hb))))
 rintro ⟨i3, v7⟩ p s1 hw1
 refine thN (Ok_weak hw1 ?_)
 refine rg G (Ok_seq (rs G (hN 2 t.Trips h0) ?_))
 refine tl p (fun block2 => ⟨[(6, .ref 16 0), (14, .own 32)], [bX 16 220 [dV t.Network.Stops, dV t.Network.Lines, dV t.Trips, dV f.Dead, dV f.Turn, .own 48], aX 32 24 block2, mX 48 218 v7], 80⟩) (fun block2 p => ?_) ?_
 ·refine Ok_block (lpP p (fun (v8, block) => ⟨[(2, .ref 16 0), (6, .ref 32 0), (7, .own 48), (14, .own 64), (77, dV (t.Trips.length : Int)), (78, dV v8)], [bX 16 63 [dV t.Network.Stops, dV t.Network.Lines, dV t.Trips], bX 32 220 [dV t.Network.Stops, dV t.Network.Lines, dV t.Trips, dV f.Dead, dV f.Turn, .own 80], aX 48 3 i3, aX 64 24 block, mX 80 218 v7], 112⟩) (Wk_J G.hL ⟨[(2, []), (6, []), (7, []), (14, [.o 64]), (77, []), (78, [])], [(16, 16, []), (32, 32, []), (48, 48, []), (80, 64, [])], [(64, 24, 1, [])], 112⟩ (by kernel_rfl)) ?_)
  rintro ⟨v8, block⟩ r0 hb3 p
  rw [zq29_L4] at p
  refine rg G (Ok_seq (cd p ?_ ?_)) <;> intro p
  ·refine X_skip (thN (jn p (fun block1 => ⟨[(2, .ref 16 0), (6, .ref 32 0), (7, .own 48), (14, .own 64), (77, dV (t.Trips.length : Int)), (78, dV v8)], [bX 16 63 [dV t.Network.Stops, dV t.Network.Lines, dV t.Trips], bX 32 220 [dV t.Network.Stops, dV t.Network.Lines, dV t.Trips, dV f.Dead, dV f.Turn, .own 80], aX 48 3 i3, aX 64 24 block1, mX 80 218 v7], 112⟩) (fun block1 p => ?_) ?_))
   ·refine Ok_block (rg G (Ok_seq ?_))
    obtain ⟨e2, h11, p⟩ := obind p
    refine rs G (hD 2 h11 (hE 3 h11 h0)) ?_
    refine cd p ?_ ?_ <;> intro p
    ·exact Ok_exit (thE (ibE (wJ G p)))
    ·refine X_skip (thN (rg G (Ok_seq (rg G (tl p (fun v11 => ⟨[(2, .ref 16 0), (6, .ref 32 0), (7, .own 48), (14, .own 64), (16, .own 80), (77, dV (t.Trips.length : Int)), (78, dV v8)], [bX 16 63 [dV t.Network.Stops, dV t.Network.Lines, dV t.Trips], bX 32 220 [dV t.Network.Stops, dV t.Network.Lines, dV t.Trips, dV f.Dead, dV f.Turn, .own 96], aX 48 3 i3, aX 64 24 block, aX 80 3 v11, mX 96 218 v7], 128⟩) (fun v11 p => ?_) ?_)))))
     ·refine Ok_block (lpP p (fun (v9, v10) => ⟨[(2, .ref 16 0), (6, .ref 32 0), (7, .own 48), (14, .own 64), (16, .own 80), (17, dV v9), (77, dV (t.Trips.length : Int)), (78, dV v8)], [bX 16 63 [dV t.Network.Stops, dV t.Network.Lines, dV t.Trips], bX 32 220 [dV t.Network.Stops, dV t.Network.Lines, dV t.Trips, dV f.Dead, dV f.Turn, .own 96], aX 48 3 i3, aX 64 24 block, aX 80 3 v10, mX 96 218 v7], 128⟩) (Wk_J G.hL ⟨[(2, []), (6, []), (7, []), (14, []), (16, [.o 80]), (17, []), (77, []), (78, [])], [(16, 16, []), (32, 32, []), (48, 48, []), (64, 64, []), (96, 80, [])], [(80, 3, 1, [])], 128⟩ (by kernel_rfl)) ?_)
      rintro ⟨v9, v10⟩ r0 hb4 p
      rw [zq29_L3] at p
      refine Ok_seq (rg G (cd p ?_ ?_)) <;> intro p
      ·refine X_skip (thN (Ok_seq (Ok_block ?_)))
       obtain ⟨e3, h12, u2, h13, p⟩ := ob2 p
       refine re G (hD 4 h12 (hA 8 8 h13 h0)) ?_
       refine ibN (thN ?_)
       obtain ⟨r7, h14, p⟩ := obind p
       refine re G (hC 2 (zq96_M.c (_, _) h14) h0) ?_
       exact wL G p
      ·exact Ok_exit (thE (thE (ibE (wD G p hb4))))
     rintro v11 p s2 hw2
     refine thN (Ok_weak hw2 ?_)
     obtain ⟨u3, h15, p⟩ := obind p
     refine re G (hO 2 (.fz [80] [] []) (hA 3 24 h15 h0)) ?_
     exact ibN (wJ G p)
   rintro block1 p
   exact rh G (wL G p)
  ·exact Ok_exit (thE (thE (ibE (wD G p hb3))))
 rintro block2 p s3 hw3
 refine thN (Ok_weak hw3 ?_)
 obtain ⟨r8, h16, p⟩ := obind p
 refine rs G (hC 1 (zq28_c h16) h0) ?_
 cases p
 exact rt [32] []
noncomputable def zq7_M : MS (Timetable × Fleet) ((List (List Int)) × Int × Bool) := ⟨.x .r .r, fun x => zq7 x.1 x.2, fun y => .tup [dV y.1, dV y.2.1, dV y.2.2], fun _ => [], fun _ _ => []⟩
theorem zq7_ok : FnOK Try.prog tJ 36 zq7_M.S := by
 refine fm tt zq7_M [fo zq21_ok, fo zq29_ok] call36 func36 rfl results36 ntmps36 ?_
 rintro ⟨t, f⟩ y cx G (p : zq7 t f = some y)
 unfold zq7 at p
 refine rg G (Ok_seq ?_)
 obtain ⟨r, h, p⟩ := obind p
 refine rs G (hC 2 (zq21_M.c (_, _) h) h0) ?_
 refine cd p ?_ ?_ <;> intro p
 ·refine rg G ?_
  cases p
  exact rt [] [[.z 1]]
 ·refine X_skip (thN ?_)
  obtain ⟨r1, h1, p⟩ := obind p
  refine rs G (hC 2 (zq29_M.c (_, _) h1) h0) ?_
  refine rg G ?_
  cases p
  exact rt [] []
noncomputable def v_FnSwaps_M : MS ((List UInt8)) Bool := ⟨.r, v_FnSwaps, fun y => dV y, fun _ => [], fun _ _ => []⟩
theorem v_FnSwaps_ok : FnOK Try.prog tJ 6 v_FnSwaps_M.S := by
 refine fm tt v_FnSwaps_M [fo zq98_ok, fo zq36_ok, fo zq8_ok, fo zq38_ok, fo zq100_ok, fo zq3_ok, fo zq37_ok, fo zq7_ok] call6 func6 rfl results6 ntmps6 ?_
 rintro code y cx G (p : v_FnSwaps code = some y)
 unfold v_FnSwaps at p
 refine rg G (Ok_seq ?_)
 obtain ⟨r, h, p⟩ := obind p
 refine rs G (hC 1 (zq98_M.c _ h) h0) ?_
 refine cd p ?_ ?_ <;> intro p
 ·refine rg G ?_
  cases p
  exact rt [] []
 ·refine X_skip (thN ?_)
  obtain ⟨r1, h1, p⟩ := obind p
  refine rs G (hC 1 (zq36_M.c _ h1) h0) ?_
  obtain ⟨r2, h2, p⟩ := obind p
  refine rs G (hO 5 (.fz [80] [] []) (hC 5 (zq8_c h2) h0)) ?_
  refine Ok_seq ?_
  obtain ⟨r3, h3, p⟩ := obind p
  refine rs G (hC 5 (zq38_M.c (_, _, _, _, _) h3) h0) ?_
  refine jn p (fun v => ⟨[(3, .ref 16 0), (4, .ref 32 0), (5, dV r1.2.2.1), (6, dV r1.2.2.2.1), (7, dV r1.2.2.2.2), (8, dV r2.1), (9, dV r2.2), (64, dV v)], [bX 16 63 [dV r1.1.Network.Stops, dV r1.1.Network.Lines, dV r1.1.Trips], bX 32 77 [dV r1.2.1.Dead, dV r1.2.1.Turn]], 64⟩) (fun v p => ?_) ?_
  ·rcases bf p with ⟨hb, p⟩ | ⟨hb, p⟩
   ·refine de G [] (hO 3 (.b true) (hP hb h0)) ?_
    exact wJ G p
   ·obtain ⟨r7, h7, p⟩ := obind p
    rcases bf p with ⟨hb1, p⟩ | ⟨hb1, p⟩
    ·refine de G [] (hO 3 (.b false) (hP hb (hC 6 (zq100_M.c (_, _) h7) (hO 9 (.b true) (hP hb1 h0))))) ?_
     exact wJ G p
    ·obtain ⟨r8, h8, r9, h9, p⟩ := ob2 p
     refine de G [] (hO 3 (.b false) (hP hb (hC 6 (zq100_M.c (_, _) h7) (hO 9 (.b false) (hP hb1 (hC 13 (zq3_M.c (_, _, _) h8) (hC 17 (zq37_M.c (_, _, _) h9) h0))))))) ?_
     exact wJ G p
  rintro v p
  refine cd p ?_ ?_ <;> intro p
  ·refine rg G ?_
   cases p
   exact rt [] []
  ·refine X_skip (thN (Ok_seq (rg G (cd p ?_ ?_)))) <;> intro p
   ·refine rs G (hN 1 r2.1 h0) ?_
    cases p
    exact rt [] []
   ·refine X_skip (thN ?_)
    obtain ⟨r10, h10, p⟩ := obind p
    refine rs G (hC 5 (zq8_c h10) h0) ?_
    obtain ⟨r11, h11, p⟩ := obind p
    refine rs G (hC 2 (zq7_M.c (_, _) h11) h0) ?_
    refine jn p (fun t => ⟨[(2, dV t)], [], 32⟩) (fun t p => ?_) ?_
    ·rcases bf p with ⟨hb2, p⟩ | ⟨hb2, p⟩
     ·obtain ⟨r12, h12, p⟩ := obind p
      rcases bf p with ⟨hb3, p⟩ | ⟨hb3, p⟩
      ·rcases bf p with ⟨hb4, p⟩ | ⟨hb4, p⟩
       ·refine re G (hO 1 (.b true) (hP hb2 (hC 4 (zq100_M.c (_, _) h12) (hO 6 (.b true) (hP hb3 (hO 9 (.b true) (hP hb4 (hN 11 r11.1 (hN 13 r2.1 h0))))))))) ?_
        exact wJ G p
       ·refine re G (hO 1 (.b true) (hP hb2 (hC 4 (zq100_M.c (_, _) h12) (hO 6 (.b true) (hP hb3 (hO 9 (.b false) (hP hb4 h0))))))) ?_
        exact wJ G p
      ·refine re G (hO 1 (.b true) (hP hb2 (hC 4 (zq100_M.c (_, _) h12) (hO 6 (.b false) (hP hb3 h0))))) ?_
       exact wJ G p
     ·refine re G (hO 1 (.b false) (hP hb2 h0)) ?_
      exact wJ G p
    rintro t p
    cases p
    exact rt [] []
end Go.Proofs.Ytjahononbnbjnaa
