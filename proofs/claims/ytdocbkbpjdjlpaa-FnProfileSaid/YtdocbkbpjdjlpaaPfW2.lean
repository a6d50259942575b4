/- Each function computes what its model says. Made by program (dec.py). -/
import Derived.Test.YtdocbkbpjdjlpaaPfW1
namespace Go.Proofs.Ytdocbkbpjdjlpaa
open Go Go.Ab Try
set_option maxRecDepth 100000
set_option maxHeartbeats 4000000
set_option linter.unusedVariables false
set_option linter.unusedSimpArgs false
noncomputable def zq73_M : MS Timetable Bool := ⟨.r, zq73, fun y => dV y, fun _ => [], fun _ _ => []⟩
theorem zq73_ok : FnOK Try.prog tJ 64 zq73_M.S := by
 refine fm tt zq73_M [fo zq62_ok, fo zq53_ok, fo zq70_ok, fo zq72_ok] call64 func64 rfl results64 ntmps64 ?_
 rintro t y cx G (p : zq73 t = some y)
 unfold zq73 at p
 refine rg G (Ok_seq ?_)
 obtain ⟨r, h, p⟩ := obind p
 refine jn p (fun v => ⟨[(1, .ref 16 0), (14, dV v)], [bX 16 35 [dV t.Network.Stops, dV t.Network.Lines, dV t.Trips]], 48⟩) (fun v p => ?_) ?_
 ·rcases bf p with ⟨hb, p⟩ | ⟨hb, p⟩
  ·refine re G (hC 2 (zq62_M.c _ h) (hO 4 (.b true) (hP hb h0))) ?_
   exact wJ G p
  ·refine re G (hC 2 (zq62_M.c _ h) (hO 4 (.b false) (hP hb (hN 7 t.Trips h0)))) ?_
   exact wJ G p
 rintro v p
 refine cd p ?_ ?_ <;> intro p
 ·refine rg G ?_
  cases p
  exact rt [] []
 ·refine X_skip (thN (Ok_seq (rg G (tF p (fun _ => ⟨[], [], 32⟩) (fun v2 hr p => ?_) ?_))))
  ·refine Ok_block (lp G p (fun x => ⟨[(1, .ref 16 0), (3, dV x)], [bX 16 35 [dV t.Network.Stops, dV t.Network.Lines, dV t.Trips]], 48⟩) ?_)
   rintro x r0 hb1 p
   rw [zq73_L1] at p
   refine Ok_seq (rs G (hN 3 t.Trips h0) ?_)
   refine cd p ?_ ?_ <;> intro p
   ·refine X_skip (thN (Ok_seq (Ok_block ?_)))
    obtain ⟨e, h1, p⟩ := obind p
    refine rs G (hD 3 h1 h0) ?_
    obtain ⟨r6, h8, p⟩ := obind p
    refine jn p (fun v1 => ⟨[(1, .ref 16 0), (3, dV x), (70, dV v1)], [bX 16 35 [dV t.Network.Stops, dV t.Network.Lines, dV t.Trips]], 48⟩) (fun v1 p => ?_) ?_
    ·rcases bf p with ⟨hb2, p⟩ | ⟨hb2, p⟩
     ·refine de G [] (hC 2 (zq53_c h8) (hO 4 (.b true) (hP hb2 h0))) ?_
      exact wJ G p
     ·obtain ⟨r7, h9, p⟩ := obind p
      rcases bf p with ⟨hb3, p⟩ | ⟨hb3, p⟩
      ·refine de G [] (hC 2 (zq53_c h8) (hO 4 (.b false) (hP hb2 (hN 10 t.Network.Lines (hC 12 (zq53_c h9) (hO 15 (.b true) (hP hb3 h0))))))) ?_
       exact wJ G p
      ·obtain ⟨r8, h10, p⟩ := obind p
       rcases bf p with ⟨hb4, p⟩ | ⟨hb4, p⟩
       ·refine de G [] (hC 2 (zq53_c h8) (hO 4 (.b false) (hP hb2 (hN 10 t.Network.Lines (hC 12 (zq53_c h9) (hO 15 (.b false) (hP hb3 (hC 18 (zq70_M.c _ h10) (hO 21 (.b true) (hP hb4 h0)))))))))) ?_
        exact wJ G p
       ·obtain ⟨r9, h11, r10, h12, p⟩ := ob2 p
        rcases bf p with ⟨hb5, p⟩ | ⟨hb5, p⟩
        ·refine de G [] (hC 2 (zq53_c h8) (hO 4 (.b false) (hP hb2 (hN 10 t.Network.Lines (hC 12 (zq53_c h9) (hO 15 (.b false) (hP hb3 (hC 18 (zq70_M.c _ h10) (hO 21 (.b false) (hP hb4 (hC 24 (zq72_M.c (_, _) h11) (hC 25 (zq70_M.c _ h12) (hO 28 (.b true) (hP hb5 h0)))))))))))))) ?_
         exact wJ G p
        ·rcases bf p with ⟨hb6, p⟩ | ⟨hb6, p⟩
         ·obtain ⟨e2, h13, p⟩ := obind p
          refine de G [] (hC 2 (zq53_c h8) (hO 4 (.b false) (hP hb2 (hN 10 t.Network.Lines (hC 12 (zq53_c h9) (hO 15 (.b false) (hP hb3 (hC 18 (zq70_M.c _ h10) (hO 21 (.b false) (hP hb4 (hC 24 (zq72_M.c (_, _) h11) (hC 25 (zq70_M.c _ h12) (hO 28 (.b false) (hP hb5 (hO 31 (.b true) (hP hb6 (hD 36 h13 h0))))))))))))))))) ?_
          exact wJ G p
         ·refine de G [] (hC 2 (zq53_c h8) (hO 4 (.b false) (hP hb2 (hN 10 t.Network.Lines (hC 12 (zq53_c h9) (hO 15 (.b false) (hP hb3 (hC 18 (zq70_M.c _ h10) (hO 21 (.b false) (hP hb4 (hC 24 (zq72_M.c (_, _) h11) (hC 25 (zq70_M.c _ h12) (hO 28 (.b false) (hP hb5 (hO 31 (.b false) (hP hb6 h0)))))))))))))))) ?_
          exact wJ G p
    rintro v1 p
    refine cd p ?_ ?_ <;> intro p
    ·refine rg G ?_
     have p := eL p hb1 hr
     cases p
     exact rt [] []
    ·exact X_skip (ibN (thN (rh G (wL G p))))
   ·exact Ok_exit (thE (thE (ibE (wE G p hb1))))
  rintro ⟨⟩ p s hw
  refine thN (Ok_weak hw ?_)
  refine rg G ?_
  cases p
  exact rt [] []
noncomputable def zq77_M : MS (Timetable × Int) Bool := ⟨.x .r .r, fun x => zq77 x.1 x.2, fun y => dV y, fun _ => [], fun _ _ => []⟩
theorem zq77_ok : FnOK Try.prog tJ 220 zq77_M.S := by
 refine fm tt zq77_M [fo zq73_ok, fo zq53_ok] call220 func220 rfl results220 ntmps220 ?_
 rintro ⟨t, change⟩ y cx G (p : zq77 t change = some y)
 unfold zq77 at p
 refine rg G ?_
 obtain ⟨r, h, p⟩ := obind p
 refine jn p (fun v => ⟨[(4, dV v)], [], 32⟩) (fun v p => ?_) ?_
 ·rcases bf p with ⟨hb, p⟩ | ⟨hb, p⟩
  ·obtain ⟨r1, h1, p⟩ := obind p
   refine re G (hC 1 (zq73_M.c _ h) (hO 2 (.b true) (hP hb (hC 4 (zq53_c h1) h0)))) ?_
   exact wJ G p
  ·refine re G (hC 1 (zq73_M.c _ h) (hO 2 (.b false) (hP hb h0))) ?_
   exact wJ G p
 rintro v p
 cases p
 exact rt [] []
noncomputable def zq79_M : MS (Timetable × Int × Int × Int) Bool := ⟨.x .r (.x .r (.x .r .r)), fun x => zq79 x.1 x.2.1 x.2.2.1 x.2.2.2, fun y => dV y, fun _ => [], fun _ _ => []⟩
theorem zq79_ok : FnOK Try.prog tJ 178 zq79_M.S := by
 refine fm tt zq79_M [fo zq77_ok, fo zq53_ok, fo zq70_ok] call178 func178 rfl results178 ntmps178 ?_
 rintro ⟨t, change, from_, at_⟩ y cx G (p : zq79 t change from_ at_ = some y)
 unfold zq79 at p
 refine rg G ?_
 obtain ⟨r, h, p⟩ := obind p
 refine jn p (fun v => ⟨[(8, dV v)], [], 32⟩) (fun v p => ?_) ?_
 ·rcases bf p with ⟨hb, p⟩ | ⟨hb, p⟩
  ·obtain ⟨r1, h1, p⟩ := obind p
   rcases bf p with ⟨hb1, p⟩ | ⟨hb1, p⟩
   ·obtain ⟨r2, h2, p⟩ := obind p
    refine re G (hC 2 (zq77_M.c (_, _) h) (hO 3 (.b true) (hP hb (hN 8 t.Network.Stops (hC 10 (zq53_c h1) (hO 12 (.b true) (hP hb1 (hC 14 (zq70_M.c _ h2) h0)))))))) ?_
    exact wJ G p
   ·refine re G (hC 2 (zq77_M.c (_, _) h) (hO 3 (.b true) (hP hb (hN 8 t.Network.Stops (hC 10 (zq53_c h1) (hO 12 (.b false) (hP hb1 h0))))))) ?_
    exact wJ G p
  ·refine re G (hC 2 (zq77_M.c (_, _) h) (hO 3 (.b false) (hP hb h0))) ?_
   exact wJ G p
 rintro v p
 cases p
 exact rt [] []
noncomputable def zq80_M : MS (Timetable × Int × Int × Int × Int) Bool := ⟨.x .r (.x .r (.x .r (.x .r .r))), fun x => zq80 x.1 x.2.1 x.2.2.1 x.2.2.2.1 x.2.2.2.2, fun y => dV y, fun _ => [], fun _ _ => []⟩
theorem zq80_c {t change from_ to_ at_ y} (p : zq80 t change from_ to_ at_ = some y) : zq80_M.C (t, change, from_, to_, at_) y := zq80_M.c (t, change, from_, to_, at_) p
theorem zq80_ok : FnOK Try.prog tJ 123 zq80_M.S := by
 refine fm tt zq80_M [fo zq79_ok, fo zq53_ok] call123 func123 rfl results123 ntmps123 ?_
 rintro ⟨t, change, from_, to_, at_⟩ y cx G (p : zq80 t change from_ to_ at_ = some y)
 unfold zq80 at p
 refine rg G ?_
 obtain ⟨r, h, p⟩ := obind p
 refine jn p (fun v => ⟨[(10, dV v)], [], 32⟩) (fun v p => ?_) ?_
 ·rcases bf p with ⟨hb, p⟩ | ⟨hb, p⟩
  ·obtain ⟨r1, h1, p⟩ := obind p
   rcases bf p with ⟨hb1, p⟩ | ⟨hb1, p⟩
   ·refine re G (hC 4 (zq79_M.c (_, _, _, _) h) (hO 5 (.b true) (hP hb (hN 10 t.Network.Stops (hC 12 (zq53_c h1) (hO 14 (.b true) (hP hb1 h0))))))) ?_
    exact wJ G p
   ·refine re G (hC 4 (zq79_M.c (_, _, _, _) h) (hO 5 (.b true) (hP hb (hN 10 t.Network.Stops (hC 12 (zq53_c h1) (hO 14 (.b false) (hP hb1 h0))))))) ?_
    exact wJ G p
  ·refine re G (hC 4 (zq79_M.c (_, _, _, _) h) (hO 5 (.b false) (hP hb h0))) ?_
   exact wJ G p
 rintro v p
 cases p
 exact rt [] []
noncomputable def zq81_M : MS (Timetable × Int × Int × Int) Bool := ⟨.x .r (.x .r (.x .r .r)), fun x => zq81 x.1 x.2.1 x.2.2.1 x.2.2.2, fun y => dV y, fun _ => [], fun _ _ => []⟩
theorem zq81_ok : FnOK Try.prog tJ 132 zq81_M.S := by
 refine fm tt zq81_M [fo zq80_ok] call132 func132 rfl results132 ntmps132 ?_
 rintro ⟨t, change, from_, to_⟩ y cx G (p : zq81 t change from_ to_ = some y)
 unfold zq81 at p
 refine rg G ?_
 obtain ⟨r, h, p⟩ := obind p
 refine rs G (hC 4 (zq80_c h) h0) ?_
 cases p
 exact rt [] []
noncomputable def zq58_M : MS ((List Int) × Int) ((List Int)) := ⟨.x .r .r, fun x => zq58 x.1 x.2, fun y => dV y, fun _ => [], fun _ _ => []⟩
theorem zq58_ok : FnOK Try.prog tJ 227 zq58_M.S := by
 refine fm tt zq58_M [] call227 func227 rfl results227 ntmps227 ?_
 rintro ⟨l, n⟩ y cx G (p : zq58 l n = some y)
 unfold zq58 at p
 refine rg G (rg G (jn p (fun v2 => ⟨[(0, dV l), (1, dV n), (5, dV v2)], [], 32⟩) (fun v2 p => ?_) ?_))
 ·refine Ok_block (lp G p (fun v => ⟨[(0, dV l), (1, dV n), (5, dV v)], [], 32⟩) ?_)
  rintro v r0 hb p
  rw [zq58_L1] at p
  refine Ok_seq (jn p (fun v1 => ⟨[(0, dV l), (1, dV n), (5, dV v), (17, dV v1)], [], 32⟩) (fun v1 p => ?_) ?_)
  ·rcases bf p with ⟨hb1, p⟩ | ⟨hb1, p⟩
   ·obtain ⟨e, h, p⟩ := obind p
    refine re G (hN 2 l (hO 4 (.b true) (hP hb1 (hD 7 h h0)))) ?_
    exact wJ G p
   ·refine re G (hN 2 l (hO 4 (.b false) (hP hb1 h0))) ?_
    exact wJ G p
  rintro v1 p
  refine cd p ?_ ?_ <;> intro p
  ·exact X_skip (thN (Ok_block (rh G (ibN (wL G p)))))
  ·exact Ok_exit (thE (thE (ibE (wD G p hb))))
 rintro v2 p
 refine Ok_seq (jn p (fun v3 => ⟨[(0, dV l), (1, dV n), (5, dV v2), (31, dV v3)], [], 32⟩) (fun v3 p => ?_) ?_)
 ·rcases bf p with ⟨hb2, p⟩ | ⟨hb2, p⟩
  ·obtain ⟨e1, h1, p⟩ := obind p
   refine re G (hN 2 l (hO 4 (.b true) (hP hb2 (hD 7 h1 h0)))) ?_
   exact wJ G p
  ·refine re G (hN 2 l (hO 4 (.b false) (hP hb2 h0))) ?_
   exact wJ G p
 rintro v3 p
 refine cd p ?_ ?_ <;> intro p
 ·refine rg G ?_
  cases p
  exact rt [] []
 ·refine X_skip (thN ?_)
  obtain ⟨u5, h7, u6, h8, u7, h9, p⟩ := ob3 p
  obtain ⟨u8, h10, u9, h11, p⟩ := ob2 p
  refine ds G [(3, []), (4, [32]), (7, [96, 128]), (10, []), (11, [144])] (hU 3 h7 (hA 4 8 h8 (hA 7 8 h9 (hV 10 h10 (hA 11 8 h11 h0))))) ?_
  cases p
  exact rt [] []
noncomputable def zq78_M : MS (Timetable × Int) ((List Int)) := ⟨.x .r .r, fun x => zq78 x.1 x.2, fun _ => .own 0, fun y => [arO 3 y], fun _ _ => []⟩
theorem zq78_ok : FnOK Try.prog tJ 191 zq78_M.S := by
 refine fm tt zq78_M [fo zq74_ok, fo zq68_ok, fo zq71_ok, fo zq58_ok, fo zq59_ok] call191 func191 rfl results191 ntmps191 ?_
 rintro ⟨t, from_⟩ y cx G (p : zq78 t from_ = some y)
 unfold zq78 at p
 refine rg G (rg G (Ok_seq (rg G (tl p (fun k2 => ⟨[(5, dV k2)], [], 32⟩) (fun k2 p => ?_) ?_))))
 ·refine Ok_block (lp G p (fun (k, v) => ⟨[(1, dV from_), (2, .ref 16 0), (5, dV k), (6, dV v)], [bX 16 35 [dV t.Network.Stops, dV t.Network.Lines, dV t.Trips]], 48⟩) ?_)
  rintro ⟨k, v⟩ r0 hb p
  rw [zq78_L1] at p
  refine Ok_seq (rs G (hN 3 t.Trips h0) ?_)
  refine cd p ?_ ?_ <;> intro p
  ·refine X_skip (thN (jn p (fun k1 => ⟨[(1, dV from_), (2, .ref 16 0), (5, dV k1), (6, dV v)], [bX 16 35 [dV t.Network.Stops, dV t.Network.Lines, dV t.Trips]], 48⟩) (fun k1 p => ?_) ?_))
   ·refine Ok_block ?_
    obtain ⟨r, h, r1, h1, p⟩ := ob2 p
    refine rs G (hC 2 (zq74_M.c (_, _) h) (hC 4 (zq68_M.c (_, _) h1) h0)) ?_
    refine rg G (cd p ?_ ?_) <;> intro p
    ·obtain ⟨r2, h2, r3, h3, p⟩ := ob2 p
     refine re G (hC 4 (zq71_M.c (_, _, _) h2) (hC 5 (zq58_M.c (_, _) h3) h0)) ?_
     exact ibN (wJ G p)
    ·exact X_skip (ibN (wJ G p))
   rintro k1 p
   exact rh G (wL G p)
  ·exact Ok_exit (thE (thE (ibE (wD G p hb))))
 rintro k2 p s hw
 refine thN (Ok_weak hw ?_)
 obtain ⟨r4, h4, p⟩ := obind p
 refine rs G (hC 1 (zq59_M.c _ h4) h0) ?_
 cases p
 exact rt [48] []
noncomputable def zq76_M : MS (Timetable × Int × Int × Int × Int) ((List Int)) := ⟨.x .r (.x .r (.x .r (.x .r .r))), fun x => zq76 x.1 x.2.1 x.2.2.1 x.2.2.2.1 x.2.2.2.2, fun _ => .own 0, fun y => [arO 3 y], fun _ _ => []⟩
theorem zq76_ok : FnOK Try.prog tJ 124 zq76_M.S := by
 refine fm tt zq76_M [fo zq75_ok, fo zq71_ok] call124 func124 rfl results124 ntmps124 ?_
 rintro ⟨t, change, from_, at_, legs⟩ y cx G (p : zq76 t change from_ at_ legs = some y)
 unfold zq76 at p
 refine rg G ?_
 obtain ⟨u, h, p⟩ := obind p
 refine rs G (hN 3 t.Network.Stops (hO 4 (.l (List.map Enc.e (List.replicate (t.Network.Stops.length : Int).toNat (0 : Int)))) (hP (mk_p (b := 8) (chk_t h) rfl) (hP (rep_m Enc.e (t.Network.Stops.length : Int).toNat (0 : Int)) h0)))) ?_
 refine Ok_seq (rg G (tl p (fun i1 => ⟨[(1, dV change), (2, dV from_), (3, dV at_), (4, dV legs), (5, .ref 16 0), (11, .own 32)], [bX 16 35 [dV t.Network.Stops, dV t.Network.Lines, dV t.Trips], aX 32 3 i1], 64⟩) (fun i1 p => ?_) ?_))
 ·refine Ok_block (lp G p (fun (on_, i) => ⟨[(1, dV change), (2, dV from_), (3, dV at_), (4, dV legs), (5, .ref 16 0), (11, .own 32), (12, dV on_)], [bX 16 35 [dV t.Network.Stops, dV t.Network.Lines, dV t.Trips], aX 32 3 i], 64⟩) ?_)
  rintro ⟨on_, i⟩ r0 hb p
  rw [zq76_L1] at p
  refine Ok_seq (rs G (hN 2 i h0) ?_)
  refine cd p ?_ ?_ <;> intro p
  ·refine X_skip (thN (Ok_seq (Ok_block ?_)))
   obtain ⟨e, h1, p⟩ := obind p
   refine re G (hD 2 h1 (hS 3 h1 (-1) h0)) ?_
   exact ibN (thN (rh G (wL G p)))
  ·exact Ok_exit (thE (thE (ibE (wD G p hb))))
 rintro i1 p s hw
 refine thN (Ok_weak hw ?_)
 obtain ⟨e1, h2, p⟩ := obind p
 refine rs G (hD 3 h2 (hS 4 h2 at_ h0)) ?_
 refine Ok_seq (rg G (tl p (fun i3 => ⟨[(11, .own 16)], [aX 16 3 i3], 48⟩) (fun i3 p => ?_) ?_))
 ·refine Ok_block (lp G p (fun (stops, i2) => ⟨[(1, dV change), (2, dV from_), (3, dV at_), (4, dV legs), (5, .ref 16 0), (11, .own 32), (13, dV stops)], [bX 16 35 [dV t.Network.Stops, dV t.Network.Lines, dV t.Trips], aX 32 3 i2], 64⟩) ?_)
  rintro ⟨stops, i2⟩ r0 hb1 p
  rw [zq76_L4] at p
  refine Ok_seq (rg G (cd p ?_ ?_)) <;> intro p
  ·refine X_skip (thN (Ok_seq (Ok_block ?_)))
   obtain ⟨u1, h3, p⟩ := obind p
   refine rs G (hA 2 8 h3 h0) ?_
   refine rg G (jn p (fun s1 => ⟨[(1, dV change), (2, dV from_), (3, dV at_), (4, dV legs), (5, .ref 16 0), (11, .own 32), (13, dV stops), (14, .own 48), (15, dV s1)], [bX 16 35 [dV t.Network.Stops, dV t.Network.Lines, dV t.Trips], aX 32 3 i2, aX 48 3 (([] : List Int) ++ i2)], 80⟩) (fun s1 p => ?_) ?_)
   ·refine rg G (cd p ?_ ?_) <;> intro p
    ·exact rh G (wJ G p)
    ·exact X_skip (wJ G p)
   rintro s1 p
   refine Ok_seq (rg G (tl p (fun k4 => ⟨[(1, dV change), (2, dV from_), (3, dV at_), (4, dV legs), (5, .ref 16 0), (13, dV stops), (14, .own 32)], [bX 16 35 [dV t.Network.Stops, dV t.Network.Lines, dV t.Trips], aX 32 3 k4], 64⟩) (fun k4 p => ?_) ?_))
   ·refine Ok_block (lp G p (fun (time, k) => ⟨[(1, dV change), (2, dV from_), (3, dV at_), (4, dV legs), (5, .ref 16 0), (11, .own 32), (13, dV stops), (14, .own 48), (15, dV s1), (16, dV time)], [bX 16 35 [dV t.Network.Stops, dV t.Network.Lines, dV t.Trips], aX 32 3 i2, aX 48 3 k], 80⟩) ?_)
    rintro ⟨time, k⟩ r0 hb2 p
    rw [zq76_L3] at p
    refine Ok_seq (rs G (hN 3 t.Trips h0) ?_)
    refine cd p ?_ ?_ <;> intro p
    ·refine X_skip (thN (Ok_seq (Ok_block (rg G ?_))))
     obtain ⟨r, h4, p⟩ := obind p
     refine rs G (hC 2 (zq75_M.c (_, _) h4) h0) ?_
     refine rg G (tl p (fun k3 => ⟨[(1, dV change), (2, dV from_), (3, dV at_), (4, dV legs), (5, .ref 16 0), (11, .own 32), (13, dV stops), (14, .own 48), (15, dV s1), (16, dV time)], [bX 16 35 [dV t.Network.Stops, dV t.Network.Lines, dV t.Trips], aX 32 3 i2, aX 48 3 k3], 80⟩) (fun k3 p => ?_) ?_)
     ·refine Ok_block (lp G p (fun (ready, v, k1) => ⟨[(1, dV change), (2, dV from_), (3, dV at_), (4, dV legs), (5, .ref 16 0), (11, .own 32), (13, dV stops), (14, .own 48), (15, dV s1), (16, dV time), (17, dV ready), (18, dV r), (19, dV v)], [bX 16 35 [dV t.Network.Stops, dV t.Network.Lines, dV t.Trips], aX 32 3 i2, aX 48 3 k1], 80⟩) ?_)
      rintro ⟨ready, v, k1⟩ r0 hb3 p
      rw [zq76_L2] at p
      refine Ok_seq (rs G (hN 2 r h0) ?_)
      refine cd p ?_ ?_ <;> intro p
      ·refine X_skip (thN (Ok_seq (Ok_block ?_)))
       obtain ⟨e3, h7, r2, h8, p⟩ := ob2 p
       refine ds G [] (hD 2 h7 (hC 7 (zq71_M.c (_, _, _) h8) h0)) ?_
       refine jn p (fun k2 => ⟨[(1, dV change), (2, dV from_), (3, dV at_), (4, dV legs), (5, .ref 16 0), (11, .own 32), (13, dV stops), (14, .own 48), (15, dV s1), (16, dV time), (17, dV ready), (18, dV r), (19, dV v), (20, dV e3), (21, dV r2)], [bX 16 35 [dV t.Network.Stops, dV t.Network.Lines, dV t.Trips], aX 32 3 i2, aX 48 3 k2], 80⟩) (fun k2 p => ?_) ?_
       ·refine jn p (fun v1 => ⟨[(1, dV change), (2, dV from_), (3, dV at_), (4, dV legs), (5, .ref 16 0), (11, .own 32), (13, dV stops), (14, .own 48), (15, dV s1), (16, dV time), (17, dV ready), (18, dV r), (19, dV v), (20, dV e3), (21, dV r2), (91, dV v1)], [bX 16 35 [dV t.Network.Stops, dV t.Network.Lines, dV t.Trips], aX 32 3 i2, aX 48 3 k1], 80⟩) (fun v1 p => ?_) ?_
        ·rcases bf p with ⟨hb4, p⟩ | ⟨hb4, p⟩
         ·obtain ⟨e4, h9, p⟩ := obind p
          rcases bf p with ⟨hb5, p⟩ | ⟨hb5, p⟩
          ·refine re G (hO 1 (.b true) (hP hb4 (hD 4 h9 (hE 5 h9 (hO 7 (.b true) (hP hb5 h0)))))) ?_
           exact wJ G p
          ·obtain ⟨e5, h10, p⟩ := obind p
           refine re G (hO 1 (.b true) (hP hb4 (hD 4 h9 (hE 5 h9 (hO 7 (.b false) (hP hb5 (hD 11 h10 (hE 12 h10 h0)))))))) ?_
           exact wJ G p
         ·refine re G (hO 1 (.b false) (hP hb4 h0)) ?_
          exact wJ G p
        rintro v1 p
        refine cd p ?_ ?_ <;> intro p
        ·obtain ⟨e6, h11, p⟩ := obind p
         refine re G (hD 3 h11 (hS 4 h11 r2 h0)) ?_
         exact wJ G p
        ·exact X_skip (wJ G p)
       rintro k2 p
       obtain ⟨e7, h12, p⟩ := obind p
       refine rs G (hD 2 h12 (hE 3 h12 h0)) ?_
       refine jn p (fun v2 => ⟨[(1, dV change), (2, dV from_), (3, dV at_), (4, dV legs), (5, .ref 16 0), (11, .own 32), (13, dV stops), (14, .own 48), (15, dV s1), (16, dV time), (17, dV ready), (18, dV r), (19, dV v), (20, dV e3), (21, dV r2), (22, dV v2)], [bX 16 35 [dV t.Network.Stops, dV t.Network.Lines, dV t.Trips], aX 32 3 i2, aX 48 3 k2], 80⟩) (fun v2 p => ?_) ?_
       ·refine rg G (cd p ?_ ?_) <;> intro p
        ·exact rh G (wJ G p)
        ·exact X_skip (wJ G p)
       rintro v2 p
       rcases bf p with ⟨hb6, p⟩ | ⟨hb6, p⟩
       ·refine re G (hO 1 (.b true) (hP hb6 h0)) ?_
        exact ibN (thN (rh G (wL G p)))
       ·obtain ⟨e8, h13, p⟩ := obind p
        rcases bf p with ⟨hb7, p⟩ | ⟨hb7, p⟩
        ·refine re G (hO 1 (.b false) (hP hb6 (hD 4 h13 (hE 5 h13 (hO 7 (.b true) (hP hb7 h0)))))) ?_
         exact ibN (thN (rh G (wL G p)))
        ·refine re G (hO 1 (.b false) (hP hb6 (hD 4 h13 (hE 5 h13 (hO 7 (.b false) (hP hb7 h0)))))) ?_
         exact ibN (thN (rh G (wL G p)))
      ·exact Ok_exit (thE (thE (ibE (wD G p hb3))))
     rintro k3 p s2 hw1
     refine ibN (thN (Ok_weak hw1 ?_))
     exact rh G (wL G p)
    ·exact Ok_exit (thE (thE (ibE (wD G p hb2))))
   rintro k4 p s3 hw2
   refine thN (Ok_weak hw2 ?_)
   exact rh G (ibN (thN (rh G (wL G p))))
  ·exact Ok_exit (thE (thE (ibE (wD G p hb1))))
 rintro i3 p s4 hw3
 refine thN (Ok_weak hw3 ?_)
 refine rg G ?_
 cases p
 exact rt [16] []
noncomputable def zq82_M : MS (Timetable × Int × Int × Int) ((List Choice)) := ⟨.x .r (.x .r (.x .r .r)), fun x => zq82 x.1 x.2.1 x.2.2.1 x.2.2.2, fun _ => .own 0, fun y => [arO 112 y], fun _ _ => []⟩
theorem zq82_ok : FnOK Try.prog tJ 133 zq82_M.S := by
 refine fm tt zq82_M [fo zq78_ok, fo zq76_ok] call133 func133 rfl results133 ntmps133 ?_
 rintro ⟨t, change, from_, to_⟩ y cx G (p : zq82 t change from_ to_ = some y)
 unfold zq82 at p
 refine rg G (rg G ?_)
 obtain ⟨r, h, p⟩ := obind p
 refine rs G (hC 2 (zq78_M.c (_, _) h) h0) ?_
 refine rg G (Ok_seq (rg G (tl p (fun now1 => ⟨[(9, .own 16)], [aX 16 112 now1], 48⟩) (fun now1 p => ?_) ?_)))
 ·refine Ok_block (lp G p (fun (n, now, arrive) => ⟨[(1, dV change), (2, dV from_), (3, dV to_), (4, .ref 16 0), (9, .own 32), (10, .own 48), (11, .own 64), (12, dV n)], [bX 16 35 [dV t.Network.Stops, dV t.Network.Lines, dV t.Trips], aX 32 112 now, aX 48 3 r, aX 64 3 arrive], 96⟩) ?_)
  rintro ⟨n, now, arrive⟩ r0 hb p
  rw [zq82_L2] at p
  refine Ok_seq (rs G (hN 2 r h0) ?_)
  refine cd p ?_ ?_ <;> intro p
  ·refine X_skip (thN (Ok_seq (Ok_block (rg G (Ok_seq (rg G (tl p (fun (arrive3, v6) => ⟨[(1, dV change), (2, dV from_), (3, dV to_), (4, .ref 16 0), (9, .own 32), (10, .own 48), (11, .own 64), (12, dV n), (13, .own 80)], [bX 16 35 [dV t.Network.Stops, dV t.Network.Lines, dV t.Trips], aX 32 112 now, aX 48 3 r, aX 64 3 arrive3, aX 80 112 v6], 112⟩) (fun vv1 p => ?_) ?_)))))))
   ·refine Ok_block (lp G p (fun (v, arrive1, v1) => ⟨[(1, dV change), (2, dV from_), (3, dV to_), (4, .ref 16 0), (9, .own 32), (10, .own 48), (11, .own 64), (12, dV n), (13, .own 80), (14, dV v)], [bX 16 35 [dV t.Network.Stops, dV t.Network.Lines, dV t.Trips], aX 32 112 now, aX 48 3 r, aX 64 3 arrive1, aX 80 112 v1], 112⟩) ?_)
    rintro ⟨v, arrive1, v1⟩ r0 hb1 p
    rw [zq82_L1] at p
    refine Ok_seq (rg G (cd p ?_ ?_)) <;> intro p
    ·refine X_skip (thN (jn p (fun (arrive2, v2) => ⟨[(1, dV change), (2, dV from_), (3, dV to_), (4, .ref 16 0), (9, .own 32), (10, .own 48), (11, .own 64), (12, dV n), (13, .own 80), (14, dV v)], [bX 16 35 [dV t.Network.Stops, dV t.Network.Lines, dV t.Trips], aX 32 112 now, aX 48 3 r, aX 64 3 arrive2, aX 80 112 v2], 112⟩) (fun vv p => ?_) ?_))
     ·refine Ok_block ?_
      obtain ⟨e2, h4, r2, h5, e3, h6, p⟩ := ob3 p
      refine ds G [] (hD 5 h4 (hE 6 h4 (hC 8 (zq76_M.c (_, _, _, _, _) h5) (hD 10 h6 (hE 11 h6 h0))))) ?_
      refine jn p (fun v3 => ⟨[(1, dV change), (2, dV from_), (3, dV to_), (4, .ref 16 0), (9, .own 32), (10, .own 48), (11, .own 64), (12, dV n), (13, .own 80), (14, dV v), (15, dV e3), (61, dV v3)], [bX 16 35 [dV t.Network.Stops, dV t.Network.Lines, dV t.Trips], aX 32 112 now, aX 48 3 r, aX 64 3 arrive1, aX 80 112 v1], 112⟩) (fun v3 p => ?_) ?_
      ·rcases bf p with ⟨hb2, p⟩ | ⟨hb2, p⟩
       ·obtain ⟨e4, h7, p⟩ := obind p
        rcases bf p with ⟨hb3, p⟩ | ⟨hb3, p⟩
        ·refine re G (hO 2 (.b true) (hP hb2 (hD 5 h7 (hE 6 h7 (hO 8 (.b true) (hP hb3 h0)))))) ?_
         exact wJ G p
        ·obtain ⟨e5, h8, p⟩ := obind p
         refine re G (hO 2 (.b true) (hP hb2 (hD 5 h7 (hE 6 h7 (hO 8 (.b false) (hP hb3 (hD 12 h8 (hE 13 h8 h0)))))))) ?_
         exact wJ G p
       ·refine re G (hO 2 (.b false) (hP hb2 h0)) ?_
        exact wJ G p
      rintro v3 p
      refine cd p ?_ ?_ <;> intro p
      ·refine jn p (fun v4 => ⟨[(1, dV change), (2, dV from_), (3, dV to_), (4, .ref 16 0), (9, .own 32), (10, .own 48), (11, .own 64), (12, dV n), (13, .own 80), (14, dV v), (15, dV e3)], [bX 16 35 [dV t.Network.Stops, dV t.Network.Lines, dV t.Trips], aX 32 112 now, aX 48 3 r, aX 64 3 arrive1, aX 80 112 v4], 112⟩) (fun v4 p => ?_) ?_
       ·refine rs G (hN 1 v1 h0) ?_
        refine jn p (fun v5 => ⟨[(1, dV change), (2, dV from_), (3, dV to_), (4, .ref 16 0), (9, .own 32), (10, .own 48), (11, .own 64), (12, dV n), (13, .own 80), (14, dV v), (15, dV e3), (75, dV v5)], [bX 16 35 [dV t.Network.Stops, dV t.Network.Lines, dV t.Trips], aX 32 112 now, aX 48 3 r, aX 64 3 arrive1, aX 80 112 v1], 112⟩) (fun v5 p => ?_) ?_
        ·rcases bf p with ⟨hb4, p⟩ | ⟨hb4, p⟩
         ·refine re G (hO 2 (.b true) (hP hb4 h0)) ?_
          exact wJ G p
         ·obtain ⟨e6, h9, p⟩ := obind p
          refine re G (hO 2 (.b false) (hP hb4 (hD 6 h9 (hE 8 h9 h0)))) ?_
          exact wJ G p
        rintro v5 p
        refine cd p ?_ ?_ <;> intro p
        ·obtain ⟨e7, h10, u, h11, p⟩ := ob2 p
         refine re G (hD 3 h10 (hE 4 h10 (hA 9 24 h11 h0))) ?_
         exact wJ G p
        ·exact X_skip (wJ G p)
       rintro v4 p
       obtain ⟨e8, h12, p⟩ := obind p
       refine re G (hD 3 h12 (hS 4 h12 e3 h0)) ?_
       exact ibN (wJ G p)
      ·exact X_skip (ibN (wJ G p))
     rintro ⟨arrive2, v2⟩ p
     exact rh G (wL G p)
    ·exact Ok_exit (thE (thE (ibE (wD G p hb1))))
   rintro ⟨arrive3, v6⟩ p s hw
   refine thN (Ok_weak hw ?_)
   obtain ⟨u1, h13, p⟩ := obind p
   refine re G (hA 2 24 h13 h0) ?_
   exact ibN (thN (rh G (wL G p)))
  ·exact Ok_exit (thE (thE (ibE (wD G p hb))))
 rintro now1 p s1 hw1
 refine thN (Ok_weak hw1 ?_)
 refine rg G ?_
 cases p
 exact rt [16] []
noncomputable def zq34_M : MS (Timetable × Int × Int × Int) ((List Choice) × Bool) := ⟨.x .r (.x .r (.x .r .r)), fun x => zq34 x.1 x.2.1 x.2.2.1 x.2.2.2, fun y => .tup [.own 0, dV y.2], fun y => [arO 112 y.1], fun _ _ => []⟩
theorem zq34_ok : FnOK Try.prog tJ 60 zq34_M.S := by
 refine fm tt zq34_M [fo zq81_ok, fo zq82_ok] call60 func60 rfl results60 ntmps60 ?_
 rintro ⟨t, change, from_, to_⟩ y cx G (p : zq34 t change from_ to_ = some y)
 unfold zq34 at p
 refine rg G (Ok_seq ?_)
 obtain ⟨r, h, p⟩ := obind p
 refine rs G (hC 4 (zq81_M.c (_, _, _, _) h) h0) ?_
 refine cd p ?_ ?_ <;> intro p
 ·refine rg G ?_
  cases p
  exact rt [160] []
 ·refine X_skip (thN ?_)
  obtain ⟨r1, h1, p⟩ := obind p
  refine rs G (hC 4 (zq82_M.c (_, _, _, _) h1) h0) ?_
  cases p
  exact rt [224] []
noncomputable def zq3_M : MS (Timetable × Int × Int × Int) (Choice × Bool) := ⟨.x .r (.x .r (.x .r .r)), fun x => zq3 x.1 x.2.1 x.2.2.1 x.2.2.2, fun y => .tup [dV y.1, dV y.2], fun _ => [], fun _ _ => []⟩
theorem zq3_ok : FnOK Try.prog tJ 61 zq3_M.S := by
 refine fm tt zq3_M [fo zq19_ok, fo zq28_ok] call61 func61 rfl results61 ntmps61 ?_
 rintro ⟨t, change, from_, to_⟩ y cx G (p : zq3 t change from_ to_ = some y)
 unfold zq3 at p
 refine rg G (Ok_seq ?_)
 obtain ⟨r, h, p⟩ := obind p
 refine rs G (hC 4 (zq19_M.c (_, _, _, _) h) h0) ?_
 refine cd p ?_ ?_ <;> intro p
 ·refine rg G ?_
  cases p
  exact rt [] []
 ·refine X_skip (thN (rg G (Ok_seq ?_)))
  obtain ⟨r1, h1, p⟩ := obind p
  refine rs G (hC 4 (zq28_M.c (_, _, _, _) h1) (hN 5 r1 h0)) ?_
  refine tl p (fun (v10, v11, v12, v13) => ⟨[(8, .ref 16 0), (10, .ref 32 0), (11, dV v10)], [bX 16 112 [kV .i64 0, kV .i64 0, kV .i64 0], bX 32 112 [dV v11, dV v12, dV v13]], 64⟩) (fun vv1 p => ?_) ?_
  ·refine Ok_block (lp G p (fun (v, v1, v2, v3, v4) => ⟨[(8, .ref 16 0), (10, .ref 32 0), (11, dV v), (26, .own 48), (27, dV (r1.length : Int)), (28, dV v1)], [bX 16 112 [kV .i64 0, kV .i64 0, kV .i64 0], bX 32 112 [dV v2, dV v3, dV v4], aX 48 112 r1], 80⟩) ?_)
   rintro ⟨v, v1, v2, v3, v4⟩ r0 hb p
   rw [zq3_L1] at p
   refine rg G (Ok_seq (cd p ?_ ?_)) <;> intro p
   ·refine X_skip (thN (jn p (fun (v5, v6, v7, v8) => ⟨[(8, .ref 16 0), (10, .ref 32 0), (11, dV v5), (26, .own 48), (27, dV (r1.length : Int)), (28, dV v1)], [bX 16 112 [kV .i64 0, kV .i64 0, kV .i64 0], bX 32 112 [dV v6, dV v7, dV v8], aX 48 112 r1], 80⟩) (fun vv p => ?_) ?_))
    ·refine Ok_block ?_
     obtain ⟨e, h2, p⟩ := obind p
     refine rs G (hD 0 h2 (hE 1 h2 h0)) ?_
     refine jn p (fun v9 => ⟨[(8, .ref 16 0), (10, .ref 32 0), (11, dV v), (13, .ref 48 0), (26, .own 64), (27, dV (r1.length : Int)), (28, dV v1), (46, dV v9)], [bX 16 112 [kV .i64 0, kV .i64 0, kV .i64 0], bX 32 112 [dV v2, dV v3, dV v4], bX 48 112 [dV e.Depart, dV e.Arrive, dV e.Legs], aX 64 112 r1], 96⟩) (fun v9 p => ?_) ?_
     ·rcases bf p with ⟨hb1, p⟩ | ⟨hb1, p⟩
      ·refine re G (hO 2 (.b true) (hP hb1 h0)) ?_
       exact wJ G p
      ·refine re G (hO 2 (.b false) (hP hb1 h0)) ?_
       exact wJ G p
     rintro v9 p
     refine cd p ?_ ?_ <;> intro p
     ·exact rh G (ibN (wJ G p))
     ·exact X_skip (ibN (wJ G p))
    rintro ⟨v5, v6, v7, v8⟩ p
    exact rh G (wL G p)
   ·exact Ok_exit (thE (thE (ibE (wD G p hb))))
  rintro ⟨v10, v11, v12, v13⟩ p s hw
  refine thN (Ok_weak hw ?_)
  refine rg G ?_
  cases p
  exact rt [] []
noncomputable def zq16_M : MS (Timetable × Int × Int × Int) Bool := ⟨.x .r (.x .r (.x .r .r)), fun x => zq16 x.1 x.2.1 x.2.2.1 x.2.2.2, fun y => dV y, fun _ => [], fun _ _ => []⟩
theorem zq16_ok : FnOK Try.prog tJ 128 zq16_M.S := by
 refine fm tt zq16_M [fo zq6_ok, fo zq15_ok, fo zq20_ok, fo zq5_ok] call128 func128 rfl results128 ntmps128 ?_
 rintro ⟨t, change, from_, at_⟩ y cx G (p : zq16 t change from_ at_ = some y)
 unfold zq16 at p
 refine rg G ?_
 obtain ⟨r, h, p⟩ := obind p
 refine jn p (fun v => ⟨[(8, dV v)], [], 32⟩) (fun v p => ?_) ?_
 ·rcases bf p with ⟨hb, p⟩ | ⟨hb, p⟩
  ·obtain ⟨r1, h1, p⟩ := obind p
   rcases bf p with ⟨hb1, p⟩ | ⟨hb1, p⟩
   ·obtain ⟨r2, h2, p⟩ := obind p
    rcases bf p with ⟨hb2, p⟩ | ⟨hb2, p⟩
    ·obtain ⟨r3, h3, p⟩ := obind p
     refine re G (hC 1 (zq6_M.c _ h) (hO 2 (.b true) (hP hb (hC 4 (zq15_M.c _ h1) (hO 6 (.b true) (hP hb1 (hC 10 (zq20_M.c (_, _) h2) (hO 12 (.b true) (hP hb2 (hC 14 (zq5_M.c _ h3) h0)))))))))) ?_
     exact wJ G p
    ·refine re G (hC 1 (zq6_M.c _ h) (hO 2 (.b true) (hP hb (hC 4 (zq15_M.c _ h1) (hO 6 (.b true) (hP hb1 (hC 10 (zq20_M.c (_, _) h2) (hO 12 (.b false) (hP hb2 h0))))))))) ?_
     exact wJ G p
   ·refine re G (hC 1 (zq6_M.c _ h) (hO 2 (.b true) (hP hb (hC 4 (zq15_M.c _ h1) (hO 6 (.b false) (hP hb1 h0)))))) ?_
    exact wJ G p
  ·refine re G (hC 1 (zq6_M.c _ h) (hO 2 (.b false) (hP hb h0))) ?_
   exact wJ G p
 rintro v p
 cases p
 exact rt [] []
noncomputable def zq12_M : MS (Timetable × Int × Int × Int) ((List Int)) := ⟨.x .r (.x .r (.x .r .r)), fun x => zq12 x.1 x.2.1 x.2.2.1 x.2.2.2, fun _ => .own 0, fun y => [arO 3 y], fun _ _ => []⟩
theorem zq12_ok : FnOK Try.prog tJ 129 zq12_M.S := by
 refine fm tt zq12_M [fo zq24_ok, fo zq10_ok] call129 func129 rfl results129 ntmps129 ?_
 rintro ⟨t, change, from_, at_⟩ y cx G (p : zq12 t change from_ at_ = some y)
 unfold zq12 at p
 refine rg G ?_
 obtain ⟨r2, h2, r3, h3, p⟩ := ob2 p
 refine ds G [] (hC 5 (zq24_M.c (_, _, _) h2) (hF 6 (zq10_c h3) ⟨(flat_cons flat_arr flat_nil), flat_nil⟩ h0)) ?_
 refine Ok_seq (rs G (hN 1 r3 h0) ?_)
 refine tl p (fun v3 => ⟨[(2, dV from_), (3, dV at_), (9, .own 16)], [aX 16 3 v3], 48⟩) (fun v3 p => ?_) ?_
 ·refine Ok_block (lp G p (fun (v, v1) => ⟨[(2, dV from_), (3, dV at_), (9, .own 16), (19, .own 16), (20, dV (r3.length : Int)), (21, dV v)], [aX 16 3 v1], 48⟩) ?_)
  rintro ⟨v, v1⟩ r0 hb p
  rw [zq12_L1] at p
  refine rg G (Ok_seq (cd p ?_ ?_)) <;> intro p
  ·refine X_skip (thN (jn p (fun v2 => ⟨[(2, dV from_), (3, dV at_), (9, .own 16), (19, .own 16), (20, dV (r3.length : Int)), (21, dV v)], [aX 16 3 v2], 48⟩) (fun v2 p => ?_) ?_))
   ·refine Ok_block ?_
    obtain ⟨e, h4, p⟩ := obind p
    refine rs G (hD 1 h4 (hE 2 h4 h0)) ?_
    refine rg G (cd p ?_ ?_) <;> intro p
    ·obtain ⟨e1, h5, p⟩ := obind p
     refine re G (hD 2 h5 (hS 3 h5 (-1) h0)) ?_
     exact ibN (wJ G p)
    ·exact X_skip (ibN (wJ G p))
   rintro v2 p
   exact rh G (wL G p)
  ·exact Ok_exit (thE (thE (ibE (wD G p hb))))
 rintro v3 p s hw
 refine thN (Ok_weak hw ?_)
 obtain ⟨e2, h6, p⟩ := obind p
 refine rs G (hD 3 h6 (hS 4 h6 at_ h0)) ?_
 refine rg G ?_
 cases p
 exact rt [16] []
noncomputable def zq2_M : MS (Timetable × Int × Int × Int) ((List Int) × Bool) := ⟨.x .r (.x .r (.x .r .r)), fun x => zq2 x.1 x.2.1 x.2.2.1 x.2.2.2, fun y => .tup [dV y.1, dV y.2], fun _ => [], fun _ _ => []⟩
theorem zq2_c {t change from_ at_ y} (p : zq2 t change from_ at_ = some y) : zq2_M.C (t, change, from_, at_) y := zq2_M.c (t, change, from_, at_) p
theorem zq2_ok : FnOK Try.prog tJ 57 zq2_M.S := by
 refine fm tt zq2_M [fo zq16_ok, fo zq12_ok] call57 func57 rfl results57 ntmps57 ?_
 rintro ⟨t, change, from_, at_⟩ y cx G (p : zq2 t change from_ at_ = some y)
 unfold zq2 at p
 refine rg G (Ok_seq ?_)
 obtain ⟨r, h, p⟩ := obind p
 refine rs G (hC 4 (zq16_M.c (_, _, _, _) h) h0) ?_
 refine cd p ?_ ?_ <;> intro p
 ·refine rg G ?_
  cases p
  exact rt [] [[.z 1]]
 ·refine X_skip (thN ?_)
  obtain ⟨r1, h1, p⟩ := obind p
  refine rs G (hC 4 (zq12_M.c (_, _, _, _) h1) h0) ?_
  cases p
  exact rt [] []
noncomputable def v_FnProfile_M : MS ((List UInt8)) Bool := ⟨.r, v_FnProfile, fun y => dV y, fun _ => [], fun _ _ => []⟩
theorem v_FnProfile_ok : FnOK Try.prog tJ 8 v_FnProfile_M.S := by
 refine fm tt v_FnProfile_M [fo zq106_ok, fo zq33_ok, fo zq7_ok, fo zq34_ok, fo zq3_ok, fo zq2_ok] call8 func8 rfl results8 ntmps8 ?_
 rintro code y cx G (p : v_FnProfile code = some y)
 unfold v_FnProfile at p
 refine rg G (Ok_seq ?_)
 obtain ⟨r, h, p⟩ := obind p
 refine rs G (hC 1 (zq106_M.c _ h) h0) ?_
 refine cd p ?_ ?_ <;> intro p
 ·refine rg G ?_
  cases p
  exact rt [] []
 ·refine X_skip (thN ?_)
  obtain ⟨r1, h1, p⟩ := obind p
  refine rs G (hC 1 (zq33_M.c _ h1) h0) ?_
  obtain ⟨r2, h2, p⟩ := obind p
  refine rs G (hO 4 (.fz [80, 81] [] []) (hC 4 (zq7_M.c (_, _, _, _) h2) h0)) ?_
  obtain ⟨r3, h3, p⟩ := obind p
  refine rs G (hC 4 (zq34_M.c (_, _, _, _) h3) h0) ?_
  refine Ok_seq (jn p (fun v => ⟨[(3, .ref 16 0), (4, dV r1.2.1), (5, dV r1.2.2.1), (6, dV r1.2.2.2), (7, dV r2.1), (9, .own 32), (52, dV v)], [bX 16 35 [dV r1.1.Network.Stops, dV r1.1.Network.Lines, dV r1.1.Trips], aX 32 112 r3.1], 64⟩) (fun v p => ?_) ?_)
  ·rcases bf p with ⟨hb, p⟩ | ⟨hb, p⟩
   ·refine re G (hO 3 (.b true) (hP hb h0)) ?_
    exact wJ G p
   ·refine re G (hO 3 (.b false) (hP hb (hN 5 r2.1 (hN 7 r3.1 h0)))) ?_
    exact wJ G p
  rintro v p
  refine cd p ?_ ?_ <;> intro p
  ·refine rg G ?_
   cases p
   exact rt [] []
  ·refine X_skip (thN ?_)
   obtain ⟨r4, h4, p⟩ := obind p
   refine rs G (hC 4 (zq3_M.c (_, _, _, _) h4) h0) ?_
   refine Ok_seq (rs G (hN 2 r2.1 h0) ?_)
   refine cd p ?_ ?_ <;> intro p
   ·refine rg G ?_
    cases p
    exact rt [] []
   ·refine X_skip (thN (rg G (Ok_seq (rg G (tF p (fun i2 => ⟨[(13, dV i2)], [], 32⟩) (fun v5 hr p => ?_) ?_)))))
    ·refine Ok_block (lp G p (fun (i, k) => ⟨[(3, .ref 16 0), (4, dV r1.2.1), (5, dV r1.2.2.1), (6, dV r1.2.2.2), (7, dV r2.1), (9, .own 32), (11, .ref 48 0), (12, dV r4.2), (13, dV i), (14, dV k)], [bX 16 35 [dV r1.1.Network.Stops, dV r1.1.Network.Lines, dV r1.1.Trips], aX 32 112 r3.1, bX 48 112 [dV r4.1.Depart, dV r4.1.Arrive, dV r4.1.Legs]], 80⟩) ?_)
     rintro ⟨i, k⟩ r0 hb1 p
     rw [v_FnProfile_L2] at p
     refine Ok_seq (rs G (hN 2 r2.1 h0) ?_)
     refine cd p ?_ ?_ <;> intro p
     ·refine X_skip (thN (Ok_seq (Ok_block (Ok_seq ?_))))
      obtain ⟨e2, h7, e3, h8, p⟩ := ob2 p
      refine ds G [] (hD 2 h7 (hD 6 h8 (hE 7 h8 h0))) ?_
      refine cd p ?_ ?_ <;> intro p
      ·refine rg G ?_
       have p := eL p hb1 hr
       cases p
       exact rt [] []
      ·refine X_skip (thN (jn p (fun i1 => ⟨[(3, .ref 16 0), (4, dV r1.2.1), (5, dV r1.2.2.1), (6, dV r1.2.2.2), (7, dV r2.1), (9, .own 32), (11, .ref 48 0), (12, dV r4.2), (13, dV i1), (14, dV k)], [bX 16 35 [dV r1.1.Network.Stops, dV r1.1.Network.Lines, dV r1.1.Trips], aX 32 112 r3.1, bX 48 112 [dV r4.1.Depart, dV r4.1.Arrive, dV r4.1.Legs]], 80⟩) (fun i1 p => ?_) ?_))
       ·rcases bf p with ⟨hb2, p⟩ | ⟨hb2, p⟩
        ·refine de G [] (hO 1 (.b true) (hP hb2 h0)) ?_
         exact wJ G p
        ·obtain ⟨e6, h10, p⟩ := obind p
         refine de G [] (hO 1 (.b false) (hP hb2 (hD 4 h10 h0))) ?_
         exact wJ G p
       rintro i1 p
       refine Ok_seq (jn p (fun v1 => ⟨[(3, .ref 16 0), (4, dV r1.2.1), (5, dV r1.2.2.1), (6, dV r1.2.2.2), (7, dV r2.1), (9, .own 32), (11, .ref 48 0), (12, dV r4.2), (13, dV i1), (14, dV k), (111, dV v1)], [bX 16 35 [dV r1.1.Network.Stops, dV r1.1.Network.Lines, dV r1.1.Trips], aX 32 112 r3.1, bX 48 112 [dV r4.1.Depart, dV r4.1.Arrive, dV r4.1.Legs]], 80⟩) (fun v1 p => ?_) ?_)
       ·rcases bf p with ⟨hb3, p⟩ | ⟨hb3, p⟩
        ·obtain ⟨e9, h13, e10, h14, p⟩ := ob2 p
         refine de G [] (hO 1 (.b true) (hP hb3 (hD 4 h13 (hD 9 h14 h0)))) ?_
         exact wJ G p
        ·refine de G [] (hO 1 (.b false) (hP hb3 h0)) ?_
         exact wJ G p
       rintro v1 p
       refine cd p ?_ ?_ <;> intro p
       ·refine rg G ?_
        have p := eL p hb1 hr
        cases p
        exact rt [] []
       ·refine X_skip (thN (Ok_seq (rg G (tF p (fun _ => ⟨[(3, .ref 16 0), (4, dV r1.2.1), (5, dV r1.2.2.1), (6, dV r1.2.2.2), (7, dV r2.1), (9, .own 32), (11, .ref 48 0), (12, dV r4.2), (13, dV i1), (14, dV k)], [bX 16 35 [dV r1.1.Network.Stops, dV r1.1.Network.Lines, dV r1.1.Trips], aX 32 112 r3.1, bX 48 112 [dV r4.1.Depart, dV r4.1.Arrive, dV r4.1.Legs]], 80⟩) (fun v4 hr1 p => ?_) ?_))))
        ·refine Ok_block (lp G p (fun best => ⟨[(3, .ref 16 0), (4, dV r1.2.1), (5, dV r1.2.2.1), (6, dV r1.2.2.2), (7, dV r2.1), (9, .own 32), (11, .ref 48 0), (12, dV r4.2), (13, dV i1), (14, dV k), (15, dV best)], [bX 16 35 [dV r1.1.Network.Stops, dV r1.1.Network.Lines, dV r1.1.Trips], aX 32 112 r3.1, bX 48 112 [dV r4.1.Depart, dV r4.1.Arrive, dV r4.1.Legs]], 80⟩) ?_)
         rintro best r0 hb4 p
         rw [v_FnProfile_L1] at p
         refine Ok_seq (rs G (hN 2 r2.1 h0) ?_)
         refine cd p ?_ ?_ <;> intro p
         ·refine X_skip (thN (Ok_seq (Ok_block (jn p (fun v2 => ⟨[(3, .ref 16 0), (4, dV r1.2.1), (5, dV r1.2.2.1), (6, dV r1.2.2.2), (7, dV r2.1), (9, .own 32), (11, .ref 48 0), (12, dV r4.2), (13, dV i1), (14, dV k), (15, dV best), (159, dV v2)], [bX 16 35 [dV r1.1.Network.Stops, dV r1.1.Network.Lines, dV r1.1.Trips], aX 32 112 r3.1, bX 48 112 [dV r4.1.Depart, dV r4.1.Arrive, dV r4.1.Legs]], 80⟩) (fun v2 p => ?_) ?_))))
          ·rcases bf p with ⟨hb5, p⟩ | ⟨hb5, p⟩
           ·obtain ⟨e18, h21, e19, h22, p⟩ := ob2 p
            rcases bf p with ⟨hb6, p⟩ | ⟨hb6, p⟩
            ·obtain ⟨e20, h23, e21, h24, p⟩ := ob2 p
             rcases bf p with ⟨hb7, p⟩ | ⟨hb7, p⟩
             ·obtain ⟨e22, h25, e23, h26, p⟩ := ob2 p
              refine de G [] (hO 3 (.b true) (hP hb5 (hD 6 h21 (hD 11 h22 (hO 16 (.b true) (hP hb6 (hD 19 h23 (hD 24 h24 (hO 29 (.b true) (hP hb7 (hD 32 h25 (hD 37 h26 h0)))))))))))) ?_
              exact wJ G p
             ·refine de G [] (hO 3 (.b true) (hP hb5 (hD 6 h21 (hD 11 h22 (hO 16 (.b true) (hP hb6 (hD 19 h23 (hD 24 h24 (hO 29 (.b false) (hP hb7 h0)))))))))) ?_
              exact wJ G p
            ·refine de G [] (hO 3 (.b true) (hP hb5 (hD 6 h21 (hD 11 h22 (hO 16 (.b false) (hP hb6 h0)))))) ?_
             exact wJ G p
           ·refine de G [] (hO 3 (.b false) (hP hb5 h0)) ?_
            exact wJ G p
          rintro v2 p
          refine cd p ?_ ?_ <;> intro p
          ·refine rg G ?_
           have p := eL p hb4 hr1
           have p := eL p hb1 hr
           cases p
           exact rt [] []
          ·exact X_skip (ibN (thN (rh G (wL G p))))
         ·exact Ok_exit (thE (thE (ibE (wE G p hb4))))
        rintro ⟨⟩ p s hw
        refine thN (Ok_weak hw ?_)
        obtain ⟨e27, h29, r10, h30, p⟩ := ob2 p
        refine ds G [] (hD 5 h29 (hC 8 (zq2_c h30) h0)) ?_
        refine jn p (fun v3 => ⟨[(3, .ref 16 0), (4, dV r1.2.1), (5, dV r1.2.2.1), (6, dV r1.2.2.2), (7, dV r2.1), (9, .own 32), (11, .ref 48 0), (12, dV r4.2), (13, dV i1), (14, dV k), (191, dV v3)], [bX 16 35 [dV r1.1.Network.Stops, dV r1.1.Network.Lines, dV r1.1.Trips], aX 32 112 r3.1, bX 48 112 [dV r4.1.Depart, dV r4.1.Arrive, dV r4.1.Legs]], 80⟩) (fun v3 p => ?_) ?_
        ·rcases bf p with ⟨hb8, p⟩ | ⟨hb8, p⟩
         ·refine de G [] (hO 2 (.b true) (hP hb8 h0)) ?_
          exact wJ G p
         ·rcases bf p with ⟨hb9, p⟩ | ⟨hb9, p⟩
          ·refine de G [] (hO 2 (.b false) (hP hb8 (hN 4 r10.1 (hO 8 (.b true) (hP hb9 h0))))) ?_
           exact wJ G p
          ·obtain ⟨e30, h33, e31, h34, p⟩ := ob2 p
           refine de G [] (hO 2 (.b false) (hP hb8 (hN 4 r10.1 (hO 8 (.b false) (hP hb9 (hD 11 h33 (hD 15 h34 h0))))))) ?_
           exact wJ G p
        rintro v3 p
        refine cd p ?_ ?_ <;> intro p
        ·refine rg G ?_
         have p := eL p hb1 hr
         cases p
         exact rt [] []
        ·exact X_skip (ibN (thN (rh G (wL G p))))
     ·exact Ok_exit (thE (thE (ibE (wE G p hb1))))
    rintro i2 p s1 hw1
    refine thN (Ok_weak hw1 ?_)
    refine rg G ?_
    cases p
    exact rt [] []
end Go.Proofs.Ytdocbkbpjdjlpaa
