/- Each function computes what its model says. Made by program (dec.py). -/
import Derived.Test.YtimaoofeephgjaaGreatDoorBoW1
namespace Go.Proofs.YtimaoofeephgjaaGreatDoor
open Go Go.Ab
set_option maxRecDepth 100000
set_option maxHeartbeats 4000000
set_option linter.unusedVariables false
set_option linter.unusedSimpArgs false
noncomputable def zq9_M : MS (Timetable × (List TripDelay) × Int × Int) ((List Int) × Bool) := ⟨.x .r (.x .r (.x .r .r)), fun x => zq9 x.1 x.2.1 x.2.2.1 x.2.2.2, fun y => .tup [dV y.1, dV y.2], fun _ => [], fun _ _ => []⟩
theorem zq9_c {t delays stop now y} (hm : zq9 t delays stop now = some y) : zq9_M.C (t, delays, stop, now) y := zq9_M.c (t, delays, stop, now) hm
theorem zq9_ok : FnOK Tryz.prog tJ 24 zq9_M.S := by
 refine fm tt zq9_M [fo zq22_ok, fo zq20_ok] Tryz.call24 Tryz.func24 rfl Tryz.results24 Tryz.ntmps24 ?_
 rintro ⟨t, delays, stop, now⟩ y cx G hm
 have hm : zq9 t delays stop now = some y := hm
 unfold zq9 at hm
 refine rg G (Ok_seq ?_)
 obtain ⟨r, h, hm⟩ := obind hm
 refine rs G (hC 4 (zq22_c h) h0) ?_
 refine cd hm (fun hm => ?_) (fun hm => ?_)
 ·refine rg G ?_
  cases hm
  exact rt [] [[.z 1]]
 ·refine X_skip (thN ?_)
  obtain ⟨u, h1, hm⟩ := obind hm
  refine rs G (hN 3 t.Network.Lines (hO 4 (.l (List.map Enc.e (List.replicate (t.Network.Lines.length : Int).toNat (0 : Int)))) (hP (mk_p (b := 8) (chk_t h1) rfl) (hP (rep_m Enc.e (t.Network.Lines.length : Int).toNat (0 : Int)) h0)))) ?_
  refine Ok_seq (rs G (hN 1 (List.replicate (t.Network.Lines.length : Int).toNat (0 : Int)) h0) ?_)
  refine tl hm (fun at_1 => ⟨[(1, dV delays), (2, dV stop), (3, dV now), (4, .ref 16 0), (10, .own 32)], [bX 16 30 [dV t.Network.Stops, dV t.Network.Lines, dV t.Trips], aX 32 3 at_1], 64⟩) (fun at_1 hm => ?_) ?_
  ·refine Ok_block (lp G hm (fun (v, at_) => ⟨[(1, dV delays), (2, dV stop), (3, dV now), (4, .ref 16 0), (10, .own 32), (28, dV ((List.replicate (t.Network.Lines.length : Int).toNat (0 : Int)).length : Int)), (29, dV v)], [bX 16 30 [dV t.Network.Stops, dV t.Network.Lines, dV t.Trips], aX 32 3 at_], 64⟩) ?_)
   rintro ⟨v, at_⟩ r0 hb hm
   rw [zq9_L1] at hm
   refine rg G (Ok_seq (cd hm (fun hm => ?_) (fun hm => ?_)))
   ·refine X_skip (thN (Ok_seq (Ok_block (rg G ?_))))
    obtain ⟨e, h2, hm⟩ := obind hm
    refine re G (hD 2 h2 (hS 3 h2 (-1) h0)) ?_
    exact ibN (thN (rh G (wL G hm)))
   ·exact Ok_exit (thE (thE (ibE (wD G hm hb))))
  rintro at_1 hm s hw
  refine thN (Ok_weak hw ?_)
  refine Ok_seq ?_
  obtain ⟨r1, h3, hm⟩ := obind hm
  refine rs G (hC 3 (zq20_c h3) (hN 4 r1 h0)) ?_
  refine tl hm (fun at_4 => ⟨[(10, .own 16)], [aX 16 3 at_4], 48⟩) (fun at_4 hm => ?_) ?_
  ·refine Ok_block (lp G hm (fun (v1, at_2) => ⟨[(3, dV now), (10, .own 16), (39, .own 32), (40, dV (r1.length : Int)), (41, dV v1)], [aX 16 3 at_2, aX 32 92 r1], 64⟩) ?_)
   rintro ⟨v1, at_2⟩ r0 hb1 hm
   rw [zq9_L2] at hm
   refine rg G (Ok_seq (cd hm (fun hm => ?_) (fun hm => ?_)))
   ·refine X_skip (thN (jn hm (fun at_3 => ⟨[(3, dV now), (10, .own 16), (39, .own 32), (40, dV (r1.length : Int)), (41, dV v1)], [aX 16 3 at_3, aX 32 92 r1], 64⟩) (fun at_3 hm => ?_) ?_))
    ·refine Ok_block ?_
     obtain ⟨e1, h4, hm⟩ := obind hm
     refine rs G (hD 0 h4 (hE 1 h4 h0)) ?_
     refine rg G ?_
     obtain ⟨e2, h5, hm⟩ := obind hm
     refine rs G (hD 4 h5 (hE 5 h5 h0)) ?_
     refine jn hm (fun v2 => ⟨[(3, dV now), (10, .own 16), (13, .ref 32 0), (14, dV (w64 (e1.time_ + e1.delay_))), (39, .own 48), (40, dV (r1.length : Int)), (41, dV v1), (67, dV v2)], [aX 16 3 at_2, bX 32 92 [dV e1.trip_.Id, dV e1.trip_.Line, dV e1.trip_.Start, dV e1.time_, dV e1.delay_], aX 48 92 r1], 80⟩) (fun v2 hm => ?_) ?_
     ·rcases bf hm with ⟨hb2, hm⟩ | ⟨hb2, hm⟩
      ·rcases bf hm with ⟨hb3, hm⟩ | ⟨hb3, hm⟩
       ·refine re G (hO 3 (.b true) (hP hb2 (hO 6 (.b true) (hP hb3 h0)))) ?_
        exact wJ G hm
       ·refine re G (hO 3 (.b true) (hP hb2 (hO 6 (.b false) (hP hb3 h0)))) ?_
        exact wJ G hm
      ·refine re G (hO 3 (.b false) (hP hb2 h0)) ?_
       exact wJ G hm
     rintro v2 hm
     refine cd hm (fun hm => ?_) (fun hm => ?_)
     ·obtain ⟨e3, h6, hm⟩ := obind hm
      refine re G (hD 5 h6 (hS 6 h6 (w64 (e1.time_ + e1.delay_)) h0)) ?_
      exact ibN (wJ G hm)
     ·exact X_skip (ibN (wJ G hm))
    rintro at_3 hm
    exact rh G (wL G hm)
   ·exact Ok_exit (thE (thE (ibE (wD G hm hb1))))
  rintro at_4 hm s1 hw1
  refine thN (Ok_weak hw1 ?_)
  refine rg G ?_
  cases hm
  exact rt [] []
noncomputable def zq40_M : MS (Timetable × (List TripDelay) × Int × Int) ((List Int) × Bool) := ⟨.x .r (.x .r (.x .r .r)), fun x => zq40 x.1 x.2.1 x.2.2.1 x.2.2.2, fun y => .tup [.own 0, dV y.2], fun y => [arO 3 y.1], fun _ _ => []⟩
theorem zq40_c {t delays stop now y} (hm : zq40 t delays stop now = some y) : zq40_M.C (t, delays, stop, now) y := zq40_M.c (t, delays, stop, now) hm
theorem zq40_ok : FnOK Tryz.prog tJ 25 zq40_M.S := by
 refine fm tt zq40_M [fo zq65_ok, fo zq84_ok, fo zq67_ok, fo zq66_ok] Tryz.call25 Tryz.func25 rfl Tryz.results25 Tryz.ntmps25 ?_
 rintro ⟨t, delays, stop, now⟩ y cx G hm
 have hm : zq40 t delays stop now = some y := hm
 unfold zq40 at hm
 refine rg G (rg G (Ok_seq ?_))
 obtain ⟨r, h, hm⟩ := obind hm
 refine jn hm (fun v => ⟨[(1, dV delays), (2, dV stop), (3, dV now), (4, .ref 16 0), (10, .own 32), (26, dV v)], [bX 16 30 [dV t.Network.Stops, dV t.Network.Lines, dV t.Trips], aX 32 3 ([] : List Int)], 64⟩) (fun v hm => ?_) ?_
 ·rcases bf hm with ⟨hb, hm⟩ | ⟨hb, hm⟩
  ·refine re G (hC 3 (zq65_c h) (hO 5 (.b true) (hP hb h0))) ?_
   exact wJ G hm
  ·obtain ⟨r1, h1, hm⟩ := obind hm
   refine re G (hC 3 (zq65_c h) (hO 5 (.b false) (hP hb (hC 7 (zq84_c h1) h0)))) ?_
   exact wJ G hm
 rintro v hm
 refine cd hm (fun hm => ?_) (fun hm => ?_)
 ·refine rg G ?_
  cases hm
  exact rt [32] []
 ·refine X_skip (thN (Ok_seq (rg G (tl hm (fun at_1 => ⟨[(10, .own 16)], [aX 16 3 at_1], 48⟩) (fun at_1 hm => ?_) ?_))))
  ·refine Ok_block (lp G hm (fun (x, at_) => ⟨[(1, dV delays), (2, dV stop), (3, dV now), (4, .ref 16 0), (10, .own 32), (11, dV x)], [bX 16 30 [dV t.Network.Stops, dV t.Network.Lines, dV t.Trips], aX 32 3 at_], 64⟩) ?_)
   rintro ⟨x, at_⟩ r0 hb1 hm
   rw [zq40_L2] at hm
   refine Ok_seq (rs G (hN 4 t.Network.Lines h0) ?_)
   refine cd hm (fun hm => ?_) (fun hm => ?_)
   ·refine X_skip (thN (Ok_seq (Ok_block (rg G (Ok_seq (rg G (tl hm (fun v5 => ⟨[(1, dV delays), (2, dV stop), (3, dV now), (4, .ref 16 0), (10, .own 32), (11, dV x), (12, dV v5)], [bX 16 30 [dV t.Network.Stops, dV t.Network.Lines, dV t.Trips], aX 32 3 at_], 64⟩) (fun v5 hm => ?_) ?_)))))))
    ·refine Ok_block (lp G hm (fun (v1, v2) => ⟨[(1, dV delays), (2, dV stop), (3, dV now), (4, .ref 16 0), (10, .own 32), (11, dV x), (12, dV v1), (13, dV v2)], [bX 16 30 [dV t.Network.Stops, dV t.Network.Lines, dV t.Trips], aX 32 3 at_], 64⟩) ?_)
     rintro ⟨v1, v2⟩ r0 hb2 hm
     rw [zq40_L1] at hm
     refine Ok_seq (rs G (hN 3 t.Trips h0) ?_)
     refine cd hm (fun hm => ?_) (fun hm => ?_)
     ·refine X_skip (thN (jn hm (fun v3 => ⟨[(1, dV delays), (2, dV stop), (3, dV now), (4, .ref 16 0), (10, .own 32), (11, dV x), (12, dV v3), (13, dV v2)], [bX 16 30 [dV t.Network.Stops, dV t.Network.Lines, dV t.Trips], aX 32 3 at_], 64⟩) (fun v3 hm => ?_) ?_))
      ·refine Ok_block ?_
       obtain ⟨r2, h2, hm⟩ := obind hm
       refine rs G (hC 3 (zq67_c h2) h0) ?_
       obtain ⟨e, h3, hm⟩ := obind hm
       obtain ⟨r3, h4, hm⟩ := obind hm
       refine rs G (hD 5 h3 (hC 8 (zq66_c h4) h0)) ?_
       obtain ⟨e1, h5, hm⟩ := obind hm
       refine jn hm (fun v4 => ⟨[(1, dV delays), (2, dV stop), (3, dV now), (4, .ref 16 0), (10, .own 32), (11, dV x), (12, dV v1), (13, dV v2), (15, dV (w64 (r2 + r3))), (82, dV v4)], [bX 16 30 [dV t.Network.Stops, dV t.Network.Lines, dV t.Trips], aX 32 3 at_], 64⟩) (fun v4 hm => ?_) ?_
       ·rcases bf hm with ⟨hb3, hm⟩ | ⟨hb3, hm⟩
        ·rcases bf hm with ⟨hb4, hm⟩ | ⟨hb4, hm⟩
         ·rcases bf hm with ⟨hb5, hm⟩ | ⟨hb5, hm⟩
          ·rcases bf hm with ⟨hb6, hm⟩ | ⟨hb6, hm⟩
           ·refine re G (hD 3 h5 (hO 8 (.b true) (hP hb3 (hO 12 (.b true) (hP hb4 (hO 17 (.b true) (hP hb5 (hO 20 (.b true) (hP hb6 h0))))))))) ?_
            exact wJ G hm
           ·refine re G (hD 3 h5 (hO 8 (.b true) (hP hb3 (hO 12 (.b true) (hP hb4 (hO 17 (.b true) (hP hb5 (hO 20 (.b false) (hP hb6 h0))))))))) ?_
            exact wJ G hm
          ·refine re G (hD 3 h5 (hO 8 (.b true) (hP hb3 (hO 12 (.b true) (hP hb4 (hO 17 (.b false) (hP hb5 h0))))))) ?_
           exact wJ G hm
         ·refine re G (hD 3 h5 (hO 8 (.b true) (hP hb3 (hO 12 (.b false) (hP hb4 h0))))) ?_
          exact wJ G hm
        ·refine re G (hD 3 h5 (hO 8 (.b false) (hP hb3 h0))) ?_
         exact wJ G hm
       rintro v4 hm
       refine cd hm (fun hm => ?_) (fun hm => ?_)
       ·exact rh G (ibN (wJ G hm))
       ·exact X_skip (ibN (wJ G hm))
      rintro v3 hm
      exact rh G (wL G hm)
     ·exact Ok_exit (thE (thE (ibE (wD G hm hb2))))
    rintro v5 hm s hw
    refine thN (Ok_weak hw ?_)
    obtain ⟨u, h6, hm⟩ := obind hm
    refine re G (hA 3 8 h6 h0) ?_
    exact ibN (thN (rh G (wL G hm)))
   ·exact Ok_exit (thE (thE (ibE (wD G hm hb1))))
  rintro at_1 hm s1 hw1
  refine thN (Ok_weak hw1 ?_)
  refine rg G ?_
  cases hm
  exact rt [16] []
noncomputable def zq110_M : MS ((List Int) × (List Int)) Bool := ⟨.x .r .r, fun x => zq110 x.1 x.2, fun y => dV y, fun _ => [], fun _ _ => []⟩
theorem zq110_c {a b y} (hm : zq110 a b = some y) : zq110_M.C (a, b) y := zq110_M.c (a, b) hm
theorem zq110_ok : FnOK Tryz.prog tJ 26 zq110_M.S := by
 refine fm tt zq110_M [] Tryz.call26 Tryz.func26 rfl Tryz.results26 Tryz.ntmps26 ?_
 rintro ⟨a, b⟩ y cx G hm
 have hm : zq110 a b = some y := hm
 unfold zq110 at hm
 refine rg G (Ok_seq (rs G (hN 1 a (hN 3 b h0)) ?_))
 refine cd hm (fun hm => ?_) (fun hm => ?_)
 ·refine rg G ?_
  cases hm
  exact rt [] []
 ·refine X_skip (thN (Ok_seq (rg G (tF hm (fun _ => ⟨[], [], 32⟩) (fun v1 hr hm => ?_) ?_))))
  ·refine Ok_block (lp G hm (fun v => ⟨[(0, dV a), (1, dV b), (5, dV v)], [], 32⟩) ?_)
   rintro v r0 hb hm
   rw [zq110_L1] at hm
   refine Ok_seq (rs G (hN 2 a h0) ?_)
   refine cd hm (fun hm => ?_) (fun hm => ?_)
   ·refine X_skip (thN (Ok_seq (Ok_block ?_)))
    obtain ⟨e2, h2, hm⟩ := obind hm
    obtain ⟨e3, h3, hm⟩ := obind hm
    refine ds G [] (hD 2 h2 (hD 6 h3 h0)) ?_
    refine cd hm (fun hm => ?_) (fun hm => ?_)
    ·refine rg G ?_
     have hm := eL hm hb hr
     cases hm
     exact rt [] []
    ·exact X_skip (ibN (thN (rh G (wL G hm))))
   ·exact Ok_exit (thE (thE (ibE (wE G hm hb))))
  rintro ⟨⟩ hm s hw
  refine thN (Ok_weak hw ?_)
  refine rg G ?_
  cases hm
  exact rt [] []
noncomputable def zq39_M : MS ((List UInt8)) (BoardRow × Int) := ⟨.r, zq39, fun y => .tup [dV y.1, dV y.2], fun _ => [], fun _ _ => []⟩
theorem zq39_c {code y} (hm : zq39 code = some y) : zq39_M.C code y := zq39_M.c code hm
theorem zq39_ok : FnOK Tryz.prog tJ 27 zq39_M.S := by
 refine fm tt zq39_M [fo zq43_ok, fo zq53_ok, fo zq56_ok] Tryz.call27 Tryz.func27 rfl Tryz.results27 Tryz.ntmps27 ?_
 rintro code y cx G hm
 have hm : zq39 code = some y := hm
 unfold zq39 at hm
 refine rg G (rg G ?_)
 obtain ⟨r, h, hm⟩ := obind hm
 obtain ⟨r1, h1, hm⟩ := obind hm
 obtain ⟨r2, h2, hm⟩ := obind hm
 obtain ⟨r3, h3, hm⟩ := obind hm
 refine rs G (hC 2 (zq43_c h) (hC 5 (zq43_c h1) (hO 8 (.fz [224] [] []) (hC 8 (zq53_c h2) (hO 11 (.fz [272] [] []) (hC 11 (zq53_c h3) h0)))))) ?_
 obtain ⟨r5, h5, hm⟩ := obind hm
 refine ds G [(7, [80, 448])] (hC 7 (zq43_c h5) h0) ?_
 refine jn hm (fun (v, v1, v2) => ⟨[(2, .ref 16 0), (5, .ref 32 0), (6, dV (w64 ((w64 (r.1 + r1.1)) - r5.1)))], [bX 16 53 [kV .i64 0, kV .i64 0, dV ByteArray.empty, dV ByteArray.empty], bX 32 53 [dV v, dV v1, dV v2, dV r3.1]], 64⟩) (fun vv hm => ?_) ?_
 ·obtain ⟨r6, h6, hm⟩ := obind hm
  refine rs G (hC 1 (zq56_c h6) h0) ?_
  refine Ok_block (rg G (cd hm (fun hm => ?_) (fun hm => ?_)))
  ·obtain ⟨r7, h7, hm⟩ := obind hm
   refine re G (hC 2 (zq43_c h7) h0) ?_
   exact ibN (wJ G hm)
  ·refine rg G (cd hm (fun hm => ?_) (fun hm => ?_))
   ·obtain ⟨r8, h8, hm⟩ := obind hm
    refine re G (hC 2 (zq43_c h8) h0) ?_
    exact ibN (wJ G hm)
   ·refine rg G (cd hm (fun hm => ?_) (fun hm => ?_))
    ·obtain ⟨r9, h9, hm⟩ := obind hm
     refine re G (hO 2 (.fz [656] [] []) (hC 2 (zq53_c h9) h0)) ?_
     exact ibN (wJ G hm)
    ·exact X_skip (ibN (wJ G hm))
 rintro ⟨v, v1, v2⟩ hm
 refine rg G ?_
 cases hm
 exact rt [] []
noncomputable def zq85_M : MS Int ByteArray := ⟨.r, zq85, fun y => dV y, fun _ => [], fun _ _ => []⟩
theorem zq85_c {n y} (hm : zq85 n = some y) : zq85_M.C n y := zq85_M.c n hm
theorem zq85_ok : FnOK Tryz.prog tJ 122 zq85_M.S := by
 refine fm tt zq85_M [] Tryz.call122 Tryz.func122 rfl Tryz.results122 Tryz.ntmps122 ?_
 rintro n y cx G hm
 have hm : zq85 n = some y := hm
 unfold zq85 at hm
 refine rg G ?_
 obtain ⟨u7, h7, hm⟩ := obind hm
 obtain ⟨u8, h8, hm⟩ := obind hm
 obtain ⟨u9, h9, hm⟩ := obind hm
 obtain ⟨u10, h10, hm⟩ := obind hm
 obtain ⟨u11, h11, hm⟩ := obind hm
 obtain ⟨u12, h12, hm⟩ := obind hm
 obtain ⟨u13, h13, hm⟩ := obind hm
 refine ds G [] (hK h7 (hK h8 (hK h9 (hK h10 (hK h11 (hK h12 (hP (cat_p (chk_t h13)) h0))))))) ?_
 cases hm
 exact rt [] []
noncomputable def zq83_M : MS Int ByteArray := ⟨.r, zq83, fun y => dV y, fun _ => [], fun _ _ => []⟩
theorem zq83_c {t y} (hm : zq83 t = some y) : zq83_M.C t y := zq83_M.c t hm
theorem zq83_ok : FnOK Tryz.prog tJ 84 zq83_M.S := by
 refine fm tt zq83_M [fo zq85_ok] Tryz.call84 Tryz.func84 rfl Tryz.results84 Tryz.ntmps84 ?_
 rintro t y cx G hm
 have hm : zq83 t = some y := hm
 unfold zq83 at hm
 refine rg G ?_
 obtain ⟨u, h, hm⟩ := obind hm
 obtain ⟨r, h1, hm⟩ := obind hm
 obtain ⟨u1, h2, hm⟩ := obind hm
 obtain ⟨u2, h3, hm⟩ := obind hm
 obtain ⟨r1, h4, hm⟩ := obind hm
 obtain ⟨u3, h5, hm⟩ := obind hm
 refine rs G (hK h (hC 2 (zq85_c h1) (hP (cat_p (chk_t h2)) (hK h3 (hC 6 (zq85_c h4) (hP (cat_p (chk_t h5)) h0)))))) ?_
 cases hm
 exact rt [] []
noncomputable def zq69_M : MS (ByteArray × Int) ByteArray := ⟨.x .r .r, fun x => zq69 x.1 x.2, fun y => dV y, fun _ => [], fun _ _ => []⟩
theorem zq69_c {s n y} (hm : zq69 s n = some y) : zq69_M.C (s, n) y := zq69_M.c (s, n) hm
theorem zq69_ok : FnOK Tryz.prog tJ 111 zq69_M.S := by
 refine fm tt zq69_M [] Tryz.call111 Tryz.func111 rfl Tryz.results111 Tryz.ntmps111 ?_
 rintro ⟨s, n⟩ y cx G hm
 have hm : zq69 s n = some y := hm
 unfold zq69 at hm
 refine rg G (jn hm (fun s2 => ⟨[(0, dV s2)], [], 32⟩) (fun s2 hm => ?_) ?_)
 ·refine Ok_block (lp G hm (fun s1 => ⟨[(0, dV s1), (1, dV n)], [], 32⟩) ?_)
  rintro s1 r0 hb hm
  rw [zq69_L1] at hm
  refine Ok_seq (rg G (cd hm (fun hm => ?_) (fun hm => ?_)))
  ·refine X_skip (thN (Ok_block ?_))
   obtain ⟨u, h, hm⟩ := obind hm
   refine re G (hP (cat_p (chk_t h)) h0) ?_
   exact ibN (wL G hm)
  ·exact Ok_exit (thE (thE (ibE (wD G hm hb))))
 rintro s2 hm
 refine rg G ?_
 cases hm
 exact rt [] []
noncomputable def zq71_M : MS (BoardRow × Int) ByteArray := ⟨.x .r .r, fun x => zq71 x.1 x.2, fun y => dV y, fun _ => [], fun _ _ => []⟩
theorem zq71_c {r now y} (hm : zq71 r now = some y) : zq71_M.C (r, now) y := zq71_M.c (r, now) hm
theorem zq71_ok : FnOK Tryz.prog tJ 68 zq71_M.S := by
 refine fm tt zq71_M [fo zq83_ok, fo zq69_ok, fo zq62_ok] Tryz.call68 Tryz.func68 rfl Tryz.results68 Tryz.ntmps68 ?_
 rintro ⟨r, now⟩ y cx G hm
 have hm : zq71 r now = some y := hm
 unfold zq71 at hm
 refine rg G ?_
 obtain ⟨r4, h8, hm⟩ := obind hm
 obtain ⟨u5, h9, hm⟩ := obind hm
 obtain ⟨r5, h10, hm⟩ := obind hm
 obtain ⟨u6, h11, hm⟩ := obind hm
 obtain ⟨u7, h12, hm⟩ := obind hm
 obtain ⟨r6, h13, hm⟩ := obind hm
 obtain ⟨u8, h14, hm⟩ := obind hm
 obtain ⟨u9, h15, hm⟩ := obind hm
 refine ds G [] (hC 2 (zq83_c h8) (hP (cat_p (chk_t h9)) (hC 6 (zq69_c h10) (hP (cat_p (chk_t h11)) (hP (cat_p (chk_t h12)) (hC 11 (zq69_c h13) (hP (cat_p (chk_t h14)) (hP (cat_p (chk_t h15)) h0)))))))) ?_
 refine rg G (jn hm (fun v => ⟨[(5, dV v)], [], 32⟩) (fun v hm => ?_) ?_)
 ·refine Ok_block (rg G (cd hm (fun hm => ?_) (fun hm => ?_)))
  ·obtain ⟨u10, h16, hm⟩ := obind hm
   refine re G (hP (cat_p (chk_t h16)) h0) ?_
   exact ibN (wJ G hm)
  ·refine rg G (cd hm (fun hm => ?_) (fun hm => ?_))
   ·obtain ⟨r7, h17, hm⟩ := obind hm
    obtain ⟨u11, h18, hm⟩ := obind hm
    obtain ⟨u12, h19, hm⟩ := obind hm
    refine re G (hC 2 (zq62_c h17) (hP (cat_p (chk_t h18)) (hP (cat_p (chk_t h19)) h0))) ?_
    exact ibN (wJ G hm)
   ·exact X_skip (ibN (wJ G hm))
 rintro v hm
 obtain ⟨r8, h20, hm⟩ := obind hm
 refine rs G (hC 1 (zq69_c h20) h0) ?_
 cases hm
 exact rt [] []
noncomputable def zq41_M : MS (BoardRow × Int) (ByteArray × Bool) := ⟨.x .r .r, fun x => zq41 x.1 x.2, fun y => .tup [dV y.1, dV y.2], fun _ => [], fun _ _ => []⟩
theorem zq41_c {r now y} (hm : zq41 r now = some y) : zq41_M.C (r, now) y := zq41_M.c (r, now) hm
theorem zq41_ok : FnOK Tryz.prog tJ 28 zq41_M.S := by
 refine fm tt zq41_M [fo zq84_ok, fo zq60_ok, fo zq78_ok, fo zq71_ok] Tryz.call28 Tryz.func28 rfl Tryz.results28 Tryz.ntmps28 ?_
 rintro ⟨r, now⟩ y cx G hm
 have hm : zq41 r now = some y := hm
 unfold zq41 at hm
 refine rg G (Ok_seq ?_)
 obtain ⟨r1, h, hm⟩ := obind hm
 refine jn hm (fun v => ⟨[(1, dV now), (2, .ref 16 0), (41, dV v)], [bX 16 53 [dV r.Time, dV r.Delay, dV r.Line, dV r.Destination]], 48⟩) (fun v hm => ?_) ?_
 ·rcases bf hm with ⟨hb, hm⟩ | ⟨hb, hm⟩
  ·refine re G (hC 2 (zq84_c h) (hO 4 (.b true) (hP hb h0))) ?_
   exact wJ G hm
  ·obtain ⟨r2, h1, hm⟩ := obind hm
   rcases bf hm with ⟨hb1, hm⟩ | ⟨hb1, hm⟩
   ·refine re G (hC 2 (zq84_c h) (hO 4 (.b false) (hP hb (hC 7 (zq60_c h1) (hO 10 (.b true) (hP hb1 h0)))))) ?_
    exact wJ G hm
   ·obtain ⟨r3, h2, hm⟩ := obind hm
    rcases bf hm with ⟨hb2, hm⟩ | ⟨hb2, hm⟩
    ·refine re G (hC 2 (zq84_c h) (hO 4 (.b false) (hP hb (hC 7 (zq60_c h1) (hO 10 (.b false) (hP hb1 (hC 13 (zq78_c h2) (hO 16 (.b true) (hP hb2 h0))))))))) ?_
     exact wJ G hm
    ·obtain ⟨r4, h3, hm⟩ := obind hm
     rcases bf hm with ⟨hb3, hm⟩ | ⟨hb3, hm⟩
     ·refine re G (hC 2 (zq84_c h) (hO 4 (.b false) (hP hb (hC 7 (zq60_c h1) (hO 10 (.b false) (hP hb1 (hC 13 (zq78_c h2) (hO 16 (.b false) (hP hb2 (hC 19 (zq78_c h3) (hO 22 (.b true) (hP hb3 h0)))))))))))) ?_
      exact wJ G hm
     ·obtain ⟨r5, h4, hm⟩ := obind hm
      rcases bf hm with ⟨hb4, hm⟩ | ⟨hb4, hm⟩
      ·refine re G (hC 2 (zq84_c h) (hO 4 (.b false) (hP hb (hC 7 (zq60_c h1) (hO 10 (.b false) (hP hb1 (hC 13 (zq78_c h2) (hO 16 (.b false) (hP hb2 (hC 19 (zq78_c h3) (hO 22 (.b false) (hP hb3 (hC 24 (zq84_c h4) (hO 27 (.b true) (hP hb4 h0))))))))))))))) ?_
       exact wJ G hm
      ·refine re G (hC 2 (zq84_c h) (hO 4 (.b false) (hP hb (hC 7 (zq60_c h1) (hO 10 (.b false) (hP hb1 (hC 13 (zq78_c h2) (hO 16 (.b false) (hP hb2 (hC 19 (zq78_c h3) (hO 22 (.b false) (hP hb3 (hC 24 (zq84_c h4) (hO 27 (.b false) (hP hb4 h0))))))))))))))) ?_
       exact wJ G hm
 rintro v hm
 refine cd hm (fun hm => ?_) (fun hm => ?_)
 ·refine rg G ?_
  cases hm
  exact rt [] []
 ·refine X_skip (thN ?_)
  obtain ⟨r6, h5, hm⟩ := obind hm
  refine rs G (hC 2 (zq71_c h5) h0) ?_
  cases hm
  exact rt [] []
noncomputable def v_FnBoards_M : MS ((List UInt8)) Bool := ⟨.r, v_FnBoards, fun y => dV y, fun _ => [], fun _ _ => []⟩
theorem v_FnBoards_ok : FnOK Tryz.prog tJ 4 v_FnBoards_M.S := by
 refine fm tt v_FnBoards_M [fo zq109_ok, fo zq38_ok, fo zq3_ok, fo zq37_ok, fo zq8_ok, fo zq10_ok, fo zq4_ok, fo zq9_ok, fo zq40_ok, fo zq110_ok, fo zq39_ok, fo zq41_ok] Tryz.call4 Tryz.func4 rfl Tryz.results4 Tryz.ntmps4 ?_
 rintro code y cx G hm
 have hm : v_FnBoards code = some y := hm
 unfold v_FnBoards at hm
 refine rg G (Ok_seq ?_)
 obtain ⟨r, h, hm⟩ := obind hm
 refine rs G (hC 1 (zq109_c h) h0) ?_
 refine cd hm (fun hm => ?_) (fun hm => ?_)
 ·refine rg G ?_
  cases hm
  exact rt [] []
 ·refine X_skip (thN ?_)
  obtain ⟨r1, h1, hm⟩ := obind hm
  refine rs G (hC 1 (zq38_c h1) h0) ?_
  obtain ⟨r2, h2, hm⟩ := obind hm
  refine rs G (hO 5 (.fz [80] [] []) (hC 5 (zq3_c h2) h0)) ?_
  obtain ⟨r3, h3, hm⟩ := obind hm
  refine rs G (hC 5 (zq37_c h3) h0) ?_
  refine Ok_seq (jn hm (fun v => ⟨[(0, dV code), (3, .ref 16 0), (4, dV r1.2.1), (5, dV r1.2.2.1), (6, dV r1.2.2.2.1), (7, dV r1.2.2.2.2), (8, dV r2.1), (9, dV r2.2), (10, dV r3.1), (11, dV r3.2), (72, dV v)], [bX 16 30 [dV r1.1.Network.Stops, dV r1.1.Network.Lines, dV r1.1.Trips]], 48⟩) (fun v hm => ?_) ?_)
  ·rcases bf hm with ⟨hb, hm⟩ | ⟨hb, hm⟩
   ·refine re G (hO 3 (.b true) (hP hb h0)) ?_
    exact wJ G hm
   ·rcases bf hm with ⟨hb1, hm⟩ | ⟨hb1, hm⟩
    ·refine re G (hO 3 (.b false) (hP hb (hN 5 r2.1 (hN 7 r3.1 (hO 10 (.b true) (hP hb1 h0)))))) ?_
     exact wJ G hm
    ·refine re G (hO 3 (.b false) (hP hb (hN 5 r2.1 (hN 7 r3.1 (hO 10 (.b false) (hP hb1 h0)))))) ?_
     exact wJ G hm
  rintro v hm
  refine cd hm (fun hm => ?_) (fun hm => ?_)
  ·refine jn hm (fun t => ⟨[(2, dV t)], [], 32⟩) (fun t hm => ?_) ?_
   ·rcases bf hm with ⟨hb2, hm⟩ | ⟨hb2, hm⟩
    ·refine re G (hO 3 (.b true) (hP hb2 (hN 5 r2.1 (hN 7 r3.1 h0)))) ?_
     exact wJ G hm
    ·refine re G (hO 3 (.b false) (hP hb2 h0)) ?_
     exact wJ G hm
   rintro t hm
   cases hm
   exact rt [] []
  ·refine X_skip (thN ?_)
   obtain ⟨r4, h4, hm⟩ := obind hm
   refine rs G (hC 4 (zq3_c h4) h0) ?_
   refine Ok_seq (jn hm (fun v1 => ⟨[(0, dV code), (3, .ref 16 0), (4, dV r1.2.1), (5, dV r1.2.2.1), (6, dV r1.2.2.2.1), (7, dV r1.2.2.2.2), (8, dV r2.1), (10, dV r3.1), (12, dV r4.1), (105, dV v1)], [bX 16 30 [dV r1.1.Network.Stops, dV r1.1.Network.Lines, dV r1.1.Trips]], 48⟩) (fun v1 hm => ?_) ?_)
   ·rcases bf hm with ⟨hb3, hm⟩ | ⟨hb3, hm⟩
    ·refine re G (hO 2 (.b true) (hP hb3 h0)) ?_
     exact wJ G hm
    ·rcases bf hm with ⟨hb4, hm⟩ | ⟨hb4, hm⟩
     ·refine re G (hO 2 (.b false) (hP hb3 (hN 4 r4.1 (hN 6 r2.1 (hO 9 (.b true) (hP hb4 h0)))))) ?_
      exact wJ G hm
     ·obtain ⟨r5, h5, hm⟩ := obind hm
      refine re G (hO 2 (.b false) (hP hb3 (hN 4 r4.1 (hN 6 r2.1 (hO 9 (.b false) (hP hb4 (hC 12 (zq8_c h5) h0))))))) ?_
      exact wJ G hm
   rintro v1 hm
   refine cd hm (fun hm => ?_) (fun hm => ?_)
   ·refine rg G ?_
    cases hm
    exact rt [] []
   ·refine X_skip (thN (rg G (Ok_seq (rg G (tF hm (fun i1 => ⟨[(0, dV code), (3, .ref 16 0), (4, dV r1.2.1), (5, dV r1.2.2.1), (6, dV r1.2.2.2.1), (7, dV r1.2.2.2.2), (14, dV i1)], [bX 16 30 [dV r1.1.Network.Stops, dV r1.1.Network.Lines, dV r1.1.Trips]], 48⟩) (fun v5 hr hm => ?_) ?_)))))
    ·refine Ok_block (lp G hm (fun (i, x) => ⟨[(0, dV code), (3, .ref 16 0), (4, dV r1.2.1), (5, dV r1.2.2.1), (6, dV r1.2.2.2.1), (7, dV r1.2.2.2.2), (8, dV r2.1), (10, dV r3.1), (12, dV r4.1), (14, dV i), (15, dV x)], [bX 16 30 [dV r1.1.Network.Stops, dV r1.1.Network.Lines, dV r1.1.Trips]], 48⟩) ?_)
     rintro ⟨i, x⟩ r0 hb5 hm
     rw [v_FnBoards_L1] at hm
     refine Ok_seq (rs G (hN 2 r2.1 h0) ?_)
     refine cd hm (fun hm => ?_) (fun hm => ?_)
     ·refine X_skip (thN (Ok_seq (Ok_block ?_)))
      obtain ⟨e, h6, hm⟩ := obind hm
      refine rs G (hD 2 h6 h0) ?_
      refine Ok_seq ?_
      obtain ⟨e5, h11, hm⟩ := obind hm
      refine jn hm (fun v2 => ⟨[(0, dV code), (3, .ref 16 0), (4, dV r1.2.1), (5, dV r1.2.2.1), (6, dV r1.2.2.2.1), (7, dV r1.2.2.2.2), (8, dV r2.1), (10, dV r3.1), (12, dV r4.1), (14, dV i), (15, dV x), (16, .ref 32 0), (163, dV v2)], [bX 16 30 [dV r1.1.Network.Stops, dV r1.1.Network.Lines, dV r1.1.Trips], bX 32 53 [dV e.Time, dV e.Delay, dV e.Line, dV e.Destination]], 64⟩) (fun v2 hm => ?_) ?_
      ·rcases bf hm with ⟨hb6, hm⟩ | ⟨hb6, hm⟩
       ·refine de G [] (hD 3 h11 (hO 6 (.b true) (hP hb6 h0))) ?_
        exact wJ G hm
       ·obtain ⟨e6, h12, hm⟩ := obind hm
        rcases bf hm with ⟨hb7, hm⟩ | ⟨hb7, hm⟩
        ·refine de G [] (hD 3 h11 (hO 6 (.b false) (hP hb6 (hD 10 h12 (hO 14 (.b true) (hP hb7 h0)))))) ?_
         exact wJ G hm
        ·rcases bf hm with ⟨hb8, hm⟩ | ⟨hb8, hm⟩
         ·refine de G [] (hD 3 h11 (hO 6 (.b false) (hP hb6 (hD 10 h12 (hO 14 (.b false) (hP hb7 (hO 23 (.b true) (hP hb8 h0)))))))) ?_
          exact wJ G hm
         ·rcases bf hm with ⟨hb9, hm⟩ | ⟨hb9, hm⟩
          ·obtain ⟨e7, h13, hm⟩ := obind hm
           obtain ⟨e8, h14, hm⟩ := obind hm
           refine de G [] (hD 3 h11 (hO 6 (.b false) (hP hb6 (hD 10 h12 (hO 14 (.b false) (hP hb7 (hO 23 (.b false) (hP hb8 (hO 26 (.b true) (hP hb9 (hD 30 h13 (hD 36 h14 h0)))))))))))) ?_
           exact wJ G hm
          ·refine de G [] (hD 3 h11 (hO 6 (.b false) (hP hb6 (hD 10 h12 (hO 14 (.b false) (hP hb7 (hO 23 (.b false) (hP hb8 (hO 26 (.b false) (hP hb9 h0)))))))))) ?_
           exact wJ G hm
      rintro v2 hm
      refine cd hm (fun hm => ?_) (fun hm => ?_)
      ·refine rg G ?_
       have hm := eL hm hb5 hr
       cases hm
       exact rt [] []
      ·refine X_skip (thN ?_)
       obtain ⟨r7, h15, hm⟩ := obind hm
       refine rs G (hC 2 (zq10_c h15) h0) ?_
       refine Ok_seq (jn hm (fun v3 => ⟨[(0, dV code), (3, .ref 16 0), (4, dV r1.2.1), (5, dV r1.2.2.1), (6, dV r1.2.2.2.1), (7, dV r1.2.2.2.2), (8, dV r2.1), (10, dV r3.1), (12, dV r4.1), (14, dV i), (15, dV x), (17, dV r7.1), (176, dV v3)], [bX 16 30 [dV r1.1.Network.Stops, dV r1.1.Network.Lines, dV r1.1.Trips]], 48⟩) (fun v3 hm => ?_) ?_)
       ·rcases bf hm with ⟨hb10, hm⟩ | ⟨hb10, hm⟩
        ·refine re G (hO 2 (.b true) (hP hb10 h0)) ?_
         exact wJ G hm
        ·refine re G (hO 2 (.b false) (hP hb10 h0)) ?_
         exact wJ G hm
       rintro v3 hm
       refine cd hm (fun hm => ?_) (fun hm => ?_)
       ·refine rg G ?_
        have hm := eL hm hb5 hr
        cases hm
        exact rt [] []
       ·refine X_skip (thN ?_)
        obtain ⟨u, h16, hm⟩ := obind hm
        obtain ⟨u1, h17, hm⟩ := obind hm
        refine re G (hP (cat_p (chk_t h16)) (hP (cat_p (chk_t h17)) h0)) ?_
        exact ibN (thN (rh G (wL G hm)))
     ·exact Ok_exit (thE (thE (ibE (wE G hm hb5))))
    rintro i1 hm s hw
    refine thN (Ok_weak hw ?_)
    obtain ⟨r9, h18, hm⟩ := obind hm
    refine rs G (hC 5 (zq4_c h18) h0) ?_
    obtain ⟨r10, h19, hm⟩ := obind hm
    refine rs G (hC 4 (zq9_c h19) h0) ?_
    obtain ⟨r11, h20, hm⟩ := obind hm
    refine rs G (hC 4 (zq40_c h20) h0) ?_
    refine Ok_seq (jn hm (fun v4 => ⟨[(0, dV code), (222, dV v4)], [], 32⟩) (fun v4 hm => ?_) ?_)
    ·rcases bf hm with ⟨hb11, hm⟩ | ⟨hb11, hm⟩
     ·refine re G (hO 2 (.b true) (hP hb11 h0)) ?_
      exact wJ G hm
     ·rcases bf hm with ⟨hb12, hm⟩ | ⟨hb12, hm⟩
      ·refine re G (hO 2 (.b false) (hP hb11 (hO 7 (.b true) (hP hb12 h0)))) ?_
       exact wJ G hm
      ·rcases bf hm with ⟨hb13, hm⟩ | ⟨hb13, hm⟩
       ·refine re G (hO 2 (.b false) (hP hb11 (hO 7 (.b false) (hP hb12 (hO 11 (.b true) (hP hb13 h0)))))) ?_
        exact wJ G hm
       ·obtain ⟨r12, h21, hm⟩ := obind hm
        refine re G (hO 2 (.b false) (hP hb11 (hO 7 (.b false) (hP hb12 (hO 11 (.b false) (hP hb13 (hC 14 (zq110_c h21) h0))))))) ?_
        exact wJ G hm
    rintro v4 hm
    refine cd hm (fun hm => ?_) (fun hm => ?_)
    ·refine rg G ?_
     cases hm
     exact rt [] []
    ·refine X_skip (thN ?_)
     obtain ⟨r13, h22, hm⟩ := obind hm
     refine rs G (hC 1 (zq39_c h22) h0) ?_
     obtain ⟨r14, h23, hm⟩ := obind hm
     refine rs G (hC 2 (zq10_c h23) h0) ?_
     obtain ⟨r15, h24, hm⟩ := obind hm
     refine rs G (hC 2 (zq41_c h24) h0) ?_
     refine jn hm (fun t1 => ⟨[(2, dV t1)], [], 32⟩) (fun t1 hm => ?_) ?_
     ·rcases bf hm with ⟨hb14, hm⟩ | ⟨hb14, hm⟩
      ·refine re G (hO 3 (.b true) (hP hb14 h0)) ?_
       exact wJ G hm
      ·refine re G (hO 3 (.b false) (hP hb14 h0)) ?_
       exact wJ G hm
     rintro t1 hm
     cases hm
     exact rt [] []
end Go.Proofs.YtimaoofeephgjaaGreatDoor
