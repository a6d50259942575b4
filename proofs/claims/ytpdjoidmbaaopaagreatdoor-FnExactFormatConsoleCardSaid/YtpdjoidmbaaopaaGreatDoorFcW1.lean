/- Each function computes what its model says. Made by program (dec.py). -/
import Derived.Test.YtpdjoidmbaaopaaGreatDoorTy
import Derived.Test.YtpdjoidmbaaopaaGreatDoorAbC
import Derived.Test.YtpdjoidmbaaopaaGreatDoorFcM
import Derived.Test.YtpdjoidmbaaopaaGreatDoorSh
namespace Go.Proofs.YtpdjoidmbaaopaaGreatDoor
open Go Go.Ab
set_option maxRecDepth 100000
set_option maxHeartbeats 4000000
set_option linter.unusedVariables false
set_option linter.unusedSimpArgs false
theorem tt : TT Tryz.prog ty := ⟨by kernel_rfl, ty_ok⟩
abbrev tJ : Inv := strJ Tryz.prog (some Lib.pow10Tab)
noncomputable def v_szStringS_M : MS ((List ByteArray) × Int) Int := ⟨.x .r .r, fun x => v_szStringS x.1 x.2, fun y => dV y, fun _ => [], fun _ _ => []⟩
theorem v_szStringS_c {a left y} (hm : v_szStringS a left = some y) : v_szStringS_M.C (a, left) y := v_szStringS_M.c (a, left) hm
theorem v_szStringS_ok : FnOK Tryz.prog tJ 127 v_szStringS_M.S := by
 refine fm tt v_szStringS_M [] Tryz.call127 Tryz.func127 rfl Tryz.results127 Tryz.ntmps127 ?_
 rintro ⟨a, left⟩ y cx G hm
 have hm : v_szStringS a left = some y := hm
 unfold v_szStringS at hm
 refine rg G (rs G (hN 2 a h0) ?_)
 refine Ok_seq (rg G (cd hm (fun hm => ?_) (fun hm => ?_)))
 ·refine rg G ?_
  cases hm
  exact rt [] []
 ·refine X_skip (thN (Ok_seq (rg G (tF hm (fun left2 => ⟨[(1, dV left2)], [], 32⟩) (fun v1 hr hm => ?_) ?_))))
  ·refine Ok_block (lp G hm (fun (left1, v) => ⟨[(0, dV a), (1, dV left1), (5, dV v)], [], 32⟩) ?_)
   rintro ⟨left1, v⟩ r0 hb hm
   rw [v_szStringS_L1] at hm
   refine Ok_seq (rs G (hN 2 a h0) ?_)
   refine cd hm (fun hm => ?_) (fun hm => ?_)
   ·refine X_skip (thN (Ok_seq (Ok_block ?_)))
    obtain ⟨e, h, hm⟩ := obind hm
    refine rs G (hD 3 h h0) ?_
    refine rg G (cd hm (fun hm => ?_) (fun hm => ?_))
    ·refine rg G ?_
     have hm := eL hm hb hr
     cases hm
     exact rt [] []
    ·exact X_skip (ibN (thN (rh G (wL G hm))))
   ·exact Ok_exit (thE (thE (ibE (wE G hm hb))))
  rintro left2 hm s hw
  refine thN (Ok_weak hw ?_)
  refine rg G ?_
  cases hm
  exact rt [] []
noncomputable def v_szIntS_M : MS ((List Int) × Int) Int := ⟨.x .r .r, fun x => v_szIntS x.1 x.2, fun y => dV y, fun _ => [], fun _ _ => []⟩
theorem v_szIntS_c {a left y} (hm : v_szIntS a left = some y) : v_szIntS_M.C (a, left) y := v_szIntS_M.c (a, left) hm
theorem v_szIntS_ok : FnOK Tryz.prog tJ 174 v_szIntS_M.S := by
 refine fm tt v_szIntS_M [] Tryz.call174 Tryz.func174 rfl Tryz.results174 Tryz.ntmps174 ?_
 rintro ⟨a, left⟩ y cx G hm
 have hm : v_szIntS a left = some y := hm
 unfold v_szIntS at hm
 refine rg G (rs G (hN 2 a h0) ?_)
 refine Ok_seq (rg G (cd hm (fun hm => ?_) (fun hm => ?_)))
 ·refine rg G ?_
  cases hm
  exact rt [] []
 ·refine X_skip (thN (rg G ?_))
  cases hm
  exact rt [] []
noncomputable def v_szLine_M : MS (Line × Int) Int := ⟨.x .r .r, fun x => v_szLine x.1 x.2, fun y => dV y, fun _ => [], fun _ _ => []⟩
theorem v_szLine_c {a left y} (hm : v_szLine a left = some y) : v_szLine_M.C (a, left) y := v_szLine_M.c (a, left) hm
theorem v_szLine_ok : FnOK Tryz.prog tJ 159 v_szLine_M.S := by
 refine fm tt v_szLine_M [fo v_szIntS_ok] Tryz.call159 Tryz.func159 rfl Tryz.results159 Tryz.ntmps159 ?_
 rintro ⟨a, left⟩ y cx G hm
 have hm : v_szLine a left = some y := hm
 unfold v_szLine at hm
 refine rg G (rg G (Ok_seq (rg G (cd hm (fun hm => ?_) (fun hm => ?_)))))
 ·refine rg G ?_
  cases hm
  exact rt [] []
 ·refine X_skip (thN ?_)
  obtain ⟨r, h, hm⟩ := obind hm
  refine rs G (hC 3 (v_szIntS_c h) h0) ?_
  refine Ok_seq (rg G (cd hm (fun hm => ?_) (fun hm => ?_)))
  ·refine rg G ?_
   cases hm
   exact rt [] []
  ·refine X_skip (thN ?_)
   obtain ⟨r1, h1, hm⟩ := obind hm
   refine rs G (hC 3 (v_szIntS_c h1) h0) ?_
   refine Ok_seq (rg G (cd hm (fun hm => ?_) (fun hm => ?_)))
   ·refine rg G ?_
    cases hm
    exact rt [] []
   ·refine X_skip (thN (rg G ?_))
    cases hm
    exact rt [] []
noncomputable def v_szLineS_M : MS ((List Line) × Int) Int := ⟨.x .r .r, fun x => v_szLineS x.1 x.2, fun y => dV y, fun _ => [], fun _ _ => []⟩
theorem v_szLineS_c {a left y} (hm : v_szLineS a left = some y) : v_szLineS_M.C (a, left) y := v_szLineS_M.c (a, left) hm
theorem v_szLineS_ok : FnOK Tryz.prog tJ 128 v_szLineS_M.S := by
 refine fm tt v_szLineS_M [fo v_szLine_ok] Tryz.call128 Tryz.func128 rfl Tryz.results128 Tryz.ntmps128 ?_
 rintro ⟨a, left⟩ y cx G hm
 have hm : v_szLineS a left = some y := hm
 unfold v_szLineS at hm
 refine rg G (rs G (hN 2 a h0) ?_)
 refine Ok_seq (rg G (cd hm (fun hm => ?_) (fun hm => ?_)))
 ·refine rg G ?_
  cases hm
  exact rt [] []
 ·refine X_skip (thN (Ok_seq (rg G (tF hm (fun left2 => ⟨[(1, dV left2)], [], 32⟩) (fun v1 hr hm => ?_) ?_))))
  ·refine Ok_block (lp G hm (fun (left1, v) => ⟨[(0, dV a), (1, dV left1), (5, dV v)], [], 32⟩) ?_)
   rintro ⟨left1, v⟩ r0 hb hm
   rw [v_szLineS_L1] at hm
   refine Ok_seq (rs G (hN 2 a h0) ?_)
   refine cd hm (fun hm => ?_) (fun hm => ?_)
   ·refine X_skip (thN (Ok_seq (Ok_block ?_)))
    obtain ⟨e, h, hm⟩ := obind hm
    obtain ⟨r, h1, hm⟩ := obind hm
    refine rs G (hD 2 h (hC 5 (v_szLine_c h1) h0)) ?_
    refine rg G (cd hm (fun hm => ?_) (fun hm => ?_))
    ·refine rg G ?_
     have hm := eL hm hb hr
     cases hm
     exact rt [] []
    ·exact X_skip (ibN (thN (rh G (wL G hm))))
   ·exact Ok_exit (thE (thE (ibE (wE G hm hb))))
  rintro left2 hm s hw
  refine thN (Ok_weak hw ?_)
  refine rg G ?_
  cases hm
  exact rt [] []
noncomputable def v_szNetwork_M : MS (Network × Int) Int := ⟨.x .r .r, fun x => v_szNetwork x.1 x.2, fun y => dV y, fun _ => [], fun _ _ => []⟩
theorem v_szNetwork_c {a left y} (hm : v_szNetwork a left = some y) : v_szNetwork_M.C (a, left) y := v_szNetwork_M.c (a, left) hm
theorem v_szNetwork_ok : FnOK Tryz.prog tJ 80 v_szNetwork_M.S := by
 refine fm tt v_szNetwork_M [fo v_szStringS_ok, fo v_szLineS_ok] Tryz.call80 Tryz.func80 rfl Tryz.results80 Tryz.ntmps80 ?_
 rintro ⟨a, left⟩ y cx G hm
 have hm : v_szNetwork a left = some y := hm
 unfold v_szNetwork at hm
 refine rg G ?_
 obtain ⟨r, h, hm⟩ := obind hm
 refine rs G (hC 3 (v_szStringS_c h) h0) ?_
 refine Ok_seq (rg G (cd hm (fun hm => ?_) (fun hm => ?_)))
 ·refine rg G ?_
  cases hm
  exact rt [] []
 ·refine X_skip (thN ?_)
  obtain ⟨r1, h1, hm⟩ := obind hm
  refine rs G (hC 3 (v_szLineS_c h1) h0) ?_
  refine Ok_seq (rg G (cd hm (fun hm => ?_) (fun hm => ?_)))
  ·refine rg G ?_
   cases hm
   exact rt [] []
  ·refine X_skip (thN (rg G ?_))
   cases hm
   exact rt [] []
noncomputable def v_szTripS_M : MS ((List Trip) × Int) Int := ⟨.x .r .r, fun x => v_szTripS x.1 x.2, fun y => dV y, fun _ => [], fun _ _ => []⟩
theorem v_szTripS_c {a left y} (hm : v_szTripS a left = some y) : v_szTripS_M.C (a, left) y := v_szTripS_M.c (a, left) hm
theorem v_szTripS_ok : FnOK Tryz.prog tJ 81 v_szTripS_M.S := by
 refine fm tt v_szTripS_M [] Tryz.call81 Tryz.func81 rfl Tryz.results81 Tryz.ntmps81 ?_
 rintro ⟨a, left⟩ y cx G hm
 have hm : v_szTripS a left = some y := hm
 unfold v_szTripS at hm
 refine rg G (rs G (hN 2 a h0) ?_)
 refine Ok_seq (rg G (cd hm (fun hm => ?_) (fun hm => ?_)))
 ·refine rg G ?_
  cases hm
  exact rt [] []
 ·refine X_skip (thN (rg G ?_))
  cases hm
  exact rt [] []
noncomputable def v_szTimetable_M : MS (Timetable × Int) Int := ⟨.x .r .r, fun x => v_szTimetable x.1 x.2, fun y => dV y, fun _ => [], fun _ _ => []⟩
theorem v_szTimetable_c {a left y} (hm : v_szTimetable a left = some y) : v_szTimetable_M.C (a, left) y := v_szTimetable_M.c (a, left) hm
theorem v_szTimetable_ok : FnOK Tryz.prog tJ 36 v_szTimetable_M.S := by
 refine fm tt v_szTimetable_M [fo v_szNetwork_ok, fo v_szTripS_ok] Tryz.call36 Tryz.func36 rfl Tryz.results36 Tryz.ntmps36 ?_
 rintro ⟨a, left⟩ y cx G hm
 have hm : v_szTimetable a left = some y := hm
 unfold v_szTimetable at hm
 refine rg G ?_
 obtain ⟨r, h, hm⟩ := obind hm
 refine rs G (hC 3 (v_szNetwork_c h) h0) ?_
 refine Ok_seq (rg G (cd hm (fun hm => ?_) (fun hm => ?_)))
 ·refine rg G ?_
  cases hm
  exact rt [] []
 ·refine X_skip (thN ?_)
  obtain ⟨r1, h1, hm⟩ := obind hm
  refine rs G (hC 3 (v_szTripS_c h1) h0) ?_
  refine Ok_seq (rg G (cd hm (fun hm => ?_) (fun hm => ?_)))
  ·refine rg G ?_
   cases hm
   exact rt [] []
  ·refine X_skip (thN (rg G ?_))
   cases hm
   exact rt [] []
noncomputable def v_szLog_M : MS (Log × Int) Int := ⟨.x .r .r, fun x => v_szLog x.1 x.2, fun y => dV y, fun _ => [], fun _ _ => []⟩
theorem v_szLog_c {a left y} (hm : v_szLog a left = some y) : v_szLog_M.C (a, left) y := v_szLog_M.c (a, left) hm
theorem v_szLog_ok : FnOK Tryz.prog tJ 37 v_szLog_M.S := by
 refine fm tt v_szLog_M [] Tryz.call37 Tryz.func37 rfl Tryz.results37 Tryz.ntmps37 ?_
 rintro ⟨a, left⟩ y cx G hm
 have hm : v_szLog a left = some y := hm
 unfold v_szLog at hm
 refine rg G (rg G (Ok_seq (rg G (cd hm (fun hm => ?_) (fun hm => ?_)))))
 ·refine rg G ?_
  cases hm
  exact rt [] []
 ·refine X_skip (thN (rg G (Ok_seq (rg G (cd hm (fun hm => ?_) (fun hm => ?_))))))
  ·refine rg G ?_
   cases hm
   exact rt [] []
  ·refine X_skip (thN (rg G ?_))
   cases hm
   exact rt [] []
noncomputable def v_szConsole_M : MS (Console × Int) Int := ⟨.x .r .r, fun x => v_szConsole x.1 x.2, fun y => dV y, fun _ => [], fun _ _ => []⟩
theorem v_szConsole_c {a left y} (hm : v_szConsole a left = some y) : v_szConsole_M.C (a, left) y := v_szConsole_M.c (a, left) hm
theorem v_szConsole_ok : FnOK Tryz.prog tJ 15 v_szConsole_M.S := by
 refine fm tt v_szConsole_M [fo v_szTimetable_ok, fo v_szLog_ok] Tryz.call15 Tryz.func15 rfl Tryz.results15 Tryz.ntmps15 ?_
 rintro ⟨a, left⟩ y cx G hm
 have hm : v_szConsole a left = some y := hm
 unfold v_szConsole at hm
 refine rg G ?_
 obtain ⟨r, h, hm⟩ := obind hm
 refine rs G (hC 3 (v_szTimetable_c h) h0) ?_
 refine Ok_seq (rg G (cd hm (fun hm => ?_) (fun hm => ?_)))
 ·refine rg G ?_
  cases hm
  exact rt [] []
 ·refine X_skip (thN ?_)
  obtain ⟨r1, h1, hm⟩ := obind hm
  refine rs G (hC 3 (v_szLog_c h1) h0) ?_
  refine Ok_seq (rg G (cd hm (fun hm => ?_) (fun hm => ?_)))
  ·refine rg G ?_
   cases hm
   exact rt [] []
  ·refine X_skip (thN (rg G ?_))
   cases hm
   exact rt [] []
noncomputable def v_toStringS_M : MS ((List ByteArray)) ((List ByteArray)) := ⟨.r, v_toStringS, fun _ => .own 0, fun y => [arO 9 y], fun _ _ => []⟩
theorem v_toStringS_c {a y} (hm : v_toStringS a = some y) : v_toStringS_M.C a y := v_toStringS_M.c a hm
theorem v_toStringS_ok : FnOK Tryz.prog tJ 130 v_toStringS_M.S := by
 refine fm tt v_toStringS_M [] Tryz.call130 Tryz.func130 rfl Tryz.results130 Tryz.ntmps130 ?_
 rintro a y cx G hm
 have hm : v_toStringS a = some y := hm
 unfold v_toStringS at hm
 refine rg G ?_
 obtain ⟨u, h, hm⟩ := obind hm
 refine rs G (hN 1 a (hO 2 (.l (List.map Enc.e (List.replicate (a.length : Int).toNat (ByteArray.empty : ByteArray)))) (hP (mk_p (b := 16) (chk_t h) rfl) (hP (rep_m Enc.e (a.length : Int).toNat (ByteArray.empty : ByteArray)) h0)))) ?_
 refine Ok_seq (rg G (tl hm (fun i1 => ⟨[(3, .own 16)], [aX 16 9 i1], 48⟩) (fun i1 hm => ?_) ?_))
 ·refine Ok_block (lp G hm (fun (v, i) => ⟨[(0, dV a), (3, .own 16), (4, dV v)], [aX 16 9 i], 48⟩) ?_)
  rintro ⟨v, i⟩ r0 hb hm
  rw [v_toStringS_L1] at hm
  refine Ok_seq (rs G (hN 2 a h0) ?_)
  refine cd hm (fun hm => ?_) (fun hm => ?_)
  ·refine X_skip (thN (Ok_seq (Ok_block ?_)))
   obtain ⟨e, h1, hm⟩ := obind hm
   obtain ⟨e1, h2, hm⟩ := obind hm
   refine re G (hD 4 h1 (hD 6 h2 (hS 7 h2 e h0))) ?_
   exact ibN (thN (rh G (wL G hm)))
  ·exact Ok_exit (thE (thE (ibE (wD G hm hb))))
 rintro i1 hm s hw
 refine thN (Ok_weak hw ?_)
 refine rg G ?_
 cases hm
 exact rt [16] []
noncomputable def v_toIntS_M : MS ((List Int)) ((List Int)) := ⟨.r, v_toIntS, fun _ => .own 0, fun y => [arO 3 y], fun _ _ => []⟩
theorem v_toIntS_c {a y} (hm : v_toIntS a = some y) : v_toIntS_M.C a y := v_toIntS_M.c a hm
theorem v_toIntS_ok : FnOK Tryz.prog tJ 177 v_toIntS_M.S := by
 refine fm tt v_toIntS_M [] Tryz.call177 Tryz.func177 rfl Tryz.results177 Tryz.ntmps177 ?_
 rintro a y cx G hm
 have hm : v_toIntS a = some y := hm
 unfold v_toIntS at hm
 refine rg G ?_
 obtain ⟨u, h, hm⟩ := obind hm
 refine rs G (hN 1 a (hO 2 (.l (List.map Enc.e (List.replicate (a.length : Int).toNat (0 : Int)))) (hP (mk_p (b := 8) (chk_t h) rfl) (hP (rep_m Enc.e (a.length : Int).toNat (0 : Int)) h0)))) ?_
 refine Ok_seq (rg G (tl hm (fun i1 => ⟨[(3, .own 16)], [aX 16 3 i1], 48⟩) (fun i1 hm => ?_) ?_))
 ·refine Ok_block (lp G hm (fun (v, i) => ⟨[(0, dV a), (3, .own 16), (4, dV v)], [aX 16 3 i], 48⟩) ?_)
  rintro ⟨v, i⟩ r0 hb hm
  rw [v_toIntS_L1] at hm
  refine Ok_seq (rs G (hN 2 a h0) ?_)
  refine cd hm (fun hm => ?_) (fun hm => ?_)
  ·refine X_skip (thN (Ok_seq (Ok_block ?_)))
   obtain ⟨e, h1, hm⟩ := obind hm
   obtain ⟨e1, h2, hm⟩ := obind hm
   refine re G (hD 4 h1 (hD 6 h2 (hS 7 h2 e h0))) ?_
   exact ibN (thN (rh G (wL G hm)))
  ·exact Ok_exit (thE (thE (ibE (wD G hm hb))))
 rintro i1 hm s hw
 refine thN (Ok_weak hw ?_)
 refine rg G ?_
 cases hm
 exact rt [16] []
noncomputable def v_toLine_M : MS Line Line := ⟨.r, v_toLine, fun y => .aggv [dV y.Name, .own 0, .own 1], fun y => [arO 3 y.Stops, arO 3 y.Runs], fun _ _ => []⟩
theorem v_toLine_c {a y} (hm : v_toLine a = some y) : v_toLine_M.C a y := v_toLine_M.c a hm
theorem v_toLine_ok : FnOK Tryz.prog tJ 162 v_toLine_M.S := by
 refine fm tt v_toLine_M [fo v_toIntS_ok] Tryz.call162 Tryz.func162 rfl Tryz.results162 Tryz.ntmps162 ?_
 rintro a y cx G hm
 have hm : v_toLine a = some y := hm
 unfold v_toLine at hm
 refine rg G (rg G (rg G ?_))
 obtain ⟨r, h, hm⟩ := obind hm
 refine rs G (hC 2 (v_toIntS_c h) h0) ?_
 obtain ⟨r1, h1, hm⟩ := obind hm
 refine rs G (hC 2 (v_toIntS_c h1) h0) ?_
 refine rg G ?_
 cases hm
 exact rt [160, 240] []
noncomputable def v_toLineS_M : MS ((List Line)) ((List Line)) := ⟨.r, v_toLineS, fun _ => .own 0, fun y => [taO 106 [none, some 3, some 3] y], fun _ _ => []⟩
theorem v_toLineS_c {a y} (hm : v_toLineS a = some y) : v_toLineS_M.C a y := v_toLineS_M.c a hm
theorem v_toLineS_ok : FnOK Tryz.prog tJ 131 v_toLineS_M.S := by
 refine fm tt v_toLineS_M [fo v_toLine_ok] Tryz.call131 Tryz.func131 rfl Tryz.results131 Tryz.ntmps131 ?_
 rintro a y cx G hm
 have hm : v_toLineS a = some y := hm
 unfold v_toLineS at hm
 refine rg G ?_
 obtain ⟨u, h, hm⟩ := obind hm
 refine rs G (hN 1 a (hO 2 (.l (List.map Enc.e (List.replicate (a.length : Int).toNat ((⟨ByteArray.empty, ([] : List Int), ([] : List Int)⟩ : Line) : Line)))) (hP (mk_p (b := 64) (chk_t h) rfl) (hP (rep_m Enc.e (a.length : Int).toNat ((⟨ByteArray.empty, ([] : List Int), ([] : List Int)⟩ : Line) : Line)) h0)))) ?_
 refine Ok_seq (rg G (tl hm (fun i1 => ⟨[(3, .own 16)], [tX 16 106 [none, some 3, some 3] i1 16 none], 48⟩) (fun i1 hm => ?_) ?_))
 ·refine Ok_block (lp G hm (fun (v, i) => ⟨[(0, dV a), (3, .own 16), (4, dV v)], [tX 16 106 [none, some 3, some 3] i 16 none], 48⟩) ?_)
  rintro ⟨v, i⟩ r0 hb hm
  rw [v_toLineS_L1] at hm
  refine Ok_seq (rs G (hN 2 a h0) ?_)
  refine cd hm (fun hm => ?_) (fun hm => ?_)
  ·refine X_skip (thN (Ok_seq (Ok_block ?_)))
   obtain ⟨e, h1, hm⟩ := obind hm
   obtain ⟨r, h2, hm⟩ := obind hm
   obtain ⟨e1, h3, hm⟩ := obind hm
   refine re G (hD 4 h1 (hC 6 (v_toLine_c h2) (hD 7 h3 (hS 8 h3 r h0)))) ?_
   exact ibN (thN (rh G (wL G hm)))
  ·exact Ok_exit (thE (thE (ibE (wD G hm hb))))
 rintro i1 hm s hw
 refine thN (Ok_weak hw ?_)
 refine rg G ?_
 cases hm
 exact rt [16] []
noncomputable def v_toNetwork_M : MS Network Network := ⟨.r, v_toNetwork, fun _ => .aggv [.own 0, .own 1], fun y => [arO 9 y.Stops, taO 106 [none, some 3, some 3] y.Lines], fun _ _ => []⟩
theorem v_toNetwork_c {a y} (hm : v_toNetwork a = some y) : v_toNetwork_M.C a y := v_toNetwork_M.c a hm
theorem v_toNetwork_ok : FnOK Tryz.prog tJ 83 v_toNetwork_M.S := by
 refine fm tt v_toNetwork_M [fo v_toStringS_ok, fo v_toLineS_ok] Tryz.call83 Tryz.func83 rfl Tryz.results83 Tryz.ntmps83 ?_
 rintro a y cx G hm
 have hm : v_toNetwork a = some y := hm
 unfold v_toNetwork at hm
 refine rg G (rg G ?_)
 obtain ⟨r, h, hm⟩ := obind hm
 refine rs G (hC 2 (v_toStringS_c h) h0) ?_
 obtain ⟨r1, h1, hm⟩ := obind hm
 refine rs G (hC 2 (v_toLineS_c h1) h0) ?_
 refine rg G ?_
 cases hm
 exact rt [96, 176] []
noncomputable def v_toTrip_M : MS Trip Trip := ⟨.r, v_toTrip, fun y => dV y, fun _ => [], fun _ _ => []⟩
theorem v_toTrip_c {a y} (hm : v_toTrip a = some y) : v_toTrip_M.C a y := v_toTrip_M.c a hm
theorem v_toTrip_ok : FnOK Tryz.prog tJ 132 v_toTrip_M.S := by
 refine fm tt v_toTrip_M [] Tryz.call132 Tryz.func132 rfl Tryz.results132 Tryz.ntmps132 ?_
 rintro a y cx G hm
 have hm : v_toTrip a = some y := hm
 unfold v_toTrip at hm
 refine rg G (rg G (rg G (rg G (rg G (rg G ?_)))))
 cases hm
 exact rt [] []
noncomputable def v_toTripS_M : MS ((List Trip)) ((List Trip)) := ⟨.r, v_toTripS, fun _ => .own 0, fun y => [arO 71 y], fun _ _ => []⟩
theorem v_toTripS_c {a y} (hm : v_toTripS a = some y) : v_toTripS_M.C a y := v_toTripS_M.c a hm
theorem v_toTripS_ok : FnOK Tryz.prog tJ 84 v_toTripS_M.S := by
 refine fm tt v_toTripS_M [fo v_toTrip_ok] Tryz.call84 Tryz.func84 rfl Tryz.results84 Tryz.ntmps84 ?_
 rintro a y cx G hm
 have hm : v_toTripS a = some y := hm
 unfold v_toTripS at hm
 refine rg G ?_
 obtain ⟨u, h, hm⟩ := obind hm
 refine rs G (hN 1 a (hO 2 (.l (List.map Enc.e (List.replicate (a.length : Int).toNat ((⟨0, 0, 0⟩ : Trip) : Trip)))) (hP (mk_p (b := 24) (chk_t h) rfl) (hP (rep_m Enc.e (a.length : Int).toNat ((⟨0, 0, 0⟩ : Trip) : Trip)) h0)))) ?_
 refine Ok_seq (rg G (tl hm (fun i1 => ⟨[(3, .own 16)], [aX 16 71 i1], 48⟩) (fun i1 hm => ?_) ?_))
 ·refine Ok_block (lp G hm (fun (v, i) => ⟨[(0, dV a), (3, .own 16), (4, dV v)], [aX 16 71 i], 48⟩) ?_)
  rintro ⟨v, i⟩ r0 hb hm
  rw [v_toTripS_L1] at hm
  refine Ok_seq (rs G (hN 2 a h0) ?_)
  refine cd hm (fun hm => ?_) (fun hm => ?_)
  ·refine X_skip (thN (Ok_seq (Ok_block ?_)))
   obtain ⟨e, h1, hm⟩ := obind hm
   obtain ⟨r, h2, hm⟩ := obind hm
   obtain ⟨e1, h3, hm⟩ := obind hm
   refine re G (hD 4 h1 (hC 6 (v_toTrip_c h2) (hD 7 h3 (hS 8 h3 r h0)))) ?_
   exact ibN (thN (rh G (wL G hm)))
  ·exact Ok_exit (thE (thE (ibE (wD G hm hb))))
 rintro i1 hm s hw
 refine thN (Ok_weak hw ?_)
 refine rg G ?_
 cases hm
 exact rt [16] []
noncomputable def v_toTimetable_M : MS Timetable Timetable := ⟨.r, v_toTimetable, fun _ => .aggv [.own 0, .own 1, .own 2], fun y => [arO 9 y.Network.Stops, taO 106 [none, some 3, some 3] y.Network.Lines, arO 71 y.Trips], fun _ _ => []⟩
theorem v_toTimetable_c {a y} (hm : v_toTimetable a = some y) : v_toTimetable_M.C a y := v_toTimetable_M.c a hm
theorem v_toTimetable_ok : FnOK Tryz.prog tJ 39 v_toTimetable_M.S := by
 refine fm tt v_toTimetable_M [fo v_toNetwork_ok, fo v_toTripS_ok] Tryz.call39 Tryz.func39 rfl Tryz.results39 Tryz.ntmps39 ?_
 rintro a y cx G hm
 have hm : v_toTimetable a = some y := hm
 unfold v_toTimetable at hm
 refine rg G (rg G ?_)
 obtain ⟨r, h, hm⟩ := obind hm
 refine rs G (hC 2 (v_toNetwork_c h) h0) ?_
 obtain ⟨r1, h1, hm⟩ := obind hm
 refine rs G (hC 2 (v_toTripS_c h1) h0) ?_
 refine rg G ?_
 cases hm
 exact rt [96, 97, 176] []
noncomputable def v_toLog_M : MS Log Log := ⟨.r, v_toLog, fun y => dV y, fun _ => [], fun _ _ => []⟩
theorem v_toLog_c {a y} (hm : v_toLog a = some y) : v_toLog_M.C a y := v_toLog_M.c a hm
theorem v_toLog_ok : FnOK Tryz.prog tJ 40 v_toLog_M.S := by
 refine fm tt v_toLog_M [] Tryz.call40 Tryz.func40 rfl Tryz.results40 Tryz.ntmps40 ?_
 rintro a y cx G hm
 have hm : v_toLog a = some y := hm
 unfold v_toLog at hm
 refine rg G (rg G (rg G (rg G (rg G (rg G ?_)))))
 cases hm
 exact rt [] []
noncomputable def v_toConsole_M : MS Console Console := ⟨.r, v_toConsole, fun y => .aggv [.own 0, .own 1, .own 2, dV y.Change, dV y.Log.Durable, dV y.Log.Pending, dV y.Log.Count], fun y => [arO 9 y.Timetable.Network.Stops, taO 106 [none, some 3, some 3] y.Timetable.Network.Lines, arO 71 y.Timetable.Trips], fun _ _ => []⟩
theorem v_toConsole_c {a y} (hm : v_toConsole a = some y) : v_toConsole_M.C a y := v_toConsole_M.c a hm
theorem v_toConsole_ok : FnOK Tryz.prog tJ 17 v_toConsole_M.S := by
 refine fm tt v_toConsole_M [fo v_toTimetable_ok, fo v_toLog_ok] Tryz.call17 Tryz.func17 rfl Tryz.results17 Tryz.ntmps17 ?_
 rintro a y cx G hm
 have hm : v_toConsole a = some y := hm
 unfold v_toConsole at hm
 refine rg G (rg G ?_)
 obtain ⟨r, h, hm⟩ := obind hm
 refine rs G (hC 2 (v_toTimetable_c h) h0) ?_
 refine rg G ?_
 obtain ⟨r1, h1, hm⟩ := obind hm
 refine rs G (hC 2 (v_toLog_c h1) h0) ?_
 refine rg G ?_
 cases hm
 exact rt [96, 97, 98] []
noncomputable def s_l1In_M : MS (Int × Int × Int) Bool := ⟨.x .r (.x .r .r), fun x => s_l1In x.1 x.2.1 x.2.2, fun y => dV y, fun _ => [], fun _ _ => []⟩
theorem s_l1In_c {x a b y} (hm : s_l1In x a b = some y) : s_l1In_M.C (x, a, b) y := s_l1In_M.c (x, a, b) hm
theorem s_l1In_ok : FnOK Tryz.prog tJ 53 s_l1In_M.S := by
 refine fm tt s_l1In_M [] Tryz.call53 Tryz.func53 rfl Tryz.results53 Tryz.ntmps53 ?_
 rintro ⟨x, a, b⟩ y cx G hm
 have hm : s_l1In x a b = some y := hm
 unfold s_l1In at hm
 refine rg G (jn hm (fun v => ⟨[(6, dV v)], [], 32⟩) (fun v hm => ?_) ?_)
 ·rcases bf hm with ⟨hb, hm⟩ | ⟨hb, hm⟩
  ·refine re G (hO 3 (.b true) (hP hb h0)) ?_
   exact wJ G hm
  ·refine re G (hO 3 (.b false) (hP hb h0)) ?_
   exact wJ G hm
 rintro v hm
 cases hm
 exact rt [] []
noncomputable def s_l2Name_M : MS ByteArray Bool := ⟨.r, s_l2Name, fun y => dV y, fun _ => [], fun _ _ => []⟩
theorem s_l2Name_c {s y} (hm : s_l2Name s = some y) : s_l2Name_M.C s y := s_l2Name_M.c s hm
theorem s_l2Name_ok : FnOK Tryz.prog tJ 99 s_l2Name_M.S := by
 refine fm tt s_l2Name_M [fo s_l1In_ok] Tryz.call99 Tryz.func99 rfl Tryz.results99 Tryz.ntmps99 ?_
 rintro s y cx G hm
 have hm : s_l2Name s = some y := hm
 unfold s_l2Name at hm
 refine rg G (Ok_seq ?_)
 obtain ⟨r, h, hm⟩ := obind hm
 refine jn hm (fun v => ⟨[(0, dV s), (17, dV v)], [], 32⟩) (fun v hm => ?_) ?_
 ·rcases bf hm with ⟨hb, hm⟩ | ⟨hb, hm⟩
  ·refine re G (hC 2 (s_l1In_c h) (hO 4 (.b true) (hP hb h0))) ?_
   exact wJ G hm
  ·obtain ⟨u, h1, hm⟩ := obind hm
   rcases bf hm with ⟨hb1, hm⟩ | ⟨hb1, hm⟩
   ·refine re G (hC 2 (s_l1In_c h) (hO 4 (.b false) (hP hb (hK h1 (hO 9 (.b true) (hP hb1 h0)))))) ?_
    exact wJ G hm
   ·obtain ⟨u1, h2, hm⟩ := obind hm
    refine re G (hC 2 (s_l1In_c h) (hO 4 (.b false) (hP hb (hK h1 (hO 9 (.b false) (hP hb1 (hK h2 h0))))))) ?_
    exact wJ G hm
 rintro v hm
 refine cd hm (fun hm => ?_) (fun hm => ?_)
 ·refine rg G ?_
  cases hm
  exact rt [] []
 ·refine X_skip (thN (Ok_seq (rg G (tF hm (fun _ => ⟨[], [], 32⟩) (fun v3 hr hm => ?_) ?_))))
  ·refine Ok_block (lp G hm (fun v1 => ⟨[(0, dV s), (3, dV v1)], [], 32⟩) ?_)
   rintro v1 r0 hb2 hm
   rw [s_l2Name_L1] at hm
   refine Ok_seq (rg G (cd hm (fun hm => ?_) (fun hm => ?_)))
   ·refine X_skip (thN (Ok_seq (Ok_block ?_)))
    obtain ⟨u2, h3, hm⟩ := obind hm
    refine jn hm (fun v2 => ⟨[(0, dV s), (3, dV v1), (45, dV v2)], [], 32⟩) (fun v2 hm => ?_) ?_
    ·rcases bf hm with ⟨hb3, hm⟩ | ⟨hb3, hm⟩
     ·obtain ⟨u3, h4, hm⟩ := obind hm
      rcases bf hm with ⟨hb4, hm⟩ | ⟨hb4, hm⟩
      ·refine re G (hK h3 (hO 4 (.b true) (hP hb3 (hK h4 (hO 15 (.b true) (hP hb4 h0)))))) ?_
       exact wJ G hm
      ·obtain ⟨u4, h5, hm⟩ := obind hm
       refine re G (hK h3 (hO 4 (.b true) (hP hb3 (hK h4 (hO 15 (.b false) (hP hb4 (hK h5 h0))))))) ?_
       exact wJ G hm
     ·obtain ⟨u5, h6, hm⟩ := obind hm
      rcases bf hm with ⟨hb5, hm⟩ | ⟨hb5, hm⟩
      ·obtain ⟨u6, h7, hm⟩ := obind hm
       rcases bf hm with ⟨hb6, hm⟩ | ⟨hb6, hm⟩
       ·refine re G (hK h3 (hO 4 (.b false) (hP hb3 (hK h6 (hO 10 (.b true) (hP hb5 (hK h7 (hO 15 (.b true) (hP hb6 h0))))))))) ?_
        exact wJ G hm
       ·obtain ⟨u7, h8, hm⟩ := obind hm
        refine re G (hK h3 (hO 4 (.b false) (hP hb3 (hK h6 (hO 10 (.b true) (hP hb5 (hK h7 (hO 15 (.b false) (hP hb6 (hK h8 h0)))))))))) ?_
        exact wJ G hm
      ·refine re G (hK h3 (hO 4 (.b false) (hP hb3 (hK h6 (hO 10 (.b false) (hP hb5 h0)))))) ?_
       exact wJ G hm
    rintro v2 hm
    refine cd hm (fun hm => ?_) (fun hm => ?_)
    ·refine rg G ?_
     have hm := eL hm hb2 hr
     cases hm
     exact rt [] []
    ·exact X_skip (ibN (thN (rh G (wL G hm))))
   ·exact Ok_exit (thE (thE (ibE (wE G hm hb2))))
  rintro ⟨⟩ hm s1 hw
  refine thN (Ok_weak hw ?_)
  refine rg G ?_
  cases hm
  exact rt [] []
noncomputable def s_l2Find_M : MS ((List ByteArray) × ByteArray) Int := ⟨.x .r .r, fun x => s_l2Find x.1 x.2, fun y => dV y, fun _ => [], fun _ _ => []⟩
theorem s_l2Find_c {list name y} (hm : s_l2Find list name = some y) : s_l2Find_M.C (list, name) y := s_l2Find_M.c (list, name) hm
theorem s_l2Find_ok : FnOK Tryz.prog tJ 100 s_l2Find_M.S := by
 refine fm tt s_l2Find_M [] Tryz.call100 Tryz.func100 rfl Tryz.results100 Tryz.ntmps100 ?_
 rintro ⟨list, name⟩ y cx G hm
 have hm : s_l2Find list name = some y := hm
 unfold s_l2Find at hm
 refine rg G (Ok_seq (rg G (tF hm (fun _ => ⟨[], [], 32⟩) (fun v1 hr hm => ?_) ?_)))
 ·refine Ok_block (lp G hm (fun v => ⟨[(0, dV list), (1, dV name), (5, dV v)], [], 32⟩) ?_)
  rintro v r0 hb hm
  rw [s_l2Find_L1] at hm
  refine Ok_seq (rs G (hN 2 list h0) ?_)
  refine cd hm (fun hm => ?_) (fun hm => ?_)
  ·refine X_skip (thN (Ok_seq (Ok_block ?_)))
   obtain ⟨e, h, hm⟩ := obind hm
   refine rs G (hD 2 h h0) ?_
   refine cd hm (fun hm => ?_) (fun hm => ?_)
   ·refine rg G ?_
    have hm := eL hm hb hr
    cases hm
    exact rt [] []
   ·exact X_skip (ibN (thN (rh G (wL G hm))))
  ·exact Ok_exit (thE (thE (ibE (wE G hm hb))))
 rintro ⟨⟩ hm s hw
 refine thN (Ok_weak hw ?_)
 refine rg G ?_
 cases hm
 exact rt [] []
noncomputable def s_l2Place_M : MS (Line × Int) Int := ⟨.x .r .r, fun x => s_l2Place x.1 x.2, fun y => dV y, fun _ => [], fun _ _ => []⟩
theorem s_l2Place_c {x stop y} (hm : s_l2Place x stop = some y) : s_l2Place_M.C (x, stop) y := s_l2Place_M.c (x, stop) hm
theorem s_l2Place_ok : FnOK Tryz.prog tJ 141 s_l2Place_M.S := by
 refine fm tt s_l2Place_M [] Tryz.call141 Tryz.func141 rfl Tryz.results141 Tryz.ntmps141 ?_
 rintro ⟨x, stop⟩ y cx G hm
 have hm : s_l2Place x stop = some y := hm
 unfold s_l2Place at hm
 refine rg G (Ok_seq (rg G (tF hm (fun _ => ⟨[], [], 32⟩) (fun v1 hr hm => ?_) ?_)))
 ·refine Ok_block (lp G hm (fun v => ⟨[(1, dV stop), (2, .ref 16 0), (5, dV v)], [bX 16 106 [dV x.Name, dV x.Stops, dV x.Runs]], 48⟩) ?_)
  rintro v r0 hb hm
  rw [s_l2Place_L1] at hm
  refine Ok_seq (rs G (hN 3 x.Stops h0) ?_)
  refine cd hm (fun hm => ?_) (fun hm => ?_)
  ·refine X_skip (thN (Ok_seq (Ok_block ?_)))
   obtain ⟨e, h, hm⟩ := obind hm
   refine rs G (hD 3 h h0) ?_
   refine cd hm (fun hm => ?_) (fun hm => ?_)
   ·refine rg G ?_
    have hm := eL hm hb hr
    cases hm
    exact rt [] []
   ·exact X_skip (ibN (thN (rh G (wL G hm))))
  ·exact Ok_exit (thE (thE (ibE (wE G hm hb))))
 rintro ⟨⟩ hm s hw
 refine thN (Ok_weak hw ?_)
 refine rg G ?_
 cases hm
 exact rt [] []
noncomputable def s_l2Line_M : MS (Line × Int) Bool := ⟨.x .r .r, fun x => s_l2Line x.1 x.2, fun y => dV y, fun _ => [], fun _ _ => []⟩
theorem s_l2Line_c {x stops y} (hm : s_l2Line x stops = some y) : s_l2Line_M.C (x, stops) y := s_l2Line_M.c (x, stops) hm
theorem s_l2Line_ok : FnOK Tryz.prog tJ 101 s_l2Line_M.S := by
 refine fm tt s_l2Line_M [fo s_l2Name_ok, fo s_l1In_ok, fo s_l2Place_ok] Tryz.call101 Tryz.func101 rfl Tryz.results101 Tryz.ntmps101 ?_
 rintro ⟨x, stops⟩ y cx G hm
 have hm : s_l2Line x stops = some y := hm
 unfold s_l2Line at hm
 refine rg G (Ok_seq ?_)
 obtain ⟨r, h, hm⟩ := obind hm
 refine jn hm (fun v => ⟨[(1, dV stops), (2, .ref 16 0), (27, dV v)], [bX 16 106 [dV x.Name, dV x.Stops, dV x.Runs]], 48⟩) (fun v hm => ?_) ?_
 ·rcases bf hm with ⟨hb, hm⟩ | ⟨hb, hm⟩
  ·refine re G (hC 2 (s_l2Name_c h) (hO 4 (.b true) (hP hb h0))) ?_
   exact wJ G hm
  ·obtain ⟨r1, h1, hm⟩ := obind hm
   rcases bf hm with ⟨hb1, hm⟩ | ⟨hb1, hm⟩
   ·refine re G (hC 2 (s_l2Name_c h) (hO 4 (.b false) (hP hb (hN 7 x.Stops (hC 8 (s_l1In_c h1) (hO 11 (.b true) (hP hb1 h0))))))) ?_
    exact wJ G hm
   ·refine re G (hC 2 (s_l2Name_c h) (hO 4 (.b false) (hP hb (hN 7 x.Stops (hC 8 (s_l1In_c h1) (hO 11 (.b false) (hP hb1 (hN 14 x.Runs (hN 17 x.Stops h0))))))))) ?_
    exact wJ G hm
 rintro v hm
 refine cd hm (fun hm => ?_) (fun hm => ?_)
 ·refine rg G ?_
  cases hm
  exact rt [] []
 ·refine X_skip (thN (Ok_seq (rg G (tF hm (fun _ => ⟨[(2, .ref 16 0)], [bX 16 106 [dV x.Name, dV x.Stops, dV x.Runs]], 48⟩) (fun v5 hr hm => ?_) ?_))))
  ·refine Ok_block (lp G hm (fun v1 => ⟨[(1, dV stops), (2, .ref 16 0), (5, dV v1)], [bX 16 106 [dV x.Name, dV x.Stops, dV x.Runs]], 48⟩) ?_)
   rintro v1 r0 hb2 hm
   rw [s_l2Line_L1] at hm
   refine Ok_seq (rs G (hN 3 x.Stops h0) ?_)
   refine cd hm (fun hm => ?_) (fun hm => ?_)
   ·refine X_skip (thN (Ok_seq (Ok_block ?_)))
    obtain ⟨e2, h6, hm⟩ := obind hm
    obtain ⟨r4, h7, hm⟩ := obind hm
    refine jn hm (fun v2 => ⟨[(1, dV stops), (2, .ref 16 0), (5, dV v1), (54, dV v2)], [bX 16 106 [dV x.Name, dV x.Stops, dV x.Runs]], 48⟩) (fun v2 hm => ?_) ?_
    ·rcases bf hm with ⟨hb3, hm⟩ | ⟨hb3, hm⟩
     ·refine de G [] (hD 3 h6 (hC 7 (s_l1In_c h7) (hO 9 (.b true) (hP hb3 h0)))) ?_
      exact wJ G hm
     ·obtain ⟨e3, h8, hm⟩ := obind hm
      obtain ⟨r5, h9, hm⟩ := obind hm
      refine de G [] (hD 3 h6 (hC 7 (s_l1In_c h7) (hO 9 (.b false) (hP hb3 (hD 14 h8 (hC 16 (s_l2Place_c h9) h0)))))) ?_
      exact wJ G hm
    rintro v2 hm
    refine cd hm (fun hm => ?_) (fun hm => ?_)
    ·refine rg G ?_
     have hm := eL hm hb2 hr
     cases hm
     exact rt [] []
    ·exact X_skip (ibN (thN (rh G (wL G hm))))
   ·exact Ok_exit (thE (thE (ibE (wE G hm hb2))))
  rintro ⟨⟩ hm s hw
  refine thN (Ok_weak hw ?_)
  refine Ok_seq (rg G (tF hm (fun _ => ⟨[], [], 32⟩) (fun v4 hr1 hm => ?_) ?_))
  ·refine Ok_block (lp G hm (fun v3 => ⟨[(2, .ref 16 0), (6, dV v3)], [bX 16 106 [dV x.Name, dV x.Stops, dV x.Runs]], 48⟩) ?_)
   rintro v3 r0 hb4 hm
   rw [s_l2Line_L2] at hm
   refine Ok_seq (rs G (hN 3 x.Runs h0) ?_)
   refine cd hm (fun hm => ?_) (fun hm => ?_)
   ·refine X_skip (thN (Ok_seq (Ok_block ?_)))
    obtain ⟨e5, h10, hm⟩ := obind hm
    obtain ⟨r7, h11, hm⟩ := obind hm
    refine rs G (hD 3 h10 (hC 5 (s_l1In_c h11) h0)) ?_
    refine cd hm (fun hm => ?_) (fun hm => ?_)
    ·refine rg G ?_
     have hm := eL hm hb4 hr1
     cases hm
     exact rt [] []
    ·exact X_skip (ibN (thN (rh G (wL G hm))))
   ·exact Ok_exit (thE (thE (ibE (wE G hm hb4))))
  rintro ⟨⟩ hm s1 hw1
  refine thN (Ok_weak hw1 ?_)
  refine rg G ?_
  cases hm
  exact rt [] []
noncomputable def s_l2LineNamed_M : MS (Network × ByteArray) Int := ⟨.x .r .r, fun x => s_l2LineNamed x.1 x.2, fun y => dV y, fun _ => [], fun _ _ => []⟩
theorem s_l2LineNamed_c {n name y} (hm : s_l2LineNamed n name = some y) : s_l2LineNamed_M.C (n, name) y := s_l2LineNamed_M.c (n, name) hm
theorem s_l2LineNamed_ok : FnOK Tryz.prog tJ 102 s_l2LineNamed_M.S := by
 refine fm tt s_l2LineNamed_M [] Tryz.call102 Tryz.func102 rfl Tryz.results102 Tryz.ntmps102 ?_
 rintro ⟨n, name⟩ y cx G hm
 have hm : s_l2LineNamed n name = some y := hm
 unfold s_l2LineNamed at hm
 refine rg G (Ok_seq (rg G (tF hm (fun _ => ⟨[], [], 32⟩) (fun v1 hr hm => ?_) ?_)))
 ·refine Ok_block (lp G hm (fun v => ⟨[(1, dV name), (2, .ref 16 0), (5, dV v)], [bX 16 27 [dV n.Stops, dV n.Lines]], 48⟩) ?_)
  rintro v r0 hb hm
  rw [s_l2LineNamed_L1] at hm
  refine Ok_seq (rs G (hN 3 n.Lines h0) ?_)
  refine cd hm (fun hm => ?_) (fun hm => ?_)
  ·refine X_skip (thN (Ok_seq (Ok_block ?_)))
   obtain ⟨e, h, hm⟩ := obind hm
   refine rs G (hD 3 h h0) ?_
   refine cd hm (fun hm => ?_) (fun hm => ?_)
   ·refine rg G ?_
    have hm := eL hm hb hr
    cases hm
    exact rt [] []
   ·exact X_skip (ibN (thN (rh G (wL G hm))))
  ·exact Ok_exit (thE (thE (ibE (wE G hm hb))))
 rintro ⟨⟩ hm s hw
 refine thN (Ok_weak hw ?_)
 refine rg G ?_
 cases hm
 exact rt [] []
noncomputable def s_l2Good_M : MS Network Bool := ⟨.r, s_l2Good, fun y => dV y, fun _ => [], fun _ _ => []⟩
theorem s_l2Good_c {n y} (hm : s_l2Good n = some y) : s_l2Good_M.C n y := s_l2Good_M.c n hm
theorem s_l2Good_ok : FnOK Tryz.prog tJ 52 s_l2Good_M.S := by
 refine fm tt s_l2Good_M [fo s_l1In_ok, fo s_l2Name_ok, fo s_l2Find_ok, fo s_l2Line_ok, fo s_l2LineNamed_ok] Tryz.call52 Tryz.func52 rfl Tryz.results52 Tryz.ntmps52 ?_
 rintro n y cx G hm
 have hm : s_l2Good n = some y := hm
 unfold s_l2Good at hm
 refine rg G (Ok_seq ?_)
 obtain ⟨r, h, hm⟩ := obind hm
 refine jn hm (fun v => ⟨[(1, .ref 16 0), (16, dV v)], [bX 16 27 [dV n.Stops, dV n.Lines]], 48⟩) (fun v hm => ?_) ?_
 ·rcases bf hm with ⟨hb, hm⟩ | ⟨hb, hm⟩
  ·refine re G (hN 2 n.Stops (hC 3 (s_l1In_c h) (hO 5 (.b true) (hP hb h0)))) ?_
   exact wJ G hm
  ·obtain ⟨r1, h1, hm⟩ := obind hm
   refine re G (hN 2 n.Stops (hC 3 (s_l1In_c h) (hO 5 (.b false) (hP hb (hN 8 n.Lines (hC 9 (s_l1In_c h1) h0)))))) ?_
   exact wJ G hm
 rintro v hm
 refine cd hm (fun hm => ?_) (fun hm => ?_)
 ·refine rg G ?_
  cases hm
  exact rt [] []
 ·refine X_skip (thN (Ok_seq (rg G (tF hm (fun _ => ⟨[(1, .ref 16 0)], [bX 16 27 [dV n.Stops, dV n.Lines]], 48⟩) (fun v5 hr hm => ?_) ?_))))
  ·refine Ok_block (lp G hm (fun i => ⟨[(1, .ref 16 0), (3, dV i)], [bX 16 27 [dV n.Stops, dV n.Lines]], 48⟩) ?_)
   rintro i r0 hb1 hm
   rw [s_l2Good_L1] at hm
   refine Ok_seq (rs G (hN 3 n.Stops h0) ?_)
   refine cd hm (fun hm => ?_) (fun hm => ?_)
   ·refine X_skip (thN (Ok_seq (Ok_block ?_)))
    obtain ⟨e2, h6, hm⟩ := obind hm
    obtain ⟨r4, h7, hm⟩ := obind hm
    refine jn hm (fun v1 => ⟨[(1, .ref 16 0), (3, dV i), (42, dV v1)], [bX 16 27 [dV n.Stops, dV n.Lines]], 48⟩) (fun v1 hm => ?_) ?_
    ·rcases bf hm with ⟨hb2, hm⟩ | ⟨hb2, hm⟩
     ·refine de G [] (hD 3 h6 (hC 5 (s_l2Name_c h7) (hO 7 (.b true) (hP hb2 h0)))) ?_
      exact wJ G hm
     ·obtain ⟨e3, h8, hm⟩ := obind hm
      obtain ⟨r5, h9, hm⟩ := obind hm
      refine de G [] (hD 3 h6 (hC 5 (s_l2Name_c h7) (hO 7 (.b false) (hP hb2 (hD 13 h8 (hC 15 (s_l2Find_c h9) h0)))))) ?_
      exact wJ G hm
    rintro v1 hm
    refine cd hm (fun hm => ?_) (fun hm => ?_)
    ·refine rg G ?_
     have hm := eL hm hb1 hr
     cases hm
     exact rt [] []
    ·exact X_skip (ibN (thN (rh G (wL G hm))))
   ·exact Ok_exit (thE (thE (ibE (wE G hm hb1))))
  rintro ⟨⟩ hm s hw
  refine thN (Ok_weak hw ?_)
  refine Ok_seq (rg G (tF hm (fun _ => ⟨[], [], 32⟩) (fun v4 hr1 hm => ?_) ?_))
  ·refine Ok_block (lp G hm (fun v2 => ⟨[(1, .ref 16 0), (4, dV v2)], [bX 16 27 [dV n.Stops, dV n.Lines]], 48⟩) ?_)
   rintro v2 r0 hb3 hm
   rw [s_l2Good_L2] at hm
   refine Ok_seq (rs G (hN 3 n.Lines h0) ?_)
   refine cd hm (fun hm => ?_) (fun hm => ?_)
   ·refine X_skip (thN (Ok_seq (Ok_block ?_)))
    obtain ⟨e7, h14, hm⟩ := obind hm
    obtain ⟨r9, h15, hm⟩ := obind hm
    refine jn hm (fun v3 => ⟨[(1, .ref 16 0), (4, dV v2), (71, dV v3)], [bX 16 27 [dV n.Stops, dV n.Lines]], 48⟩) (fun v3 hm => ?_) ?_
    ·rcases bf hm with ⟨hb4, hm⟩ | ⟨hb4, hm⟩
     ·refine de G [] (hD 3 h14 (hN 7 n.Stops (hC 8 (s_l2Line_c h15) (hO 10 (.b true) (hP hb4 h0))))) ?_
      exact wJ G hm
     ·obtain ⟨e8, h16, hm⟩ := obind hm
      obtain ⟨r10, h17, hm⟩ := obind hm
      refine de G [] (hD 3 h14 (hN 7 n.Stops (hC 8 (s_l2Line_c h15) (hO 10 (.b false) (hP hb4 (hD 15 h16 (hC 18 (s_l2LineNamed_c h17) h0))))))) ?_
      exact wJ G hm
    rintro v3 hm
    refine cd hm (fun hm => ?_) (fun hm => ?_)
    ·refine rg G ?_
     have hm := eL hm hb3 hr1
     cases hm
     exact rt [] []
    ·exact X_skip (ibN (thN (rh G (wL G hm))))
   ·exact Ok_exit (thE (thE (ibE (wE G hm hb3))))
  rintro ⟨⟩ hm s1 hw1
  refine thN (Ok_weak hw1 ?_)
  refine rg G ?_
  cases hm
  exact rt [] []
noncomputable def s_l4Time_M : MS Int Bool := ⟨.r, s_l4Time, fun y => dV y, fun _ => [], fun _ _ => []⟩
theorem s_l4Time_c {t y} (hm : s_l4Time t = some y) : s_l4Time_M.C t y := s_l4Time_M.c t hm
theorem s_l4Time_ok : FnOK Tryz.prog tJ 54 s_l4Time_M.S := by
 refine fm tt s_l4Time_M [fo s_l1In_ok] Tryz.call54 Tryz.func54 rfl Tryz.results54 Tryz.ntmps54 ?_
 rintro t y cx G hm
 have hm : s_l4Time t = some y := hm
 unfold s_l4Time at hm
 refine rg G ?_
 obtain ⟨r, h, hm⟩ := obind hm
 refine rs G (hC 1 (s_l1In_c h) h0) ?_
 cases hm
 exact rt [] []
noncomputable def s_l5Line_M : MS (Timetable × Int) Line := ⟨.x .r .r, fun x => s_l5Line x.1 x.2, fun y => dV y, fun _ => [], fun _ _ => []⟩
theorem s_l5Line_c {t i y} (hm : s_l5Line t i = some y) : s_l5Line_M.C (t, i) y := s_l5Line_M.c (t, i) hm
theorem s_l5Line_ok : FnOK Tryz.prog tJ 89 s_l5Line_M.S := by
 refine fm tt s_l5Line_M [] Tryz.call89 Tryz.func89 rfl Tryz.results89 Tryz.ntmps89 ?_
 rintro ⟨t, i⟩ y cx G hm
 have hm : s_l5Line t i = some y := hm
 unfold s_l5Line at hm
 refine rg G ?_
 obtain ⟨e2, h2, hm⟩ := obind hm
 obtain ⟨e3, h3, hm⟩ := obind hm
 refine ds G [(11, [32])] (hD 6 h2 (hD 9 h3 h0)) ?_
 cases hm
 exact rt [] []
noncomputable def s_l5Stops_M : MS (Timetable × Int) ((List Int)) := ⟨.x .r .r, fun x => s_l5Stops x.1 x.2, fun y => dV y, fun _ => [], fun _ _ => []⟩
theorem s_l5Stops_c {t i y} (hm : s_l5Stops t i = some y) : s_l5Stops_M.C (t, i) y := s_l5Stops_M.c (t, i) hm
theorem s_l5Stops_ok : FnOK Tryz.prog tJ 104 s_l5Stops_M.S := by
 refine fm tt s_l5Stops_M [fo s_l5Line_ok] Tryz.call104 Tryz.func104 rfl Tryz.results104 Tryz.ntmps104 ?_
 rintro ⟨t, i⟩ y cx G hm
 have hm : s_l5Stops t i = some y := hm
 unfold s_l5Stops at hm
 refine rg G ?_
 obtain ⟨r, h, hm⟩ := obind hm
 refine rs G (hC 2 (s_l5Line_c h) h0) ?_
 cases hm
 exact rt [] []
noncomputable def s_l2Run_M : MS (Line × Int × Int) Int := ⟨.x .r (.x .r .r), fun x => s_l2Run x.1 x.2.1 x.2.2, fun y => dV y, fun _ => [], fun _ _ => []⟩
theorem s_l2Run_c {x from_ to_ y} (hm : s_l2Run x from_ to_ = some y) : s_l2Run_M.C (x, from_, to_) y := s_l2Run_M.c (x, from_, to_) hm
theorem s_l2Run_ok : FnOK Tryz.prog tJ 143 s_l2Run_M.S := by
 refine fm tt s_l2Run_M [] Tryz.call143 Tryz.func143 rfl Tryz.results143 Tryz.ntmps143 ?_
 rintro ⟨x, from_, to_⟩ y cx G hm
 have hm : s_l2Run x from_ to_ = some y := hm
 unfold s_l2Run at hm
 refine rg G (rg G (Ok_seq (rg G (tl hm (fun v2 => ⟨[(7, dV v2)], [], 32⟩) (fun v2 hm => ?_) ?_))))
 ·refine Ok_block (lp G hm (fun (v, v1) => ⟨[(2, dV to_), (3, .ref 16 0), (7, dV v), (8, dV v1)], [bX 16 106 [dV x.Name, dV x.Stops, dV x.Runs]], 48⟩) ?_)
  rintro ⟨v, v1⟩ r0 hb hm
  rw [s_l2Run_L1] at hm
  refine Ok_seq (rg G (cd hm (fun hm => ?_) (fun hm => ?_)))
  ·refine X_skip (thN (Ok_seq (Ok_block ?_)))
   obtain ⟨e, h, hm⟩ := obind hm
   refine re G (hD 4 h h0) ?_
   exact ibN (thN (rh G (wL G hm)))
  ·exact Ok_exit (thE (thE (ibE (wD G hm hb))))
 rintro v2 hm s hw
 refine thN (Ok_weak hw ?_)
 refine rg G ?_
 cases hm
 exact rt [] []
noncomputable def s_l5At_M : MS (Timetable × Int × Int) Int := ⟨.x .r (.x .r .r), fun x => s_l5At x.1 x.2.1 x.2.2, fun y => dV y, fun _ => [], fun _ _ => []⟩
theorem s_l5At_c {t i k y} (hm : s_l5At t i k = some y) : s_l5At_M.C (t, i, k) y := s_l5At_M.c (t, i, k) hm
theorem s_l5At_ok : FnOK Tryz.prog tJ 103 s_l5At_M.S := by
 refine fm tt s_l5At_M [fo s_l5Line_ok, fo s_l2Run_ok] Tryz.call103 Tryz.func103 rfl Tryz.results103 Tryz.ntmps103 ?_
 rintro ⟨t, i, k⟩ y cx G hm
 have hm : s_l5At t i k = some y := hm
 unfold s_l5At at hm
 refine rg G ?_
 obtain ⟨e1, h3, hm⟩ := obind hm
 obtain ⟨r2, h4, hm⟩ := obind hm
 obtain ⟨r3, h5, hm⟩ := obind hm
 refine ds G [] (hD 3 h3 (hC 8 (s_l5Line_c h4) (hC 10 (s_l2Run_c h5) h0))) ?_
 cases hm
 exact rt [] []
noncomputable def s_l5End_M : MS (Timetable × Int) Int := ⟨.x .r .r, fun x => s_l5End x.1 x.2, fun y => dV y, fun _ => [], fun _ _ => []⟩
theorem s_l5End_c {t i y} (hm : s_l5End t i = some y) : s_l5End_M.C (t, i) y := s_l5End_M.c (t, i) hm
theorem s_l5End_ok : FnOK Tryz.prog tJ 55 s_l5End_M.S := by
 refine fm tt s_l5End_M [fo s_l5Stops_ok, fo s_l5At_ok] Tryz.call55 Tryz.func55 rfl Tryz.results55 Tryz.ntmps55 ?_
 rintro ⟨t, i⟩ y cx G hm
 have hm : s_l5End t i = some y := hm
 unfold s_l5End at hm
 refine rg G ?_
 obtain ⟨r2, h2, hm⟩ := obind hm
 obtain ⟨r3, h3, hm⟩ := obind hm
 refine ds G [] (hC 4 (s_l5Stops_c h2) (hN 5 r2 (hC 7 (s_l5At_c h3) h0))) ?_
 cases hm
 exact rt [] []
noncomputable def s_l5Good_M : MS Timetable Bool := ⟨.r, s_l5Good, fun y => dV y, fun _ => [], fun _ _ => []⟩
theorem s_l5Good_c {t y} (hm : s_l5Good t = some y) : s_l5Good_M.C t y := s_l5Good_M.c t hm
theorem s_l5Good_ok : FnOK Tryz.prog tJ 23 s_l5Good_M.S := by
 refine fm tt s_l5Good_M [fo s_l2Good_ok, fo s_l1In_ok, fo s_l4Time_ok, fo s_l5End_ok] Tryz.call23 Tryz.func23 rfl Tryz.results23 Tryz.ntmps23 ?_
 rintro t y cx G hm
 have hm : s_l5Good t = some y := hm
 unfold s_l5Good at hm
 refine rg G (Ok_seq ?_)
 obtain ⟨r, h, hm⟩ := obind hm
 refine jn hm (fun v => ⟨[(1, .ref 16 0), (14, dV v)], [bX 16 30 [dV t.Network.Stops, dV t.Network.Lines, dV t.Trips]], 48⟩) (fun v hm => ?_) ?_
 ·rcases bf hm with ⟨hb, hm⟩ | ⟨hb, hm⟩
  ·refine re G (hC 2 (s_l2Good_c h) (hO 4 (.b true) (hP hb h0))) ?_
   exact wJ G hm
  ·refine re G (hC 2 (s_l2Good_c h) (hO 4 (.b false) (hP hb (hN 7 t.Trips h0)))) ?_
   exact wJ G hm
 rintro v hm
 refine cd hm (fun hm => ?_) (fun hm => ?_)
 ·refine rg G ?_
  cases hm
  exact rt [] []
 ·refine X_skip (thN (Ok_seq (rg G (tF hm (fun _ => ⟨[], [], 32⟩) (fun v2 hr hm => ?_) ?_))))
  ·refine Ok_block (lp G hm (fun x => ⟨[(1, .ref 16 0), (3, dV x)], [bX 16 30 [dV t.Network.Stops, dV t.Network.Lines, dV t.Trips]], 48⟩) ?_)
   rintro x r0 hb1 hm
   rw [s_l5Good_L1] at hm
   refine Ok_seq (rs G (hN 3 t.Trips h0) ?_)
   refine cd hm (fun hm => ?_) (fun hm => ?_)
   ·refine X_skip (thN (Ok_seq (Ok_block ?_)))
    obtain ⟨e, h1, hm⟩ := obind hm
    refine rs G (hD 3 h1 h0) ?_
    obtain ⟨r6, h8, hm⟩ := obind hm
    refine jn hm (fun v1 => ⟨[(1, .ref 16 0), (3, dV x), (70, dV v1)], [bX 16 30 [dV t.Network.Stops, dV t.Network.Lines, dV t.Trips]], 48⟩) (fun v1 hm => ?_) ?_
    ·rcases bf hm with ⟨hb2, hm⟩ | ⟨hb2, hm⟩
     ·refine de G [] (hC 2 (s_l1In_c h8) (hO 4 (.b true) (hP hb2 h0))) ?_
      exact wJ G hm
     ·obtain ⟨r7, h9, hm⟩ := obind hm
      rcases bf hm with ⟨hb3, hm⟩ | ⟨hb3, hm⟩
      ·refine de G [] (hC 2 (s_l1In_c h8) (hO 4 (.b false) (hP hb2 (hN 10 t.Network.Lines (hC 12 (s_l1In_c h9) (hO 15 (.b true) (hP hb3 h0))))))) ?_
       exact wJ G hm
      ·obtain ⟨r8, h10, hm⟩ := obind hm
       rcases bf hm with ⟨hb4, hm⟩ | ⟨hb4, hm⟩
       ·refine de G [] (hC 2 (s_l1In_c h8) (hO 4 (.b false) (hP hb2 (hN 10 t.Network.Lines (hC 12 (s_l1In_c h9) (hO 15 (.b false) (hP hb3 (hC 18 (s_l4Time_c h10) (hO 21 (.b true) (hP hb4 h0)))))))))) ?_
        exact wJ G hm
       ·obtain ⟨r9, h11, hm⟩ := obind hm
        obtain ⟨r10, h12, hm⟩ := obind hm
        rcases bf hm with ⟨hb5, hm⟩ | ⟨hb5, hm⟩
        ·refine de G [] (hC 2 (s_l1In_c h8) (hO 4 (.b false) (hP hb2 (hN 10 t.Network.Lines (hC 12 (s_l1In_c h9) (hO 15 (.b false) (hP hb3 (hC 18 (s_l4Time_c h10) (hO 21 (.b false) (hP hb4 (hC 24 (s_l5End_c h11) (hC 25 (s_l4Time_c h12) (hO 28 (.b true) (hP hb5 h0)))))))))))))) ?_
         exact wJ G hm
        ·rcases bf hm with ⟨hb6, hm⟩ | ⟨hb6, hm⟩
         ·obtain ⟨e2, h13, hm⟩ := obind hm
          refine de G [] (hC 2 (s_l1In_c h8) (hO 4 (.b false) (hP hb2 (hN 10 t.Network.Lines (hC 12 (s_l1In_c h9) (hO 15 (.b false) (hP hb3 (hC 18 (s_l4Time_c h10) (hO 21 (.b false) (hP hb4 (hC 24 (s_l5End_c h11) (hC 25 (s_l4Time_c h12) (hO 28 (.b false) (hP hb5 (hO 31 (.b true) (hP hb6 (hD 36 h13 h0))))))))))))))))) ?_
          exact wJ G hm
         ·refine de G [] (hC 2 (s_l1In_c h8) (hO 4 (.b false) (hP hb2 (hN 10 t.Network.Lines (hC 12 (s_l1In_c h9) (hO 15 (.b false) (hP hb3 (hC 18 (s_l4Time_c h10) (hO 21 (.b false) (hP hb4 (hC 24 (s_l5End_c h11) (hC 25 (s_l4Time_c h12) (hO 28 (.b false) (hP hb5 (hO 31 (.b false) (hP hb6 h0)))))))))))))))) ?_
          exact wJ G hm
    rintro v1 hm
    refine cd hm (fun hm => ?_) (fun hm => ?_)
    ·refine rg G ?_
     have hm := eL hm hb1 hr
     cases hm
     exact rt [] []
    ·exact X_skip (ibN (thN (rh G (wL G hm))))
   ·exact Ok_exit (thE (thE (ibE (wE G hm hb1))))
  rintro ⟨⟩ hm s hw
  refine thN (Ok_weak hw ?_)
  refine rg G ?_
  cases hm
  exact rt [] []
noncomputable def s_l1Split_M : MS (ByteArray × UInt8) ((List ByteArray)) := ⟨.x .r .r, fun x => s_l1Split x.1 x.2, fun _ => .own 0, fun y => [arO 9 y], fun _ _ => []⟩
theorem s_l1Split_c {s b y} (hm : s_l1Split s b = some y) : s_l1Split_M.C (s, b) y := s_l1Split_M.c (s, b) hm
theorem s_l1Split_ok : FnOK Tryz.prog tJ 160 s_l1Split_M.S := by
 refine fm tt s_l1Split_M [] Tryz.call160 Tryz.func160 rfl Tryz.results160 Tryz.ntmps160 ?_
 rintro ⟨s, b⟩ y cx G hm
 have hm : s_l1Split s b = some y := hm
 unfold s_l1Split at hm
 refine rg G (rg G (rg G (Ok_seq (rg G (tl hm (fun (v3, i2) => ⟨[(0, dV s), (5, .own 16), (6, dV v3)], [aX 16 9 i2], 48⟩) (fun vv1 hm => ?_) ?_)))))
 ·refine Ok_block (lp G hm (fun (v, v1, i) => ⟨[(0, dV s), (1, dV b), (5, .own 16), (6, dV v), (7, dV v1)], [aX 16 9 i], 48⟩) ?_)
  rintro ⟨v, v1, i⟩ r0 hb hm
  rw [s_l1Split_L1] at hm
  refine Ok_seq (rg G (cd hm (fun hm => ?_) (fun hm => ?_)))
  ·refine X_skip (thN (jn hm (fun (v2, i1) => ⟨[(0, dV s), (1, dV b), (5, .own 16), (6, dV v2), (7, dV v1)], [aX 16 9 i1], 48⟩) (fun vv hm => ?_) ?_))
   ·refine Ok_block ?_
    obtain ⟨u, h, hm⟩ := obind hm
    refine rs G (hK h h0) ?_
    refine cd hm (fun hm => ?_) (fun hm => ?_)
    ·obtain ⟨u1, h1, hm⟩ := obind hm
     obtain ⟨u2, h2, hm⟩ := obind hm
     refine rs G (hK h1 (hA 6 16 h2 h0)) ?_
     exact rh G (ibN (wJ G hm))
    ·exact X_skip (ibN (wJ G hm))
   rintro ⟨v2, i1⟩ hm
   exact rh G (wL G hm)
  ·exact Ok_exit (thE (thE (ibE (wD G hm hb))))
 rintro ⟨v3, i2⟩ hm s1 hw
 refine thN (Ok_weak hw ?_)
 obtain ⟨u3, h3, hm⟩ := obind hm
 obtain ⟨u4, h4, hm⟩ := obind hm
 refine rs G (hK h3 (hA 5 16 h4 h0)) ?_
 cases hm
 exact rt [128] []
noncomputable def s_l1Num_MR (rec_ : Int → Option (ByteArray)) : MS Int ByteArray := ⟨.r, rec_, fun y => dV y, fun _ => [], fun _ _ => []⟩
noncomputable def s_l1Num_M : MS Int ByteArray := s_l1Num_MR s_l1Num
theorem s_l1Num_c {n y} (hm : s_l1Num n = some y) : s_l1Num_M.C n y := s_l1Num_M.c n hm
theorem s_l1Num_cR {rec_ : Int → Option (ByteArray)} {n y} (hm : rec_ n = some y) : (s_l1Num_MR rec_).C n y := (s_l1Num_MR rec_).c n hm
theorem s_l1Num_okF {rec_ : Int → Option (ByteArray)} (hrec : FnOK Tryz.prog tJ 46 (s_l1Num_MR rec_).S) : FnOK Tryz.prog tJ 46 (s_l1Num_MR (s_l1Num_F rec_)).S := by
 refine fm tt (s_l1Num_MR (s_l1Num_F rec_)) [fo hrec] Tryz.call46 Tryz.func46 rfl Tryz.results46 Tryz.ntmps46 ?_
 rintro n y cx G hm
 have hm : s_l1Num_F rec_ n = some y := hm
 unfold s_l1Num_F at hm
 refine rg G (Ok_seq (rg G (cd hm (fun hm => ?_) (fun hm => ?_))))
 ·obtain ⟨r, h, hm⟩ := obind hm
  obtain ⟨u, h1, hm⟩ := obind hm
  refine rs G (hC 2 (s_l1Num_cR h) (hP (cat_p (chk_t h1)) h0)) ?_
  cases hm
  exact rt [] []
 ·refine X_skip (thN (Ok_seq (rg G (cd hm (fun hm => ?_) (fun hm => ?_)))))
  ·obtain ⟨u1, h2, hm⟩ := obind hm
   refine rs G (hK h2 h0) ?_
   cases hm
   exact rt [] []
  ·refine X_skip (thN ?_)
   obtain ⟨u7, h9, hm⟩ := obind hm
   obtain ⟨r2, h10, hm⟩ := obind hm
   obtain ⟨u8, h11, hm⟩ := obind hm
   obtain ⟨u9, h12, hm⟩ := obind hm
   obtain ⟨u10, h13, hm⟩ := obind hm
   obtain ⟨u11, h14, hm⟩ := obind hm
   refine ds G [] (hK h9 (hC 2 (s_l1Num_cR h10) (hK h11 (hK h12 (hK h13 (hP (cat_p (chk_t h14)) h0)))))) ?_
   cases hm
   exact rt [] []
theorem s_l1Num_okn : ∀ k, FnOK Tryz.prog tJ 46 (s_l1Num_MR (s_l1Num_k k)).S
 | 0 => ⟨fun args w => Tryz.call46 args w, fun vs w F ds obs κ hp => by obtain ⟨x, y, _, _, h⟩ := hp; cases h⟩
 | k + 1 => s_l1Num_okF (s_l1Num_okn k)
theorem s_l1Num_ok : FnOK Tryz.prog tJ 46 s_l1Num_M.S := s_l1Num_okn 4294967296
noncomputable def s_l27Plain_M : MS (ByteArray × Int) Bool := ⟨.x .r .r, fun x => s_l27Plain x.1 x.2, fun y => dV y, fun _ => [], fun _ _ => []⟩
theorem s_l27Plain_c {s most y} (hm : s_l27Plain s most = some y) : s_l27Plain_M.C (s, most) y := s_l27Plain_M.c (s, most) hm
theorem s_l27Plain_ok : FnOK Tryz.prog tJ 188 s_l27Plain_M.S := by
 refine fm tt s_l27Plain_M [fo s_l1In_ok] Tryz.call188 Tryz.func188 rfl Tryz.results188 Tryz.ntmps188 ?_
 rintro ⟨s, most⟩ y cx G hm
 have hm : s_l27Plain s most = some y := hm
 unfold s_l27Plain at hm
 refine rg G (Ok_seq (rg G (tF hm (fun _ => ⟨[(0, dV s), (1, dV most)], [], 32⟩) (fun v2 hr hm => ?_) ?_)))
 ·refine Ok_block (lp G hm (fun v => ⟨[(0, dV s), (1, dV most), (5, dV v)], [], 32⟩) ?_)
  rintro v r0 hb hm
  rw [s_l27Plain_L1] at hm
  refine Ok_seq (rg G (cd hm (fun hm => ?_) (fun hm => ?_)))
  ·refine X_skip (thN (Ok_seq (Ok_block ?_)))
   obtain ⟨u, h, hm⟩ := obind hm
   obtain ⟨r, h1, hm⟩ := obind hm
   refine jn hm (fun v1 => ⟨[(0, dV s), (1, dV most), (5, dV v), (23, dV v1)], [], 32⟩) (fun v1 hm => ?_) ?_
   ·rcases bf hm with ⟨hb1, hm⟩ | ⟨hb1, hm⟩
    ·refine re G (hK h (hC 4 (s_l1In_c h1) (hO 6 (.b true) (hP hb1 h0)))) ?_
     exact wJ G hm
    ·obtain ⟨u1, h2, hm⟩ := obind hm
     refine re G (hK h (hC 4 (s_l1In_c h1) (hO 6 (.b false) (hP hb1 (hK h2 h0))))) ?_
     exact wJ G hm
   rintro v1 hm
   refine cd hm (fun hm => ?_) (fun hm => ?_)
   ·refine rg G ?_
    have hm := eL hm hb hr
    cases hm
    exact rt [] []
   ·exact X_skip (ibN (thN (rh G (wL G hm))))
  ·exact Ok_exit (thE (thE (ibE (wE G hm hb))))
 rintro ⟨⟩ hm s1 hw
 refine thN (Ok_weak hw ?_)
 refine rg G ?_
 cases hm
 exact rt [] []
noncomputable def s_l1Stands_M : MS (ByteArray × UInt8) Bool := ⟨.x .r .r, fun x => s_l1Stands x.1 x.2, fun y => dV y, fun _ => [], fun _ _ => []⟩
theorem s_l1Stands_c {s b y} (hm : s_l1Stands s b = some y) : s_l1Stands_M.C (s, b) y := s_l1Stands_M.c (s, b) hm
theorem s_l1Stands_ok : FnOK Tryz.prog tJ 189 s_l1Stands_M.S := by
 refine fm tt s_l1Stands_M [] Tryz.call189 Tryz.func189 rfl Tryz.results189 Tryz.ntmps189 ?_
 rintro ⟨s, b⟩ y cx G hm
 have hm : s_l1Stands s b = some y := hm
 unfold s_l1Stands at hm
 refine rg G (Ok_seq (rg G (tF hm (fun _ => ⟨[], [], 32⟩) (fun v1 hr hm => ?_) ?_)))
 ·refine Ok_block (lp G hm (fun v => ⟨[(0, dV s), (1, dV b), (5, dV v)], [], 32⟩) ?_)
  rintro v r0 hb hm
  rw [s_l1Stands_L1] at hm
  refine Ok_seq (rg G (cd hm (fun hm => ?_) (fun hm => ?_)))
  ·refine X_skip (thN (Ok_seq (Ok_block ?_)))
   obtain ⟨u, h, hm⟩ := obind hm
   refine rs G (hK h h0) ?_
   refine cd hm (fun hm => ?_) (fun hm => ?_)
   ·refine rg G ?_
    have hm := eL hm hb hr
    cases hm
    exact rt [] []
   ·exact X_skip (ibN (thN (rh G (wL G hm))))
  ·exact Ok_exit (thE (thE (ibE (wE G hm hb))))
 rintro ⟨⟩ hm s1 hw
 refine thN (Ok_weak hw ?_)
 refine rg G ?_
 cases hm
 exact rt [] []
noncomputable def s_l27Good_M : MS LogRecord Bool := ⟨.r, s_l27Good, fun y => dV y, fun _ => [], fun _ _ => []⟩
theorem s_l27Good_c {e y} (hm : s_l27Good e = some y) : s_l27Good_M.C e y := s_l27Good_M.c e hm
theorem s_l27Good_ok : FnOK Tryz.prog tJ 175 s_l27Good_M.S := by
 refine fm tt s_l27Good_M [fo s_l27Plain_ok, fo s_l1Stands_ok] Tryz.call175 Tryz.func175 rfl Tryz.results175 Tryz.ntmps175 ?_
 rintro e y cx G hm
 have hm : s_l27Good e = some y := hm
 unfold s_l27Good at hm
 refine rg G (jn hm (fun v => ⟨[(2, dV v)], [], 32⟩) (fun v hm => ?_) ?_)
 ·rcases bf hm with ⟨hb, hm⟩ | ⟨hb, hm⟩
  ·obtain ⟨r, h, hm⟩ := obind hm
   rcases bf hm with ⟨hb1, hm⟩ | ⟨hb1, hm⟩
   ·obtain ⟨r1, h1, hm⟩ := obind hm
    rcases bf hm with ⟨hb2, hm⟩ | ⟨hb2, hm⟩
    ·obtain ⟨r2, h2, hm⟩ := obind hm
     refine re G (hO 3 (.b true) (hP hb (hC 6 (s_l27Plain_c h) (hO 8 (.b true) (hP hb1 (hC 11 (s_l1Stands_c h1) (hO 14 (.b true) (hP hb2 (hC 17 (s_l27Plain_c h2) h0))))))))) ?_
     exact wJ G hm
    ·refine re G (hO 3 (.b true) (hP hb (hC 6 (s_l27Plain_c h) (hO 8 (.b true) (hP hb1 (hC 11 (s_l1Stands_c h1) (hO 14 (.b false) (hP hb2 h0)))))))) ?_
     exact wJ G hm
   ·refine re G (hO 3 (.b true) (hP hb (hC 6 (s_l27Plain_c h) (hO 8 (.b false) (hP hb1 h0))))) ?_
    exact wJ G hm
  ·refine re G (hO 3 (.b false) (hP hb h0)) ?_
   exact wJ G hm
 rintro v hm
 cases hm
 exact rt [] []
noncomputable def s_l1Sum_M : MS ByteArray Int := ⟨.r, s_l1Sum, fun y => dV y, fun _ => [], fun _ _ => []⟩
theorem s_l1Sum_c {s y} (hm : s_l1Sum s = some y) : s_l1Sum_M.C s y := s_l1Sum_M.c s hm
theorem s_l1Sum_ok : FnOK Tryz.prog tJ 196 s_l1Sum_M.S := by
 refine fm tt s_l1Sum_M [] Tryz.call196 Tryz.func196 rfl Tryz.results196 Tryz.ntmps196 ?_
 rintro s y cx G hm
 have hm : s_l1Sum s = some y := hm
 unfold s_l1Sum at hm
 refine rg G (rg G (Ok_seq (rg G (tl hm (fun i1 => ⟨[(3, dV i1)], [], 32⟩) (fun i1 hm => ?_) ?_))))
 ·refine Ok_block (lp G hm (fun (i, v) => ⟨[(0, dV s), (3, dV i), (4, dV v)], [], 32⟩) ?_)
  rintro ⟨i, v⟩ r0 hb hm
  rw [s_l1Sum_L1] at hm
  refine Ok_seq (rg G (cd hm (fun hm => ?_) (fun hm => ?_)))
  ·refine X_skip (thN (Ok_seq (Ok_block ?_)))
   obtain ⟨u, h, hm⟩ := obind hm
   obtain ⟨u1, h1, hm⟩ := obind hm
   refine re G (hK h (hK h1 h0)) ?_
   exact ibN (thN (rh G (wL G hm)))
  ·exact Ok_exit (thE (thE (ibE (wD G hm hb))))
 rintro i1 hm s1 hw
 refine thN (Ok_weak hw ?_)
 refine rg G ?_
 cases hm
 exact rt [] []
noncomputable def s_l1Seal_M : MS ByteArray ByteArray := ⟨.r, s_l1Seal, fun y => dV y, fun _ => [], fun _ _ => []⟩
theorem s_l1Seal_c {s y} (hm : s_l1Seal s = some y) : s_l1Seal_M.C s y := s_l1Seal_M.c s hm
theorem s_l1Seal_ok : FnOK Tryz.prog tJ 190 s_l1Seal_M.S := by
 refine fm tt s_l1Seal_M [fo s_l1Sum_ok, fo s_l1Num_ok] Tryz.call190 Tryz.func190 rfl Tryz.results190 Tryz.ntmps190 ?_
 rintro s y cx G hm
 have hm : s_l1Seal s = some y := hm
 unfold s_l1Seal at hm
 refine rg G ?_
 obtain ⟨u, h, hm⟩ := obind hm
 obtain ⟨r, h1, hm⟩ := obind hm
 obtain ⟨r1, h2, hm⟩ := obind hm
 obtain ⟨u1, h3, hm⟩ := obind hm
 refine rs G (hP (cat_p (chk_t h)) (hC 3 (s_l1Sum_c h1) (hC 4 (s_l1Num_c h2) (hP (cat_p (chk_t h3)) h0)))) ?_
 cases hm
 exact rt [] []
noncomputable def s_l27Line_M : MS (Int × LogRecord) ByteArray := ⟨.x .r .r, fun x => s_l27Line x.1 x.2, fun y => dV y, fun _ => [], fun _ _ => []⟩
theorem s_l27Line_c {k e y} (hm : s_l27Line k e = some y) : s_l27Line_M.C (k, e) y := s_l27Line_M.c (k, e) hm
theorem s_l27Line_ok : FnOK Tryz.prog tJ 176 s_l27Line_M.S := by
 refine fm tt s_l27Line_M [fo s_l1Num_ok, fo s_l1Seal_ok] Tryz.call176 Tryz.func176 rfl Tryz.results176 Tryz.ntmps176 ?_
 rintro ⟨k, e⟩ y cx G hm
 have hm : s_l27Line k e = some y := hm
 unfold s_l27Line at hm
 refine rg G ?_
 obtain ⟨r2, h7, hm⟩ := obind hm
 obtain ⟨u5, h8, hm⟩ := obind hm
 obtain ⟨u6, h9, hm⟩ := obind hm
 obtain ⟨u7, h10, hm⟩ := obind hm
 obtain ⟨u8, h11, hm⟩ := obind hm
 obtain ⟨r3, h12, hm⟩ := obind hm
 obtain ⟨u9, h13, hm⟩ := obind hm
 refine ds G [] (hC 1 (s_l1Num_c h7) (hP (cat_p (chk_t h8)) (hP (cat_p (chk_t h9)) (hP (cat_p (chk_t h10)) (hP (cat_p (chk_t h11)) (hC 10 (s_l1Seal_c h12) (hP (cat_p (chk_t h13)) h0))))))) ?_
 cases hm
 exact rt [] []
noncomputable def s_l27Read_M : MS (ByteArray × Int) (LogRecord × Bool) := ⟨.x .r .r, fun x => s_l27Read x.1 x.2, fun y => .tup [dV y.1, dV y.2], fun _ => [], fun _ _ => []⟩
theorem s_l27Read_c {s k y} (hm : s_l27Read s k = some y) : s_l27Read_M.C (s, k) y := s_l27Read_M.c (s, k) hm
theorem s_l27Read_ok : FnOK Tryz.prog tJ 161 s_l27Read_M.S := by
 refine fm tt s_l27Read_M [fo s_l1Num_ok, fo s_l1Split_ok, fo s_l27Good_ok, fo s_l27Line_ok] Tryz.call161 Tryz.func161 rfl Tryz.results161 Tryz.ntmps161 ?_
 rintro ⟨s, k⟩ y cx G hm
 have hm : s_l27Read s k = some y := hm
 unfold s_l27Read at hm
 refine rg G ?_
 obtain ⟨r, h, hm⟩ := obind hm
 obtain ⟨u, h1, hm⟩ := obind hm
 refine rs G (hC 1 (s_l1Num_c h) (hP (cat_p (chk_t h1)) h0)) ?_
 obtain ⟨r1, h2, hm⟩ := obind hm
 obtain ⟨e, h3, hm⟩ := obind hm
 refine rs G (hC 1 (s_l1Split_c h2) (hD 2 h3 (hE 3 h3 h0))) ?_
 refine Ok_seq (jn hm (fun v => ⟨[(0, dV s), (1, dV k), (4, .ref 16 0), (6, dV (r ++ (str [32]))), (7, dV e), (30, dV v)], [bX 16 166 [dV ByteArray.empty, dV ByteArray.empty]], 48⟩) (fun v hm => ?_) ?_)
 ·rcases bf hm with ⟨hb, hm⟩ | ⟨hb, hm⟩
  ·refine re G (hO 5 (.b true) (hP hb h0)) ?_
   exact wJ G hm
  ·obtain ⟨u1, h4, hm⟩ := obind hm
   refine re G (hO 5 (.b false) (hP hb (hK h4 h0))) ?_
   exact wJ G hm
 rintro v hm
 refine cd hm (fun hm => ?_) (fun hm => ?_)
 ·refine rg G ?_
  cases hm
  exact rt [] []
 ·refine X_skip (thN ?_)
  obtain ⟨u2, h5, hm⟩ := obind hm
  refine rs G (hK h5 h0) ?_
  obtain ⟨r2, h6, hm⟩ := obind hm
  obtain ⟨e1, h7, hm⟩ := obind hm
  refine rs G (hC 1 (s_l1Split_c h6) (hD 2 h7 (hE 3 h7 h0))) ?_
  refine Ok_seq (rg G (cd hm (fun hm => ?_) (fun hm => ?_)))
  ·refine rg G ?_
   cases hm
   exact rt [] []
  ·refine X_skip (thN ?_)
   obtain ⟨u3, h8, hm⟩ := obind hm
   refine rs G (hK h8 h0) ?_
   obtain ⟨r5, h12, hm⟩ := obind hm
   refine jn hm (fun text => ⟨[(4, .ref 16 0), (5, dV text)], [bX 16 166 [dV e1, dV ((e.extract ((r ++ (str [32])).size : Int).toNat e.size).extract (w64 ((e1.size : Int) + 1)).toNat (e.extract ((r ++ (str [32])).size : Int).toNat e.size).size)]], 48⟩) (fun text hm => ?_) ?_
   ·rcases bf hm with ⟨hb1, hm⟩ | ⟨hb1, hm⟩
    ·obtain ⟨r6, h13, hm⟩ := obind hm
     obtain ⟨u5, h14, hm⟩ := obind hm
     refine de G [(11, [16])] (hC 2 (s_l27Good_c h12) (hO 3 (.b true) (hP hb1 (hC 6 (s_l27Line_c h13) (hP (cat_p (chk_t h14)) h0))))) ?_
     exact wJ G hm
    ·refine de G [(11, [16])] (hC 2 (s_l27Good_c h12) (hO 3 (.b false) (hP hb1 h0))) ?_
     exact wJ G hm
   rintro text hm
   cases hm
   exact rt [] []
noncomputable def s_l27Open_M : MS ByteArray ((List LogRecord) × Int) := ⟨.r, s_l27Open, fun y => .tup [.own 0, dV y.2], fun y => [arO 166 y.1], fun _ _ => []⟩
theorem s_l27Open_c {s y} (hm : s_l27Open s = some y) : s_l27Open_M.C s y := s_l27Open_M.c s hm
theorem s_l27Open_ok : FnOK Tryz.prog tJ 129 s_l27Open_M.S := by
 refine fm tt s_l27Open_M [fo s_l1Split_ok, fo s_l27Read_ok] Tryz.call129 Tryz.func129 rfl Tryz.results129 Tryz.ntmps129 ?_
 rintro s y cx G hm
 have hm : s_l27Open s = some y := hm
 unfold s_l27Open at hm
 refine rg G (rg G (rg G (jn hm (fun (line1, at_1) => ⟨[(4, .own 16), (5, dV line1)], [aX 16 166 at_1], 48⟩) (fun vv hm => ?_) ?_)))
 ·refine Ok_block (lp G hm (fun (line, at_) => ⟨[(0, dV s), (4, .own 16), (5, dV line)], [aX 16 166 at_], 48⟩) ?_)
  rintro ⟨line, at_⟩ r0 hb hm
  rw [s_l27Open_L1] at hm
  refine Ok_seq (jn hm (fun v => ⟨[(0, dV s), (4, .own 16), (5, dV line), (18, dV v)], [aX 16 166 at_], 48⟩) (fun v hm => ?_) ?_)
  ·rcases bf hm with ⟨hb1, hm⟩ | ⟨hb1, hm⟩
   ·refine re G (hO 4 (.b true) (hP hb1 (hN 6 at_ h0))) ?_
    exact wJ G hm
   ·refine re G (hO 4 (.b false) (hP hb1 h0)) ?_
    exact wJ G hm
  rintro v hm
  refine cd hm (fun hm => ?_) (fun hm => ?_)
  ·refine X_skip (thN (Ok_block ?_))
   obtain ⟨u, h, hm⟩ := obind hm
   obtain ⟨r, h1, hm⟩ := obind hm
   refine rs G (hK h (hC 3 (s_l1Split_c h1) h0)) ?_
   obtain ⟨e, h2, hm⟩ := obind hm
   obtain ⟨r1, h3, hm⟩ := obind hm
   refine rs G (hD 1 h2 (hE 2 h2 (hN 4 at_ (hC 5 (s_l27Read_c h3) h0)))) ?_
   refine Ok_seq (jn hm (fun v1 => ⟨[(0, dV s), (4, .own 16), (5, dV line), (6, .own 32), (7, .ref 48 0), (38, dV v1)], [aX 16 166 at_, aX 32 9 r, bX 48 166 [dV r1.1.Command, dV r1.1.Reply]], 80⟩) (fun v1 hm => ?_) ?_)
   ·rcases bf hm with ⟨hb2, hm⟩ | ⟨hb2, hm⟩
    ·refine re G (hN 1 r (hO 3 (.b true) (hP hb2 h0))) ?_
     exact wJ G hm
    ·refine re G (hN 1 r (hO 3 (.b false) (hP hb2 h0))) ?_
     exact wJ G hm
   rintro v1 hm
   refine cd hm (fun hm => ?_) (fun hm => ?_)
   ·exact Ok_exit (thE (ibX rfl (thE (ibE (wD G hm hb)))))
   ·refine X_skip (thN ?_)
    obtain ⟨u1, h4, hm⟩ := obind hm
    refine rs G (hA 3 32 h4 h0) ?_
    obtain ⟨e1, h5, hm⟩ := obind hm
    refine re G (hD 2 h5 (hE 3 h5 h0)) ?_
    exact ibN (wL G hm)
  ·exact Ok_exit (thE (thE (ibE (wD G hm hb))))
 rintro ⟨line1, at_1⟩ hm
 refine rg G ?_
 cases hm
 exact rt [16] []
noncomputable def s_l27Log_M : MS Log Bool := ⟨.r, s_l27Log, fun y => dV y, fun _ => [], fun _ _ => []⟩
theorem s_l27Log_c {l y} (hm : s_l27Log l = some y) : s_l27Log_M.C l y := s_l27Log_M.c l hm
theorem s_l27Log_ok : FnOK Tryz.prog tJ 82 s_l27Log_M.S := by
 refine fm tt s_l27Log_M [fo s_l27Open_ok] Tryz.call82 Tryz.func82 rfl Tryz.results82 Tryz.ntmps82 ?_
 rintro l y cx G hm
 have hm : s_l27Log l = some y := hm
 unfold s_l27Log at hm
 refine rg G (Ok_seq (rg G (cd hm (fun hm => ?_) (fun hm => ?_))))
 ·refine rg G ?_
  cases hm
  exact rt [] []
 ·refine X_skip (thN ?_)
  obtain ⟨u, h, hm⟩ := obind hm
  obtain ⟨r, h1, hm⟩ := obind hm
  refine rs G (hP (cat_p (chk_t h)) (hC 5 (s_l27Open_c h1) h0)) ?_
  obtain ⟨r1, h2, hm⟩ := obind hm
  refine rs G (hC 2 (s_l27Open_c h2) h0) ?_
  refine jn hm (fun all => ⟨[(2, dV all)], [], 32⟩) (fun all hm => ?_) ?_
  ·rcases bf hm with ⟨hb, hm⟩ | ⟨hb, hm⟩
   ·rcases bf hm with ⟨hb1, hm⟩ | ⟨hb1, hm⟩
    ·refine re G (hO 9 (.b true) (hP hb (hO 16 (.b true) (hP hb1 (hN 18 r.1 h0))))) ?_
     exact wJ G hm
    ·refine re G (hO 9 (.b true) (hP hb (hO 16 (.b false) (hP hb1 h0)))) ?_
     exact wJ G hm
   ·refine re G (hO 9 (.b false) (hP hb h0)) ?_
    exact wJ G hm
  rintro all hm
  cases hm
  exact rt [] []
noncomputable def s_l28Good_M : MS Console Bool := ⟨.r, s_l28Good, fun y => dV y, fun _ => [], fun _ _ => []⟩
theorem s_l28Good_c {c y} (hm : s_l28Good c = some y) : s_l28Good_M.C c y := s_l28Good_M.c c hm
theorem s_l28Good_ok : FnOK Tryz.prog tJ 38 s_l28Good_M.S := by
 refine fm tt s_l28Good_M [fo s_l5Good_ok, fo s_l1In_ok, fo s_l27Log_ok] Tryz.call38 Tryz.func38 rfl Tryz.results38 Tryz.ntmps38 ?_
 rintro c y cx G hm
 have hm : s_l28Good c = some y := hm
 unfold s_l28Good at hm
 refine rg G ?_
 obtain ⟨r, h, hm⟩ := obind hm
 refine jn hm (fun v => ⟨[(2, dV v)], [], 32⟩) (fun v hm => ?_) ?_
 ·rcases bf hm with ⟨hb, hm⟩ | ⟨hb, hm⟩
  ·obtain ⟨r1, h1, hm⟩ := obind hm
   rcases bf hm with ⟨hb1, hm⟩ | ⟨hb1, hm⟩
   ·obtain ⟨r2, h2, hm⟩ := obind hm
    refine re G (hC 2 (s_l5Good_c h) (hO 3 (.b true) (hP hb (hC 6 (s_l1In_c h1) (hO 8 (.b true) (hP hb1 (hC 11 (s_l27Log_c h2) h0))))))) ?_
    exact wJ G hm
   ·refine re G (hC 2 (s_l5Good_c h) (hO 3 (.b true) (hP hb (hC 6 (s_l1In_c h1) (hO 8 (.b false) (hP hb1 h0)))))) ?_
    exact wJ G hm
  ·refine re G (hC 2 (s_l5Good_c h) (hO 3 (.b false) (hP hb h0))) ?_
   exact wJ G hm
 rintro v hm
 cases hm
 exact rt [] []
noncomputable def s_l6Network_M : MS Network ByteArray := ⟨.r, s_l6Network, fun y => dV y, fun _ => [], fun _ _ => []⟩
theorem s_l6Network_c {n y} (hm : s_l6Network n = some y) : s_l6Network_M.C n y := s_l6Network_M.c n hm
theorem s_l6Network_ok : FnOK Tryz.prog tJ 33 s_l6Network_M.S := by
 refine fm tt s_l6Network_M [fo s_l1Num_ok] Tryz.call33 Tryz.func33 rfl Tryz.results33 Tryz.ntmps33 ?_
 rintro n y cx G hm
 have hm : s_l6Network n = some y := hm
 unfold s_l6Network at hm
 refine rg G (rg G (Ok_seq (rg G (tl hm (fun i2 => ⟨[(1, .ref 16 0), (3, dV i2)], [bX 16 27 [dV n.Stops, dV n.Lines]], 48⟩) (fun i2 hm => ?_) ?_))))
 ·refine Ok_block (lp G hm (fun (i, i1) => ⟨[(1, .ref 16 0), (3, dV i), (4, dV i1)], [bX 16 27 [dV n.Stops, dV n.Lines]], 48⟩) ?_)
  rintro ⟨i, i1⟩ r0 hb hm
  rw [s_l6Network_L1] at hm
  refine Ok_seq (rs G (hN 3 n.Stops h0) ?_)
  refine cd hm (fun hm => ?_) (fun hm => ?_)
  ·refine X_skip (thN (Ok_seq (Ok_block ?_)))
   obtain ⟨u, h, hm⟩ := obind hm
   obtain ⟨e, h1, hm⟩ := obind hm
   obtain ⟨u1, h2, hm⟩ := obind hm
   obtain ⟨u2, h3, hm⟩ := obind hm
   refine re G (hP (cat_p (chk_t h)) (hD 5 h1 (hP (cat_p (chk_t h2)) (hP (cat_p (chk_t h3)) h0)))) ?_
   exact ibN (thN (rh G (wL G hm)))
  ·exact Ok_exit (thE (thE (ibE (wD G hm hb))))
 rintro i2 hm s hw
 refine thN (Ok_weak hw ?_)
 refine Ok_seq (rg G (tl hm (fun i7 => ⟨[(3, dV i7)], [], 32⟩) (fun i7 hm => ?_) ?_))
 ·refine Ok_block (lp G hm (fun (i3, x) => ⟨[(1, .ref 16 0), (3, dV i3), (5, dV x)], [bX 16 27 [dV n.Stops, dV n.Lines]], 48⟩) ?_)
  rintro ⟨i3, x⟩ r0 hb1 hm
  rw [s_l6Network_L3] at hm
  refine Ok_seq (rs G (hN 3 n.Lines h0) ?_)
  refine cd hm (fun hm => ?_) (fun hm => ?_)
  ·refine X_skip (thN (Ok_seq (Ok_block ?_)))
   obtain ⟨e1, h4, hm⟩ := obind hm
   refine rs G (hD 3 h4 h0) ?_
   obtain ⟨u3, h5, hm⟩ := obind hm
   obtain ⟨u4, h6, hm⟩ := obind hm
   refine rs G (hP (cat_p (chk_t h5)) (hP (cat_p (chk_t h6)) h0)) ?_
   refine Ok_seq (rg G (tl hm (fun i6 => ⟨[(1, .ref 16 0), (3, dV i6), (5, dV x)], [bX 16 27 [dV n.Stops, dV n.Lines]], 48⟩) (fun i6 hm => ?_) ?_))
   ·refine Ok_block (lp G hm (fun (i4, v) => ⟨[(1, .ref 16 0), (3, dV i4), (5, dV x), (6, .ref 32 0), (7, dV v)], [bX 16 27 [dV n.Stops, dV n.Lines], bX 32 106 [dV e1.Name, dV e1.Stops, dV e1.Runs]], 64⟩) ?_)
    rintro ⟨i4, v⟩ r0 hb2 hm
    rw [s_l6Network_L2] at hm
    refine Ok_seq (rs G (hN 3 e1.Stops h0) ?_)
    refine cd hm (fun hm => ?_) (fun hm => ?_)
    ·refine X_skip (thN (jn hm (fun i5 => ⟨[(1, .ref 16 0), (3, dV i5), (5, dV x), (6, .ref 32 0), (7, dV v)], [bX 16 27 [dV n.Stops, dV n.Lines], bX 32 106 [dV e1.Name, dV e1.Stops, dV e1.Runs]], 64⟩) (fun i5 hm => ?_) ?_))
     ·refine Ok_block ?_
      obtain ⟨u7, h11, hm⟩ := obind hm
      obtain ⟨e4, h12, hm⟩ := obind hm
      obtain ⟨e5, h13, hm⟩ := obind hm
      obtain ⟨u8, h14, hm⟩ := obind hm
      refine ds G [] (hP (cat_p (chk_t h11)) (hD 7 h12 (hD 9 h13 (hP (cat_p (chk_t h14)) h0)))) ?_
      refine rs G (hN 3 e1.Runs h0) ?_
      refine cd hm (fun hm => ?_) (fun hm => ?_)
      ·obtain ⟨u9, h15, hm⟩ := obind hm
       obtain ⟨e6, h16, hm⟩ := obind hm
       obtain ⟨r, h17, hm⟩ := obind hm
       obtain ⟨u10, h18, hm⟩ := obind hm
       refine re G (hP (cat_p (chk_t h15)) (hD 5 h16 (hC 7 (s_l1Num_c h17) (hP (cat_p (chk_t h18)) h0)))) ?_
       exact ibN (wJ G hm)
      ·exact X_skip (ibN (wJ G hm))
     rintro i5 hm
     exact rh G (wL G hm)
    ·exact Ok_exit (thE (thE (ibE (wD G hm hb2))))
   rintro i6 hm s1 hw1
   refine thN (Ok_weak hw1 ?_)
   obtain ⟨u11, h19, hm⟩ := obind hm
   refine re G (hP (cat_p (chk_t h19)) h0) ?_
   exact ibN (thN (rh G (wL G hm)))
  ·exact Ok_exit (thE (thE (ibE (wD G hm hb1))))
 rintro i7 hm s2 hw2
 refine thN (Ok_weak hw2 ?_)
 refine rg G ?_
 cases hm
 exact rt [] []
noncomputable def s_l4Two_M : MS Int ByteArray := ⟨.r, s_l4Two, fun y => dV y, fun _ => [], fun _ _ => []⟩
theorem s_l4Two_c {n y} (hm : s_l4Two n = some y) : s_l4Two_M.C n y := s_l4Two_M.c n hm
theorem s_l4Two_ok : FnOK Tryz.prog tJ 137 s_l4Two_M.S := by
 refine fm tt s_l4Two_M [] Tryz.call137 Tryz.func137 rfl Tryz.results137 Tryz.ntmps137 ?_
 rintro n y cx G hm
 have hm : s_l4Two n = some y := hm
 unfold s_l4Two at hm
 refine rg G ?_
 obtain ⟨u7, h7, hm⟩ := obind hm
 obtain ⟨u8, h8, hm⟩ := obind hm
 obtain ⟨u9, h9, hm⟩ := obind hm
 obtain ⟨u10, h10, hm⟩ := obind hm
 obtain ⟨u11, h11, hm⟩ := obind hm
 obtain ⟨u12, h12, hm⟩ := obind hm
 obtain ⟨u13, h13, hm⟩ := obind hm
 refine ds G [] (hK h7 (hK h8 (hK h9 (hK h10 (hK h11 (hK h12 (hP (cat_p (chk_t h13)) h0))))))) ?_
 cases hm
 exact rt [] []
noncomputable def s_l4Text_M : MS Int ByteArray := ⟨.r, s_l4Text, fun y => dV y, fun _ => [], fun _ _ => []⟩
theorem s_l4Text_c {t y} (hm : s_l4Text t = some y) : s_l4Text_M.C t y := s_l4Text_M.c t hm
theorem s_l4Text_ok : FnOK Tryz.prog tJ 90 s_l4Text_M.S := by
 refine fm tt s_l4Text_M [fo s_l4Two_ok] Tryz.call90 Tryz.func90 rfl Tryz.results90 Tryz.ntmps90 ?_
 rintro t y cx G hm
 have hm : s_l4Text t = some y := hm
 unfold s_l4Text at hm
 refine rg G ?_
 obtain ⟨u, h, hm⟩ := obind hm
 obtain ⟨r, h1, hm⟩ := obind hm
 obtain ⟨u1, h2, hm⟩ := obind hm
 obtain ⟨u2, h3, hm⟩ := obind hm
 obtain ⟨r1, h4, hm⟩ := obind hm
 obtain ⟨u3, h5, hm⟩ := obind hm
 refine rs G (hK h (hC 2 (s_l4Two_c h1) (hP (cat_p (chk_t h2)) (hK h3 (hC 6 (s_l4Two_c h4) (hP (cat_p (chk_t h5)) h0)))))) ?_
 cases hm
 exact rt [] []
noncomputable def s_l6Timetable_M : MS Timetable ByteArray := ⟨.r, s_l6Timetable, fun y => dV y, fun _ => [], fun _ _ => []⟩
theorem s_l6Timetable_c {t y} (hm : s_l6Timetable t = some y) : s_l6Timetable_M.C t y := s_l6Timetable_M.c t hm
theorem s_l6Timetable_ok : FnOK Tryz.prog tJ 45 s_l6Timetable_M.S := by
 refine fm tt s_l6Timetable_M [fo s_l6Network_ok, fo s_l1Num_ok, fo s_l5Line_ok, fo s_l4Text_ok] Tryz.call45 Tryz.func45 rfl Tryz.results45 Tryz.ntmps45 ?_
 rintro t y cx G hm
 have hm : s_l6Timetable t = some y := hm
 unfold s_l6Timetable at hm
 refine rg G ?_
 obtain ⟨r, h, hm⟩ := obind hm
 refine rs G (hC 2 (s_l6Network_c h) h0) ?_
 refine Ok_seq (rg G (tl hm (fun i1 => ⟨[(3, dV i1)], [], 32⟩) (fun i1 hm => ?_) ?_))
 ·refine Ok_block (lp G hm (fun (i, v) => ⟨[(1, .ref 16 0), (3, dV i), (4, dV v)], [bX 16 30 [dV t.Network.Stops, dV t.Network.Lines, dV t.Trips]], 48⟩) ?_)
  rintro ⟨i, v⟩ r0 hb hm
  rw [s_l6Timetable_L1] at hm
  refine Ok_seq (rs G (hN 3 t.Trips h0) ?_)
  refine cd hm (fun hm => ?_) (fun hm => ?_)
  ·refine X_skip (thN (Ok_seq (Ok_block ?_)))
   obtain ⟨u7, h13, hm⟩ := obind hm
   obtain ⟨e2, h14, hm⟩ := obind hm
   obtain ⟨r4, h15, hm⟩ := obind hm
   obtain ⟨u8, h16, hm⟩ := obind hm
   obtain ⟨u9, h17, hm⟩ := obind hm
   obtain ⟨r5, h18, hm⟩ := obind hm
   obtain ⟨u10, h19, hm⟩ := obind hm
   obtain ⟨u11, h20, hm⟩ := obind hm
   obtain ⟨e3, h21, hm⟩ := obind hm
   obtain ⟨r6, h22, hm⟩ := obind hm
   obtain ⟨u12, h23, hm⟩ := obind hm
   obtain ⟨u13, h24, hm⟩ := obind hm
   refine de G [] (hP (cat_p (chk_t h13)) (hD 5 h14 (hC 8 (s_l1Num_c h15) (hP (cat_p (chk_t h16)) (hP (cat_p (chk_t h17)) (hC 13 (s_l5Line_c h18) (hP (cat_p (chk_t h19)) (hP (cat_p (chk_t h20)) (hD 20 h21 (hC 23 (s_l4Text_c h22) (hP (cat_p (chk_t h23)) (hP (cat_p (chk_t h24)) h0)))))))))))) ?_
   exact ibN (thN (rh G (wL G hm)))
  ·exact Ok_exit (thE (thE (ibE (wD G hm hb))))
 rintro i1 hm s hw
 refine thN (Ok_weak hw ?_)
 refine rg G ?_
 cases hm
 exact rt [] []
noncomputable def s_FormatConsole_M : MS Console (ByteArray × Bool) := ⟨.r, s_FormatConsole, fun y => .tup [dV y.1, dV y.2], fun _ => [], fun _ _ => []⟩
theorem s_FormatConsole_c {c y} (hm : s_FormatConsole c = some y) : s_FormatConsole_M.C c y := s_FormatConsole_M.c c hm
theorem s_FormatConsole_ok : FnOK Tryz.prog tJ 20 s_FormatConsole_M.S := by
 refine fm tt s_FormatConsole_M [fo s_l28Good_ok, fo s_l6Timetable_ok, fo s_l1Num_ok] Tryz.call20 Tryz.func20 rfl Tryz.results20 Tryz.ntmps20 ?_
 rintro c y cx G hm
 have hm : s_FormatConsole c = some y := hm
 unfold s_FormatConsole at hm
 refine rg G (Ok_seq ?_)
 obtain ⟨r, h, hm⟩ := obind hm
 refine rs G (hC 1 (s_l28Good_c h) h0) ?_
 refine cd hm (fun hm => ?_) (fun hm => ?_)
 ·refine rg G ?_
  cases hm
  exact rt [] []
 ·refine X_skip (thN ?_)
  obtain ⟨r3, h6, hm⟩ := obind hm
  obtain ⟨u3, h7, hm⟩ := obind hm
  obtain ⟨r4, h8, hm⟩ := obind hm
  obtain ⟨u4, h9, hm⟩ := obind hm
  obtain ⟨u5, h10, hm⟩ := obind hm
  refine ds G [] (hC 2 (s_l6Timetable_c h6) (hP (cat_p (chk_t h7)) (hC 6 (s_l1Num_c h8) (hP (cat_p (chk_t h9)) (hP (cat_p (chk_t h10)) h0))))) ?_
  cases hm
  exact rt [] []
noncomputable def i_within_M : MS (Int × Int × Int) Bool := ⟨.x .r (.x .r .r), fun x => i_within x.1 x.2.1 x.2.2, fun y => dV y, fun _ => [], fun _ _ => []⟩
theorem i_within_c {n lo hi y} (hm : i_within n lo hi = some y) : i_within_M.C (n, lo, hi) y := i_within_M.c (n, lo, hi) hm
theorem i_within_ok : FnOK Tryz.prog tJ 85 i_within_M.S := by
 refine fm tt i_within_M [] Tryz.call85 Tryz.func85 rfl Tryz.results85 Tryz.ntmps85 ?_
 rintro ⟨n, lo, hi⟩ y cx G hm
 have hm : i_within n lo hi = some y := hm
 unfold i_within at hm
 refine rg G (jn hm (fun v => ⟨[(6, dV v)], [], 32⟩) (fun v hm => ?_) ?_)
 ·rcases bf hm with ⟨hb, hm⟩ | ⟨hb, hm⟩
  ·refine re G (hO 3 (.b true) (hP hb h0)) ?_
   exact wJ G hm
  ·refine re G (hO 3 (.b false) (hP hb h0)) ?_
   exact wJ G hm
 rintro v hm
 cases hm
 exact rt [] []
noncomputable def i_isName_M : MS ByteArray Bool := ⟨.r, i_isName, fun y => dV y, fun _ => [], fun _ _ => []⟩
theorem i_isName_c {s y} (hm : i_isName s = some y) : i_isName_M.C s y := i_isName_M.c s hm
theorem i_isName_ok : FnOK Tryz.prog tJ 144 i_isName_M.S := by
 refine fm tt i_isName_M [] Tryz.call144 Tryz.func144 rfl Tryz.results144 Tryz.ntmps144 ?_
 rintro s y cx G hm
 have hm : i_isName s = some y := hm
 unfold i_isName at hm
 refine rg G (Ok_seq (jn hm (fun v => ⟨[(0, dV s), (12, dV v)], [], 32⟩) (fun v hm => ?_) ?_))
 ·rcases bf hm with ⟨hb, hm⟩ | ⟨hb, hm⟩
  ·refine re G (hO 3 (.b true) (hP hb h0)) ?_
   exact wJ G hm
  ·refine re G (hO 3 (.b false) (hP hb h0)) ?_
   exact wJ G hm
 rintro v hm
 refine cd hm (fun hm => ?_) (fun hm => ?_)
 ·refine rg G ?_
  cases hm
  exact rt [] []
 ·refine X_skip (thN (Ok_seq (rg G (tF hm (fun _ => ⟨[], [], 32⟩) (fun v4 hr hm => ?_) ?_))))
  ·refine Ok_block (lp G hm (fun v1 => ⟨[(0, dV s), (14, dV (s.size : Int)), (15, dV v1)], [], 32⟩) ?_)
   rintro v1 r0 hb1 hm
   rw [i_isName_L1] at hm
   refine rg G (Ok_seq (cd hm (fun hm => ?_) (fun hm => ?_)))
   ·refine X_skip (thN (Ok_seq (Ok_block (rg G ?_))))
    obtain ⟨u, h, hm⟩ := obind hm
    refine jn hm (fun v2 => ⟨[(0, dV s), (3, dV v1), (4, dV v2), (14, dV (s.size : Int)), (15, dV v1)], [], 32⟩) (fun v2 hm => ?_) ?_
    ·rcases bf hm with ⟨hb2, hm⟩ | ⟨hb2, hm⟩
     ·obtain ⟨u1, h1, hm⟩ := obind hm
      refine re G (hK h (hO 4 (.b true) (hP hb2 (hK h1 h0)))) ?_
      exact wJ G hm
     ·refine re G (hK h (hO 4 (.b false) (hP hb2 h0))) ?_
      exact wJ G hm
    rintro v2 hm
    refine jn hm (fun v3 => ⟨[(0, dV s), (14, dV (s.size : Int)), (15, dV v1), (45, dV v3)], [], 32⟩) (fun v3 hm => ?_) ?_
    ·rcases bf hm with ⟨hb3, hm⟩ | ⟨hb3, hm⟩
     ·rcases bf hm with ⟨hb4, hm⟩ | ⟨hb4, hm⟩
      ·refine re G (hO 2 (.b true) (hP hb3 (hO 5 (.b true) (hP hb4 h0)))) ?_
       exact wJ G hm
      ·obtain ⟨u2, h2, hm⟩ := obind hm
       rcases bf hm with ⟨hb5, hm⟩ | ⟨hb5, hm⟩
       ·refine re G (hO 2 (.b true) (hP hb3 (hO 5 (.b false) (hP hb4 (hK h2 (hO 11 (.b true) (hP hb5 h0))))))) ?_
        exact wJ G hm
       ·obtain ⟨u3, h3, hm⟩ := obind hm
        refine re G (hO 2 (.b true) (hP hb3 (hO 5 (.b false) (hP hb4 (hK h2 (hO 11 (.b false) (hP hb5 (hK h3 h0)))))))) ?_
        exact wJ G hm
     ·refine re G (hO 2 (.b false) (hP hb3 h0)) ?_
      exact wJ G hm
    rintro v3 hm
    refine cd hm (fun hm => ?_) (fun hm => ?_)
    ·refine rg G ?_
     have hm := eL hm hb1 hr
     cases hm
     exact rt [] []
    ·exact X_skip (ibN (thN (rh G (wL G hm))))
   ·exact Ok_exit (thE (thE (ibE (wE G hm hb1))))
  rintro ⟨⟩ hm s1 hw
  refine thN (Ok_weak hw ?_)
  refine rg G ?_
  cases hm
  exact rt [] []
noncomputable def slices_Index_string_M : MS ((List ByteArray) × ByteArray) Int := ⟨.x .r .r, fun x => slices_Index_string x.1 x.2, fun y => dV y, fun _ => [], fun _ _ => []⟩
theorem slices_Index_string_c {s v y} (hm : slices_Index_string s v = some y) : slices_Index_string_M.C (s, v) y := slices_Index_string_M.c (s, v) hm
theorem slices_Index_string_ok : FnOK Tryz.prog tJ 145 slices_Index_string_M.S := by
 refine fm tt slices_Index_string_M [] Tryz.call145 Tryz.func145 rfl Tryz.results145 Tryz.ntmps145 ?_
 rintro ⟨s, v⟩ y cx G hm
 have hm : slices_Index_string s v = some y := hm
 unfold slices_Index_string at hm
 refine rg G (Ok_seq (rs G (hN 1 s h0) ?_))
 refine tF hm (fun _ => ⟨[], [], 32⟩) (fun v2 hr hm => ?_) ?_
 ·refine Ok_block (lp G hm (fun v1 => ⟨[(0, dV s), (1, dV v), (7, dV (s.length : Int)), (8, dV v1)], [], 32⟩) ?_)
  rintro v1 r0 hb hm
  rw [slices_Index_string_L1] at hm
  refine rg G (Ok_seq (cd hm (fun hm => ?_) (fun hm => ?_)))
  ·refine X_skip (thN (Ok_seq (Ok_block (rg G ?_))))
   obtain ⟨e, h, hm⟩ := obind hm
   refine rs G (hD 3 h h0) ?_
   refine cd hm (fun hm => ?_) (fun hm => ?_)
   ·refine rg G ?_
    have hm := eL hm hb hr
    cases hm
    exact rt [] []
   ·exact X_skip (ibN (thN (rh G (wL G hm))))
  ·exact Ok_exit (thE (thE (ibE (wE G hm hb))))
 rintro ⟨⟩ hm s1 hw
 refine thN (Ok_weak hw ?_)
 refine rg G ?_
 cases hm
 exact rt [] []
noncomputable def i_areNames_M : MS ((List ByteArray)) Bool := ⟨.r, i_areNames, fun y => dV y, fun _ => [], fun _ _ => []⟩
theorem i_areNames_c {names y} (hm : i_areNames names = some y) : i_areNames_M.C names y := i_areNames_M.c names hm
theorem i_areNames_ok : FnOK Tryz.prog tJ 105 i_areNames_M.S := by
 refine fm tt i_areNames_M [fo i_isName_ok, fo slices_Index_string_ok] Tryz.call105 Tryz.func105 rfl Tryz.results105 Tryz.ntmps105 ?_
 rintro names y cx G hm
 have hm : i_areNames names = some y := hm
 unfold i_areNames at hm
 refine rg G (Ok_seq (rs G (hN 1 names h0) ?_))
 refine tF hm (fun _ => ⟨[], [], 32⟩) (fun v2 hr hm => ?_) ?_
 ·refine Ok_block (lp G hm (fun v => ⟨[(0, dV names), (5, dV names), (6, dV (names.length : Int)), (7, dV v)], [], 32⟩) ?_)
  rintro v r0 hb hm
  rw [i_areNames_L1] at hm
  refine rg G (Ok_seq (cd hm (fun hm => ?_) (fun hm => ?_)))
  ·refine X_skip (thN (Ok_seq (Ok_block ?_)))
   obtain ⟨e, h, hm⟩ := obind hm
   refine rs G (hD 1 h h0) ?_
   obtain ⟨r, h1, hm⟩ := obind hm
   refine jn hm (fun v1 => ⟨[(0, dV names), (5, dV names), (6, dV (names.length : Int)), (7, dV v), (21, dV v1)], [], 32⟩) (fun v1 hm => ?_) ?_
   ·rcases bf hm with ⟨hb1, hm⟩ | ⟨hb1, hm⟩
    ·refine re G (hC 1 (i_isName_c h1) (hO 3 (.b true) (hP hb1 h0))) ?_
     exact wJ G hm
    ·obtain ⟨r1, h2, hm⟩ := obind hm
     refine re G (hC 1 (i_isName_c h1) (hO 3 (.b false) (hP hb1 (hC 6 (slices_Index_string_c h2) h0)))) ?_
     exact wJ G hm
   rintro v1 hm
   refine cd hm (fun hm => ?_) (fun hm => ?_)
   ·refine rg G ?_
    have hm := eL hm hb hr
    cases hm
    exact rt [] []
   ·exact X_skip (ibN (thN (rh G (wL G hm))))
  ·exact Ok_exit (thE (thE (ibE (wE G hm hb))))
 rintro ⟨⟩ hm s hw
 refine thN (Ok_weak hw ?_)
 refine rg G ?_
 cases hm
 exact rt [] []
noncomputable def i_lineNames_M : MS Network ((List ByteArray)) := ⟨.r, i_lineNames, fun _ => .own 0, fun y => [arO 9 y], fun _ _ => []⟩
theorem i_lineNames_c {n y} (hm : i_lineNames n = some y) : i_lineNames_M.C n y := i_lineNames_M.c n hm
theorem i_lineNames_ok : FnOK Tryz.prog tJ 106 i_lineNames_M.S := by
 refine fm tt i_lineNames_M [] Tryz.call106 Tryz.func106 rfl Tryz.results106 Tryz.ntmps106 ?_
 rintro n y cx G hm
 have hm : i_lineNames n = some y := hm
 unfold i_lineNames at hm
 refine rg G ?_
 obtain ⟨u, h, hm⟩ := obind hm
 refine rs G (hN 2 n.Lines (hO 3 (.l (List.map Enc.e (List.replicate (n.Lines.length : Int).toNat (ByteArray.empty : ByteArray)))) (hP (mk_p (b := 16) (chk_t h) rfl) (hP (rep_m Enc.e (n.Lines.length : Int).toNat (ByteArray.empty : ByteArray)) h0)))) ?_
 refine Ok_seq (rs G (hN 2 n.Lines h0) ?_)
 refine tl hm (fun i1 => ⟨[(3, .own 16)], [aX 16 9 i1], 48⟩) (fun i1 hm => ?_) ?_
 ·refine Ok_block (lp G hm (fun (v, i) => ⟨[(3, .own 16), (11, dV n.Lines), (12, dV (n.Lines.length : Int)), (13, dV v)], [aX 16 9 i], 48⟩) ?_)
  rintro ⟨v, i⟩ r0 hb hm
  rw [i_lineNames_L1] at hm
  refine rg G (Ok_seq (cd hm (fun hm => ?_) (fun hm => ?_)))
  ·refine X_skip (thN (Ok_seq (Ok_block ?_)))
   obtain ⟨e, h1, hm⟩ := obind hm
   refine rs G (hD 1 h1 h0) ?_
   obtain ⟨e1, h2, hm⟩ := obind hm
   refine re G (hD 4 h2 (hS 5 h2 e.Name h0)) ?_
   exact ibN (thN (rh G (wL G hm)))
  ·exact Ok_exit (thE (thE (ibE (wD G hm hb))))
 rintro i1 hm s hw
 refine thN (Ok_weak hw ?_)
 refine rg G ?_
 cases hm
 exact rt [16] []
noncomputable def i_isStop_M : MS (Network × Int) Bool := ⟨.x .r .r, fun x => i_isStop x.1 x.2, fun y => dV y, fun _ => [], fun _ _ => []⟩
theorem i_isStop_c {n stop y} (hm : i_isStop n stop = some y) : i_isStop_M.C (n, stop) y := i_isStop_M.c (n, stop) hm
theorem i_isStop_ok : FnOK Tryz.prog tJ 146 i_isStop_M.S := by
 refine fm tt i_isStop_M [] Tryz.call146 Tryz.func146 rfl Tryz.results146 Tryz.ntmps146 ?_
 rintro ⟨n, stop⟩ y cx G hm
 have hm : i_isStop n stop = some y := hm
 unfold i_isStop at hm
 refine rg G (jn hm (fun v => ⟨[(4, dV v)], [], 32⟩) (fun v hm => ?_) ?_)
 ·rcases bf hm with ⟨hb, hm⟩ | ⟨hb, hm⟩
  ·refine re G (hO 2 (.b true) (hP hb (hN 6 n.Stops h0))) ?_
   exact wJ G hm
  ·refine re G (hO 2 (.b false) (hP hb h0)) ?_
   exact wJ G hm
 rintro v hm
 cases hm
 exact rt [] []
noncomputable def slices_Index_int_M : MS ((List Int) × Int) Int := ⟨.x .r .r, fun x => slices_Index_int x.1 x.2, fun y => dV y, fun _ => [], fun _ _ => []⟩
theorem slices_Index_int_c {s v y} (hm : slices_Index_int s v = some y) : slices_Index_int_M.C (s, v) y := slices_Index_int_M.c (s, v) hm
theorem slices_Index_int_ok : FnOK Tryz.prog tJ 147 slices_Index_int_M.S := by
 refine fm tt slices_Index_int_M [] Tryz.call147 Tryz.func147 rfl Tryz.results147 Tryz.ntmps147 ?_
 rintro ⟨s, v⟩ y cx G hm
 have hm : slices_Index_int s v = some y := hm
 unfold slices_Index_int at hm
 refine rg G (Ok_seq (rs G (hN 1 s h0) ?_))
 refine tF hm (fun _ => ⟨[], [], 32⟩) (fun v2 hr hm => ?_) ?_
 ·refine Ok_block (lp G hm (fun v1 => ⟨[(0, dV s), (1, dV v), (7, dV (s.length : Int)), (8, dV v1)], [], 32⟩) ?_)
  rintro v1 r0 hb hm
  rw [slices_Index_int_L1] at hm
  refine rg G (Ok_seq (cd hm (fun hm => ?_) (fun hm => ?_)))
  ·refine X_skip (thN (Ok_seq (Ok_block (rg G ?_))))
   obtain ⟨e, h, hm⟩ := obind hm
   refine rs G (hD 3 h h0) ?_
   refine cd hm (fun hm => ?_) (fun hm => ?_)
   ·refine rg G ?_
    have hm := eL hm hb hr
    cases hm
    exact rt [] []
   ·exact X_skip (ibN (thN (rh G (wL G hm))))
  ·exact Ok_exit (thE (thE (ibE (wE G hm hb))))
 rintro ⟨⟩ hm s1 hw
 refine thN (Ok_weak hw ?_)
 refine rg G ?_
 cases hm
 exact rt [] []
noncomputable def i_isValidLine_M : MS (Network × Line) Bool := ⟨.x .r .r, fun x => i_isValidLine x.1 x.2, fun y => dV y, fun _ => [], fun _ _ => []⟩
theorem i_isValidLine_c {n l y} (hm : i_isValidLine n l = some y) : i_isValidLine_M.C (n, l) y := i_isValidLine_M.c (n, l) hm
theorem i_isValidLine_ok : FnOK Tryz.prog tJ 107 i_isValidLine_M.S := by
 refine fm tt i_isValidLine_M [fo i_within_ok, fo i_isStop_ok, fo slices_Index_int_ok] Tryz.call107 Tryz.func107 rfl Tryz.results107 Tryz.ntmps107 ?_
 rintro ⟨n, l⟩ y cx G hm
 have hm : i_isValidLine n l = some y := hm
 unfold i_isValidLine at hm
 refine rg G (Ok_seq ?_)
 obtain ⟨r, h, hm⟩ := obind hm
 refine jn hm (fun v => ⟨[(2, .ref 16 0), (3, .ref 32 0), (23, dV v)], [bX 16 27 [dV n.Stops, dV n.Lines], bX 32 106 [dV l.Name, dV l.Stops, dV l.Runs]], 64⟩) (fun v hm => ?_) ?_
 ·rcases bf hm with ⟨hb, hm⟩ | ⟨hb, hm⟩
  ·refine re G (hN 2 l.Stops (hC 3 (i_within_c h) (hO 5 (.b true) (hP hb h0)))) ?_
   exact wJ G hm
  ·refine re G (hN 2 l.Stops (hC 3 (i_within_c h) (hO 5 (.b false) (hP hb (hN 8 l.Runs (hN 11 l.Stops h0)))))) ?_
   exact wJ G hm
 rintro v hm
 refine cd hm (fun hm => ?_) (fun hm => ?_)
 ·refine rg G ?_
  cases hm
  exact rt [] []
 ·refine X_skip (thN (Ok_seq (rs G (hN 2 l.Stops h0) ?_)))
  refine tF hm (fun _ => ⟨[(3, .ref 16 0)], [bX 16 106 [dV l.Name, dV l.Stops, dV l.Runs]], 48⟩) (fun v5 hr hm => ?_) ?_
  ·refine Ok_block (lp G hm (fun v1 => ⟨[(2, .ref 16 0), (3, .ref 32 0), (25, dV l.Stops), (26, dV (l.Stops.length : Int)), (27, dV v1)], [bX 16 27 [dV n.Stops, dV n.Lines], bX 32 106 [dV l.Name, dV l.Stops, dV l.Runs]], 64⟩) ?_)
   rintro v1 r0 hb1 hm
   rw [i_isValidLine_L1] at hm
   refine rg G (Ok_seq (cd hm (fun hm => ?_) (fun hm => ?_)))
   ·refine X_skip (thN (Ok_seq (Ok_block ?_)))
    obtain ⟨e, h1, hm⟩ := obind hm
    refine rs G (hD 1 h1 h0) ?_
    obtain ⟨r1, h2, hm⟩ := obind hm
    refine jn hm (fun v2 => ⟨[(2, .ref 16 0), (3, .ref 32 0), (25, dV l.Stops), (26, dV (l.Stops.length : Int)), (27, dV v1), (43, dV v2)], [bX 16 27 [dV n.Stops, dV n.Lines], bX 32 106 [dV l.Name, dV l.Stops, dV l.Runs]], 64⟩) (fun v2 hm => ?_) ?_
    ·rcases bf hm with ⟨hb2, hm⟩ | ⟨hb2, hm⟩
     ·refine re G (hC 2 (i_isStop_c h2) (hO 4 (.b true) (hP hb2 h0))) ?_
      exact wJ G hm
     ·obtain ⟨r2, h3, hm⟩ := obind hm
      refine re G (hC 2 (i_isStop_c h2) (hO 4 (.b false) (hP hb2 (hC 8 (slices_Index_int_c h3) h0)))) ?_
      exact wJ G hm
    rintro v2 hm
    refine cd hm (fun hm => ?_) (fun hm => ?_)
    ·refine rg G ?_
     have hm := eL hm hb1 hr
     cases hm
     exact rt [] []
    ·exact X_skip (ibN (thN (rh G (wL G hm))))
   ·exact Ok_exit (thE (thE (ibE (wE G hm hb1))))
  rintro ⟨⟩ hm s hw
  refine thN (Ok_weak hw ?_)
  refine Ok_seq (rs G (hN 2 l.Runs h0) ?_)
  refine tF hm (fun _ => ⟨[], [], 32⟩) (fun v4 hr1 hm => ?_) ?_
  ·refine Ok_block (lp G hm (fun v3 => ⟨[(46, dV l.Runs), (47, dV (l.Runs.length : Int)), (48, dV v3)], [], 32⟩) ?_)
   rintro v3 r0 hb3 hm
   rw [i_isValidLine_L2] at hm
   refine rg G (Ok_seq (cd hm (fun hm => ?_) (fun hm => ?_)))
   ·refine X_skip (thN (Ok_seq (Ok_block ?_)))
    obtain ⟨e2, h4, hm⟩ := obind hm
    refine rs G (hD 0 h4 h0) ?_
    obtain ⟨r4, h5, hm⟩ := obind hm
    refine rs G (hC 1 (i_within_c h5) h0) ?_
    refine cd hm (fun hm => ?_) (fun hm => ?_)
    ·refine rg G ?_
     have hm := eL hm hb3 hr1
     cases hm
     exact rt [] []
    ·exact X_skip (ibN (thN (rh G (wL G hm))))
   ·exact Ok_exit (thE (thE (ibE (wE G hm hb3))))
  rintro ⟨⟩ hm s1 hw1
  refine thN (Ok_weak hw1 ?_)
  refine rg G ?_
  cases hm
  exact rt [] []
noncomputable def i_IsValidNetwork_M : MS Network Bool := ⟨.r, i_IsValidNetwork, fun y => dV y, fun _ => [], fun _ _ => []⟩
theorem i_IsValidNetwork_c {n y} (hm : i_IsValidNetwork n = some y) : i_IsValidNetwork_M.C n y := i_IsValidNetwork_M.c n hm
theorem i_IsValidNetwork_ok : FnOK Tryz.prog tJ 63 i_IsValidNetwork_M.S := by
 refine fm tt i_IsValidNetwork_M [fo i_within_ok, fo i_areNames_ok, fo i_lineNames_ok, fo i_isValidLine_ok] Tryz.call63 Tryz.func63 rfl Tryz.results63 Tryz.ntmps63 ?_
 rintro n y cx G hm
 have hm : i_IsValidNetwork n = some y := hm
 unfold i_IsValidNetwork at hm
 refine rg G (Ok_seq ?_)
 obtain ⟨r, h, hm⟩ := obind hm
 refine jn hm (fun v => ⟨[(1, .ref 16 0), (28, dV v)], [bX 16 27 [dV n.Stops, dV n.Lines]], 48⟩) (fun v hm => ?_) ?_
 ·rcases bf hm with ⟨hb, hm⟩ | ⟨hb, hm⟩
  ·refine re G (hN 2 n.Stops (hC 3 (i_within_c h) (hO 5 (.b true) (hP hb h0)))) ?_
   exact wJ G hm
  ·obtain ⟨r1, h1, hm⟩ := obind hm
   rcases bf hm with ⟨hb1, hm⟩ | ⟨hb1, hm⟩
   ·refine re G (hN 2 n.Stops (hC 3 (i_within_c h) (hO 5 (.b false) (hP hb (hN 8 n.Lines (hC 9 (i_within_c h1) (hO 12 (.b true) (hP hb1 h0)))))))) ?_
    exact wJ G hm
   ·obtain ⟨r2, h2, hm⟩ := obind hm
    rcases bf hm with ⟨hb2, hm⟩ | ⟨hb2, hm⟩
    ·refine re G (hN 2 n.Stops (hC 3 (i_within_c h) (hO 5 (.b false) (hP hb (hN 8 n.Lines (hC 9 (i_within_c h1) (hO 12 (.b false) (hP hb1 (hC 15 (i_areNames_c h2) (hO 18 (.b true) (hP hb2 h0))))))))))) ?_
     exact wJ G hm
    ·obtain ⟨r3, h3, hm⟩ := obind hm
     obtain ⟨r4, h4, hm⟩ := obind hm
     refine re G (hN 2 n.Stops (hC 3 (i_within_c h) (hO 5 (.b false) (hP hb (hN 8 n.Lines (hC 9 (i_within_c h1) (hO 12 (.b false) (hP hb1 (hC 15 (i_areNames_c h2) (hO 18 (.b false) (hP hb2 (hC 20 (i_lineNames_c h3) (hC 21 (i_areNames_c h4) h0))))))))))))) ?_
     exact wJ G hm
 rintro v hm
 refine cd hm (fun hm => ?_) (fun hm => ?_)
 ·refine rg G ?_
  cases hm
  exact rt [] []
 ·refine X_skip (thN (Ok_seq (rs G (hN 2 n.Lines h0) ?_)))
  refine tF hm (fun _ => ⟨[], [], 32⟩) (fun v2 hr hm => ?_) ?_
  ·refine Ok_block (lp G hm (fun v1 => ⟨[(1, .ref 16 0), (30, dV n.Lines), (31, dV (n.Lines.length : Int)), (32, dV v1)], [bX 16 27 [dV n.Stops, dV n.Lines]], 48⟩) ?_)
   rintro v1 r0 hb3 hm
   rw [i_IsValidNetwork_L1] at hm
   refine rg G (Ok_seq (cd hm (fun hm => ?_) (fun hm => ?_)))
   ·refine X_skip (thN (Ok_seq (Ok_block ?_)))
    obtain ⟨e, h5, hm⟩ := obind hm
    refine rs G (hD 0 h5 h0) ?_
    obtain ⟨r5, h6, hm⟩ := obind hm
    refine rs G (hC 2 (i_isValidLine_c h6) h0) ?_
    refine cd hm (fun hm => ?_) (fun hm => ?_)
    ·refine rg G ?_
     have hm := eL hm hb3 hr
     cases hm
     exact rt [] []
    ·exact X_skip (ibN (thN (rh G (wL G hm))))
   ·exact Ok_exit (thE (thE (ibE (wE G hm hb3))))
  rintro ⟨⟩ hm s hw
  refine thN (Ok_weak hw ?_)
  refine rg G ?_
  cases hm
  exact rt [] []
noncomputable def i_isLine_M : MS (Network × Int) Bool := ⟨.x .r .r, fun x => i_isLine x.1 x.2, fun y => dV y, fun _ => [], fun _ _ => []⟩
theorem i_isLine_c {n line y} (hm : i_isLine n line = some y) : i_isLine_M.C (n, line) y := i_isLine_M.c (n, line) hm
theorem i_isLine_ok : FnOK Tryz.prog tJ 108 i_isLine_M.S := by
 refine fm tt i_isLine_M [] Tryz.call108 Tryz.func108 rfl Tryz.results108 Tryz.ntmps108 ?_
 rintro ⟨n, line⟩ y cx G hm
 have hm : i_isLine n line = some y := hm
 unfold i_isLine at hm
 refine rg G (jn hm (fun v => ⟨[(4, dV v)], [], 32⟩) (fun v hm => ?_) ?_)
 ·rcases bf hm with ⟨hb, hm⟩ | ⟨hb, hm⟩
  ·refine re G (hO 2 (.b true) (hP hb (hN 6 n.Lines h0))) ?_
   exact wJ G hm
  ·refine re G (hO 2 (.b false) (hP hb h0)) ?_
   exact wJ G hm
 rintro v hm
 cases hm
 exact rt [] []
noncomputable def i_IsValidTime_M : MS Int Bool := ⟨.r, i_IsValidTime, fun y => dV y, fun _ => [], fun _ _ => []⟩
theorem i_IsValidTime_c {t y} (hm : i_IsValidTime t = some y) : i_IsValidTime_M.C t y := i_IsValidTime_M.c t hm
theorem i_IsValidTime_ok : FnOK Tryz.prog tJ 109 i_IsValidTime_M.S := by
 refine fm tt i_IsValidTime_M [fo i_within_ok] Tryz.call109 Tryz.func109 rfl Tryz.results109 Tryz.ntmps109 ?_
 rintro t y cx G hm
 have hm : i_IsValidTime t = some y := hm
 unfold i_IsValidTime at hm
 refine rg G ?_
 obtain ⟨r, h, hm⟩ := obind hm
 refine rs G (hC 1 (i_within_c h) h0) ?_
 cases hm
 exact rt [] []
noncomputable def i_total_M : MS ((List Int)) Int := ⟨.r, i_total, fun y => dV y, fun _ => [], fun _ _ => []⟩
theorem i_total_c {list y} (hm : i_total list = some y) : i_total_M.C list y := i_total_M.c list hm
theorem i_total_ok : FnOK Tryz.prog tJ 148 i_total_M.S := by
 refine fm tt i_total_M [] Tryz.call148 Tryz.func148 rfl Tryz.results148 Tryz.ntmps148 ?_
 rintro list y cx G hm
 have hm : i_total list = some y := hm
 unfold i_total at hm
 refine rg G (rg G (Ok_seq (rs G (hN 1 list h0) ?_)))
 refine tl hm (fun v2 => ⟨[(3, dV v2)], [], 32⟩) (fun v2 hm => ?_) ?_
 ·refine Ok_block (lp G hm (fun (v, v1) => ⟨[(3, dV v), (6, dV list), (7, dV (list.length : Int)), (8, dV v1)], [], 32⟩) ?_)
  rintro ⟨v, v1⟩ r0 hb hm
  rw [i_total_L1] at hm
  refine rg G (Ok_seq (cd hm (fun hm => ?_) (fun hm => ?_)))
  ·refine X_skip (thN (Ok_seq (Ok_block ?_)))
   obtain ⟨e, h, hm⟩ := obind hm
   refine rs G (hD 0 h h0) ?_
   exact rh G (ibN (thN (rh G (wL G hm))))
  ·exact Ok_exit (thE (thE (ibE (wD G hm hb))))
 rintro v2 hm s hw
 refine thN (Ok_weak hw ?_)
 refine rg G ?_
 cases hm
 exact rt [] []
noncomputable def i_endOf_M : MS (Timetable × Trip) Int := ⟨.x .r .r, fun x => i_endOf x.1 x.2, fun y => dV y, fun _ => [], fun _ _ => []⟩
theorem i_endOf_c {t x y} (hm : i_endOf t x = some y) : i_endOf_M.C (t, x) y := i_endOf_M.c (t, x) hm
theorem i_endOf_ok : FnOK Tryz.prog tJ 110 i_endOf_M.S := by
 refine fm tt i_endOf_M [fo i_total_ok] Tryz.call110 Tryz.func110 rfl Tryz.results110 Tryz.ntmps110 ?_
 rintro ⟨t, x⟩ y cx G hm
 have hm : i_endOf t x = some y := hm
 unfold i_endOf at hm
 refine rg G ?_
 obtain ⟨e1, h2, hm⟩ := obind hm
 obtain ⟨r1, h3, hm⟩ := obind hm
 refine ds G [] (hD 7 h2 (hC 10 (i_total_c h3) h0)) ?_
 cases hm
 exact rt [] []
noncomputable def i_areTrips_M : MS Timetable Bool := ⟨.r, i_areTrips, fun y => dV y, fun _ => [], fun _ _ => []⟩
theorem i_areTrips_c {t y} (hm : i_areTrips t = some y) : i_areTrips_M.C t y := i_areTrips_M.c t hm
theorem i_areTrips_ok : FnOK Tryz.prog tJ 64 i_areTrips_M.S := by
 refine fm tt i_areTrips_M [fo i_isLine_ok, fo i_IsValidTime_ok, fo i_endOf_ok] Tryz.call64 Tryz.func64 rfl Tryz.results64 Tryz.ntmps64 ?_
 rintro t y cx G hm
 have hm : i_areTrips t = some y := hm
 unfold i_areTrips at hm
 refine rg G (Ok_seq (rs G (hN 2 t.Trips h0) ?_))
 refine cd hm (fun hm => ?_) (fun hm => ?_)
 ·refine rg G ?_
  cases hm
  exact rt [] []
 ·refine X_skip (thN (rg G (Ok_seq (rs G (hN 2 t.Trips h0) ?_))))
  refine tF hm (fun _ => ⟨[], [], 32⟩) (fun v3 hr hm => ?_) ?_
  ·refine Ok_block (lp G hm (fun (v, v1) => ⟨[(1, .ref 16 0), (3, dV v), (11, dV t.Trips), (12, dV (t.Trips.length : Int)), (13, dV v1)], [bX 16 30 [dV t.Network.Stops, dV t.Network.Lines, dV t.Trips]], 48⟩) ?_)
   rintro ⟨v, v1⟩ r0 hb hm
   rw [i_areTrips_L1] at hm
   refine rg G (Ok_seq (cd hm (fun hm => ?_) (fun hm => ?_)))
   ·refine X_skip (thN (Ok_seq (Ok_block ?_)))
    obtain ⟨e, h, hm⟩ := obind hm
    refine rs G (hD 0 h h0) ?_
    refine Ok_seq (jn hm (fun v2 => ⟨[(1, .ref 16 0), (5, .ref 32 0), (11, dV t.Trips), (12, dV (t.Trips.length : Int)), (13, dV v1), (46, dV v2)], [bX 16 30 [dV t.Network.Stops, dV t.Network.Lines, dV t.Trips], bX 32 71 [dV e.Id, dV e.Line, dV e.Start]], 64⟩) (fun v2 hm => ?_) ?_)
    ·rcases bf hm with ⟨hb1, hm⟩ | ⟨hb1, hm⟩
     ·refine re G (hO 4 (.b true) (hP hb1 h0)) ?_
      exact wJ G hm
     ·rcases bf hm with ⟨hb2, hm⟩ | ⟨hb2, hm⟩
      ·refine re G (hO 4 (.b false) (hP hb1 (hO 9 (.b true) (hP hb2 h0)))) ?_
       exact wJ G hm
      ·obtain ⟨r, h1, hm⟩ := obind hm
       rcases bf hm with ⟨hb3, hm⟩ | ⟨hb3, hm⟩
       ·refine re G (hO 4 (.b false) (hP hb1 (hO 9 (.b false) (hP hb2 (hC 14 (i_isLine_c h1) (hO 17 (.b true) (hP hb3 h0))))))) ?_
        exact wJ G hm
       ·obtain ⟨r1, h2, hm⟩ := obind hm
        rcases bf hm with ⟨hb4, hm⟩ | ⟨hb4, hm⟩
        ·refine re G (hO 4 (.b false) (hP hb1 (hO 9 (.b false) (hP hb2 (hC 14 (i_isLine_c h1) (hO 17 (.b false) (hP hb3 (hC 20 (i_IsValidTime_c h2) (hO 23 (.b true) (hP hb4 h0)))))))))) ?_
         exact wJ G hm
        ·obtain ⟨r2, h3, hm⟩ := obind hm
         obtain ⟨r3, h4, hm⟩ := obind hm
         refine re G (hO 4 (.b false) (hP hb1 (hO 9 (.b false) (hP hb2 (hC 14 (i_isLine_c h1) (hO 17 (.b false) (hP hb3 (hC 20 (i_IsValidTime_c h2) (hO 23 (.b false) (hP hb4 (hC 26 (i_endOf_c h3) (hC 27 (i_IsValidTime_c h4) h0)))))))))))) ?_
         exact wJ G hm
    rintro v2 hm
    refine cd hm (fun hm => ?_) (fun hm => ?_)
    ·refine rg G ?_
     have hm := eL hm hb hr
     cases hm
     exact rt [] []
    ·exact X_skip (thN (rh G (ibN (thN (rh G (wL G hm))))))
   ·exact Ok_exit (thE (thE (ibE (wE G hm hb))))
  rintro ⟨⟩ hm s hw
  refine thN (Ok_weak hw ?_)
  refine rg G ?_
  cases hm
  exact rt [] []
noncomputable def i_IsValidTimetable_M : MS Timetable Bool := ⟨.r, i_IsValidTimetable, fun y => dV y, fun _ => [], fun _ _ => []⟩
theorem i_IsValidTimetable_c {t y} (hm : i_IsValidTimetable t = some y) : i_IsValidTimetable_M.C t y := i_IsValidTimetable_M.c t hm
theorem i_IsValidTimetable_ok : FnOK Tryz.prog tJ 28 i_IsValidTimetable_M.S := by
 refine fm tt i_IsValidTimetable_M [fo i_IsValidNetwork_ok, fo i_areTrips_ok] Tryz.call28 Tryz.func28 rfl Tryz.results28 Tryz.ntmps28 ?_
 rintro t y cx G hm
 have hm : i_IsValidTimetable t = some y := hm
 unfold i_IsValidTimetable at hm
 refine rg G ?_
 obtain ⟨r, h, hm⟩ := obind hm
 refine jn hm (fun v => ⟨[(2, dV v)], [], 32⟩) (fun v hm => ?_) ?_
 ·rcases bf hm with ⟨hb, hm⟩ | ⟨hb, hm⟩
  ·obtain ⟨r1, h1, hm⟩ := obind hm
   refine re G (hC 2 (i_IsValidNetwork_c h) (hO 3 (.b true) (hP hb (hC 5 (i_areTrips_c h1) h0)))) ?_
   exact wJ G hm
  ·refine re G (hC 2 (i_IsValidNetwork_c h) (hO 3 (.b false) (hP hb h0))) ?_
   exact wJ G hm
 rintro v hm
 cases hm
 exact rt [] []
noncomputable def i_isChange_M : MS Int Bool := ⟨.r, i_isChange, fun y => dV y, fun _ => [], fun _ _ => []⟩
theorem i_isChange_c {change y} (hm : i_isChange change = some y) : i_isChange_M.C change y := i_isChange_M.c change hm
theorem i_isChange_ok : FnOK Tryz.prog tJ 41 i_isChange_M.S := by
 refine fm tt i_isChange_M [fo i_within_ok] Tryz.call41 Tryz.func41 rfl Tryz.results41 Tryz.ntmps41 ?_
 rintro change y cx G hm
 have hm : i_isChange change = some y := hm
 unfold i_isChange at hm
 refine rg G ?_
 obtain ⟨r, h, hm⟩ := obind hm
 refine rs G (hC 1 (i_within_c h) h0) ?_
 cases hm
 exact rt [] []
noncomputable def strings_Cut_M : MS (ByteArray × ByteArray) (ByteArray × ByteArray × Bool) := ⟨.x .r .r, fun x => strings_Cut x.1 x.2, fun y => .tup [dV y.1, dV y.2.1, dV y.2.2], fun _ => [], fun _ _ => []⟩
theorem strings_Cut_c {s sep y} (hm : strings_Cut s sep = some y) : strings_Cut_M.C (s, sep) y := strings_Cut_M.c (s, sep) hm
theorem strings_Cut_ok : FnOK Tryz.prog tJ 163 strings_Cut_M.S := cutOK Tryz.lays145 Tryz.call163 (by kernel_rfl)
noncomputable def i_isPrintable_M : MS ByteArray Bool := ⟨.r, i_isPrintable, fun y => dV y, fun _ => [], fun _ _ => []⟩
theorem i_isPrintable_c {s y} (hm : i_isPrintable s = some y) : i_isPrintable_M.C s y := i_isPrintable_M.c s hm
theorem i_isPrintable_ok : FnOK Tryz.prog tJ 180 i_isPrintable_M.S := by
 refine fm tt i_isPrintable_M [] Tryz.call180 Tryz.func180 rfl Tryz.results180 Tryz.ntmps180 ?_
 rintro s y cx G hm
 have hm : i_isPrintable s = some y := hm
 unfold i_isPrintable at hm
 refine rg G (Ok_seq (rg G (tF hm (fun _ => ⟨[], [], 32⟩) (fun v2 hr hm => ?_) ?_)))
 ·refine Ok_block (lp G hm (fun v => ⟨[(0, dV s), (5, dV (s.size : Int)), (6, dV v)], [], 32⟩) ?_)
  rintro v r0 hb hm
  rw [i_isPrintable_L1] at hm
  refine rg G (Ok_seq (cd hm (fun hm => ?_) (fun hm => ?_)))
  ·refine X_skip (thN (Ok_seq (Ok_block (rg G ?_))))
   obtain ⟨u, h, hm⟩ := obind hm
   refine jn hm (fun v1 => ⟨[(0, dV s), (5, dV (s.size : Int)), (6, dV v), (24, dV v1)], [], 32⟩) (fun v1 hm => ?_) ?_
   ·rcases bf hm with ⟨hb1, hm⟩ | ⟨hb1, hm⟩
    ·refine re G (hK h (hO 4 (.b true) (hP hb1 h0))) ?_
     exact wJ G hm
    ·obtain ⟨u1, h1, hm⟩ := obind hm
     rcases bf hm with ⟨hb2, hm⟩ | ⟨hb2, hm⟩
     ·refine re G (hK h (hO 4 (.b false) (hP hb1 (hK h1 (hO 10 (.b true) (hP hb2 h0)))))) ?_
      exact wJ G hm
     ·obtain ⟨u2, h2, hm⟩ := obind hm
      refine re G (hK h (hO 4 (.b false) (hP hb1 (hK h1 (hO 10 (.b false) (hP hb2 (hK h2 h0))))))) ?_
      exact wJ G hm
   rintro v1 hm
   refine cd hm (fun hm => ?_) (fun hm => ?_)
   ·refine rg G ?_
    have hm := eL hm hb hr
    cases hm
    exact rt [] []
   ·exact X_skip (ibN (thN (rh G (wL G hm))))
  ·exact Ok_exit (thE (thE (ibE (wE G hm hb))))
 rintro ⟨⟩ hm s1 hw
 refine thN (Ok_weak hw ?_)
 refine rg G ?_
 cases hm
 exact rt [] []
noncomputable def strings_Contains_M : MS (ByteArray × ByteArray) Bool := ⟨.x .r .r, fun x => strings_Contains x.1 x.2, fun y => dV y, fun _ => [], fun _ _ => []⟩
theorem strings_Contains_c {s substr y} (hm : strings_Contains s substr = some y) : strings_Contains_M.C (s, substr) y := strings_Contains_M.c (s, substr) hm
theorem strings_Contains_ok : FnOK Tryz.prog tJ 192 strings_Contains_M.S := containsOK Tryz.lays144 Tryz.call192 (by kernel_rfl)
noncomputable def i_isCommand_M : MS ByteArray Bool := ⟨.r, i_isCommand, fun y => dV y, fun _ => [], fun _ _ => []⟩
theorem i_isCommand_c {s y} (hm : i_isCommand s = some y) : i_isCommand_M.C s y := i_isCommand_M.c s hm
theorem i_isCommand_ok : FnOK Tryz.prog tJ 179 i_isCommand_M.S := by
 refine fm tt i_isCommand_M [fo i_within_ok, fo i_isPrintable_ok, fo strings_Contains_ok] Tryz.call179 Tryz.func179 rfl Tryz.results179 Tryz.ntmps179 ?_
 rintro s y cx G hm
 have hm : i_isCommand s = some y := hm
 unfold i_isCommand at hm
 refine rg G ?_
 obtain ⟨r, h, hm⟩ := obind hm
 refine jn hm (fun v => ⟨[(2, dV v)], [], 32⟩) (fun v hm => ?_) ?_
 ·rcases bf hm with ⟨hb, hm⟩ | ⟨hb, hm⟩
  ·obtain ⟨r1, h1, hm⟩ := obind hm
   rcases bf hm with ⟨hb1, hm⟩ | ⟨hb1, hm⟩
   ·obtain ⟨r2, h2, hm⟩ := obind hm
    refine re G (hC 2 (i_within_c h) (hO 3 (.b true) (hP hb (hC 5 (i_isPrintable_c h1) (hO 7 (.b true) (hP hb1 (hC 9 (strings_Contains_c h2) h0))))))) ?_
    exact wJ G hm
   ·refine re G (hC 2 (i_within_c h) (hO 3 (.b true) (hP hb (hC 5 (i_isPrintable_c h1) (hO 7 (.b false) (hP hb1 h0)))))) ?_
    exact wJ G hm
  ·refine re G (hC 2 (i_within_c h) (hO 3 (.b false) (hP hb h0))) ?_
   exact wJ G hm
 rintro v hm
 cases hm
 exact rt [] []
noncomputable def i_IsValidRecord_M : MS LogRecord Bool := ⟨.r, i_IsValidRecord, fun y => dV y, fun _ => [], fun _ _ => []⟩
theorem i_IsValidRecord_c {e y} (hm : i_IsValidRecord e = some y) : i_IsValidRecord_M.C e y := i_IsValidRecord_M.c e hm
theorem i_IsValidRecord_ok : FnOK Tryz.prog tJ 164 i_IsValidRecord_M.S := by
 refine fm tt i_IsValidRecord_M [fo i_isCommand_ok, fo i_isPrintable_ok] Tryz.call164 Tryz.func164 rfl Tryz.results164 Tryz.ntmps164 ?_
 rintro e y cx G hm
 have hm : i_IsValidRecord e = some y := hm
 unfold i_IsValidRecord at hm
 refine rg G ?_
 obtain ⟨r, h, hm⟩ := obind hm
 refine jn hm (fun v => ⟨[(2, dV v)], [], 32⟩) (fun v hm => ?_) ?_
 ·rcases bf hm with ⟨hb, hm⟩ | ⟨hb, hm⟩
  ·rcases bf hm with ⟨hb1, hm⟩ | ⟨hb1, hm⟩
   ·obtain ⟨r1, h1, hm⟩ := obind hm
    refine re G (hC 2 (i_isCommand_c h) (hO 3 (.b true) (hP hb (hO 9 (.b true) (hP hb1 (hC 12 (i_isPrintable_c h1) h0)))))) ?_
    exact wJ G hm
   ·refine re G (hC 2 (i_isCommand_c h) (hO 3 (.b true) (hP hb (hO 9 (.b false) (hP hb1 h0))))) ?_
    exact wJ G hm
  ·refine re G (hC 2 (i_isCommand_c h) (hO 3 (.b false) (hP hb h0))) ?_
   exact wJ G hm
 rintro v hm
 cases hm
 exact rt [] []
noncomputable def strconv_Itoa_M : MS Int ByteArray := ⟨.r, strconv_Itoa, fun y => dV y, fun _ => [], fun _ _ => []⟩
theorem strconv_Itoa_c {i y} (hm : strconv_Itoa i = some y) : strconv_Itoa_M.C i y := strconv_Itoa_M.c i hm
theorem strconv_Itoa_ok : FnOK Tryz.prog tJ 48 strconv_Itoa_M.S := itoaOK Tryz.laysM171 Tryz.call48 (g := 0) (by kernel_rfl)
noncomputable def i_checksum_M : MS ByteArray Int := ⟨.r, i_checksum, fun y => dV y, fun _ => [], fun _ _ => []⟩
theorem i_checksum_c {s y} (hm : i_checksum s = some y) : i_checksum_M.C s y := i_checksum_M.c s hm
theorem i_checksum_ok : FnOK Tryz.prog tJ 193 i_checksum_M.S := by
 refine fm tt i_checksum_M [] Tryz.call193 Tryz.func193 rfl Tryz.results193 Tryz.ntmps193 ?_
 rintro s y cx G hm
 have hm : i_checksum s = some y := hm
 unfold i_checksum at hm
 refine rg G (rg G (Ok_seq (rg G (tl hm (fun i1 => ⟨[(3, dV i1)], [], 32⟩) (fun i1 hm => ?_) ?_))))
 ·refine Ok_block (lp G hm (fun (i, v) => ⟨[(0, dV s), (3, dV i), (6, dV (s.size : Int)), (7, dV v)], [], 32⟩) ?_)
  rintro ⟨i, v⟩ r0 hb hm
  rw [i_checksum_L1] at hm
  refine rg G (Ok_seq (cd hm (fun hm => ?_) (fun hm => ?_)))
  ·refine X_skip (thN (Ok_seq (Ok_block (rg G ?_))))
   obtain ⟨u, h, hm⟩ := obind hm
   obtain ⟨u1, h1, hm⟩ := obind hm
   refine re G (hK h (hK h1 h0)) ?_
   exact ibN (thN (rh G (wL G hm)))
  ·exact Ok_exit (thE (thE (ibE (wD G hm hb))))
 rintro i1 hm s1 hw
 refine thN (Ok_weak hw ?_)
 refine rg G ?_
 cases hm
 exact rt [] []
noncomputable def i_AppendChecksum_M : MS ByteArray (ByteArray × Bool) := ⟨.r, i_AppendChecksum, fun y => .tup [dV y.1, dV y.2], fun _ => [], fun _ _ => []⟩
theorem i_AppendChecksum_c {s y} (hm : i_AppendChecksum s = some y) : i_AppendChecksum_M.C s y := i_AppendChecksum_M.c s hm
theorem i_AppendChecksum_ok : FnOK Tryz.prog tJ 181 i_AppendChecksum_M.S := by
 refine fm tt i_AppendChecksum_M [fo strings_Contains_ok, fo i_checksum_ok, fo strconv_Itoa_ok] Tryz.call181 Tryz.func181 rfl Tryz.results181 Tryz.ntmps181 ?_
 rintro s y cx G hm
 have hm : i_AppendChecksum s = some y := hm
 unfold i_AppendChecksum at hm
 refine rg G (Ok_seq (jn hm (fun v => ⟨[(0, dV s), (11, dV v)], [], 32⟩) (fun v hm => ?_) ?_))
 ·rcases bf hm with ⟨hb, hm⟩ | ⟨hb, hm⟩
  ·refine re G (hO 3 (.b true) (hP hb h0)) ?_
   exact wJ G hm
  ·obtain ⟨r, h, hm⟩ := obind hm
   refine re G (hO 3 (.b false) (hP hb (hC 5 (strings_Contains_c h) h0))) ?_
   exact wJ G hm
 rintro v hm
 refine cd hm (fun hm => ?_) (fun hm => ?_)
 ·refine rg G ?_
  cases hm
  exact rt [] []
 ·refine X_skip (thN ?_)
  obtain ⟨u, h1, hm⟩ := obind hm
  obtain ⟨r1, h2, hm⟩ := obind hm
  obtain ⟨r2, h3, hm⟩ := obind hm
  obtain ⟨u1, h4, hm⟩ := obind hm
  refine rs G (hP (cat_p (chk_t h1)) (hC 3 (i_checksum_c h2) (hC 4 (strconv_Itoa_c h3) (hP (cat_p (chk_t h4)) h0)))) ?_
  refine Ok_seq (rg G (cd hm (fun hm => ?_) (fun hm => ?_)))
  ·refine rg G ?_
   cases hm
   exact rt [] []
  ·refine X_skip (thN (rg G ?_))
   cases hm
   exact rt [] []
noncomputable def i_encoded_M : MS (Int × LogRecord) ByteArray := ⟨.x .r .r, fun x => i_encoded x.1 x.2, fun y => dV y, fun _ => [], fun _ _ => []⟩
theorem i_encoded_c {k e y} (hm : i_encoded k e = some y) : i_encoded_M.C (k, e) y := i_encoded_M.c (k, e) hm
theorem i_encoded_ok : FnOK Tryz.prog tJ 165 i_encoded_M.S := by
 refine fm tt i_encoded_M [fo strconv_Itoa_ok, fo i_AppendChecksum_ok] Tryz.call165 Tryz.func165 rfl Tryz.results165 Tryz.ntmps165 ?_
 rintro ⟨k, e⟩ y cx G hm
 have hm : i_encoded k e = some y := hm
 unfold i_encoded at hm
 refine rg G ?_
 obtain ⟨r2, h6, hm⟩ := obind hm
 obtain ⟨u4, h7, hm⟩ := obind hm
 obtain ⟨u5, h8, hm⟩ := obind hm
 obtain ⟨u6, h9, hm⟩ := obind hm
 obtain ⟨u7, h10, hm⟩ := obind hm
 obtain ⟨r3, h11, hm⟩ := obind hm
 refine ds G [] (hC 1 (strconv_Itoa_c h6) (hP (cat_p (chk_t h7)) (hP (cat_p (chk_t h8)) (hP (cat_p (chk_t h9)) (hP (cat_p (chk_t h10)) (hC 10 (i_AppendChecksum_c h11) h0)))))) ?_
 obtain ⟨u8, h12, hm⟩ := obind hm
 refine rs G (hP (cat_p (chk_t h12)) h0) ?_
 cases hm
 exact rt [] []
noncomputable def i_decoded_M : MS (Int × ByteArray) (LogRecord × Int × Bool) := ⟨.x .r .r, fun x => i_decoded x.1 x.2, fun y => .tup [dV y.1, dV y.2.1, dV y.2.2], fun _ => [], fun _ _ => []⟩
theorem i_decoded_c {k s y} (hm : i_decoded k s = some y) : i_decoded_M.C (k, s) y := i_decoded_M.c (k, s) hm
theorem i_decoded_ok : FnOK Tryz.prog tJ 133 i_decoded_M.S := by
 refine fm tt i_decoded_M [fo strings_Cut_ok, fo i_IsValidRecord_ok, fo i_encoded_ok] Tryz.call133 Tryz.func133 rfl Tryz.results133 Tryz.ntmps133 ?_
 rintro ⟨k, s⟩ y cx G hm
 have hm : i_decoded k s = some y := hm
 unfold i_decoded at hm
 refine rg G ?_
 obtain ⟨r, h, hm⟩ := obind hm
 refine rs G (hC 1 (strings_Cut_c h) h0) ?_
 refine Ok_seq (jn hm (fun v => ⟨[(0, dV k), (4, .ref 16 0), (7, dV r.1), (31, dV v)], [bX 16 166 [dV ByteArray.empty, dV ByteArray.empty]], 48⟩) (fun v hm => ?_) ?_)
 ·rcases bf hm with ⟨hb, hm⟩ | ⟨hb, hm⟩
  ·refine re G (hO 2 (.b true) (hP hb h0)) ?_
   exact wJ G hm
  ·refine re G (hO 2 (.b false) (hP hb h0)) ?_
   exact wJ G hm
 rintro v hm
 refine cd hm (fun hm => ?_) (fun hm => ?_)
 ·refine rg G ?_
  cases hm
  exact rt [] []
 ·refine X_skip (thN ?_)
  obtain ⟨r1, h1, hm⟩ := obind hm
  refine rs G (hC 1 (strings_Cut_c h1) h0) ?_
  obtain ⟨r2, h2, hm⟩ := obind hm
  refine rs G (hC 1 (strings_Cut_c h2) h0) ?_
  obtain ⟨r3, h3, hm⟩ := obind hm
  refine rs G (hC 1 (strings_Cut_c h3) h0) ?_
  refine rg G (Ok_seq ?_)
  obtain ⟨r4, h4, hm⟩ := obind hm
  refine jn hm (fun v1 => ⟨[(4, .ref 16 0), (7, dV r.1), (19, .ref 32 0), (64, dV v1)], [bX 16 166 [dV ByteArray.empty, dV ByteArray.empty], bX 32 166 [dV r3.1, dV r3.2.1]], 64⟩) (fun v1 hm => ?_) ?_
  ·rcases bf hm with ⟨hb1, hm⟩ | ⟨hb1, hm⟩
   ·refine re G (hC 1 (i_IsValidRecord_c h4) (hO 3 (.b true) (hP hb1 h0))) ?_
    exact wJ G hm
   ·obtain ⟨r5, h5, hm⟩ := obind hm
    obtain ⟨u, h6, hm⟩ := obind hm
    refine re G (hC 1 (i_IsValidRecord_c h4) (hO 3 (.b false) (hP hb1 (hC 6 (i_encoded_c h5) (hP (cat_p (chk_t h6)) h0))))) ?_
    exact wJ G hm
  rintro v1 hm
  refine cd hm (fun hm => ?_) (fun hm => ?_)
  ·refine rg G ?_
   cases hm
   exact rt [] []
  ·refine X_skip (thN (rg G ?_))
   cases hm
   exact rt [] []
noncomputable def i_readLog_M : MS ByteArray ((List LogRecord) × (List Int)) := ⟨.r, i_readLog, fun _ => .tup [.own 0, .own 1], fun y => [arO 166 y.1, arO 3 y.2], fun _ _ => []⟩
theorem i_readLog_c {s y} (hm : i_readLog s = some y) : i_readLog_M.C s y := i_readLog_M.c s hm
theorem i_readLog_ok : FnOK Tryz.prog tJ 86 i_readLog_M.S := by
 refine fm tt i_readLog_M [fo i_decoded_ok] Tryz.call86 Tryz.func86 rfl Tryz.results86 Tryz.ntmps86 ?_
 rintro s y cx G hm
 have hm : i_readLog s = some y := hm
 unfold i_readLog at hm
 refine rg G (rg G (rg G (Ok_block (lpP hm (fun (ends, at_) => ⟨[(0, dV s), (4, .own 16), (5, .own 32)], [aX 16 166 ends, aX 32 3 at_], 64⟩) (Wk_J G.hL ⟨[(0, []), (4, [.o 16]), (5, [])], [(32, 64, [])], [(16, 166, 2, [])], 64⟩ (by kernel_rfl)) ?_))))
 rintro ⟨ends, at_⟩ r0 hb hm
 rw [i_readLog_L1] at hm
 refine Ok_block ?_
 obtain ⟨e, h, hm⟩ := obind hm
 refine rs G (hN 2 ends (hD 3 h (hE 4 h h0))) ?_
 obtain ⟨u, h1, hm⟩ := obind hm
 obtain ⟨r, h2, hm⟩ := obind hm
 refine rs G (hN 1 ends (hK h1 (hC 5 (i_decoded_c h2) h0))) ?_
 refine Ok_seq (rg G (cd hm (fun hm => ?_) (fun hm => ?_)))
 ·refine rg G ?_
  have hm := eD hm hb
  cases hm
  exact rt [16, 32] []
 ·refine X_skip (thN ?_)
  obtain ⟨u1, h3, hm⟩ := obind hm
  obtain ⟨u2, h4, hm⟩ := obind hm
  refine re G (hA 3 32 h3 (hA 9 8 h4 h0)) ?_
  exact ibN (wL G hm)
noncomputable def i_IsValidLog_M : MS Log Bool := ⟨.r, i_IsValidLog, fun y => dV y, fun _ => [], fun _ _ => []⟩
theorem i_IsValidLog_c {l y} (hm : i_IsValidLog l = some y) : i_IsValidLog_M.C l y := i_IsValidLog_M.c l hm
theorem i_IsValidLog_ok : FnOK Tryz.prog tJ 42 i_IsValidLog_M.S := by
 refine fm tt i_IsValidLog_M [fo i_readLog_ok] Tryz.call42 Tryz.func42 rfl Tryz.results42 Tryz.ntmps42 ?_
 rintro l y cx G hm
 have hm : i_IsValidLog l = some y := hm
 unfold i_IsValidLog at hm
 refine rg G ?_
 obtain ⟨u, h, hm⟩ := obind hm
 obtain ⟨r, h1, hm⟩ := obind hm
 refine rs G (hP (cat_p (chk_t h)) (hC 5 (i_readLog_c h1) h0)) ?_
 refine Ok_seq ?_
 obtain ⟨e1, h3, hm⟩ := obind hm
 refine jn hm (fun v => ⟨[(1, .ref 16 0), (4, .own 32), (35, dV v)], [bX 16 54 [dV l.Durable, dV l.Pending, dV l.Count], aX 32 3 r.2], 64⟩) (fun v hm => ?_) ?_
 ·rcases bf hm with ⟨hb, hm⟩ | ⟨hb, hm⟩
  ·refine de G [] (hN 2 r.1 (hD 3 h3 (hE 4 h3 (hO 13 (.b true) (hP hb h0))))) ?_
   exact wJ G hm
  ·refine de G [] (hN 2 r.1 (hD 3 h3 (hE 4 h3 (hO 13 (.b false) (hP hb (hN 17 r.1 h0)))))) ?_
   exact wJ G hm
 rintro v hm
 refine cd hm (fun hm => ?_) (fun hm => ?_)
 ·refine rg G ?_
  cases hm
  exact rt [] []
 ·refine X_skip (thN (Ok_seq (rs G (hN 1 r.2 h0) ?_)))
  refine tF hm (fun _ => ⟨[], [], 32⟩) (fun v2 hr hm => ?_) ?_
  ·refine Ok_block (lp G hm (fun v1 => ⟨[(1, .ref 16 0), (36, .own 32), (37, dV (r.2.length : Int)), (38, dV v1)], [bX 16 54 [dV l.Durable, dV l.Pending, dV l.Count], aX 32 3 r.2], 64⟩) ?_)
   rintro v1 r0 hb1 hm
   rw [i_IsValidLog_L1] at hm
   refine rg G (Ok_seq (cd hm (fun hm => ?_) (fun hm => ?_)))
   ·refine X_skip (thN (Ok_seq (Ok_block ?_)))
    obtain ⟨e2, h4, hm⟩ := obind hm
    refine rs G (hD 0 h4 (hE 1 h4 h0)) ?_
    refine rg G (cd hm (fun hm => ?_) (fun hm => ?_))
    ·refine rg G ?_
     have hm := eL hm hb1 hr
     cases hm
     exact rt [] []
    ·exact X_skip (ibN (thN (rh G (wL G hm))))
   ·exact Ok_exit (thE (thE (ibE (wE G hm hb1))))
  rintro ⟨⟩ hm s hw
  refine thN (Ok_weak hw ?_)
  refine rg G ?_
  cases hm
  exact rt [] []
noncomputable def i_IsValidConsole_M : MS Console Bool := ⟨.r, i_IsValidConsole, fun y => dV y, fun _ => [], fun _ _ => []⟩
theorem i_IsValidConsole_c {c y} (hm : i_IsValidConsole c = some y) : i_IsValidConsole_M.C c y := i_IsValidConsole_M.c c hm
theorem i_IsValidConsole_ok : FnOK Tryz.prog tJ 18 i_IsValidConsole_M.S := by
 refine fm tt i_IsValidConsole_M [fo i_IsValidTimetable_ok, fo i_isChange_ok, fo i_IsValidLog_ok] Tryz.call18 Tryz.func18 rfl Tryz.results18 Tryz.ntmps18 ?_
 rintro c y cx G hm
 have hm : i_IsValidConsole c = some y := hm
 unfold i_IsValidConsole at hm
 refine rg G ?_
 obtain ⟨r, h, hm⟩ := obind hm
 refine jn hm (fun v => ⟨[(2, dV v)], [], 32⟩) (fun v hm => ?_) ?_
 ·rcases bf hm with ⟨hb, hm⟩ | ⟨hb, hm⟩
  ·obtain ⟨r1, h1, hm⟩ := obind hm
   rcases bf hm with ⟨hb1, hm⟩ | ⟨hb1, hm⟩
   ·obtain ⟨r2, h2, hm⟩ := obind hm
    refine re G (hC 2 (i_IsValidTimetable_c h) (hO 3 (.b true) (hP hb (hC 6 (i_isChange_c h1) (hO 8 (.b true) (hP hb1 (hC 11 (i_IsValidLog_c h2) h0))))))) ?_
    exact wJ G hm
   ·refine re G (hC 2 (i_IsValidTimetable_c h) (hO 3 (.b true) (hP hb (hC 6 (i_isChange_c h1) (hO 8 (.b false) (hP hb1 h0)))))) ?_
    exact wJ G hm
  ·refine re G (hC 2 (i_IsValidTimetable_c h) (hO 3 (.b false) (hP hb h0))) ?_
   exact wJ G hm
 rintro v hm
 cases hm
 exact rt [] []
noncomputable def strings_Builder_WriteString_M : MS ((List UInt8) × ByteArray) (Int × NilErr × (List UInt8)) := writeStringS 100 5
theorem strings_Builder_WriteString_c {b s y} (hm : strings_Builder_WriteString b s = some y) : strings_Builder_WriteString_M.C (b, s) y := strings_Builder_WriteString_M.c (b, s) hm
theorem strings_Builder_WriteString_ok : FnOK Tryz.prog tJ 65 strings_Builder_WriteString_M.S := writeStringOK Tryz.lays166 Tryz.Builder_Extra_166 Tryz.call65
noncomputable def strings_Builder_WriteByte_M : MS ((List UInt8) × UInt8) (NilErr × (List UInt8)) := writeByteS 100 5
theorem strings_Builder_WriteByte_c {b c y} (hm : strings_Builder_WriteByte b c = some y) : strings_Builder_WriteByte_M.C (b, c) y := strings_Builder_WriteByte_M.c (b, c) hm
theorem strings_Builder_WriteByte_ok : FnOK Tryz.prog tJ 66 strings_Builder_WriteByte_M.S := writeByteOK Tryz.lays167 Tryz.Builder_Extra_167 Tryz.call66
noncomputable def strings_Builder_String_M : MS ((List UInt8)) ByteArray := bldStringS 100 5
theorem strings_Builder_String_c {b y} (hm : strings_Builder_String b = some y) : strings_Builder_String_M.C b y := strings_Builder_String_M.c b hm
theorem strings_Builder_String_ok : FnOK Tryz.prog tJ 67 strings_Builder_String_M.S := bldStringOK Tryz.lays169 Tryz.Builder_Extra_169 Tryz.call67
noncomputable def i_formatNetwork_M : MS Network ByteArray := ⟨.r, i_formatNetwork, fun y => dV y, fun _ => [], fun _ _ => []⟩
theorem i_formatNetwork_c {n y} (hm : i_formatNetwork n = some y) : i_formatNetwork_M.C n y := i_formatNetwork_M.c n hm
theorem i_formatNetwork_ok : FnOK Tryz.prog tJ 29 i_formatNetwork_M.S := by
 refine fm tt i_formatNetwork_M [fo strings_Builder_WriteString_ok, fo strconv_Itoa_ok, fo strings_Builder_WriteByte_ok, fo strings_Builder_String_ok] Tryz.call29 Tryz.func29 rfl Tryz.results29 Tryz.ntmps29 ?_
 rintro n y cx G hm
 have hm : i_formatNetwork n = some y := hm
 unfold i_formatNetwork at hm
 refine rg G (rg G (Ok_seq (rs G (hN 2 n.Stops h0) ?_)))
 refine tl hm (fun v2 => ⟨[(1, .ref 16 0), (3, .ref 32 0)], [bX 16 27 [dV n.Stops, dV n.Lines], (32, some (.bld 100 5 v2 32))], 64⟩) (fun v2 hm => ?_) ?_
 ·refine Ok_block (lpP hm (fun (v, v1) => ⟨[(1, .ref 16 0), (3, .ref 32 0), (11, dV n.Stops), (12, dV (n.Stops.length : Int)), (13, dV v)], [bX 16 27 [dV n.Stops, dV n.Lines], (32, some (.bld 100 5 v1 32))], 64⟩) (Wk_J G.hL ⟨[(1, []), (3, []), (11, []), (12, []), (13, [])], [(16, 16, []), (32, 48, [.bd 5])], [], 64⟩ (by kernel_rfl)) ?_)
  rintro ⟨v, v1⟩ r0 hb hm
  rw [i_formatNetwork_L1] at hm
  refine rg G (Ok_seq (cd hm (fun hm => ?_) (fun hm => ?_)))
  ·refine X_skip (thN (Ok_seq (Ok_block ?_)))
   obtain ⟨e, h, hm⟩ := obind hm
   refine rs G (hD 0 h h0) ?_
   obtain ⟨u, h1, hm⟩ := obind hm
   obtain ⟨u1, h2, hm⟩ := obind hm
   obtain ⟨r, h3, hm⟩ := obind hm
   refine re G (hP (cat_p (chk_t h1)) (hP (cat_p (chk_t h2)) (hC 3 (strings_Builder_WriteString_c h3) h0))) ?_
   exact ibN (thN (rh G (wL G hm)))
  ·exact Ok_exit (thE (thE (ibE (wD G hm hb))))
 rintro v2 hm s hw
 refine thN (Ok_weak hw ?_)
 refine Ok_seq (rs G (hN 2 n.Lines h0) ?_)
 refine tl hm (fun v9 => ⟨[(3, .ref 16 0)], [(16, some (.bld 100 5 v9 16))], 48⟩) (fun v9 hm => ?_) ?_
 ·refine Ok_block (lp G hm (fun (v3, v4) => ⟨[(1, .ref 16 0), (3, .ref 32 0), (23, dV n.Lines), (24, dV (n.Lines.length : Int)), (25, dV v3)], [bX 16 27 [dV n.Stops, dV n.Lines], (32, some (.bld 100 5 v4 32))], 64⟩) ?_)
  rintro ⟨v3, v4⟩ r0 hb1 hm
  rw [i_formatNetwork_L3] at hm
  refine rg G (Ok_seq (cd hm (fun hm => ?_) (fun hm => ?_)))
  ·refine X_skip (thN (Ok_seq (Ok_block ?_)))
   obtain ⟨e1, h4, hm⟩ := obind hm
   refine rs G (hD 0 h4 h0) ?_
   obtain ⟨u2, h5, hm⟩ := obind hm
   obtain ⟨r1, h6, hm⟩ := obind hm
   refine rs G (hP (cat_p (chk_t h5)) (hC 3 (strings_Builder_WriteString_c h6) h0)) ?_
   refine Ok_seq (rs G (hN 2 e1.Stops h0) ?_)
   refine tl hm (fun v8 => ⟨[(1, .ref 16 0), (3, .ref 32 0), (23, dV n.Lines), (24, dV (n.Lines.length : Int)), (25, dV v3)], [bX 16 27 [dV n.Stops, dV n.Lines], (32, some (.bld 100 5 v8 32))], 64⟩) (fun v8 hm => ?_) ?_
   ·refine Ok_block (lp G hm (fun (v5, v6) => ⟨[(1, .ref 16 0), (3, .ref 32 0), (7, .ref 48 0), (23, dV n.Lines), (24, dV (n.Lines.length : Int)), (25, dV v3), (34, dV e1.Stops), (35, dV (e1.Stops.length : Int)), (36, dV v5)], [bX 16 27 [dV n.Stops, dV n.Lines], (32, some (.bld 100 5 v6 32)), bX 48 106 [dV e1.Name, dV e1.Stops, dV e1.Runs]], 80⟩) ?_)
    rintro ⟨v5, v6⟩ r0 hb2 hm
    rw [i_formatNetwork_L2] at hm
    refine rg G (Ok_seq (cd hm (fun hm => ?_) (fun hm => ?_)))
    ·refine X_skip (thN (Ok_seq (Ok_block ?_)))
     obtain ⟨e2, h7, hm⟩ := obind hm
     refine rs G (hD 1 h7 h0) ?_
     refine jn hm (fun v7 => ⟨[(1, .ref 16 0), (3, .ref 32 0), (7, .ref 48 0), (9, dV e2), (23, dV n.Lines), (24, dV (n.Lines.length : Int)), (25, dV v3), (34, dV e1.Stops), (35, dV (e1.Stops.length : Int)), (36, dV v5)], [bX 16 27 [dV n.Stops, dV n.Lines], (32, some (.bld 100 5 v7 32)), bX 48 106 [dV e1.Name, dV e1.Stops, dV e1.Runs]], 80⟩) (fun v7 hm => ?_) ?_
     ·refine rg G (cd hm (fun hm => ?_) (fun hm => ?_))
      ·obtain ⟨e3, h8, hm⟩ := obind hm
       obtain ⟨r2, h9, hm⟩ := obind hm
       obtain ⟨u3, h10, hm⟩ := obind hm
       obtain ⟨r3, h11, hm⟩ := obind hm
       refine re G (hD 4 h8 (hC 6 (strconv_Itoa_c h9) (hP (cat_p (chk_t h10)) (hC 8 (strings_Builder_WriteString_c h11) h0)))) ?_
       exact wJ G hm
      ·exact X_skip (wJ G hm)
     rintro v7 hm
     obtain ⟨e4, h12, hm⟩ := obind hm
     obtain ⟨u4, h13, hm⟩ := obind hm
     obtain ⟨r4, h14, hm⟩ := obind hm
     refine re G (hD 3 h12 (hP (cat_p (chk_t h13)) (hC 6 (strings_Builder_WriteString_c h14) h0))) ?_
     exact ibN (thN (rh G (wL G hm)))
    ·exact Ok_exit (thE (thE (ibE (wD G hm hb2))))
   rintro v8 hm s1 hw1
   refine thN (Ok_weak hw1 ?_)
   obtain ⟨r5, h15, hm⟩ := obind hm
   refine re G (hC 0 (strings_Builder_WriteByte_c h15) h0) ?_
   exact ibN (thN (rh G (wL G hm)))
  ·exact Ok_exit (thE (thE (ibE (wD G hm hb1))))
 rintro v9 hm s2 hw2
 refine thN (Ok_weak hw2 ?_)
 obtain ⟨r6, h16, hm⟩ := obind hm
 refine rs G (hC 0 (strings_Builder_String_c h16) h0) ?_
 cases hm
 exact rt [] []
noncomputable def i_lineOf_M : MS (Timetable × Trip) Line := ⟨.x .r .r, fun x => i_lineOf x.1 x.2, fun y => dV y, fun _ => [], fun _ _ => []⟩
theorem i_lineOf_c {t x y} (hm : i_lineOf t x = some y) : i_lineOf_M.C (t, x) y := i_lineOf_M.c (t, x) hm
theorem i_lineOf_ok : FnOK Tryz.prog tJ 91 i_lineOf_M.S := by
 refine fm tt i_lineOf_M [] Tryz.call91 Tryz.func91 rfl Tryz.results91 Tryz.ntmps91 ?_
 rintro ⟨t, x⟩ y cx G hm
 have hm : i_lineOf t x = some y := hm
 unfold i_lineOf at hm
 refine rg G ?_
 obtain ⟨e, h, hm⟩ := obind hm
 refine rs G (hD 5 h h0) ?_
 cases hm
 exact rt [] []
noncomputable def i_clockText_1_M : MS Int ByteArray := ⟨.r, i_clockText_1, fun y => dV y, fun _ => [], fun _ _ => []⟩
theorem i_clockText_1_c {n y} (hm : i_clockText_1 n = some y) : i_clockText_1_M.C n y := i_clockText_1_M.c n hm
theorem i_clockText_1_ok : FnOK Tryz.prog tJ 138 i_clockText_1_M.S := by
 refine fm tt i_clockText_1_M [] Tryz.call138 Tryz.func138 rfl Tryz.results138 Tryz.ntmps138 ?_
 rintro n y cx G hm
 have hm : i_clockText_1 n = some y := hm
 unfold i_clockText_1 at hm
 refine rg G ?_
 obtain ⟨u, h, hm⟩ := obind hm
 obtain ⟨u1, h1, hm⟩ := obind hm
 refine rs G (hK h (hO 3 (.n ((mkU8 (IntKind.u8.wrap ((w64 (48 + (w64 (n.tdiv 10))))))).toNat : Int)) (hP (u8w_m (w64 (48 + (w64 (n.tdiv 10))))) (hK h1 (hO 7 (.n ((mkU8 (IntKind.u8.wrap ((w64 (48 + (n.tmod 10)))))).toNat : Int)) (hP (u8w_m (w64 (48 + (n.tmod 10)))) (hO 9 (.s (bytS ([(mkU8 (IntKind.u8.wrap ((w64 (48 + (w64 (n.tdiv 10))))))), (mkU8 (IntKind.u8.wrap ((w64 (48 + (n.tmod 10))))))] : List UInt8))) (hP (byt_p ([(mkU8 (IntKind.u8.wrap ((w64 (48 + (w64 (n.tdiv 10))))))), (mkU8 (IntKind.u8.wrap ((w64 (48 + (n.tmod 10))))))] : List UInt8)) (hP (byt_m ([(mkU8 (IntKind.u8.wrap ((w64 (48 + (w64 (n.tdiv 10))))))), (mkU8 (IntKind.u8.wrap ((w64 (48 + (n.tmod 10))))))] : List UInt8)) h0))))))))) ?_
 cases hm
 exact rt [] []
noncomputable def i_clockText_M : MS Int ByteArray := ⟨.r, i_clockText, fun y => dV y, fun _ => [], fun _ _ => []⟩
theorem i_clockText_c {t y} (hm : i_clockText t = some y) : i_clockText_M.C t y := i_clockText_M.c t hm
theorem i_clockText_ok : FnOK Tryz.prog tJ 92 i_clockText_M.S := by
 refine fm tt i_clockText_M [fo i_clockText_1_ok] Tryz.call92 Tryz.func92 rfl Tryz.results92 Tryz.ntmps92 ?_
 rintro t y cx G hm
 have hm : i_clockText t = some y := hm
 unfold i_clockText at hm
 refine rg G (rg G ?_)
 obtain ⟨u, h, hm⟩ := obind hm
 obtain ⟨r, h1, hm⟩ := obind hm
 obtain ⟨u1, h2, hm⟩ := obind hm
 obtain ⟨u2, h3, hm⟩ := obind hm
 obtain ⟨r1, h4, hm⟩ := obind hm
 obtain ⟨u3, h5, hm⟩ := obind hm
 refine rs G (hK h (hC 3 (i_clockText_1_c h1) (hP (cat_p (chk_t h2)) (hK h3 (hC 8 (i_clockText_1_c h4) (hP (cat_p (chk_t h5)) h0)))))) ?_
 cases hm
 exact rt [] []
noncomputable def i_formatTimetable_M : MS Timetable ByteArray := ⟨.r, i_formatTimetable, fun y => dV y, fun _ => [], fun _ _ => []⟩
theorem i_formatTimetable_c {t y} (hm : i_formatTimetable t = some y) : i_formatTimetable_M.C t y := i_formatTimetable_M.c t hm
theorem i_formatTimetable_ok : FnOK Tryz.prog tJ 47 i_formatTimetable_M.S := by
 refine fm tt i_formatTimetable_M [fo i_formatNetwork_ok, fo strings_Builder_WriteString_ok, fo strconv_Itoa_ok, fo i_lineOf_ok, fo i_clockText_ok, fo strings_Builder_String_ok] Tryz.call47 Tryz.func47 rfl Tryz.results47 Tryz.ntmps47 ?_
 rintro t y cx G hm
 have hm : i_formatTimetable t = some y := hm
 unfold i_formatTimetable at hm
 refine rg G (rg G (Ok_weak (Wk_J (x' := (⟨[(1, .ref 16 0), (3, .ref 32 0)], [bX 16 30 [dV t.Network.Stops, dV t.Network.Lines, dV t.Trips], (32, some (.bld 100 5 ([] : List UInt8) 32))], 64⟩ : X)) G.hL ⟨[(1, []), (3, [])], [(16, 16, []), (32, 48, [.bd 5])], [], 64⟩ (by kernel_rfl)) ?_))
 obtain ⟨r, h, hm⟩ := obind hm
 obtain ⟨r1, h1, hm⟩ := obind hm
 refine rs G (hC 2 (i_formatNetwork_c h) (hC 3 (strings_Builder_WriteString_c h1) h0)) ?_
 refine Ok_seq (rs G (hN 2 t.Trips h0) ?_)
 refine tl hm (fun v2 => ⟨[(3, .ref 16 0)], [(16, some (.bld 100 5 v2 16))], 48⟩) (fun v2 hm => ?_) ?_
 ·refine Ok_block (lp G hm (fun (v, v1) => ⟨[(1, .ref 16 0), (3, .ref 32 0), (11, dV t.Trips), (12, dV (t.Trips.length : Int)), (13, dV v)], [bX 16 30 [dV t.Network.Stops, dV t.Network.Lines, dV t.Trips], (32, some (.bld 100 5 v1 32))], 64⟩) ?_)
  rintro ⟨v, v1⟩ r0 hb hm
  rw [i_formatTimetable_L1] at hm
  refine rg G (Ok_seq (cd hm (fun hm => ?_) (fun hm => ?_)))
  ·refine X_skip (thN (Ok_seq (Ok_block ?_)))
   obtain ⟨e, h2, hm⟩ := obind hm
   refine rs G (hD 0 h2 h0) ?_
   obtain ⟨r6, h13, hm⟩ := obind hm
   obtain ⟨u6, h14, hm⟩ := obind hm
   obtain ⟨u7, h15, hm⟩ := obind hm
   obtain ⟨r7, h16, hm⟩ := obind hm
   obtain ⟨u8, h17, hm⟩ := obind hm
   obtain ⟨u9, h18, hm⟩ := obind hm
   obtain ⟨r8, h19, hm⟩ := obind hm
   obtain ⟨u10, h20, hm⟩ := obind hm
   obtain ⟨u11, h21, hm⟩ := obind hm
   obtain ⟨r9, h22, hm⟩ := obind hm
   refine de G [(16, [32])] (hC 2 (strconv_Itoa_c h13) (hP (cat_p (chk_t h14)) (hP (cat_p (chk_t h15)) (hC 7 (i_lineOf_c h16) (hP (cat_p (chk_t h17)) (hP (cat_p (chk_t h18)) (hC 13 (i_clockText_c h19) (hP (cat_p (chk_t h20)) (hP (cat_p (chk_t h21)) (hC 16 (strings_Builder_WriteString_c h22) h0)))))))))) ?_
   exact ibN (thN (rh G (wL G hm)))
  ·exact Ok_exit (thE (thE (ibE (wD G hm hb))))
 rintro v2 hm s hw
 refine thN (Ok_weak hw ?_)
 obtain ⟨r10, h23, hm⟩ := obind hm
 refine rs G (hC 0 (strings_Builder_String_c h23) h0) ?_
 cases hm
 exact rt [] []
noncomputable def i_FormatConsole_M : MS Console (ByteArray × Bool) := ⟨.r, i_FormatConsole, fun y => .tup [dV y.1, dV y.2], fun _ => [], fun _ _ => []⟩
theorem i_FormatConsole_c {c y} (hm : i_FormatConsole c = some y) : i_FormatConsole_M.C c y := i_FormatConsole_M.c c hm
theorem i_FormatConsole_ok : FnOK Tryz.prog tJ 21 i_FormatConsole_M.S := by
 refine fm tt i_FormatConsole_M [fo i_IsValidConsole_ok, fo i_formatTimetable_ok, fo strconv_Itoa_ok] Tryz.call21 Tryz.func21 rfl Tryz.results21 Tryz.ntmps21 ?_
 rintro c y cx G hm
 have hm : i_FormatConsole c = some y := hm
 unfold i_FormatConsole at hm
 refine rg G (Ok_seq ?_)
 obtain ⟨r, h, hm⟩ := obind hm
 refine rs G (hC 1 (i_IsValidConsole_c h) h0) ?_
 refine cd hm (fun hm => ?_) (fun hm => ?_)
 ·refine rg G ?_
  cases hm
  exact rt [] []
 ·refine X_skip (thN ?_)
  obtain ⟨r3, h6, hm⟩ := obind hm
  obtain ⟨u3, h7, hm⟩ := obind hm
  obtain ⟨r4, h8, hm⟩ := obind hm
  obtain ⟨u4, h9, hm⟩ := obind hm
  obtain ⟨u5, h10, hm⟩ := obind hm
  refine ds G [] (hC 2 (i_formatTimetable_c h6) (hP (cat_p (chk_t h7)) (hC 6 (strconv_Itoa_c h8) (hP (cat_p (chk_t h9)) (hP (cat_p (chk_t h10)) h0))))) ?_
  cases hm
  exact rt [] []
noncomputable def v_eqStringS_M : MS ((List ByteArray) × (List ByteArray)) Bool := ⟨.x .r .r, fun x => v_eqStringS x.1 x.2, fun y => dV y, fun _ => [], fun _ _ => []⟩
theorem v_eqStringS_c {a b y} (hm : v_eqStringS a b = some y) : v_eqStringS_M.C (a, b) y := v_eqStringS_M.c (a, b) hm
theorem v_eqStringS_ok : FnOK Tryz.prog tJ 134 v_eqStringS_M.S := by
 refine fm tt v_eqStringS_M [] Tryz.call134 Tryz.func134 rfl Tryz.results134 Tryz.ntmps134 ?_
 rintro ⟨a, b⟩ y cx G hm
 have hm : v_eqStringS a b = some y := hm
 unfold v_eqStringS at hm
 refine rg G (Ok_seq (rs G (hN 1 a (hN 3 b h0)) ?_))
 refine cd hm (fun hm => ?_) (fun hm => ?_)
 ·refine rg G ?_
  cases hm
  exact rt [] []
 ·refine X_skip (thN (Ok_seq (rg G (tF hm (fun _ => ⟨[], [], 32⟩) (fun v1 hr hm => ?_) ?_))))
  ·refine Ok_block (lp G hm (fun v => ⟨[(0, dV a), (1, dV b), (5, dV v)], [], 32⟩) ?_)
   rintro v r0 hb hm
   rw [v_eqStringS_L1] at hm
   refine Ok_seq (rs G (hN 2 a h0) ?_)
   refine cd hm (fun hm => ?_) (fun hm => ?_)
   ·refine X_skip (thN (Ok_seq (Ok_block ?_)))
    obtain ⟨e2, h2, hm⟩ := obind hm
    obtain ⟨e3, h3, hm⟩ := obind hm
    refine ds G [] (hD 2 h2 (hD 6 h3 h0)) ?_
    refine cd hm (fun hm => ?_) (fun hm => ?_)
    ·refine rg G ?_
     have hm := eL hm hb hr
     cases hm
     exact rt [] []
    ·exact X_skip (ibN (thN (rh G (wL G hm))))
   ·exact Ok_exit (thE (thE (ibE (wE G hm hb))))
  rintro ⟨⟩ hm s hw
  refine thN (Ok_weak hw ?_)
  refine rg G ?_
  cases hm
  exact rt [] []
noncomputable def v_eqIntS_M : MS ((List Int) × (List Int)) Bool := ⟨.x .r .r, fun x => v_eqIntS x.1 x.2, fun y => dV y, fun _ => [], fun _ _ => []⟩
theorem v_eqIntS_c {a b y} (hm : v_eqIntS a b = some y) : v_eqIntS_M.C (a, b) y := v_eqIntS_M.c (a, b) hm
theorem v_eqIntS_ok : FnOK Tryz.prog tJ 182 v_eqIntS_M.S := by
 refine fm tt v_eqIntS_M [] Tryz.call182 Tryz.func182 rfl Tryz.results182 Tryz.ntmps182 ?_
 rintro ⟨a, b⟩ y cx G hm
 have hm : v_eqIntS a b = some y := hm
 unfold v_eqIntS at hm
 refine rg G (Ok_seq (rs G (hN 1 a (hN 3 b h0)) ?_))
 refine cd hm (fun hm => ?_) (fun hm => ?_)
 ·refine rg G ?_
  cases hm
  exact rt [] []
 ·refine X_skip (thN (Ok_seq (rg G (tF hm (fun _ => ⟨[], [], 32⟩) (fun v1 hr hm => ?_) ?_))))
  ·refine Ok_block (lp G hm (fun v => ⟨[(0, dV a), (1, dV b), (5, dV v)], [], 32⟩) ?_)
   rintro v r0 hb hm
   rw [v_eqIntS_L1] at hm
   refine Ok_seq (rs G (hN 2 a h0) ?_)
   refine cd hm (fun hm => ?_) (fun hm => ?_)
   ·refine X_skip (thN (Ok_seq (Ok_block ?_)))
    obtain ⟨e2, h2, hm⟩ := obind hm
    obtain ⟨e3, h3, hm⟩ := obind hm
    refine ds G [] (hD 2 h2 (hD 6 h3 h0)) ?_
    refine cd hm (fun hm => ?_) (fun hm => ?_)
    ·refine rg G ?_
     have hm := eL hm hb hr
     cases hm
     exact rt [] []
    ·exact X_skip (ibN (thN (rh G (wL G hm))))
   ·exact Ok_exit (thE (thE (ibE (wE G hm hb))))
  rintro ⟨⟩ hm s hw
  refine thN (Ok_weak hw ?_)
  refine rg G ?_
  cases hm
  exact rt [] []
noncomputable def v_eqLine_M : MS (Line × Line) Bool := ⟨.x .r .r, fun x => v_eqLine x.1 x.2, fun y => dV y, fun _ => [], fun _ _ => []⟩
theorem v_eqLine_c {a b y} (hm : v_eqLine a b = some y) : v_eqLine_M.C (a, b) y := v_eqLine_M.c (a, b) hm
theorem v_eqLine_ok : FnOK Tryz.prog tJ 166 v_eqLine_M.S := by
 refine fm tt v_eqLine_M [fo v_eqIntS_ok] Tryz.call166 Tryz.func166 rfl Tryz.results166 Tryz.ntmps166 ?_
 rintro ⟨a, b⟩ y cx G hm
 have hm : v_eqLine a b = some y := hm
 unfold v_eqLine at hm
 refine rg G (Ok_seq (rg G (cd hm (fun hm => ?_) (fun hm => ?_))))
 ·refine rg G ?_
  cases hm
  exact rt [] []
 ·refine X_skip (thN (Ok_seq ?_))
  obtain ⟨r, h, hm⟩ := obind hm
  refine rs G (hC 4 (v_eqIntS_c h) h0) ?_
  refine cd hm (fun hm => ?_) (fun hm => ?_)
  ·refine rg G ?_
   cases hm
   exact rt [] []
  ·refine X_skip (thN (Ok_seq ?_))
   obtain ⟨r1, h1, hm⟩ := obind hm
   refine rs G (hC 4 (v_eqIntS_c h1) h0) ?_
   refine cd hm (fun hm => ?_) (fun hm => ?_)
   ·refine rg G ?_
    cases hm
    exact rt [] []
   ·refine X_skip (thN (rg G ?_))
    cases hm
    exact rt [] []
noncomputable def v_eqLineS_M : MS ((List Line) × (List Line)) Bool := ⟨.x .r .r, fun x => v_eqLineS x.1 x.2, fun y => dV y, fun _ => [], fun _ _ => []⟩
theorem v_eqLineS_c {a b y} (hm : v_eqLineS a b = some y) : v_eqLineS_M.C (a, b) y := v_eqLineS_M.c (a, b) hm
theorem v_eqLineS_ok : FnOK Tryz.prog tJ 135 v_eqLineS_M.S := by
 refine fm tt v_eqLineS_M [fo v_eqLine_ok] Tryz.call135 Tryz.func135 rfl Tryz.results135 Tryz.ntmps135 ?_
 rintro ⟨a, b⟩ y cx G hm
 have hm : v_eqLineS a b = some y := hm
 unfold v_eqLineS at hm
 refine rg G (Ok_seq (rs G (hN 1 a (hN 3 b h0)) ?_))
 refine cd hm (fun hm => ?_) (fun hm => ?_)
 ·refine rg G ?_
  cases hm
  exact rt [] []
 ·refine X_skip (thN (Ok_seq (rg G (tF hm (fun _ => ⟨[], [], 32⟩) (fun v1 hr hm => ?_) ?_))))
  ·refine Ok_block (lp G hm (fun v => ⟨[(0, dV a), (1, dV b), (5, dV v)], [], 32⟩) ?_)
   rintro v r0 hb hm
   rw [v_eqLineS_L1] at hm
   refine Ok_seq (rs G (hN 2 a h0) ?_)
   refine cd hm (fun hm => ?_) (fun hm => ?_)
   ·refine X_skip (thN (Ok_seq (Ok_block ?_)))
    obtain ⟨e2, h3, hm⟩ := obind hm
    obtain ⟨e3, h4, hm⟩ := obind hm
    obtain ⟨r1, h5, hm⟩ := obind hm
    refine ds G [] (hD 2 h3 (hD 6 h4 (hC 8 (v_eqLine_c h5) h0))) ?_
    refine cd hm (fun hm => ?_) (fun hm => ?_)
    ·refine rg G ?_
     have hm := eL hm hb hr
     cases hm
     exact rt [] []
    ·exact X_skip (ibN (thN (rh G (wL G hm))))
   ·exact Ok_exit (thE (thE (ibE (wE G hm hb))))
  rintro ⟨⟩ hm s hw
  refine thN (Ok_weak hw ?_)
  refine rg G ?_
  cases hm
  exact rt [] []
noncomputable def v_eqNetwork_M : MS (Network × Network) Bool := ⟨.x .r .r, fun x => v_eqNetwork x.1 x.2, fun y => dV y, fun _ => [], fun _ _ => []⟩
theorem v_eqNetwork_c {a b y} (hm : v_eqNetwork a b = some y) : v_eqNetwork_M.C (a, b) y := v_eqNetwork_M.c (a, b) hm
theorem v_eqNetwork_ok : FnOK Tryz.prog tJ 87 v_eqNetwork_M.S := by
 refine fm tt v_eqNetwork_M [fo v_eqStringS_ok, fo v_eqLineS_ok] Tryz.call87 Tryz.func87 rfl Tryz.results87 Tryz.ntmps87 ?_
 rintro ⟨a, b⟩ y cx G hm
 have hm : v_eqNetwork a b = some y := hm
 unfold v_eqNetwork at hm
 refine rg G (Ok_seq ?_)
 obtain ⟨r, h, hm⟩ := obind hm
 refine rs G (hC 4 (v_eqStringS_c h) h0) ?_
 refine cd hm (fun hm => ?_) (fun hm => ?_)
 ·refine rg G ?_
  cases hm
  exact rt [] []
 ·refine X_skip (thN (Ok_seq ?_))
  obtain ⟨r1, h1, hm⟩ := obind hm
  refine rs G (hC 4 (v_eqLineS_c h1) h0) ?_
  refine cd hm (fun hm => ?_) (fun hm => ?_)
  ·refine rg G ?_
   cases hm
   exact rt [] []
  ·refine X_skip (thN (rg G ?_))
   cases hm
   exact rt [] []
noncomputable def v_eqTrip_M : MS (Trip × Trip) Bool := ⟨.x .r .r, fun x => v_eqTrip x.1 x.2, fun y => dV y, fun _ => [], fun _ _ => []⟩
theorem v_eqTrip_c {a b y} (hm : v_eqTrip a b = some y) : v_eqTrip_M.C (a, b) y := v_eqTrip_M.c (a, b) hm
theorem v_eqTrip_ok : FnOK Tryz.prog tJ 136 v_eqTrip_M.S := by
 refine fm tt v_eqTrip_M [] Tryz.call136 Tryz.func136 rfl Tryz.results136 Tryz.ntmps136 ?_
 rintro ⟨a, b⟩ y cx G hm
 have hm : v_eqTrip a b = some y := hm
 unfold v_eqTrip at hm
 refine rg G (Ok_seq (rg G (cd hm (fun hm => ?_) (fun hm => ?_))))
 ·refine rg G ?_
  cases hm
  exact rt [] []
 ·refine X_skip (thN (Ok_seq (rg G (cd hm (fun hm => ?_) (fun hm => ?_)))))
  ·refine rg G ?_
   cases hm
   exact rt [] []
  ·refine X_skip (thN (Ok_seq (rg G (cd hm (fun hm => ?_) (fun hm => ?_)))))
   ·refine rg G ?_
    cases hm
    exact rt [] []
   ·refine X_skip (thN (rg G ?_))
    cases hm
    exact rt [] []
noncomputable def v_eqTripS_M : MS ((List Trip) × (List Trip)) Bool := ⟨.x .r .r, fun x => v_eqTripS x.1 x.2, fun y => dV y, fun _ => [], fun _ _ => []⟩
theorem v_eqTripS_c {a b y} (hm : v_eqTripS a b = some y) : v_eqTripS_M.C (a, b) y := v_eqTripS_M.c (a, b) hm
theorem v_eqTripS_ok : FnOK Tryz.prog tJ 88 v_eqTripS_M.S := by
 refine fm tt v_eqTripS_M [fo v_eqTrip_ok] Tryz.call88 Tryz.func88 rfl Tryz.results88 Tryz.ntmps88 ?_
 rintro ⟨a, b⟩ y cx G hm
 have hm : v_eqTripS a b = some y := hm
 unfold v_eqTripS at hm
 refine rg G (Ok_seq (rs G (hN 1 a (hN 3 b h0)) ?_))
 refine cd hm (fun hm => ?_) (fun hm => ?_)
 ·refine rg G ?_
  cases hm
  exact rt [] []
 ·refine X_skip (thN (Ok_seq (rg G (tF hm (fun _ => ⟨[], [], 32⟩) (fun v1 hr hm => ?_) ?_))))
  ·refine Ok_block (lp G hm (fun v => ⟨[(0, dV a), (1, dV b), (5, dV v)], [], 32⟩) ?_)
   rintro v r0 hb hm
   rw [v_eqTripS_L1] at hm
   refine Ok_seq (rs G (hN 2 a h0) ?_)
   refine cd hm (fun hm => ?_) (fun hm => ?_)
   ·refine X_skip (thN (Ok_seq (Ok_block ?_)))
    obtain ⟨e2, h3, hm⟩ := obind hm
    obtain ⟨e3, h4, hm⟩ := obind hm
    obtain ⟨r1, h5, hm⟩ := obind hm
    refine ds G [] (hD 2 h3 (hD 6 h4 (hC 8 (v_eqTrip_c h5) h0))) ?_
    refine cd hm (fun hm => ?_) (fun hm => ?_)
    ·refine rg G ?_
     have hm := eL hm hb hr
     cases hm
     exact rt [] []
    ·exact X_skip (ibN (thN (rh G (wL G hm))))
   ·exact Ok_exit (thE (thE (ibE (wE G hm hb))))
  rintro ⟨⟩ hm s hw
  refine thN (Ok_weak hw ?_)
  refine rg G ?_
  cases hm
  exact rt [] []
noncomputable def v_eqTimetable_M : MS (Timetable × Timetable) Bool := ⟨.x .r .r, fun x => v_eqTimetable x.1 x.2, fun y => dV y, fun _ => [], fun _ _ => []⟩
theorem v_eqTimetable_c {a b y} (hm : v_eqTimetable a b = some y) : v_eqTimetable_M.C (a, b) y := v_eqTimetable_M.c (a, b) hm
theorem v_eqTimetable_ok : FnOK Tryz.prog tJ 43 v_eqTimetable_M.S := by
 refine fm tt v_eqTimetable_M [fo v_eqNetwork_ok, fo v_eqTripS_ok] Tryz.call43 Tryz.func43 rfl Tryz.results43 Tryz.ntmps43 ?_
 rintro ⟨a, b⟩ y cx G hm
 have hm : v_eqTimetable a b = some y := hm
 unfold v_eqTimetable at hm
 refine rg G (Ok_seq ?_)
 obtain ⟨r, h, hm⟩ := obind hm
 refine rs G (hC 4 (v_eqNetwork_c h) h0) ?_
 refine cd hm (fun hm => ?_) (fun hm => ?_)
 ·refine rg G ?_
  cases hm
  exact rt [] []
 ·refine X_skip (thN (Ok_seq ?_))
  obtain ⟨r1, h1, hm⟩ := obind hm
  refine rs G (hC 4 (v_eqTripS_c h1) h0) ?_
  refine cd hm (fun hm => ?_) (fun hm => ?_)
  ·refine rg G ?_
   cases hm
   exact rt [] []
  ·refine X_skip (thN (rg G ?_))
   cases hm
   exact rt [] []
noncomputable def v_eqLog_M : MS (Log × Log) Bool := ⟨.x .r .r, fun x => v_eqLog x.1 x.2, fun y => dV y, fun _ => [], fun _ _ => []⟩
theorem v_eqLog_c {a b y} (hm : v_eqLog a b = some y) : v_eqLog_M.C (a, b) y := v_eqLog_M.c (a, b) hm
theorem v_eqLog_ok : FnOK Tryz.prog tJ 44 v_eqLog_M.S := by
 refine fm tt v_eqLog_M [] Tryz.call44 Tryz.func44 rfl Tryz.results44 Tryz.ntmps44 ?_
 rintro ⟨a, b⟩ y cx G hm
 have hm : v_eqLog a b = some y := hm
 unfold v_eqLog at hm
 refine rg G (Ok_seq (rg G (cd hm (fun hm => ?_) (fun hm => ?_))))
 ·refine rg G ?_
  cases hm
  exact rt [] []
 ·refine X_skip (thN (Ok_seq (rg G (cd hm (fun hm => ?_) (fun hm => ?_)))))
  ·refine rg G ?_
   cases hm
   exact rt [] []
  ·refine X_skip (thN (Ok_seq (rg G (cd hm (fun hm => ?_) (fun hm => ?_)))))
   ·refine rg G ?_
    cases hm
    exact rt [] []
   ·refine X_skip (thN (rg G ?_))
    cases hm
    exact rt [] []
noncomputable def v_eqConsole_M : MS (Console × Console) Bool := ⟨.x .r .r, fun x => v_eqConsole x.1 x.2, fun y => dV y, fun _ => [], fun _ _ => []⟩
theorem v_eqConsole_c {a b y} (hm : v_eqConsole a b = some y) : v_eqConsole_M.C (a, b) y := v_eqConsole_M.c (a, b) hm
theorem v_eqConsole_ok : FnOK Tryz.prog tJ 19 v_eqConsole_M.S := by
 refine fm tt v_eqConsole_M [fo v_eqTimetable_ok, fo v_eqLog_ok] Tryz.call19 Tryz.func19 rfl Tryz.results19 Tryz.ntmps19 ?_
 rintro ⟨a, b⟩ y cx G hm
 have hm : v_eqConsole a b = some y := hm
 unfold v_eqConsole at hm
 refine rg G (Ok_seq ?_)
 obtain ⟨r, h, hm⟩ := obind hm
 refine rs G (hC 4 (v_eqTimetable_c h) h0) ?_
 refine cd hm (fun hm => ?_) (fun hm => ?_)
 ·refine rg G ?_
  cases hm
  exact rt [] []
 ·refine X_skip (thN (Ok_seq (rg G (cd hm (fun hm => ?_) (fun hm => ?_)))))
  ·refine rg G ?_
   cases hm
   exact rt [] []
  ·refine X_skip (thN (Ok_seq ?_))
   obtain ⟨r1, h1, hm⟩ := obind hm
   refine rs G (hC 4 (v_eqLog_c h1) h0) ?_
   refine cd hm (fun hm => ?_) (fun hm => ?_)
   ·refine rg G ?_
    cases hm
    exact rt [] []
   ·refine X_skip (thN (rg G ?_))
    cases hm
    exact rt [] []
noncomputable def v_FnExactFormatConsole_M : MS Console Bool := ⟨.r, v_FnExactFormatConsole, fun y => dV y, fun _ => [], fun _ _ => []⟩
theorem v_FnExactFormatConsole_c {aC y} (hm : v_FnExactFormatConsole aC = some y) : v_FnExactFormatConsole_M.C aC y := v_FnExactFormatConsole_M.c aC hm
theorem v_FnExactFormatConsole_ok : FnOK Tryz.prog tJ 5 v_FnExactFormatConsole_M.S := by
 refine fm tt v_FnExactFormatConsole_M [fo v_szConsole_ok, fo v_toConsole_ok, fo s_FormatConsole_ok, fo i_FormatConsole_ok, fo v_eqConsole_ok] Tryz.call5 Tryz.func5 rfl Tryz.results5 Tryz.ntmps5 ?_
 rintro aC y cx G hm
 have hm : v_FnExactFormatConsole aC = some y := hm
 unfold v_FnExactFormatConsole at hm
 refine rg G (rg G ?_)
 obtain ⟨r, h, hm⟩ := obind hm
 refine rs G (hC 2 (v_szConsole_c h) h0) ?_
 refine Ok_seq (rg G (cd hm (fun hm => ?_) (fun hm => ?_)))
 ·refine rg G ?_
  cases hm
  exact rt [] []
 ·refine X_skip (thN ?_)
  obtain ⟨r1, h1, hm⟩ := obind hm
  obtain ⟨r2, h2, hm⟩ := obind hm
  refine rs G (hC 1 (v_toConsole_c h1) (hC 2 (s_FormatConsole_c h2) h0)) ?_
  obtain ⟨r3, h3, hm⟩ := obind hm
  refine rs G (hC 1 (v_toConsole_c h3) h0) ?_
  obtain ⟨r4, h4, hm⟩ := obind hm
  refine rs G (hC 1 (i_FormatConsole_c h4) h0) ?_
  refine Ok_seq (jn hm (fun v => ⟨[(1, .ref 16 0), (6, .ref 32 0), (34, dV v)], [bX 16 51 [dV aC.Timetable.Network.Stops, dV aC.Timetable.Network.Lines, dV aC.Timetable.Trips, dV aC.Change, dV aC.Log.Durable, dV aC.Log.Pending, dV aC.Log.Count], bX 32 56 [.own 48, .own 64, .own 80, dV r3.Change, dV r3.Log.Durable, dV r3.Log.Pending, dV r3.Log.Count], aX 48 9 r3.Timetable.Network.Stops, tX 64 106 [none, some 3, some 3] r3.Timetable.Network.Lines 64 none, aX 80 71 r3.Timetable.Trips], 112⟩) (fun v hm => ?_) ?_)
  ·rcases bf hm with ⟨hb, hm⟩ | ⟨hb, hm⟩
   ·refine re G (hO 3 (.b true) (hP hb h0)) ?_
    exact wJ G hm
   ·refine re G (hO 3 (.b false) (hP hb h0)) ?_
    exact wJ G hm
  rintro v hm
  refine cd hm (fun hm => ?_) (fun hm => ?_)
  ·refine rg G ?_
   cases hm
   exact rt [] []
  ·refine X_skip (thN (Ok_seq ?_))
   obtain ⟨r7, h7, hm⟩ := obind hm
   obtain ⟨r8, h8, hm⟩ := obind hm
   refine ds G [] (hC 2 (v_toConsole_c h7) (hC 3 (v_eqConsole_c h8) h0)) ?_
   refine cd hm (fun hm => ?_) (fun hm => ?_)
   ·refine rg G ?_
    cases hm
    exact rt [] []
   ·refine X_skip (thN (rg G ?_))
    cases hm
    exact rt [] []
end Go.Proofs.YtpdjoidmbaaopaaGreatDoor
