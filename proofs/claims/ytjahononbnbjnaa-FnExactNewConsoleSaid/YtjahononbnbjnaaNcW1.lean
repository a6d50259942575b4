/- Each function computes what its model says. Made by program (dec.py). -/
import Derived.Test.YtjahononbnbjnaaTy
import Derived.Test.YtjahononbnbjnaaAbC
import Derived.Test.YtjahononbnbjnaaNcM
import Derived.Test.YtjahononbnbjnaaAbLd
namespace Go.Proofs.Ytjahononbnbjnaa
open Go Go.Ab
set_option maxRecDepth 100000
set_option maxHeartbeats 4000000
set_option linter.unusedVariables false
set_option linter.unusedSimpArgs false
theorem tt : TT Try.prog ty := ⟨by kernel_rfl, ty_ok⟩
abbrev tJ : Inv := .none
noncomputable def v_szStringS_M : MS ((List ByteArray) × Int) Int := ⟨.x .r .r, fun x => v_szStringS x.1 x.2, fun y => dV y, fun _ => [], fun _ _ => []⟩
theorem v_szStringS_c {a left y} (hm : v_szStringS a left = some y) : v_szStringS_M.C (a, left) y := v_szStringS_M.c (a, left) hm
theorem v_szStringS_ok : FnOK Try.prog tJ 156 v_szStringS_M.S := by
 refine fm tt v_szStringS_M [] Try.call156 Try.func156 rfl Try.results156 Try.ntmps156 ?_
 rintro ⟨a, left⟩ y cx G hm
 have hm : v_szStringS a left = some y := hm
 unfold v_szStringS at hm
 refine rg G (rs G (hN 2 a h0) ?_)
 refine Ok_seq (rg G (cd hm (fun hm => ?_) (fun hm => ?_)))
 ·refine rg G ?_
  cases hm
  exact rt [] []
 ·refine X_skip (thN (Ok_seq (rg G (tF hm (fun left2 => ⟨[(1, dV left2)], [], 32⟩) (fun v1 hr hm => ?_) ?_))))
  ·refine Ok_block (lp G hm (fun (left1, v) => ⟨[(0, dV a), (1, dV left1), (5, dV v)], [], 32⟩) ?_)
   rintro ⟨left1, v⟩ r0 hb hm
   rw [v_szStringS_L1] at hm
   refine Ok_seq (rs G (hN 2 a h0) ?_)
   refine cd hm (fun hm => ?_) (fun hm => ?_)
   ·refine X_skip (thN (Ok_seq (Ok_block ?_)))
    obtain ⟨e, h, hm⟩ := obind hm
    refine rs G (hD 3 h h0) ?_
    refine rg G (cd hm (fun hm => ?_) (fun hm => ?_))
    ·refine rg G ?_
     have hm := eL hm hb hr
     cases hm
     exact rt [] []
    ·exact X_skip (ibN (thN (rh G (wL G hm))))
   ·exact Ok_exit (thE (thE (ibE (wE G hm hb))))
  rintro left2 hm s hw
  refine thN (Ok_weak hw ?_)
  refine rg G ?_
  cases hm
  exact rt [] []
noncomputable def v_szIntS_M : MS ((List Int) × Int) Int := ⟨.x .r .r, fun x => v_szIntS x.1 x.2, fun y => dV y, fun _ => [], fun _ _ => []⟩
theorem v_szIntS_c {a left y} (hm : v_szIntS a left = some y) : v_szIntS_M.C (a, left) y := v_szIntS_M.c (a, left) hm
theorem v_szIntS_ok : FnOK Try.prog tJ 231 v_szIntS_M.S := by
 refine fm tt v_szIntS_M [] Try.call231 Try.func231 rfl Try.results231 Try.ntmps231 ?_
 rintro ⟨a, left⟩ y cx G hm
 have hm : v_szIntS a left = some y := hm
 unfold v_szIntS at hm
 refine rg G (rs G (hN 2 a h0) ?_)
 refine Ok_seq (rg G (cd hm (fun hm => ?_) (fun hm => ?_)))
 ·refine rg G ?_
  cases hm
  exact rt [] []
 ·refine X_skip (thN (rg G ?_))
  cases hm
  exact rt [] []
noncomputable def v_szLine_M : MS (Line × Int) Int := ⟨.x .r .r, fun x => v_szLine x.1 x.2, fun y => dV y, fun _ => [], fun _ _ => []⟩
theorem v_szLine_c {a left y} (hm : v_szLine a left = some y) : v_szLine_M.C (a, left) y := v_szLine_M.c (a, left) hm
theorem v_szLine_ok : FnOK Try.prog tJ 201 v_szLine_M.S := by
 refine fm tt v_szLine_M [fo v_szIntS_ok] Try.call201 Try.func201 rfl Try.results201 Try.ntmps201 ?_
 rintro ⟨a, left⟩ y cx G hm
 have hm : v_szLine a left = some y := hm
 unfold v_szLine at hm
 refine rg G (rg G (Ok_seq (rg G (cd hm (fun hm => ?_) (fun hm => ?_)))))
 ·refine rg G ?_
  cases hm
  exact rt [] []
 ·refine X_skip (thN ?_)
  obtain ⟨r, h, hm⟩ := obind hm
  refine rs G (hC 3 (v_szIntS_c h) h0) ?_
  refine Ok_seq (rg G (cd hm (fun hm => ?_) (fun hm => ?_)))
  ·refine rg G ?_
   cases hm
   exact rt [] []
  ·refine X_skip (thN ?_)
   obtain ⟨r1, h1, hm⟩ := obind hm
   refine rs G (hC 3 (v_szIntS_c h1) h0) ?_
   refine Ok_seq (rg G (cd hm (fun hm => ?_) (fun hm => ?_)))
   ·refine rg G ?_
    cases hm
    exact rt [] []
   ·refine X_skip (thN (rg G ?_))
    cases hm
    exact rt [] []
noncomputable def v_szLineS_M : MS ((List Line) × Int) Int := ⟨.x .r .r, fun x => v_szLineS x.1 x.2, fun y => dV y, fun _ => [], fun _ _ => []⟩
theorem v_szLineS_c {a left y} (hm : v_szLineS a left = some y) : v_szLineS_M.C (a, left) y := v_szLineS_M.c (a, left) hm
theorem v_szLineS_ok : FnOK Try.prog tJ 157 v_szLineS_M.S := by
 refine fm tt v_szLineS_M [fo v_szLine_ok] Try.call157 Try.func157 rfl Try.results157 Try.ntmps157 ?_
 rintro ⟨a, left⟩ y cx G hm
 have hm : v_szLineS a left = some y := hm
 unfold v_szLineS at hm
 refine rg G (rs G (hN 2 a h0) ?_)
 refine Ok_seq (rg G (cd hm (fun hm => ?_) (fun hm => ?_)))
 ·refine rg G ?_
  cases hm
  exact rt [] []
 ·refine X_skip (thN (Ok_seq (rg G (tF hm (fun left2 => ⟨[(1, dV left2)], [], 32⟩) (fun v1 hr hm => ?_) ?_))))
  ·refine Ok_block (lp G hm (fun (left1, v) => ⟨[(0, dV a), (1, dV left1), (5, dV v)], [], 32⟩) ?_)
   rintro ⟨left1, v⟩ r0 hb hm
   rw [v_szLineS_L1] at hm
   refine Ok_seq (rs G (hN 2 a h0) ?_)
   refine cd hm (fun hm => ?_) (fun hm => ?_)
   ·refine X_skip (thN (Ok_seq (Ok_block ?_)))
    obtain ⟨e, h, hm⟩ := obind hm
    obtain ⟨r, h1, hm⟩ := obind hm
    refine rs G (hD 2 h (hC 5 (v_szLine_c h1) h0)) ?_
    refine rg G (cd hm (fun hm => ?_) (fun hm => ?_))
    ·refine rg G ?_
     have hm := eL hm hb hr
     cases hm
     exact rt [] []
    ·exact X_skip (ibN (thN (rh G (wL G hm))))
   ·exact Ok_exit (thE (thE (ibE (wE G hm hb))))
  rintro left2 hm s hw
  refine thN (Ok_weak hw ?_)
  refine rg G ?_
  cases hm
  exact rt [] []
noncomputable def v_szNetwork_M : MS (Network × Int) Int := ⟨.x .r .r, fun x => v_szNetwork x.1 x.2, fun y => dV y, fun _ => [], fun _ _ => []⟩
theorem v_szNetwork_c {a left y} (hm : v_szNetwork a left = some y) : v_szNetwork_M.C (a, left) y := v_szNetwork_M.c (a, left) hm
theorem v_szNetwork_ok : FnOK Try.prog tJ 92 v_szNetwork_M.S := by
 refine fm tt v_szNetwork_M [fo v_szStringS_ok, fo v_szLineS_ok] Try.call92 Try.func92 rfl Try.results92 Try.ntmps92 ?_
 rintro ⟨a, left⟩ y cx G hm
 have hm : v_szNetwork a left = some y := hm
 unfold v_szNetwork at hm
 refine rg G ?_
 obtain ⟨r, h, hm⟩ := obind hm
 refine rs G (hC 3 (v_szStringS_c h) h0) ?_
 refine Ok_seq (rg G (cd hm (fun hm => ?_) (fun hm => ?_)))
 ·refine rg G ?_
  cases hm
  exact rt [] []
 ·refine X_skip (thN ?_)
  obtain ⟨r1, h1, hm⟩ := obind hm
  refine rs G (hC 3 (v_szLineS_c h1) h0) ?_
  refine Ok_seq (rg G (cd hm (fun hm => ?_) (fun hm => ?_)))
  ·refine rg G ?_
   cases hm
   exact rt [] []
  ·refine X_skip (thN (rg G ?_))
   cases hm
   exact rt [] []
noncomputable def v_szTripS_M : MS ((List Trip) × Int) Int := ⟨.x .r .r, fun x => v_szTripS x.1 x.2, fun y => dV y, fun _ => [], fun _ _ => []⟩
theorem v_szTripS_c {a left y} (hm : v_szTripS a left = some y) : v_szTripS_M.C (a, left) y := v_szTripS_M.c (a, left) hm
theorem v_szTripS_ok : FnOK Try.prog tJ 93 v_szTripS_M.S := by
 refine fm tt v_szTripS_M [] Try.call93 Try.func93 rfl Try.results93 Try.ntmps93 ?_
 rintro ⟨a, left⟩ y cx G hm
 have hm : v_szTripS a left = some y := hm
 unfold v_szTripS at hm
 refine rg G (rs G (hN 2 a h0) ?_)
 refine Ok_seq (rg G (cd hm (fun hm => ?_) (fun hm => ?_)))
 ·refine rg G ?_
  cases hm
  exact rt [] []
 ·refine X_skip (thN (rg G ?_))
  cases hm
  exact rt [] []
noncomputable def v_szTimetable_M : MS (Timetable × Int) Int := ⟨.x .r .r, fun x => v_szTimetable x.1 x.2, fun y => dV y, fun _ => [], fun _ _ => []⟩
theorem v_szTimetable_c {a left y} (hm : v_szTimetable a left = some y) : v_szTimetable_M.C (a, left) y := v_szTimetable_M.c (a, left) hm
theorem v_szTimetable_ok : FnOK Try.prog tJ 25 v_szTimetable_M.S := by
 refine fm tt v_szTimetable_M [fo v_szNetwork_ok, fo v_szTripS_ok] Try.call25 Try.func25 rfl Try.results25 Try.ntmps25 ?_
 rintro ⟨a, left⟩ y cx G hm
 have hm : v_szTimetable a left = some y := hm
 unfold v_szTimetable at hm
 refine rg G ?_
 obtain ⟨r, h, hm⟩ := obind hm
 refine rs G (hC 3 (v_szNetwork_c h) h0) ?_
 refine Ok_seq (rg G (cd hm (fun hm => ?_) (fun hm => ?_)))
 ·refine rg G ?_
  cases hm
  exact rt [] []
 ·refine X_skip (thN ?_)
  obtain ⟨r1, h1, hm⟩ := obind hm
  refine rs G (hC 3 (v_szTripS_c h1) h0) ?_
  refine Ok_seq (rg G (cd hm (fun hm => ?_) (fun hm => ?_)))
  ·refine rg G ?_
   cases hm
   exact rt [] []
  ·refine X_skip (thN (rg G ?_))
   cases hm
   exact rt [] []
noncomputable def v_toStringS_M : MS ((List ByteArray)) ((List ByteArray)) := ⟨.r, v_toStringS, fun _ => .own 0, fun y => [arO 9 y], fun _ _ => []⟩
theorem v_toStringS_c {a y} (hm : v_toStringS a = some y) : v_toStringS_M.C a y := v_toStringS_M.c a hm
theorem v_toStringS_ok : FnOK Try.prog tJ 162 v_toStringS_M.S := by
 refine fm tt v_toStringS_M [] Try.call162 Try.func162 rfl Try.results162 Try.ntmps162 ?_
 rintro a y cx G hm
 have hm : v_toStringS a = some y := hm
 unfold v_toStringS at hm
 refine rg G ?_
 obtain ⟨u, h, hm⟩ := obind hm
 refine rs G (hN 1 a (hO 2 (.l (List.map Enc.e (List.replicate (a.length : Int).toNat (ByteArray.empty : ByteArray)))) (hP (mk_p (b := 16) (chk_t h) rfl) (hP (rep_m Enc.e (a.length : Int).toNat (ByteArray.empty : ByteArray)) h0)))) ?_
 refine Ok_seq (rg G (tl hm (fun i1 => ⟨[(3, .own 16)], [aX 16 9 i1], 48⟩) (fun i1 hm => ?_) ?_))
 ·refine Ok_block (lp G hm (fun (v, i) => ⟨[(0, dV a), (3, .own 16), (4, dV v)], [aX 16 9 i], 48⟩) ?_)
  rintro ⟨v, i⟩ r0 hb hm
  rw [v_toStringS_L1] at hm
  refine Ok_seq (rs G (hN 2 a h0) ?_)
  refine cd hm (fun hm => ?_) (fun hm => ?_)
  ·refine X_skip (thN (Ok_seq (Ok_block ?_)))
   obtain ⟨e, h1, hm⟩ := obind hm
   obtain ⟨e1, h2, hm⟩ := obind hm
   refine re G (hD 4 h1 (hD 6 h2 (hS 7 h2 e h0))) ?_
   exact ibN (thN (rh G (wL G hm)))
  ·exact Ok_exit (thE (thE (ibE (wD G hm hb))))
 rintro i1 hm s hw
 refine thN (Ok_weak hw ?_)
 refine rg G ?_
 cases hm
 exact rt [16] []
noncomputable def v_toIntS_M : MS ((List Int)) ((List Int)) := ⟨.r, v_toIntS, fun _ => .own 0, fun y => [arO 3 y], fun _ _ => []⟩
theorem v_toIntS_c {a y} (hm : v_toIntS a = some y) : v_toIntS_M.C a y := v_toIntS_M.c a hm
theorem v_toIntS_ok : FnOK Try.prog tJ 233 v_toIntS_M.S := by
 refine fm tt v_toIntS_M [] Try.call233 Try.func233 rfl Try.results233 Try.ntmps233 ?_
 rintro a y cx G hm
 have hm : v_toIntS a = some y := hm
 unfold v_toIntS at hm
 refine rg G ?_
 obtain ⟨u, h, hm⟩ := obind hm
 refine rs G (hN 1 a (hO 2 (.l (List.map Enc.e (List.replicate (a.length : Int).toNat (0 : Int)))) (hP (mk_p (b := 8) (chk_t h) rfl) (hP (rep_m Enc.e (a.length : Int).toNat (0 : Int)) h0)))) ?_
 refine Ok_seq (rg G (tl hm (fun i1 => ⟨[(3, .own 16)], [aX 16 3 i1], 48⟩) (fun i1 hm => ?_) ?_))
 ·refine Ok_block (lp G hm (fun (v, i) => ⟨[(0, dV a), (3, .own 16), (4, dV v)], [aX 16 3 i], 48⟩) ?_)
  rintro ⟨v, i⟩ r0 hb hm
  rw [v_toIntS_L1] at hm
  refine Ok_seq (rs G (hN 2 a h0) ?_)
  refine cd hm (fun hm => ?_) (fun hm => ?_)
  ·refine X_skip (thN (Ok_seq (Ok_block ?_)))
   obtain ⟨e, h1, hm⟩ := obind hm
   obtain ⟨e1, h2, hm⟩ := obind hm
   refine re G (hD 4 h1 (hD 6 h2 (hS 7 h2 e h0))) ?_
   exact ibN (thN (rh G (wL G hm)))
  ·exact Ok_exit (thE (thE (ibE (wD G hm hb))))
 rintro i1 hm s hw
 refine thN (Ok_weak hw ?_)
 refine rg G ?_
 cases hm
 exact rt [16] []
noncomputable def v_toLine_M : MS Line Line := ⟨.r, v_toLine, fun y => .aggv [dV y.Name, .own 0, .own 1], fun y => [arO 3 y.Stops, arO 3 y.Runs], fun _ _ => []⟩
theorem v_toLine_c {a y} (hm : v_toLine a = some y) : v_toLine_M.C a y := v_toLine_M.c a hm
theorem v_toLine_ok : FnOK Try.prog tJ 208 v_toLine_M.S := by
 refine fm tt v_toLine_M [fo v_toIntS_ok] Try.call208 Try.func208 rfl Try.results208 Try.ntmps208 ?_
 rintro a y cx G hm
 have hm : v_toLine a = some y := hm
 unfold v_toLine at hm
 refine rg G (rg G (rg G ?_))
 obtain ⟨r, h, hm⟩ := obind hm
 refine rs G (hC 2 (v_toIntS_c h) h0) ?_
 obtain ⟨r1, h1, hm⟩ := obind hm
 refine rs G (hC 2 (v_toIntS_c h1) h0) ?_
 refine rg G ?_
 cases hm
 exact rt [160, 240] []
noncomputable def v_toLineS_M : MS ((List Line)) ((List Line)) := ⟨.r, v_toLineS, fun _ => .own 0, fun y => [taO 194 [none, some 3, some 3] y], fun _ _ => []⟩
theorem v_toLineS_c {a y} (hm : v_toLineS a = some y) : v_toLineS_M.C a y := v_toLineS_M.c a hm
theorem v_toLineS_ok : FnOK Try.prog tJ 163 v_toLineS_M.S := by
 refine fm tt v_toLineS_M [fo v_toLine_ok] Try.call163 Try.func163 rfl Try.results163 Try.ntmps163 ?_
 rintro a y cx G hm
 have hm : v_toLineS a = some y := hm
 unfold v_toLineS at hm
 refine rg G ?_
 obtain ⟨u, h, hm⟩ := obind hm
 refine rs G (hN 1 a (hO 2 (.l (List.map Enc.e (List.replicate (a.length : Int).toNat ((⟨ByteArray.empty, ([] : List Int), ([] : List Int)⟩ : Line) : Line)))) (hP (mk_p (b := 64) (chk_t h) rfl) (hP (rep_m Enc.e (a.length : Int).toNat ((⟨ByteArray.empty, ([] : List Int), ([] : List Int)⟩ : Line) : Line)) h0)))) ?_
 refine Ok_seq (rg G (tl hm (fun i1 => ⟨[(3, .own 16)], [tX 16 194 [none, some 3, some 3] i1 16 none], 48⟩) (fun i1 hm => ?_) ?_))
 ·refine Ok_block (lp G hm (fun (v, i) => ⟨[(0, dV a), (3, .own 16), (4, dV v)], [tX 16 194 [none, some 3, some 3] i 16 none], 48⟩) ?_)
  rintro ⟨v, i⟩ r0 hb hm
  rw [v_toLineS_L1] at hm
  refine Ok_seq (rs G (hN 2 a h0) ?_)
  refine cd hm (fun hm => ?_) (fun hm => ?_)
  ·refine X_skip (thN (Ok_seq (Ok_block ?_)))
   obtain ⟨e, h1, hm⟩ := obind hm
   obtain ⟨r, h2, hm⟩ := obind hm
   obtain ⟨e1, h3, hm⟩ := obind hm
   refine re G (hD 4 h1 (hC 6 (v_toLine_c h2) (hD 7 h3 (hS 8 h3 r h0)))) ?_
   exact ibN (thN (rh G (wL G hm)))
  ·exact Ok_exit (thE (thE (ibE (wD G hm hb))))
 rintro i1 hm s hw
 refine thN (Ok_weak hw ?_)
 refine rg G ?_
 cases hm
 exact rt [16] []
noncomputable def v_toNetwork_M : MS Network Network := ⟨.r, v_toNetwork, fun _ => .aggv [.own 0, .own 1], fun y => [arO 9 y.Stops, taO 194 [none, some 3, some 3] y.Lines], fun _ _ => []⟩
theorem v_toNetwork_c {a y} (hm : v_toNetwork a = some y) : v_toNetwork_M.C a y := v_toNetwork_M.c a hm
theorem v_toNetwork_ok : FnOK Try.prog tJ 96 v_toNetwork_M.S := by
 refine fm tt v_toNetwork_M [fo v_toStringS_ok, fo v_toLineS_ok] Try.call96 Try.func96 rfl Try.results96 Try.ntmps96 ?_
 rintro a y cx G hm
 have hm : v_toNetwork a = some y := hm
 unfold v_toNetwork at hm
 refine rg G (rg G ?_)
 obtain ⟨r, h, hm⟩ := obind hm
 refine rs G (hC 2 (v_toStringS_c h) h0) ?_
 obtain ⟨r1, h1, hm⟩ := obind hm
 refine rs G (hC 2 (v_toLineS_c h1) h0) ?_
 refine rg G ?_
 cases hm
 exact rt [96, 176] []
noncomputable def v_toTrip_M : MS Trip Trip := ⟨.r, v_toTrip, fun y => dV y, fun _ => [], fun _ _ => []⟩
theorem v_toTrip_c {a y} (hm : v_toTrip a = some y) : v_toTrip_M.C a y := v_toTrip_M.c a hm
theorem v_toTrip_ok : FnOK Try.prog tJ 164 v_toTrip_M.S := by
 refine fm tt v_toTrip_M [] Try.call164 Try.func164 rfl Try.results164 Try.ntmps164 ?_
 rintro a y cx G hm
 have hm : v_toTrip a = some y := hm
 unfold v_toTrip at hm
 refine rg G (rg G (rg G (rg G (rg G (rg G ?_)))))
 cases hm
 exact rt [] []
noncomputable def v_toTripS_M : MS ((List Trip)) ((List Trip)) := ⟨.r, v_toTripS, fun _ => .own 0, fun y => [arO 168 y], fun _ _ => []⟩
theorem v_toTripS_c {a y} (hm : v_toTripS a = some y) : v_toTripS_M.C a y := v_toTripS_M.c a hm
theorem v_toTripS_ok : FnOK Try.prog tJ 97 v_toTripS_M.S := by
 refine fm tt v_toTripS_M [fo v_toTrip_ok] Try.call97 Try.func97 rfl Try.results97 Try.ntmps97 ?_
 rintro a y cx G hm
 have hm : v_toTripS a = some y := hm
 unfold v_toTripS at hm
 refine rg G ?_
 obtain ⟨u, h, hm⟩ := obind hm
 refine rs G (hN 1 a (hO 2 (.l (List.map Enc.e (List.replicate (a.length : Int).toNat ((⟨0, 0, 0⟩ : Trip) : Trip)))) (hP (mk_p (b := 24) (chk_t h) rfl) (hP (rep_m Enc.e (a.length : Int).toNat ((⟨0, 0, 0⟩ : Trip) : Trip)) h0)))) ?_
 refine Ok_seq (rg G (tl hm (fun i1 => ⟨[(3, .own 16)], [aX 16 168 i1], 48⟩) (fun i1 hm => ?_) ?_))
 ·refine Ok_block (lp G hm (fun (v, i) => ⟨[(0, dV a), (3, .own 16), (4, dV v)], [aX 16 168 i], 48⟩) ?_)
  rintro ⟨v, i⟩ r0 hb hm
  rw [v_toTripS_L1] at hm
  refine Ok_seq (rs G (hN 2 a h0) ?_)
  refine cd hm (fun hm => ?_) (fun hm => ?_)
  ·refine X_skip (thN (Ok_seq (Ok_block ?_)))
   obtain ⟨e, h1, hm⟩ := obind hm
   obtain ⟨r, h2, hm⟩ := obind hm
   obtain ⟨e1, h3, hm⟩ := obind hm
   refine re G (hD 4 h1 (hC 6 (v_toTrip_c h2) (hD 7 h3 (hS 8 h3 r h0)))) ?_
   exact ibN (thN (rh G (wL G hm)))
  ·exact Ok_exit (thE (thE (ibE (wD G hm hb))))
 rintro i1 hm s hw
 refine thN (Ok_weak hw ?_)
 refine rg G ?_
 cases hm
 exact rt [16] []
noncomputable def v_toTimetable_M : MS Timetable Timetable := ⟨.r, v_toTimetable, fun _ => .aggv [.own 0, .own 1, .own 2], fun y => [arO 9 y.Network.Stops, taO 194 [none, some 3, some 3] y.Network.Lines, arO 168 y.Trips], fun _ _ => []⟩
theorem v_toTimetable_c {a y} (hm : v_toTimetable a = some y) : v_toTimetable_M.C a y := v_toTimetable_M.c a hm
theorem v_toTimetable_ok : FnOK Try.prog tJ 27 v_toTimetable_M.S := by
 refine fm tt v_toTimetable_M [fo v_toNetwork_ok, fo v_toTripS_ok] Try.call27 Try.func27 rfl Try.results27 Try.ntmps27 ?_
 rintro a y cx G hm
 have hm : v_toTimetable a = some y := hm
 unfold v_toTimetable at hm
 refine rg G (rg G ?_)
 obtain ⟨r, h, hm⟩ := obind hm
 refine rs G (hC 2 (v_toNetwork_c h) h0) ?_
 obtain ⟨r1, h1, hm⟩ := obind hm
 refine rs G (hC 2 (v_toTripS_c h1) h0) ?_
 refine rg G ?_
 cases hm
 exact rt [96, 97, 176] []
noncomputable def s_l1In_M : MS (Int × Int × Int) Bool := ⟨.x .r (.x .r .r), fun x => s_l1In x.1 x.2.1 x.2.2, fun y => dV y, fun _ => [], fun _ _ => []⟩
theorem s_l1In_c {x a b y} (hm : s_l1In x a b = some y) : s_l1In_M.C (x, a, b) y := s_l1In_M.c (x, a, b) hm
theorem s_l1In_ok : FnOK Try.prog tJ 146 s_l1In_M.S := by
 refine fm tt s_l1In_M [] Try.call146 Try.func146 rfl Try.results146 Try.ntmps146 ?_
 rintro ⟨x, a, b⟩ y cx G hm
 have hm : s_l1In x a b = some y := hm
 unfold s_l1In at hm
 refine rg G (jn hm (fun v => ⟨[(6, dV v)], [], 32⟩) (fun v hm => ?_) ?_)
 ·rcases bf hm with ⟨hb, hm⟩ | ⟨hb, hm⟩
  ·refine re G (hO 3 (.b true) (hP hb h0)) ?_
   exact wJ G hm
  ·refine re G (hO 3 (.b false) (hP hb h0)) ?_
   exact wJ G hm
 rintro v hm
 cases hm
 exact rt [] []
noncomputable def s_l2Name_M : MS ByteArray Bool := ⟨.r, s_l2Name, fun y => dV y, fun _ => [], fun _ _ => []⟩
theorem s_l2Name_c {s y} (hm : s_l2Name s = some y) : s_l2Name_M.C s y := s_l2Name_M.c s hm
theorem s_l2Name_ok : FnOK Try.prog tJ 202 s_l2Name_M.S := by
 refine fm tt s_l2Name_M [fo s_l1In_ok] Try.call202 Try.func202 rfl Try.results202 Try.ntmps202 ?_
 rintro s y cx G hm
 have hm : s_l2Name s = some y := hm
 unfold s_l2Name at hm
 refine rg G (Ok_seq ?_)
 obtain ⟨r, h, hm⟩ := obind hm
 refine jn hm (fun v => ⟨[(0, dV s), (17, dV v)], [], 32⟩) (fun v hm => ?_) ?_
 ·rcases bf hm with ⟨hb, hm⟩ | ⟨hb, hm⟩
  ·refine re G (hC 2 (s_l1In_c h) (hO 4 (.b true) (hP hb h0))) ?_
   exact wJ G hm
  ·obtain ⟨u, h1, hm⟩ := obind hm
   rcases bf hm with ⟨hb1, hm⟩ | ⟨hb1, hm⟩
   ·refine re G (hC 2 (s_l1In_c h) (hO 4 (.b false) (hP hb (hK h1 (hO 9 (.b true) (hP hb1 h0)))))) ?_
    exact wJ G hm
   ·obtain ⟨u1, h2, hm⟩ := obind hm
    refine re G (hC 2 (s_l1In_c h) (hO 4 (.b false) (hP hb (hK h1 (hO 9 (.b false) (hP hb1 (hK h2 h0))))))) ?_
    exact wJ G hm
 rintro v hm
 refine cd hm (fun hm => ?_) (fun hm => ?_)
 ·refine rg G ?_
  cases hm
  exact rt [] []
 ·refine X_skip (thN (Ok_seq (rg G (tF hm (fun _ => ⟨[], [], 32⟩) (fun v3 hr hm => ?_) ?_))))
  ·refine Ok_block (lp G hm (fun v1 => ⟨[(0, dV s), (3, dV v1)], [], 32⟩) ?_)
   rintro v1 r0 hb2 hm
   rw [s_l2Name_L1] at hm
   refine Ok_seq (rg G (cd hm (fun hm => ?_) (fun hm => ?_)))
   ·refine X_skip (thN (Ok_seq (Ok_block ?_)))
    obtain ⟨u2, h3, hm⟩ := obind hm
    refine jn hm (fun v2 => ⟨[(0, dV s), (3, dV v1), (45, dV v2)], [], 32⟩) (fun v2 hm => ?_) ?_
    ·rcases bf hm with ⟨hb3, hm⟩ | ⟨hb3, hm⟩
     ·obtain ⟨u3, h4, hm⟩ := obind hm
      rcases bf hm with ⟨hb4, hm⟩ | ⟨hb4, hm⟩
      ·refine re G (hK h3 (hO 4 (.b true) (hP hb3 (hK h4 (hO 15 (.b true) (hP hb4 h0)))))) ?_
       exact wJ G hm
      ·obtain ⟨u4, h5, hm⟩ := obind hm
       refine re G (hK h3 (hO 4 (.b true) (hP hb3 (hK h4 (hO 15 (.b false) (hP hb4 (hK h5 h0))))))) ?_
       exact wJ G hm
     ·obtain ⟨u5, h6, hm⟩ := obind hm
      rcases bf hm with ⟨hb5, hm⟩ | ⟨hb5, hm⟩
      ·obtain ⟨u6, h7, hm⟩ := obind hm
       rcases bf hm with ⟨hb6, hm⟩ | ⟨hb6, hm⟩
       ·refine re G (hK h3 (hO 4 (.b false) (hP hb3 (hK h6 (hO 10 (.b true) (hP hb5 (hK h7 (hO 15 (.b true) (hP hb6 h0))))))))) ?_
        exact wJ G hm
       ·obtain ⟨u7, h8, hm⟩ := obind hm
        refine re G (hK h3 (hO 4 (.b false) (hP hb3 (hK h6 (hO 10 (.b true) (hP hb5 (hK h7 (hO 15 (.b false) (hP hb6 (hK h8 h0)))))))))) ?_
        exact wJ G hm
      ·refine re G (hK h3 (hO 4 (.b false) (hP hb3 (hK h6 (hO 10 (.b false) (hP hb5 h0)))))) ?_
       exact wJ G hm
    rintro v2 hm
    refine cd hm (fun hm => ?_) (fun hm => ?_)
    ·refine rg G ?_
     have hm := eL hm hb2 hr
     cases hm
     exact rt [] []
    ·exact X_skip (ibN (thN (rh G (wL G hm))))
   ·exact Ok_exit (thE (thE (ibE (wE G hm hb2))))
  rintro ⟨⟩ hm s1 hw
  refine thN (Ok_weak hw ?_)
  refine rg G ?_
  cases hm
  exact rt [] []
noncomputable def s_l2Find_M : MS ((List ByteArray) × ByteArray) Int := ⟨.x .r .r, fun x => s_l2Find x.1 x.2, fun y => dV y, fun _ => [], fun _ _ => []⟩
theorem s_l2Find_c {list name y} (hm : s_l2Find list name = some y) : s_l2Find_M.C (list, name) y := s_l2Find_M.c (list, name) hm
theorem s_l2Find_ok : FnOK Try.prog tJ 203 s_l2Find_M.S := by
 refine fm tt s_l2Find_M [] Try.call203 Try.func203 rfl Try.results203 Try.ntmps203 ?_
 rintro ⟨list, name⟩ y cx G hm
 have hm : s_l2Find list name = some y := hm
 unfold s_l2Find at hm
 refine rg G (Ok_seq (rg G (tF hm (fun _ => ⟨[], [], 32⟩) (fun v1 hr hm => ?_) ?_)))
 ·refine Ok_block (lp G hm (fun v => ⟨[(0, dV list), (1, dV name), (5, dV v)], [], 32⟩) ?_)
  rintro v r0 hb hm
  rw [s_l2Find_L1] at hm
  refine Ok_seq (rs G (hN 2 list h0) ?_)
  refine cd hm (fun hm => ?_) (fun hm => ?_)
  ·refine X_skip (thN (Ok_seq (Ok_block ?_)))
   obtain ⟨e, h, hm⟩ := obind hm
   refine rs G (hD 2 h h0) ?_
   refine cd hm (fun hm => ?_) (fun hm => ?_)
   ·refine rg G ?_
    have hm := eL hm hb hr
    cases hm
    exact rt [] []
   ·exact X_skip (ibN (thN (rh G (wL G hm))))
  ·exact Ok_exit (thE (thE (ibE (wE G hm hb))))
 rintro ⟨⟩ hm s hw
 refine thN (Ok_weak hw ?_)
 refine rg G ?_
 cases hm
 exact rt [] []
noncomputable def s_l2Place_M : MS (Line × Int) Int := ⟨.x .r .r, fun x => s_l2Place x.1 x.2, fun y => dV y, fun _ => [], fun _ _ => []⟩
theorem s_l2Place_c {x stop y} (hm : s_l2Place x stop = some y) : s_l2Place_M.C (x, stop) y := s_l2Place_M.c (x, stop) hm
theorem s_l2Place_ok : FnOK Try.prog tJ 147 s_l2Place_M.S := by
 refine fm tt s_l2Place_M [] Try.call147 Try.func147 rfl Try.results147 Try.ntmps147 ?_
 rintro ⟨x, stop⟩ y cx G hm
 have hm : s_l2Place x stop = some y := hm
 unfold s_l2Place at hm
 refine rg G (Ok_seq (rg G (tF hm (fun _ => ⟨[], [], 32⟩) (fun v1 hr hm => ?_) ?_)))
 ·refine Ok_block (lp G hm (fun v => ⟨[(1, dV stop), (2, .ref 16 0), (5, dV v)], [bX 16 194 [dV x.Name, dV x.Stops, dV x.Runs]], 48⟩) ?_)
  rintro v r0 hb hm
  rw [s_l2Place_L1] at hm
  refine Ok_seq (rs G (hN 3 x.Stops h0) ?_)
  refine cd hm (fun hm => ?_) (fun hm => ?_)
  ·refine X_skip (thN (Ok_seq (Ok_block ?_)))
   obtain ⟨e, h, hm⟩ := obind hm
   refine rs G (hD 3 h h0) ?_
   refine cd hm (fun hm => ?_) (fun hm => ?_)
   ·refine rg G ?_
    have hm := eL hm hb hr
    cases hm
    exact rt [] []
   ·exact X_skip (ibN (thN (rh G (wL G hm))))
  ·exact Ok_exit (thE (thE (ibE (wE G hm hb))))
 rintro ⟨⟩ hm s hw
 refine thN (Ok_weak hw ?_)
 refine rg G ?_
 cases hm
 exact rt [] []
noncomputable def s_l2Line_M : MS (Line × Int) Bool := ⟨.x .r .r, fun x => s_l2Line x.1 x.2, fun y => dV y, fun _ => [], fun _ _ => []⟩
theorem s_l2Line_c {x stops y} (hm : s_l2Line x stops = some y) : s_l2Line_M.C (x, stops) y := s_l2Line_M.c (x, stops) hm
theorem s_l2Line_ok : FnOK Try.prog tJ 204 s_l2Line_M.S := by
 refine fm tt s_l2Line_M [fo s_l2Name_ok, fo s_l1In_ok, fo s_l2Place_ok] Try.call204 Try.func204 rfl Try.results204 Try.ntmps204 ?_
 rintro ⟨x, stops⟩ y cx G hm
 have hm : s_l2Line x stops = some y := hm
 unfold s_l2Line at hm
 refine rg G (Ok_seq ?_)
 obtain ⟨r, h, hm⟩ := obind hm
 refine jn hm (fun v => ⟨[(1, dV stops), (2, .ref 16 0), (27, dV v)], [bX 16 194 [dV x.Name, dV x.Stops, dV x.Runs]], 48⟩) (fun v hm => ?_) ?_
 ·rcases bf hm with ⟨hb, hm⟩ | ⟨hb, hm⟩
  ·refine re G (hC 2 (s_l2Name_c h) (hO 4 (.b true) (hP hb h0))) ?_
   exact wJ G hm
  ·obtain ⟨r1, h1, hm⟩ := obind hm
   rcases bf hm with ⟨hb1, hm⟩ | ⟨hb1, hm⟩
   ·refine re G (hC 2 (s_l2Name_c h) (hO 4 (.b false) (hP hb (hN 7 x.Stops (hC 8 (s_l1In_c h1) (hO 11 (.b true) (hP hb1 h0))))))) ?_
    exact wJ G hm
   ·refine re G (hC 2 (s_l2Name_c h) (hO 4 (.b false) (hP hb (hN 7 x.Stops (hC 8 (s_l1In_c h1) (hO 11 (.b false) (hP hb1 (hN 14 x.Runs (hN 17 x.Stops h0))))))))) ?_
    exact wJ G hm
 rintro v hm
 refine cd hm (fun hm => ?_) (fun hm => ?_)
 ·refine rg G ?_
  cases hm
  exact rt [] []
 ·refine X_skip (thN (Ok_seq (rg G (tF hm (fun _ => ⟨[(2, .ref 16 0)], [bX 16 194 [dV x.Name, dV x.Stops, dV x.Runs]], 48⟩) (fun v5 hr hm => ?_) ?_))))
  ·refine Ok_block (lp G hm (fun v1 => ⟨[(1, dV stops), (2, .ref 16 0), (5, dV v1)], [bX 16 194 [dV x.Name, dV x.Stops, dV x.Runs]], 48⟩) ?_)
   rintro v1 r0 hb2 hm
   rw [s_l2Line_L1] at hm
   refine Ok_seq (rs G (hN 3 x.Stops h0) ?_)
   refine cd hm (fun hm => ?_) (fun hm => ?_)
   ·refine X_skip (thN (Ok_seq (Ok_block ?_)))
    obtain ⟨e2, h6, hm⟩ := obind hm
    obtain ⟨r4, h7, hm⟩ := obind hm
    refine jn hm (fun v2 => ⟨[(1, dV stops), (2, .ref 16 0), (5, dV v1), (54, dV v2)], [bX 16 194 [dV x.Name, dV x.Stops, dV x.Runs]], 48⟩) (fun v2 hm => ?_) ?_
    ·rcases bf hm with ⟨hb3, hm⟩ | ⟨hb3, hm⟩
     ·refine de G [] (hD 3 h6 (hC 7 (s_l1In_c h7) (hO 9 (.b true) (hP hb3 h0)))) ?_
      exact wJ G hm
     ·obtain ⟨e3, h8, hm⟩ := obind hm
      obtain ⟨r5, h9, hm⟩ := obind hm
      refine de G [] (hD 3 h6 (hC 7 (s_l1In_c h7) (hO 9 (.b false) (hP hb3 (hD 14 h8 (hC 16 (s_l2Place_c h9) h0)))))) ?_
      exact wJ G hm
    rintro v2 hm
    refine cd hm (fun hm => ?_) (fun hm => ?_)
    ·refine rg G ?_
     have hm := eL hm hb2 hr
     cases hm
     exact rt [] []
    ·exact X_skip (ibN (thN (rh G (wL G hm))))
   ·exact Ok_exit (thE (thE (ibE (wE G hm hb2))))
  rintro ⟨⟩ hm s hw
  refine thN (Ok_weak hw ?_)
  refine Ok_seq (rg G (tF hm (fun _ => ⟨[], [], 32⟩) (fun v4 hr1 hm => ?_) ?_))
  ·refine Ok_block (lp G hm (fun v3 => ⟨[(2, .ref 16 0), (6, dV v3)], [bX 16 194 [dV x.Name, dV x.Stops, dV x.Runs]], 48⟩) ?_)
   rintro v3 r0 hb4 hm
   rw [s_l2Line_L2] at hm
   refine Ok_seq (rs G (hN 3 x.Runs h0) ?_)
   refine cd hm (fun hm => ?_) (fun hm => ?_)
   ·refine X_skip (thN (Ok_seq (Ok_block ?_)))
    obtain ⟨e5, h10, hm⟩ := obind hm
    obtain ⟨r7, h11, hm⟩ := obind hm
    refine rs G (hD 3 h10 (hC 5 (s_l1In_c h11) h0)) ?_
    refine cd hm (fun hm => ?_) (fun hm => ?_)
    ·refine rg G ?_
     have hm := eL hm hb4 hr1
     cases hm
     exact rt [] []
    ·exact X_skip (ibN (thN (rh G (wL G hm))))
   ·exact Ok_exit (thE (thE (ibE (wE G hm hb4))))
  rintro ⟨⟩ hm s1 hw1
  refine thN (Ok_weak hw1 ?_)
  refine rg G ?_
  cases hm
  exact rt [] []
noncomputable def s_l2LineNamed_M : MS (Network × ByteArray) Int := ⟨.x .r .r, fun x => s_l2LineNamed x.1 x.2, fun y => dV y, fun _ => [], fun _ _ => []⟩
theorem s_l2LineNamed_c {n name y} (hm : s_l2LineNamed n name = some y) : s_l2LineNamed_M.C (n, name) y := s_l2LineNamed_M.c (n, name) hm
theorem s_l2LineNamed_ok : FnOK Try.prog tJ 205 s_l2LineNamed_M.S := by
 refine fm tt s_l2LineNamed_M [] Try.call205 Try.func205 rfl Try.results205 Try.ntmps205 ?_
 rintro ⟨n, name⟩ y cx G hm
 have hm : s_l2LineNamed n name = some y := hm
 unfold s_l2LineNamed at hm
 refine rg G (Ok_seq (rg G (tF hm (fun _ => ⟨[], [], 32⟩) (fun v1 hr hm => ?_) ?_)))
 ·refine Ok_block (lp G hm (fun v => ⟨[(1, dV name), (2, .ref 16 0), (5, dV v)], [bX 16 60 [dV n.Stops, dV n.Lines]], 48⟩) ?_)
  rintro v r0 hb hm
  rw [s_l2LineNamed_L1] at hm
  refine Ok_seq (rs G (hN 3 n.Lines h0) ?_)
  refine cd hm (fun hm => ?_) (fun hm => ?_)
  ·refine X_skip (thN (Ok_seq (Ok_block ?_)))
   obtain ⟨e, h, hm⟩ := obind hm
   refine rs G (hD 3 h h0) ?_
   refine cd hm (fun hm => ?_) (fun hm => ?_)
   ·refine rg G ?_
    have hm := eL hm hb hr
    cases hm
    exact rt [] []
   ·exact X_skip (ibN (thN (rh G (wL G hm))))
  ·exact Ok_exit (thE (thE (ibE (wE G hm hb))))
 rintro ⟨⟩ hm s hw
 refine thN (Ok_weak hw ?_)
 refine rg G ?_
 cases hm
 exact rt [] []
noncomputable def s_l2Good_M : MS Network Bool := ⟨.r, s_l2Good, fun y => dV y, fun _ => [], fun _ _ => []⟩
theorem s_l2Good_c {n y} (hm : s_l2Good n = some y) : s_l2Good_M.C n y := s_l2Good_M.c n hm
theorem s_l2Good_ok : FnOK Try.prog tJ 158 s_l2Good_M.S := by
 refine fm tt s_l2Good_M [fo s_l1In_ok, fo s_l2Name_ok, fo s_l2Find_ok, fo s_l2Line_ok, fo s_l2LineNamed_ok] Try.call158 Try.func158 rfl Try.results158 Try.ntmps158 ?_
 rintro n y cx G hm
 have hm : s_l2Good n = some y := hm
 unfold s_l2Good at hm
 refine rg G (Ok_seq ?_)
 obtain ⟨r, h, hm⟩ := obind hm
 refine jn hm (fun v => ⟨[(1, .ref 16 0), (16, dV v)], [bX 16 60 [dV n.Stops, dV n.Lines]], 48⟩) (fun v hm => ?_) ?_
 ·rcases bf hm with ⟨hb, hm⟩ | ⟨hb, hm⟩
  ·refine re G (hN 2 n.Stops (hC 3 (s_l1In_c h) (hO 5 (.b true) (hP hb h0)))) ?_
   exact wJ G hm
  ·obtain ⟨r1, h1, hm⟩ := obind hm
   refine re G (hN 2 n.Stops (hC 3 (s_l1In_c h) (hO 5 (.b false) (hP hb (hN 8 n.Lines (hC 9 (s_l1In_c h1) h0)))))) ?_
   exact wJ G hm
 rintro v hm
 refine cd hm (fun hm => ?_) (fun hm => ?_)
 ·refine rg G ?_
  cases hm
  exact rt [] []
 ·refine X_skip (thN (Ok_seq (rg G (tF hm (fun _ => ⟨[(1, .ref 16 0)], [bX 16 60 [dV n.Stops, dV n.Lines]], 48⟩) (fun v5 hr hm => ?_) ?_))))
  ·refine Ok_block (lp G hm (fun i => ⟨[(1, .ref 16 0), (3, dV i)], [bX 16 60 [dV n.Stops, dV n.Lines]], 48⟩) ?_)
   rintro i r0 hb1 hm
   rw [s_l2Good_L1] at hm
   refine Ok_seq (rs G (hN 3 n.Stops h0) ?_)
   refine cd hm (fun hm => ?_) (fun hm => ?_)
   ·refine X_skip (thN (Ok_seq (Ok_block ?_)))
    obtain ⟨e2, h6, hm⟩ := obind hm
    obtain ⟨r4, h7, hm⟩ := obind hm
    refine jn hm (fun v1 => ⟨[(1, .ref 16 0), (3, dV i), (42, dV v1)], [bX 16 60 [dV n.Stops, dV n.Lines]], 48⟩) (fun v1 hm => ?_) ?_
    ·rcases bf hm with ⟨hb2, hm⟩ | ⟨hb2, hm⟩
     ·refine de G [] (hD 3 h6 (hC 5 (s_l2Name_c h7) (hO 7 (.b true) (hP hb2 h0)))) ?_
      exact wJ G hm
     ·obtain ⟨e3, h8, hm⟩ := obind hm
      obtain ⟨r5, h9, hm⟩ := obind hm
      refine de G [] (hD 3 h6 (hC 5 (s_l2Name_c h7) (hO 7 (.b false) (hP hb2 (hD 13 h8 (hC 15 (s_l2Find_c h9) h0)))))) ?_
      exact wJ G hm
    rintro v1 hm
    refine cd hm (fun hm => ?_) (fun hm => ?_)
    ·refine rg G ?_
     have hm := eL hm hb1 hr
     cases hm
     exact rt [] []
    ·exact X_skip (ibN (thN (rh G (wL G hm))))
   ·exact Ok_exit (thE (thE (ibE (wE G hm hb1))))
  rintro ⟨⟩ hm s hw
  refine thN (Ok_weak hw ?_)
  refine Ok_seq (rg G (tF hm (fun _ => ⟨[], [], 32⟩) (fun v4 hr1 hm => ?_) ?_))
  ·refine Ok_block (lp G hm (fun v2 => ⟨[(1, .ref 16 0), (4, dV v2)], [bX 16 60 [dV n.Stops, dV n.Lines]], 48⟩) ?_)
   rintro v2 r0 hb3 hm
   rw [s_l2Good_L2] at hm
   refine Ok_seq (rs G (hN 3 n.Lines h0) ?_)
   refine cd hm (fun hm => ?_) (fun hm => ?_)
   ·refine X_skip (thN (Ok_seq (Ok_block ?_)))
    obtain ⟨e7, h14, hm⟩ := obind hm
    obtain ⟨r9, h15, hm⟩ := obind hm
    refine jn hm (fun v3 => ⟨[(1, .ref 16 0), (4, dV v2), (71, dV v3)], [bX 16 60 [dV n.Stops, dV n.Lines]], 48⟩) (fun v3 hm => ?_) ?_
    ·rcases bf hm with ⟨hb4, hm⟩ | ⟨hb4, hm⟩
     ·refine de G [] (hD 3 h14 (hN 7 n.Stops (hC 8 (s_l2Line_c h15) (hO 10 (.b true) (hP hb4 h0))))) ?_
      exact wJ G hm
     ·obtain ⟨e8, h16, hm⟩ := obind hm
      obtain ⟨r10, h17, hm⟩ := obind hm
      refine de G [] (hD 3 h14 (hN 7 n.Stops (hC 8 (s_l2Line_c h15) (hO 10 (.b false) (hP hb4 (hD 15 h16 (hC 18 (s_l2LineNamed_c h17) h0))))))) ?_
      exact wJ G hm
    rintro v3 hm
    refine cd hm (fun hm => ?_) (fun hm => ?_)
    ·refine rg G ?_
     have hm := eL hm hb3 hr1
     cases hm
     exact rt [] []
    ·exact X_skip (ibN (thN (rh G (wL G hm))))
   ·exact Ok_exit (thE (thE (ibE (wE G hm hb3))))
  rintro ⟨⟩ hm s1 hw1
  refine thN (Ok_weak hw1 ?_)
  refine rg G ?_
  cases hm
  exact rt [] []
noncomputable def s_l4Time_M : MS Int Bool := ⟨.r, s_l4Time, fun y => dV y, fun _ => [], fun _ _ => []⟩
theorem s_l4Time_c {t y} (hm : s_l4Time t = some y) : s_l4Time_M.C t y := s_l4Time_M.c t hm
theorem s_l4Time_ok : FnOK Try.prog tJ 159 s_l4Time_M.S := by
 refine fm tt s_l4Time_M [fo s_l1In_ok] Try.call159 Try.func159 rfl Try.results159 Try.ntmps159 ?_
 rintro t y cx G hm
 have hm : s_l4Time t = some y := hm
 unfold s_l4Time at hm
 refine rg G ?_
 obtain ⟨r, h, hm⟩ := obind hm
 refine rs G (hC 1 (s_l1In_c h) h0) ?_
 cases hm
 exact rt [] []
noncomputable def s_l5Line_M : MS (Timetable × Int) Line := ⟨.x .r .r, fun x => s_l5Line x.1 x.2, fun y => dV y, fun _ => [], fun _ _ => []⟩
theorem s_l5Line_c {t i y} (hm : s_l5Line t i = some y) : s_l5Line_M.C (t, i) y := s_l5Line_M.c (t, i) hm
theorem s_l5Line_ok : FnOK Try.prog tJ 232 s_l5Line_M.S := by
 refine fm tt s_l5Line_M [] Try.call232 Try.func232 rfl Try.results232 Try.ntmps232 ?_
 rintro ⟨t, i⟩ y cx G hm
 have hm : s_l5Line t i = some y := hm
 unfold s_l5Line at hm
 refine rg G ?_
 obtain ⟨e2, h2, hm⟩ := obind hm
 obtain ⟨e3, h3, hm⟩ := obind hm
 refine ds G [(11, [32])] (hD 6 h2 (hD 9 h3 h0)) ?_
 cases hm
 exact rt [] []
noncomputable def s_l5Stops_M : MS (Timetable × Int) ((List Int)) := ⟨.x .r .r, fun x => s_l5Stops x.1 x.2, fun y => dV y, fun _ => [], fun _ _ => []⟩
theorem s_l5Stops_c {t i y} (hm : s_l5Stops t i = some y) : s_l5Stops_M.C (t, i) y := s_l5Stops_M.c (t, i) hm
theorem s_l5Stops_ok : FnOK Try.prog tJ 207 s_l5Stops_M.S := by
 refine fm tt s_l5Stops_M [fo s_l5Line_ok] Try.call207 Try.func207 rfl Try.results207 Try.ntmps207 ?_
 rintro ⟨t, i⟩ y cx G hm
 have hm : s_l5Stops t i = some y := hm
 unfold s_l5Stops at hm
 refine rg G ?_
 obtain ⟨r, h, hm⟩ := obind hm
 refine rs G (hC 2 (s_l5Line_c h) h0) ?_
 cases hm
 exact rt [] []
noncomputable def s_l2Run_M : MS (Line × Int × Int) Int := ⟨.x .r (.x .r .r), fun x => s_l2Run x.1 x.2.1 x.2.2, fun y => dV y, fun _ => [], fun _ _ => []⟩
theorem s_l2Run_c {x from_ to_ y} (hm : s_l2Run x from_ to_ = some y) : s_l2Run_M.C (x, from_, to_) y := s_l2Run_M.c (x, from_, to_) hm
theorem s_l2Run_ok : FnOK Try.prog tJ 199 s_l2Run_M.S := by
 refine fm tt s_l2Run_M [] Try.call199 Try.func199 rfl Try.results199 Try.ntmps199 ?_
 rintro ⟨x, from_, to_⟩ y cx G hm
 have hm : s_l2Run x from_ to_ = some y := hm
 unfold s_l2Run at hm
 refine rg G (rg G (Ok_seq (rg G (tl hm (fun v2 => ⟨[(7, dV v2)], [], 32⟩) (fun v2 hm => ?_) ?_))))
 ·refine Ok_block (lp G hm (fun (v, v1) => ⟨[(2, dV to_), (3, .ref 16 0), (7, dV v), (8, dV v1)], [bX 16 194 [dV x.Name, dV x.Stops, dV x.Runs]], 48⟩) ?_)
  rintro ⟨v, v1⟩ r0 hb hm
  rw [s_l2Run_L1] at hm
  refine Ok_seq (rg G (cd hm (fun hm => ?_) (fun hm => ?_)))
  ·refine X_skip (thN (Ok_seq (Ok_block ?_)))
   obtain ⟨e, h, hm⟩ := obind hm
   refine re G (hD 4 h h0) ?_
   exact ibN (thN (rh G (wL G hm)))
  ·exact Ok_exit (thE (thE (ibE (wD G hm hb))))
 rintro v2 hm s hw
 refine thN (Ok_weak hw ?_)
 refine rg G ?_
 cases hm
 exact rt [] []
noncomputable def s_l5At_M : MS (Timetable × Int × Int) Int := ⟨.x .r (.x .r .r), fun x => s_l5At x.1 x.2.1 x.2.2, fun y => dV y, fun _ => [], fun _ _ => []⟩
theorem s_l5At_c {t i k y} (hm : s_l5At t i k = some y) : s_l5At_M.C (t, i, k) y := s_l5At_M.c (t, i, k) hm
theorem s_l5At_ok : FnOK Try.prog tJ 206 s_l5At_M.S := by
 refine fm tt s_l5At_M [fo s_l5Line_ok, fo s_l2Run_ok] Try.call206 Try.func206 rfl Try.results206 Try.ntmps206 ?_
 rintro ⟨t, i, k⟩ y cx G hm
 have hm : s_l5At t i k = some y := hm
 unfold s_l5At at hm
 refine rg G ?_
 obtain ⟨e1, h3, hm⟩ := obind hm
 obtain ⟨r2, h4, hm⟩ := obind hm
 obtain ⟨r3, h5, hm⟩ := obind hm
 refine ds G [] (hD 3 h3 (hC 8 (s_l5Line_c h4) (hC 10 (s_l2Run_c h5) h0))) ?_
 cases hm
 exact rt [] []
noncomputable def s_l5End_M : MS (Timetable × Int) Int := ⟨.x .r .r, fun x => s_l5End x.1 x.2, fun y => dV y, fun _ => [], fun _ _ => []⟩
theorem s_l5End_c {t i y} (hm : s_l5End t i = some y) : s_l5End_M.C (t, i) y := s_l5End_M.c (t, i) hm
theorem s_l5End_ok : FnOK Try.prog tJ 160 s_l5End_M.S := by
 refine fm tt s_l5End_M [fo s_l5Stops_ok, fo s_l5At_ok] Try.call160 Try.func160 rfl Try.results160 Try.ntmps160 ?_
 rintro ⟨t, i⟩ y cx G hm
 have hm : s_l5End t i = some y := hm
 unfold s_l5End at hm
 refine rg G ?_
 obtain ⟨r2, h2, hm⟩ := obind hm
 obtain ⟨r3, h3, hm⟩ := obind hm
 refine ds G [] (hC 4 (s_l5Stops_c h2) (hN 5 r2 (hC 7 (s_l5At_c h3) h0))) ?_
 cases hm
 exact rt [] []
noncomputable def s_l5Good_M : MS Timetable Bool := ⟨.r, s_l5Good, fun y => dV y, fun _ => [], fun _ _ => []⟩
theorem s_l5Good_c {t y} (hm : s_l5Good t = some y) : s_l5Good_M.C t y := s_l5Good_M.c t hm
theorem s_l5Good_ok : FnOK Try.prog tJ 94 s_l5Good_M.S := by
 refine fm tt s_l5Good_M [fo s_l2Good_ok, fo s_l1In_ok, fo s_l4Time_ok, fo s_l5End_ok] Try.call94 Try.func94 rfl Try.results94 Try.ntmps94 ?_
 rintro t y cx G hm
 have hm : s_l5Good t = some y := hm
 unfold s_l5Good at hm
 refine rg G (Ok_seq ?_)
 obtain ⟨r, h, hm⟩ := obind hm
 refine jn hm (fun v => ⟨[(1, .ref 16 0), (14, dV v)], [bX 16 63 [dV t.Network.Stops, dV t.Network.Lines, dV t.Trips]], 48⟩) (fun v hm => ?_) ?_
 ·rcases bf hm with ⟨hb, hm⟩ | ⟨hb, hm⟩
  ·refine re G (hC 2 (s_l2Good_c h) (hO 4 (.b true) (hP hb h0))) ?_
   exact wJ G hm
  ·refine re G (hC 2 (s_l2Good_c h) (hO 4 (.b false) (hP hb (hN 7 t.Trips h0)))) ?_
   exact wJ G hm
 rintro v hm
 refine cd hm (fun hm => ?_) (fun hm => ?_)
 ·refine rg G ?_
  cases hm
  exact rt [] []
 ·refine X_skip (thN (Ok_seq (rg G (tF hm (fun _ => ⟨[], [], 32⟩) (fun v2 hr hm => ?_) ?_))))
  ·refine Ok_block (lp G hm (fun x => ⟨[(1, .ref 16 0), (3, dV x)], [bX 16 63 [dV t.Network.Stops, dV t.Network.Lines, dV t.Trips]], 48⟩) ?_)
   rintro x r0 hb1 hm
   rw [s_l5Good_L1] at hm
   refine Ok_seq (rs G (hN 3 t.Trips h0) ?_)
   refine cd hm (fun hm => ?_) (fun hm => ?_)
   ·refine X_skip (thN (Ok_seq (Ok_block ?_)))
    obtain ⟨e, h1, hm⟩ := obind hm
    refine rs G (hD 3 h1 h0) ?_
    obtain ⟨r6, h8, hm⟩ := obind hm
    refine jn hm (fun v1 => ⟨[(1, .ref 16 0), (3, dV x), (70, dV v1)], [bX 16 63 [dV t.Network.Stops, dV t.Network.Lines, dV t.Trips]], 48⟩) (fun v1 hm => ?_) ?_
    ·rcases bf hm with ⟨hb2, hm⟩ | ⟨hb2, hm⟩
     ·refine de G [] (hC 2 (s_l1In_c h8) (hO 4 (.b true) (hP hb2 h0))) ?_
      exact wJ G hm
     ·obtain ⟨r7, h9, hm⟩ := obind hm
      rcases bf hm with ⟨hb3, hm⟩ | ⟨hb3, hm⟩
      ·refine de G [] (hC 2 (s_l1In_c h8) (hO 4 (.b false) (hP hb2 (hN 10 t.Network.Lines (hC 12 (s_l1In_c h9) (hO 15 (.b true) (hP hb3 h0))))))) ?_
       exact wJ G hm
      ·obtain ⟨r8, h10, hm⟩ := obind hm
       rcases bf hm with ⟨hb4, hm⟩ | ⟨hb4, hm⟩
       ·refine de G [] (hC 2 (s_l1In_c h8) (hO 4 (.b false) (hP hb2 (hN 10 t.Network.Lines (hC 12 (s_l1In_c h9) (hO 15 (.b false) (hP hb3 (hC 18 (s_l4Time_c h10) (hO 21 (.b true) (hP hb4 h0)))))))))) ?_
        exact wJ G hm
       ·obtain ⟨r9, h11, hm⟩ := obind hm
        obtain ⟨r10, h12, hm⟩ := obind hm
        rcases bf hm with ⟨hb5, hm⟩ | ⟨hb5, hm⟩
        ·refine de G [] (hC 2 (s_l1In_c h8) (hO 4 (.b false) (hP hb2 (hN 10 t.Network.Lines (hC 12 (s_l1In_c h9) (hO 15 (.b false) (hP hb3 (hC 18 (s_l4Time_c h10) (hO 21 (.b false) (hP hb4 (hC 24 (s_l5End_c h11) (hC 25 (s_l4Time_c h12) (hO 28 (.b true) (hP hb5 h0)))))))))))))) ?_
         exact wJ G hm
        ·rcases bf hm with ⟨hb6, hm⟩ | ⟨hb6, hm⟩
         ·obtain ⟨e2, h13, hm⟩ := obind hm
          refine de G [] (hC 2 (s_l1In_c h8) (hO 4 (.b false) (hP hb2 (hN 10 t.Network.Lines (hC 12 (s_l1In_c h9) (hO 15 (.b false) (hP hb3 (hC 18 (s_l4Time_c h10) (hO 21 (.b false) (hP hb4 (hC 24 (s_l5End_c h11) (hC 25 (s_l4Time_c h12) (hO 28 (.b false) (hP hb5 (hO 31 (.b true) (hP hb6 (hD 36 h13 h0))))))))))))))))) ?_
          exact wJ G hm
         ·refine de G [] (hC 2 (s_l1In_c h8) (hO 4 (.b false) (hP hb2 (hN 10 t.Network.Lines (hC 12 (s_l1In_c h9) (hO 15 (.b false) (hP hb3 (hC 18 (s_l4Time_c h10) (hO 21 (.b false) (hP hb4 (hC 24 (s_l5End_c h11) (hC 25 (s_l4Time_c h12) (hO 28 (.b false) (hP hb5 (hO 31 (.b false) (hP hb6 h0)))))))))))))))) ?_
          exact wJ G hm
    rintro v1 hm
    refine cd hm (fun hm => ?_) (fun hm => ?_)
    ·refine rg G ?_
     have hm := eL hm hb1 hr
     cases hm
     exact rt [] []
    ·exact X_skip (ibN (thN (rh G (wL G hm))))
   ·exact Ok_exit (thE (thE (ibE (wE G hm hb1))))
  rintro ⟨⟩ hm s hw
  refine thN (Ok_weak hw ?_)
  refine rg G ?_
  cases hm
  exact rt [] []
noncomputable def s_l1Own_f_M : MS ((List Int)) ((List Int)) := ⟨.r, s_l1Own_f, fun y => dV y, fun _ => [], fun _ _ => []⟩
theorem s_l1Own_f_c {l y} (hm : s_l1Own_f l = some y) : s_l1Own_f_M.C l y := s_l1Own_f_M.c l hm
theorem s_l1Own_f_ok : FnOK Try.prog tJ 128 s_l1Own_f_M.S := by
 refine fm tt s_l1Own_f_M [] Try.call128 Try.func128 rfl Try.results128 Try.ntmps128 ?_
 rintro l y cx G hm
 have hm : s_l1Own_f l = some y := hm
 unfold s_l1Own_f at hm
 refine rg G ?_
 obtain ⟨u, h, hm⟩ := obind hm
 refine rs G (hA 2 8 h h0) ?_
 cases hm
 exact rt [] []
noncomputable def s_l2Own_M : MS Network Network := ⟨.r, s_l2Own, fun _ => .aggv [.own 0, .own 1], fun y => [arO 9 y.Stops, arO 194 y.Lines], fun _ _ => []⟩
theorem s_l2Own_c {n y} (hm : s_l2Own n = some y) : s_l2Own_M.C n y := s_l2Own_M.c n hm
theorem s_l2Own_ok : FnOK Try.prog tJ 161 s_l2Own_M.S := by
 refine fm tt s_l2Own_M [fo s_l1Own_f_ok] Try.call161 Try.func161 rfl Try.results161 Try.ntmps161 ?_
 rintro n y cx G hm
 have hm : s_l2Own n = some y := hm
 unfold s_l2Own at hm
 refine rg G ?_
 obtain ⟨u, h, hm⟩ := obind hm
 refine rs G (hA 3 16 h h0) ?_
 refine Ok_seq (rg G (tl hm (fun v2 => ⟨[(2, .ref 16 0), (3, .ref 32 0)], [bX 16 60 [.dat (.sc (.slice none 0 0)), .dat (.sc (.slice none 0 0))], bX 32 60 [.own 48, .own 64], aX 48 9 (([] : List ByteArray) ++ n.Stops), aX 64 194 v2], 96⟩) (fun v2 hm => ?_) ?_))
 ·refine Ok_block (lpP hm (fun (v, v1) => ⟨[(1, .ref 16 0), (2, .ref 32 0), (3, .ref 48 0), (4, dV v)], [bX 16 60 [dV n.Stops, dV n.Lines], bX 32 60 [.dat (.sc (.slice none 0 0)), .dat (.sc (.slice none 0 0))], bX 48 60 [.own 64, .own 80], aX 64 9 (([] : List ByteArray) ++ n.Stops), aX 80 194 v1], 112⟩) (Wk_J G.hL ⟨[(1, []), (2, []), (3, []), (4, [])], [(16, 16, []), (32, 32, []), (48, 128, [.k, .o 80]), (64, 96, [])], [(80, 194, 3, [])], 112⟩ (by kernel_rfl)) ?_)
  rintro ⟨v, v1⟩ r0 hb hm
  rw [s_l2Own_L1] at hm
  refine Ok_seq (rs G (hN 3 n.Lines h0) ?_)
  refine cd hm (fun hm => ?_) (fun hm => ?_)
  ·refine X_skip (thN (Ok_seq (Ok_block ?_)))
   obtain ⟨e3, h7, hm⟩ := obind hm
   obtain ⟨e4, h8, hm⟩ := obind hm
   obtain ⟨r2, h9, hm⟩ := obind hm
   obtain ⟨e5, h10, hm⟩ := obind hm
   obtain ⟨r3, h11, hm⟩ := obind hm
   obtain ⟨u2, h12, hm⟩ := obind hm
   refine de G [(23, []), (24, [80, 560]), (26, [48, 576])] (hD 5 h7 (hD 11 h8 (hC 14 (s_l1Own_f_c h9) (hD 18 h10 (hC 21 (s_l1Own_f_c h11) (hA 24 64 h12 h0)))))) ?_
   exact ibN (thN (rh G (wL G hm)))
  ·exact Ok_exit (thE (thE (ibE (wD G hm hb))))
 rintro v2 hm s hw
 refine thN (Ok_weak hw ?_)
 refine rg G ?_
 cases hm
 exact rt [48, 64] []
noncomputable def s_l5Own_M : MS Timetable Timetable := ⟨.r, s_l5Own, fun _ => .aggv [.own 0, .own 1, .own 2], fun y => [arO 9 y.Network.Stops, arO 194 y.Network.Lines, arO 168 y.Trips], fun _ _ => []⟩
theorem s_l5Own_c {t y} (hm : s_l5Own t = some y) : s_l5Own_M.C t y := s_l5Own_M.c t hm
theorem s_l5Own_ok : FnOK Try.prog tJ 95 s_l5Own_M.S := by
 refine fm tt s_l5Own_M [fo s_l2Own_ok] Try.call95 Try.func95 rfl Try.results95 Try.ntmps95 ?_
 rintro t y cx G hm
 have hm : s_l5Own t = some y := hm
 unfold s_l5Own at hm
 refine rg G ?_
 obtain ⟨r1, h2, hm⟩ := obind hm
 obtain ⟨u1, h3, hm⟩ := obind hm
 refine ds G [(6, [96]), (8, [32, 80, 81, 144])] (hC 2 (s_l2Own_c h2) (hA 6 24 h3 h0)) ?_
 cases hm
 exact rt [80, 81, 144] []
noncomputable def s_NewConsole_M : MS Timetable (Console × Bool) := ⟨.r, s_NewConsole, fun y => .tup [dV y.1, dV y.2], fun _ => [], fun _ _ => []⟩
theorem s_NewConsole_c {t y} (hm : s_NewConsole t = some y) : s_NewConsole_M.C t y := s_NewConsole_M.c t hm
theorem s_NewConsole_ok : FnOK Try.prog tJ 26 s_NewConsole_M.S := by
 refine fm tt s_NewConsole_M [fo s_l5Good_ok, fo s_l5Own_ok] Try.call26 Try.func26 rfl Try.results26 Try.ntmps26 ?_
 rintro t y cx G hm
 have hm : s_NewConsole t = some y := hm
 unfold s_NewConsole at hm
 refine rg G (Ok_seq ?_)
 obtain ⟨r, h, hm⟩ := obind hm
 refine rs G (hC 1 (s_l5Good_c h) h0) ?_
 refine cd hm (fun hm => ?_) (fun hm => ?_)
 ·refine rg G ?_
  cases hm
  exact rt [] [[.z 1, .z 3, .z 3]]
 ·refine X_skip (thN ?_)
  obtain ⟨r1, h1, hm⟩ := obind hm
  refine rs G (hC 1 (s_l5Own_c h1) h0) ?_
  cases hm
  exact rt [] []
noncomputable def i_within_M : MS (Int × Int × Int) Bool := ⟨.x .r (.x .r .r), fun x => i_within x.1 x.2.1 x.2.2, fun y => dV y, fun _ => [], fun _ _ => []⟩
theorem i_within_c {n lo hi y} (hm : i_within n lo hi = some y) : i_within_M.C (n, lo, hi) y := i_within_M.c (n, lo, hi) hm
theorem i_within_ok : FnOK Try.prog tJ 143 i_within_M.S := by
 refine fm tt i_within_M [] Try.call143 Try.func143 rfl Try.results143 Try.ntmps143 ?_
 rintro ⟨n, lo, hi⟩ y cx G hm
 have hm : i_within n lo hi = some y := hm
 unfold i_within at hm
 refine rg G (jn hm (fun v => ⟨[(6, dV v)], [], 32⟩) (fun v hm => ?_) ?_)
 ·rcases bf hm with ⟨hb, hm⟩ | ⟨hb, hm⟩
  ·refine re G (hO 3 (.b true) (hP hb h0)) ?_
   exact wJ G hm
  ·refine re G (hO 3 (.b false) (hP hb h0)) ?_
   exact wJ G hm
 rintro v hm
 cases hm
 exact rt [] []
noncomputable def i_isName_M : MS ByteArray Bool := ⟨.r, i_isName, fun y => dV y, fun _ => [], fun _ _ => []⟩
theorem i_isName_c {s y} (hm : i_isName s = some y) : i_isName_M.C s y := i_isName_M.c s hm
theorem i_isName_ok : FnOK Try.prog tJ 234 i_isName_M.S := by
 refine fm tt i_isName_M [] Try.call234 Try.func234 rfl Try.results234 Try.ntmps234 ?_
 rintro s y cx G hm
 have hm : i_isName s = some y := hm
 unfold i_isName at hm
 refine rg G (Ok_seq (jn hm (fun v => ⟨[(0, dV s), (12, dV v)], [], 32⟩) (fun v hm => ?_) ?_))
 ·rcases bf hm with ⟨hb, hm⟩ | ⟨hb, hm⟩
  ·refine re G (hO 3 (.b true) (hP hb h0)) ?_
   exact wJ G hm
  ·refine re G (hO 3 (.b false) (hP hb h0)) ?_
   exact wJ G hm
 rintro v hm
 refine cd hm (fun hm => ?_) (fun hm => ?_)
 ·refine rg G ?_
  cases hm
  exact rt [] []
 ·refine X_skip (thN (Ok_seq (rg G (tF hm (fun _ => ⟨[], [], 32⟩) (fun v4 hr hm => ?_) ?_))))
  ·refine Ok_block (lp G hm (fun v1 => ⟨[(0, dV s), (14, dV (s.size : Int)), (15, dV v1)], [], 32⟩) ?_)
   rintro v1 r0 hb1 hm
   rw [i_isName_L1] at hm
   refine rg G (Ok_seq (cd hm (fun hm => ?_) (fun hm => ?_)))
   ·refine X_skip (thN (Ok_seq (Ok_block (rg G ?_))))
    obtain ⟨u, h, hm⟩ := obind hm
    refine jn hm (fun v2 => ⟨[(0, dV s), (3, dV v1), (4, dV v2), (14, dV (s.size : Int)), (15, dV v1)], [], 32⟩) (fun v2 hm => ?_) ?_
    ·rcases bf hm with ⟨hb2, hm⟩ | ⟨hb2, hm⟩
     ·obtain ⟨u1, h1, hm⟩ := obind hm
      refine re G (hK h (hO 4 (.b true) (hP hb2 (hK h1 h0)))) ?_
      exact wJ G hm
     ·refine re G (hK h (hO 4 (.b false) (hP hb2 h0))) ?_
      exact wJ G hm
    rintro v2 hm
    refine jn hm (fun v3 => ⟨[(0, dV s), (14, dV (s.size : Int)), (15, dV v1), (45, dV v3)], [], 32⟩) (fun v3 hm => ?_) ?_
    ·rcases bf hm with ⟨hb3, hm⟩ | ⟨hb3, hm⟩
     ·rcases bf hm with ⟨hb4, hm⟩ | ⟨hb4, hm⟩
      ·refine re G (hO 2 (.b true) (hP hb3 (hO 5 (.b true) (hP hb4 h0)))) ?_
       exact wJ G hm
      ·obtain ⟨u2, h2, hm⟩ := obind hm
       rcases bf hm with ⟨hb5, hm⟩ | ⟨hb5, hm⟩
       ·refine re G (hO 2 (.b true) (hP hb3 (hO 5 (.b false) (hP hb4 (hK h2 (hO 11 (.b true) (hP hb5 h0))))))) ?_
        exact wJ G hm
       ·obtain ⟨u3, h3, hm⟩ := obind hm
        refine re G (hO 2 (.b true) (hP hb3 (hO 5 (.b false) (hP hb4 (hK h2 (hO 11 (.b false) (hP hb5 (hK h3 h0)))))))) ?_
        exact wJ G hm
     ·refine re G (hO 2 (.b false) (hP hb3 h0)) ?_
      exact wJ G hm
    rintro v3 hm
    refine cd hm (fun hm => ?_) (fun hm => ?_)
    ·refine rg G ?_
     have hm := eL hm hb1 hr
     cases hm
     exact rt [] []
    ·exact X_skip (ibN (thN (rh G (wL G hm))))
   ·exact Ok_exit (thE (thE (ibE (wE G hm hb1))))
  rintro ⟨⟩ hm s1 hw
  refine thN (Ok_weak hw ?_)
  refine rg G ?_
  cases hm
  exact rt [] []
noncomputable def slices_Index_string_M : MS ((List ByteArray) × ByteArray) Int := ⟨.x .r .r, fun x => slices_Index_string x.1 x.2, fun y => dV y, fun _ => [], fun _ _ => []⟩
theorem slices_Index_string_c {s v y} (hm : slices_Index_string s v = some y) : slices_Index_string_M.C (s, v) y := slices_Index_string_M.c (s, v) hm
theorem slices_Index_string_ok : FnOK Try.prog tJ 235 slices_Index_string_M.S := by
 refine fm tt slices_Index_string_M [] Try.call235 Try.func235 rfl Try.results235 Try.ntmps235 ?_
 rintro ⟨s, v⟩ y cx G hm
 have hm : slices_Index_string s v = some y := hm
 unfold slices_Index_string at hm
 refine rg G (Ok_seq (rs G (hN 1 s h0) ?_))
 refine tF hm (fun _ => ⟨[], [], 32⟩) (fun v2 hr hm => ?_) ?_
 ·refine Ok_block (lp G hm (fun v1 => ⟨[(0, dV s), (1, dV v), (7, dV (s.length : Int)), (8, dV v1)], [], 32⟩) ?_)
  rintro v1 r0 hb hm
  rw [slices_Index_string_L1] at hm
  refine rg G (Ok_seq (cd hm (fun hm => ?_) (fun hm => ?_)))
  ·refine X_skip (thN (Ok_seq (Ok_block (rg G ?_))))
   obtain ⟨e, h, hm⟩ := obind hm
   refine rs G (hD 3 h h0) ?_
   refine cd hm (fun hm => ?_) (fun hm => ?_)
   ·refine rg G ?_
    have hm := eL hm hb hr
    cases hm
    exact rt [] []
   ·exact X_skip (ibN (thN (rh G (wL G hm))))
  ·exact Ok_exit (thE (thE (ibE (wE G hm hb))))
 rintro ⟨⟩ hm s1 hw
 refine thN (Ok_weak hw ?_)
 refine rg G ?_
 cases hm
 exact rt [] []
noncomputable def i_areNames_M : MS ((List ByteArray)) Bool := ⟨.r, i_areNames, fun y => dV y, fun _ => [], fun _ _ => []⟩
theorem i_areNames_c {names y} (hm : i_areNames names = some y) : i_areNames_M.C names y := i_areNames_M.c names hm
theorem i_areNames_ok : FnOK Try.prog tJ 209 i_areNames_M.S := by
 refine fm tt i_areNames_M [fo i_isName_ok, fo slices_Index_string_ok] Try.call209 Try.func209 rfl Try.results209 Try.ntmps209 ?_
 rintro names y cx G hm
 have hm : i_areNames names = some y := hm
 unfold i_areNames at hm
 refine rg G (Ok_seq (rs G (hN 1 names h0) ?_))
 refine tF hm (fun _ => ⟨[], [], 32⟩) (fun v2 hr hm => ?_) ?_
 ·refine Ok_block (lp G hm (fun v => ⟨[(0, dV names), (5, dV names), (6, dV (names.length : Int)), (7, dV v)], [], 32⟩) ?_)
  rintro v r0 hb hm
  rw [i_areNames_L1] at hm
  refine rg G (Ok_seq (cd hm (fun hm => ?_) (fun hm => ?_)))
  ·refine X_skip (thN (Ok_seq (Ok_block ?_)))
   obtain ⟨e, h, hm⟩ := obind hm
   refine rs G (hD 1 h h0) ?_
   obtain ⟨r, h1, hm⟩ := obind hm
   refine jn hm (fun v1 => ⟨[(0, dV names), (5, dV names), (6, dV (names.length : Int)), (7, dV v), (21, dV v1)], [], 32⟩) (fun v1 hm => ?_) ?_
   ·rcases bf hm with ⟨hb1, hm⟩ | ⟨hb1, hm⟩
    ·refine re G (hC 1 (i_isName_c h1) (hO 3 (.b true) (hP hb1 h0))) ?_
     exact wJ G hm
    ·obtain ⟨r1, h2, hm⟩ := obind hm
     refine re G (hC 1 (i_isName_c h1) (hO 3 (.b false) (hP hb1 (hC 6 (slices_Index_string_c h2) h0)))) ?_
     exact wJ G hm
   rintro v1 hm
   refine cd hm (fun hm => ?_) (fun hm => ?_)
   ·refine rg G ?_
    have hm := eL hm hb hr
    cases hm
    exact rt [] []
   ·exact X_skip (ibN (thN (rh G (wL G hm))))
  ·exact Ok_exit (thE (thE (ibE (wE G hm hb))))
 rintro ⟨⟩ hm s hw
 refine thN (Ok_weak hw ?_)
 refine rg G ?_
 cases hm
 exact rt [] []
noncomputable def i_lineNames_M : MS Network ((List ByteArray)) := ⟨.r, i_lineNames, fun _ => .own 0, fun y => [arO 9 y], fun _ _ => []⟩
theorem i_lineNames_c {n y} (hm : i_lineNames n = some y) : i_lineNames_M.C n y := i_lineNames_M.c n hm
theorem i_lineNames_ok : FnOK Try.prog tJ 210 i_lineNames_M.S := by
 refine fm tt i_lineNames_M [] Try.call210 Try.func210 rfl Try.results210 Try.ntmps210 ?_
 rintro n y cx G hm
 have hm : i_lineNames n = some y := hm
 unfold i_lineNames at hm
 refine rg G ?_
 obtain ⟨u, h, hm⟩ := obind hm
 refine rs G (hN 2 n.Lines (hO 3 (.l (List.map Enc.e (List.replicate (n.Lines.length : Int).toNat (ByteArray.empty : ByteArray)))) (hP (mk_p (b := 16) (chk_t h) rfl) (hP (rep_m Enc.e (n.Lines.length : Int).toNat (ByteArray.empty : ByteArray)) h0)))) ?_
 refine Ok_seq (rs G (hN 2 n.Lines h0) ?_)
 refine tl hm (fun i1 => ⟨[(3, .own 16)], [aX 16 9 i1], 48⟩) (fun i1 hm => ?_) ?_
 ·refine Ok_block (lp G hm (fun (v, i) => ⟨[(3, .own 16), (11, dV n.Lines), (12, dV (n.Lines.length : Int)), (13, dV v)], [aX 16 9 i], 48⟩) ?_)
  rintro ⟨v, i⟩ r0 hb hm
  rw [i_lineNames_L1] at hm
  refine rg G (Ok_seq (cd hm (fun hm => ?_) (fun hm => ?_)))
  ·refine X_skip (thN (Ok_seq (Ok_block ?_)))
   obtain ⟨e, h1, hm⟩ := obind hm
   refine rs G (hD 1 h1 h0) ?_
   obtain ⟨e1, h2, hm⟩ := obind hm
   refine re G (hD 4 h2 (hS 5 h2 e.Name h0)) ?_
   exact ibN (thN (rh G (wL G hm)))
  ·exact Ok_exit (thE (thE (ibE (wD G hm hb))))
 rintro i1 hm s hw
 refine thN (Ok_weak hw ?_)
 refine rg G ?_
 cases hm
 exact rt [16] []
noncomputable def i_isStop_M : MS (Network × Int) Bool := ⟨.x .r .r, fun x => i_isStop x.1 x.2, fun y => dV y, fun _ => [], fun _ _ => []⟩
theorem i_isStop_c {n stop y} (hm : i_isStop n stop = some y) : i_isStop_M.C (n, stop) y := i_isStop_M.c (n, stop) hm
theorem i_isStop_ok : FnOK Try.prog tJ 194 i_isStop_M.S := by
 refine fm tt i_isStop_M [] Try.call194 Try.func194 rfl Try.results194 Try.ntmps194 ?_
 rintro ⟨n, stop⟩ y cx G hm
 have hm : i_isStop n stop = some y := hm
 unfold i_isStop at hm
 refine rg G (jn hm (fun v => ⟨[(4, dV v)], [], 32⟩) (fun v hm => ?_) ?_)
 ·rcases bf hm with ⟨hb, hm⟩ | ⟨hb, hm⟩
  ·refine re G (hO 2 (.b true) (hP hb (hN 6 n.Stops h0))) ?_
   exact wJ G hm
  ·refine re G (hO 2 (.b false) (hP hb h0)) ?_
   exact wJ G hm
 rintro v hm
 cases hm
 exact rt [] []
noncomputable def slices_Index_int_M : MS ((List Int) × Int) Int := ⟨.x .r .r, fun x => slices_Index_int x.1 x.2, fun y => dV y, fun _ => [], fun _ _ => []⟩
theorem slices_Index_int_c {s v y} (hm : slices_Index_int s v = some y) : slices_Index_int_M.C (s, v) y := slices_Index_int_M.c (s, v) hm
theorem slices_Index_int_ok : FnOK Try.prog tJ 155 slices_Index_int_M.S := by
 refine fm tt slices_Index_int_M [] Try.call155 Try.func155 rfl Try.results155 Try.ntmps155 ?_
 rintro ⟨s, v⟩ y cx G hm
 have hm : slices_Index_int s v = some y := hm
 unfold slices_Index_int at hm
 refine rg G (Ok_seq (rs G (hN 1 s h0) ?_))
 refine tF hm (fun _ => ⟨[], [], 32⟩) (fun v2 hr hm => ?_) ?_
 ·refine Ok_block (lp G hm (fun v1 => ⟨[(0, dV s), (1, dV v), (7, dV (s.length : Int)), (8, dV v1)], [], 32⟩) ?_)
  rintro v1 r0 hb hm
  rw [slices_Index_int_L1] at hm
  refine rg G (Ok_seq (cd hm (fun hm => ?_) (fun hm => ?_)))
  ·refine X_skip (thN (Ok_seq (Ok_block (rg G ?_))))
   obtain ⟨e, h, hm⟩ := obind hm
   refine rs G (hD 3 h h0) ?_
   refine cd hm (fun hm => ?_) (fun hm => ?_)
   ·refine rg G ?_
    have hm := eL hm hb hr
    cases hm
    exact rt [] []
   ·exact X_skip (ibN (thN (rh G (wL G hm))))
  ·exact Ok_exit (thE (thE (ibE (wE G hm hb))))
 rintro ⟨⟩ hm s1 hw
 refine thN (Ok_weak hw ?_)
 refine rg G ?_
 cases hm
 exact rt [] []
noncomputable def i_isValidLine_M : MS (Network × Line) Bool := ⟨.x .r .r, fun x => i_isValidLine x.1 x.2, fun y => dV y, fun _ => [], fun _ _ => []⟩
theorem i_isValidLine_c {n l y} (hm : i_isValidLine n l = some y) : i_isValidLine_M.C (n, l) y := i_isValidLine_M.c (n, l) hm
theorem i_isValidLine_ok : FnOK Try.prog tJ 211 i_isValidLine_M.S := by
 refine fm tt i_isValidLine_M [fo i_within_ok, fo i_isStop_ok, fo slices_Index_int_ok] Try.call211 Try.func211 rfl Try.results211 Try.ntmps211 ?_
 rintro ⟨n, l⟩ y cx G hm
 have hm : i_isValidLine n l = some y := hm
 unfold i_isValidLine at hm
 refine rg G (Ok_seq ?_)
 obtain ⟨r, h, hm⟩ := obind hm
 refine jn hm (fun v => ⟨[(2, .ref 16 0), (3, .ref 32 0), (23, dV v)], [bX 16 60 [dV n.Stops, dV n.Lines], bX 32 194 [dV l.Name, dV l.Stops, dV l.Runs]], 64⟩) (fun v hm => ?_) ?_
 ·rcases bf hm with ⟨hb, hm⟩ | ⟨hb, hm⟩
  ·refine re G (hN 2 l.Stops (hC 3 (i_within_c h) (hO 5 (.b true) (hP hb h0)))) ?_
   exact wJ G hm
  ·refine re G (hN 2 l.Stops (hC 3 (i_within_c h) (hO 5 (.b false) (hP hb (hN 8 l.Runs (hN 11 l.Stops h0)))))) ?_
   exact wJ G hm
 rintro v hm
 refine cd hm (fun hm => ?_) (fun hm => ?_)
 ·refine rg G ?_
  cases hm
  exact rt [] []
 ·refine X_skip (thN (Ok_seq (rs G (hN 2 l.Stops h0) ?_)))
  refine tF hm (fun _ => ⟨[(3, .ref 16 0)], [bX 16 194 [dV l.Name, dV l.Stops, dV l.Runs]], 48⟩) (fun v5 hr hm => ?_) ?_
  ·refine Ok_block (lp G hm (fun v1 => ⟨[(2, .ref 16 0), (3, .ref 32 0), (25, dV l.Stops), (26, dV (l.Stops.length : Int)), (27, dV v1)], [bX 16 60 [dV n.Stops, dV n.Lines], bX 32 194 [dV l.Name, dV l.Stops, dV l.Runs]], 64⟩) ?_)
   rintro v1 r0 hb1 hm
   rw [i_isValidLine_L1] at hm
   refine rg G (Ok_seq (cd hm (fun hm => ?_) (fun hm => ?_)))
   ·refine X_skip (thN (Ok_seq (Ok_block ?_)))
    obtain ⟨e, h1, hm⟩ := obind hm
    refine rs G (hD 1 h1 h0) ?_
    obtain ⟨r1, h2, hm⟩ := obind hm
    refine jn hm (fun v2 => ⟨[(2, .ref 16 0), (3, .ref 32 0), (25, dV l.Stops), (26, dV (l.Stops.length : Int)), (27, dV v1), (43, dV v2)], [bX 16 60 [dV n.Stops, dV n.Lines], bX 32 194 [dV l.Name, dV l.Stops, dV l.Runs]], 64⟩) (fun v2 hm => ?_) ?_
    ·rcases bf hm with ⟨hb2, hm⟩ | ⟨hb2, hm⟩
     ·refine re G (hC 2 (i_isStop_c h2) (hO 4 (.b true) (hP hb2 h0))) ?_
      exact wJ G hm
     ·obtain ⟨r2, h3, hm⟩ := obind hm
      refine re G (hC 2 (i_isStop_c h2) (hO 4 (.b false) (hP hb2 (hC 8 (slices_Index_int_c h3) h0)))) ?_
      exact wJ G hm
    rintro v2 hm
    refine cd hm (fun hm => ?_) (fun hm => ?_)
    ·refine rg G ?_
     have hm := eL hm hb1 hr
     cases hm
     exact rt [] []
    ·exact X_skip (ibN (thN (rh G (wL G hm))))
   ·exact Ok_exit (thE (thE (ibE (wE G hm hb1))))
  rintro ⟨⟩ hm s hw
  refine thN (Ok_weak hw ?_)
  refine Ok_seq (rs G (hN 2 l.Runs h0) ?_)
  refine tF hm (fun _ => ⟨[], [], 32⟩) (fun v4 hr1 hm => ?_) ?_
  ·refine Ok_block (lp G hm (fun v3 => ⟨[(46, dV l.Runs), (47, dV (l.Runs.length : Int)), (48, dV v3)], [], 32⟩) ?_)
   rintro v3 r0 hb3 hm
   rw [i_isValidLine_L2] at hm
   refine rg G (Ok_seq (cd hm (fun hm => ?_) (fun hm => ?_)))
   ·refine X_skip (thN (Ok_seq (Ok_block ?_)))
    obtain ⟨e2, h4, hm⟩ := obind hm
    refine rs G (hD 0 h4 h0) ?_
    obtain ⟨r4, h5, hm⟩ := obind hm
    refine rs G (hC 1 (i_within_c h5) h0) ?_
    refine cd hm (fun hm => ?_) (fun hm => ?_)
    ·refine rg G ?_
     have hm := eL hm hb3 hr1
     cases hm
     exact rt [] []
    ·exact X_skip (ibN (thN (rh G (wL G hm))))
   ·exact Ok_exit (thE (thE (ibE (wE G hm hb3))))
  rintro ⟨⟩ hm s1 hw1
  refine thN (Ok_weak hw1 ?_)
  refine rg G ?_
  cases hm
  exact rt [] []
noncomputable def i_IsValidNetwork_M : MS Network Bool := ⟨.r, i_IsValidNetwork, fun y => dV y, fun _ => [], fun _ _ => []⟩
theorem i_IsValidNetwork_c {n y} (hm : i_IsValidNetwork n = some y) : i_IsValidNetwork_M.C n y := i_IsValidNetwork_M.c n hm
theorem i_IsValidNetwork_ok : FnOK Try.prog tJ 165 i_IsValidNetwork_M.S := by
 refine fm tt i_IsValidNetwork_M [fo i_within_ok, fo i_areNames_ok, fo i_lineNames_ok, fo i_isValidLine_ok] Try.call165 Try.func165 rfl Try.results165 Try.ntmps165 ?_
 rintro n y cx G hm
 have hm : i_IsValidNetwork n = some y := hm
 unfold i_IsValidNetwork at hm
 refine rg G (Ok_seq ?_)
 obtain ⟨r, h, hm⟩ := obind hm
 refine jn hm (fun v => ⟨[(1, .ref 16 0), (28, dV v)], [bX 16 60 [dV n.Stops, dV n.Lines]], 48⟩) (fun v hm => ?_) ?_
 ·rcases bf hm with ⟨hb, hm⟩ | ⟨hb, hm⟩
  ·refine re G (hN 2 n.Stops (hC 3 (i_within_c h) (hO 5 (.b true) (hP hb h0)))) ?_
   exact wJ G hm
  ·obtain ⟨r1, h1, hm⟩ := obind hm
   rcases bf hm with ⟨hb1, hm⟩ | ⟨hb1, hm⟩
   ·refine re G (hN 2 n.Stops (hC 3 (i_within_c h) (hO 5 (.b false) (hP hb (hN 8 n.Lines (hC 9 (i_within_c h1) (hO 12 (.b true) (hP hb1 h0)))))))) ?_
    exact wJ G hm
   ·obtain ⟨r2, h2, hm⟩ := obind hm
    rcases bf hm with ⟨hb2, hm⟩ | ⟨hb2, hm⟩
    ·refine re G (hN 2 n.Stops (hC 3 (i_within_c h) (hO 5 (.b false) (hP hb (hN 8 n.Lines (hC 9 (i_within_c h1) (hO 12 (.b false) (hP hb1 (hC 15 (i_areNames_c h2) (hO 18 (.b true) (hP hb2 h0))))))))))) ?_
     exact wJ G hm
    ·obtain ⟨r3, h3, hm⟩ := obind hm
     obtain ⟨r4, h4, hm⟩ := obind hm
     refine re G (hN 2 n.Stops (hC 3 (i_within_c h) (hO 5 (.b false) (hP hb (hN 8 n.Lines (hC 9 (i_within_c h1) (hO 12 (.b false) (hP hb1 (hC 15 (i_areNames_c h2) (hO 18 (.b false) (hP hb2 (hC 20 (i_lineNames_c h3) (hC 21 (i_areNames_c h4) h0))))))))))))) ?_
     exact wJ G hm
 rintro v hm
 refine cd hm (fun hm => ?_) (fun hm => ?_)
 ·refine rg G ?_
  cases hm
  exact rt [] []
 ·refine X_skip (thN (Ok_seq (rs G (hN 2 n.Lines h0) ?_)))
  refine tF hm (fun _ => ⟨[], [], 32⟩) (fun v2 hr hm => ?_) ?_
  ·refine Ok_block (lp G hm (fun v1 => ⟨[(1, .ref 16 0), (30, dV n.Lines), (31, dV (n.Lines.length : Int)), (32, dV v1)], [bX 16 60 [dV n.Stops, dV n.Lines]], 48⟩) ?_)
   rintro v1 r0 hb3 hm
   rw [i_IsValidNetwork_L1] at hm
   refine rg G (Ok_seq (cd hm (fun hm => ?_) (fun hm => ?_)))
   ·refine X_skip (thN (Ok_seq (Ok_block ?_)))
    obtain ⟨e, h5, hm⟩ := obind hm
    refine rs G (hD 0 h5 h0) ?_
    obtain ⟨r5, h6, hm⟩ := obind hm
    refine rs G (hC 2 (i_isValidLine_c h6) h0) ?_
    refine cd hm (fun hm => ?_) (fun hm => ?_)
    ·refine rg G ?_
     have hm := eL hm hb3 hr
     cases hm
     exact rt [] []
    ·exact X_skip (ibN (thN (rh G (wL G hm))))
   ·exact Ok_exit (thE (thE (ibE (wE G hm hb3))))
  rintro ⟨⟩ hm s hw
  refine thN (Ok_weak hw ?_)
  refine rg G ?_
  cases hm
  exact rt [] []
noncomputable def i_isLine_M : MS (Network × Int) Bool := ⟨.x .r .r, fun x => i_isLine x.1 x.2, fun y => dV y, fun _ => [], fun _ _ => []⟩
theorem i_isLine_c {n line y} (hm : i_isLine n line = some y) : i_isLine_M.C (n, line) y := i_isLine_M.c (n, line) hm
theorem i_isLine_ok : FnOK Try.prog tJ 200 i_isLine_M.S := by
 refine fm tt i_isLine_M [] Try.call200 Try.func200 rfl Try.results200 Try.ntmps200 ?_
 rintro ⟨n, line⟩ y cx G hm
 have hm : i_isLine n line = some y := hm
 unfold i_isLine at hm
 refine rg G (jn hm (fun v => ⟨[(4, dV v)], [], 32⟩) (fun v hm => ?_) ?_)
 ·rcases bf hm with ⟨hb, hm⟩ | ⟨hb, hm⟩
  ·refine re G (hO 2 (.b true) (hP hb (hN 6 n.Lines h0))) ?_
   exact wJ G hm
  ·refine re G (hO 2 (.b false) (hP hb h0)) ?_
   exact wJ G hm
 rintro v hm
 cases hm
 exact rt [] []
noncomputable def i_IsValidTime_M : MS Int Bool := ⟨.r, i_IsValidTime, fun y => dV y, fun _ => [], fun _ _ => []⟩
theorem i_IsValidTime_c {t y} (hm : i_IsValidTime t = some y) : i_IsValidTime_M.C t y := i_IsValidTime_M.c t hm
theorem i_IsValidTime_ok : FnOK Try.prog tJ 212 i_IsValidTime_M.S := by
 refine fm tt i_IsValidTime_M [fo i_within_ok] Try.call212 Try.func212 rfl Try.results212 Try.ntmps212 ?_
 rintro t y cx G hm
 have hm : i_IsValidTime t = some y := hm
 unfold i_IsValidTime at hm
 refine rg G ?_
 obtain ⟨r, h, hm⟩ := obind hm
 refine rs G (hC 1 (i_within_c h) h0) ?_
 cases hm
 exact rt [] []
noncomputable def i_total_M : MS ((List Int)) Int := ⟨.r, i_total, fun y => dV y, fun _ => [], fun _ _ => []⟩
theorem i_total_c {list y} (hm : i_total list = some y) : i_total_M.C list y := i_total_M.c list hm
theorem i_total_ok : FnOK Try.prog tJ 198 i_total_M.S := by
 refine fm tt i_total_M [] Try.call198 Try.func198 rfl Try.results198 Try.ntmps198 ?_
 rintro list y cx G hm
 have hm : i_total list = some y := hm
 unfold i_total at hm
 refine rg G (rg G (Ok_seq (rs G (hN 1 list h0) ?_)))
 refine tl hm (fun v2 => ⟨[(3, dV v2)], [], 32⟩) (fun v2 hm => ?_) ?_
 ·refine Ok_block (lp G hm (fun (v, v1) => ⟨[(3, dV v), (6, dV list), (7, dV (list.length : Int)), (8, dV v1)], [], 32⟩) ?_)
  rintro ⟨v, v1⟩ r0 hb hm
  rw [i_total_L1] at hm
  refine rg G (Ok_seq (cd hm (fun hm => ?_) (fun hm => ?_)))
  ·refine X_skip (thN (Ok_seq (Ok_block ?_)))
   obtain ⟨e, h, hm⟩ := obind hm
   refine rs G (hD 0 h h0) ?_
   exact rh G (ibN (thN (rh G (wL G hm))))
  ·exact Ok_exit (thE (thE (ibE (wD G hm hb))))
 rintro v2 hm s hw
 refine thN (Ok_weak hw ?_)
 refine rg G ?_
 cases hm
 exact rt [] []
noncomputable def i_endOf_M : MS (Timetable × Trip) Int := ⟨.x .r .r, fun x => i_endOf x.1 x.2, fun y => dV y, fun _ => [], fun _ _ => []⟩
theorem i_endOf_c {t x y} (hm : i_endOf t x = some y) : i_endOf_M.C (t, x) y := i_endOf_M.c (t, x) hm
theorem i_endOf_ok : FnOK Try.prog tJ 187 i_endOf_M.S := by
 refine fm tt i_endOf_M [fo i_total_ok] Try.call187 Try.func187 rfl Try.results187 Try.ntmps187 ?_
 rintro ⟨t, x⟩ y cx G hm
 have hm : i_endOf t x = some y := hm
 unfold i_endOf at hm
 refine rg G ?_
 obtain ⟨e1, h2, hm⟩ := obind hm
 obtain ⟨r1, h3, hm⟩ := obind hm
 refine ds G [] (hD 7 h2 (hC 10 (i_total_c h3) h0)) ?_
 cases hm
 exact rt [] []
noncomputable def i_areTrips_M : MS Timetable Bool := ⟨.r, i_areTrips, fun y => dV y, fun _ => [], fun _ _ => []⟩
theorem i_areTrips_c {t y} (hm : i_areTrips t = some y) : i_areTrips_M.C t y := i_areTrips_M.c t hm
theorem i_areTrips_ok : FnOK Try.prog tJ 166 i_areTrips_M.S := by
 refine fm tt i_areTrips_M [fo i_isLine_ok, fo i_IsValidTime_ok, fo i_endOf_ok] Try.call166 Try.func166 rfl Try.results166 Try.ntmps166 ?_
 rintro t y cx G hm
 have hm : i_areTrips t = some y := hm
 unfold i_areTrips at hm
 refine rg G (Ok_seq (rs G (hN 2 t.Trips h0) ?_))
 refine cd hm (fun hm => ?_) (fun hm => ?_)
 ·refine rg G ?_
  cases hm
  exact rt [] []
 ·refine X_skip (thN (rg G (Ok_seq (rs G (hN 2 t.Trips h0) ?_))))
  refine tF hm (fun _ => ⟨[], [], 32⟩) (fun v3 hr hm => ?_) ?_
  ·refine Ok_block (lp G hm (fun (v, v1) => ⟨[(1, .ref 16 0), (3, dV v), (11, dV t.Trips), (12, dV (t.Trips.length : Int)), (13, dV v1)], [bX 16 63 [dV t.Network.Stops, dV t.Network.Lines, dV t.Trips]], 48⟩) ?_)
   rintro ⟨v, v1⟩ r0 hb hm
   rw [i_areTrips_L1] at hm
   refine rg G (Ok_seq (cd hm (fun hm => ?_) (fun hm => ?_)))
   ·refine X_skip (thN (Ok_seq (Ok_block ?_)))
    obtain ⟨e, h, hm⟩ := obind hm
    refine rs G (hD 0 h h0) ?_
    refine Ok_seq (jn hm (fun v2 => ⟨[(1, .ref 16 0), (5, .ref 32 0), (11, dV t.Trips), (12, dV (t.Trips.length : Int)), (13, dV v1), (46, dV v2)], [bX 16 63 [dV t.Network.Stops, dV t.Network.Lines, dV t.Trips], bX 32 168 [dV e.Id, dV e.Line, dV e.Start]], 64⟩) (fun v2 hm => ?_) ?_)
    ·rcases bf hm with ⟨hb1, hm⟩ | ⟨hb1, hm⟩
     ·refine re G (hO 4 (.b true) (hP hb1 h0)) ?_
      exact wJ G hm
     ·rcases bf hm with ⟨hb2, hm⟩ | ⟨hb2, hm⟩
      ·refine re G (hO 4 (.b false) (hP hb1 (hO 9 (.b true) (hP hb2 h0)))) ?_
       exact wJ G hm
      ·obtain ⟨r, h1, hm⟩ := obind hm
       rcases bf hm with ⟨hb3, hm⟩ | ⟨hb3, hm⟩
       ·refine re G (hO 4 (.b false) (hP hb1 (hO 9 (.b false) (hP hb2 (hC 14 (i_isLine_c h1) (hO 17 (.b true) (hP hb3 h0))))))) ?_
        exact wJ G hm
       ·obtain ⟨r1, h2, hm⟩ := obind hm
        rcases bf hm with ⟨hb4, hm⟩ | ⟨hb4, hm⟩
        ·refine re G (hO 4 (.b false) (hP hb1 (hO 9 (.b false) (hP hb2 (hC 14 (i_isLine_c h1) (hO 17 (.b false) (hP hb3 (hC 20 (i_IsValidTime_c h2) (hO 23 (.b true) (hP hb4 h0)))))))))) ?_
         exact wJ G hm
        ·obtain ⟨r2, h3, hm⟩ := obind hm
         obtain ⟨r3, h4, hm⟩ := obind hm
         refine re G (hO 4 (.b false) (hP hb1 (hO 9 (.b false) (hP hb2 (hC 14 (i_isLine_c h1) (hO 17 (.b false) (hP hb3 (hC 20 (i_IsValidTime_c h2) (hO 23 (.b false) (hP hb4 (hC 26 (i_endOf_c h3) (hC 27 (i_IsValidTime_c h4) h0)))))))))))) ?_
         exact wJ G hm
    rintro v2 hm
    refine cd hm (fun hm => ?_) (fun hm => ?_)
    ·refine rg G ?_
     have hm := eL hm hb hr
     cases hm
     exact rt [] []
    ·exact X_skip (thN (rh G (ibN (thN (rh G (wL G hm))))))
   ·exact Ok_exit (thE (thE (ibE (wE G hm hb))))
  rintro ⟨⟩ hm s hw
  refine thN (Ok_weak hw ?_)
  refine rg G ?_
  cases hm
  exact rt [] []
noncomputable def i_IsValidTimetable_M : MS Timetable Bool := ⟨.r, i_IsValidTimetable, fun y => dV y, fun _ => [], fun _ _ => []⟩
theorem i_IsValidTimetable_c {t y} (hm : i_IsValidTimetable t = some y) : i_IsValidTimetable_M.C t y := i_IsValidTimetable_M.c t hm
theorem i_IsValidTimetable_ok : FnOK Try.prog tJ 98 i_IsValidTimetable_M.S := by
 refine fm tt i_IsValidTimetable_M [fo i_IsValidNetwork_ok, fo i_areTrips_ok] Try.call98 Try.func98 rfl Try.results98 Try.ntmps98 ?_
 rintro t y cx G hm
 have hm : i_IsValidTimetable t = some y := hm
 unfold i_IsValidTimetable at hm
 refine rg G ?_
 obtain ⟨r, h, hm⟩ := obind hm
 refine jn hm (fun v => ⟨[(2, dV v)], [], 32⟩) (fun v hm => ?_) ?_
 ·rcases bf hm with ⟨hb, hm⟩ | ⟨hb, hm⟩
  ·obtain ⟨r1, h1, hm⟩ := obind hm
   refine re G (hC 2 (i_IsValidNetwork_c h) (hO 3 (.b true) (hP hb (hC 5 (i_areTrips_c h1) h0)))) ?_
   exact wJ G hm
  ·refine re G (hC 2 (i_IsValidNetwork_c h) (hO 3 (.b false) (hP hb h0))) ?_
   exact wJ G hm
 rintro v hm
 cases hm
 exact rt [] []
noncomputable def slices_Clone_string_M : MS ((List ByteArray)) ((List ByteArray)) := ⟨.r, slices_Clone_string, fun _ => .own 0, fun y => [arO 9 y], fun _ _ => []⟩
theorem slices_Clone_string_c {s y} (hm : slices_Clone_string s = some y) : slices_Clone_string_M.C s y := slices_Clone_string_M.c s hm
theorem slices_Clone_string_ok : FnOK Try.prog tJ 213 slices_Clone_string_M.S := by
 refine fm tt slices_Clone_string_M [] Try.call213 Try.func213 rfl Try.results213 Try.ntmps213 ?_
 rintro s y cx G hm
 have hm : slices_Clone_string s = some y := hm
 unfold slices_Clone_string at hm
 obtain ⟨u, h, hm⟩ := obind hm
 cases hm
 refine rg G (Ok_seq (X_nil_seq G.t.ty G.ok 1 (ds := List.map Enc.e s) (es := 1) [] .nil (by kernel_rfl) (by rfl) (by rfl) (by kernel_rfl) ?_))
 intro b hb
 refine X_cond b (by kernel_rfl) (fun hc => ?_) (fun hc => ?_)
 ·have hl : s = [] := by
   cases s with
   | nil => rfl
   | cons a r => have := hb (by simp); rw [hc] at this; cases this
  subst hl
  refine rg G (Ok_weak (Wk_J (x' := ⟨[(2, .own 16)], [(16, some (.arr 9 1 []))], 32⟩) G.hL ⟨[(2, [.o 16])], [], [(16, 9, 1, [])], 32⟩ (by kernel_rfl)) ?_)
  exact rt [16] []
 ·refine sN (rs G (hA 2 16 h h0) ?_)
  exact rt [96] []
noncomputable def slices_Clone_int_M : MS ((List Int)) ((List Int)) := ⟨.r, slices_Clone_int, fun _ => .own 0, fun y => [arO 3 y], fun _ _ => []⟩
theorem slices_Clone_int_c {s y} (hm : slices_Clone_int s = some y) : slices_Clone_int_M.C s y := slices_Clone_int_M.c s hm
theorem slices_Clone_int_ok : FnOK Try.prog tJ 84 slices_Clone_int_M.S := by
 refine fm tt slices_Clone_int_M [] Try.call84 Try.func84 rfl Try.results84 Try.ntmps84 ?_
 rintro s y cx G hm
 have hm : slices_Clone_int s = some y := hm
 unfold slices_Clone_int at hm
 obtain ⟨u, h, hm⟩ := obind hm
 cases hm
 refine rg G (Ok_seq (X_nil_seq G.t.ty G.ok 1 (ds := List.map Enc.e s) (es := 1) [] .nil (by kernel_rfl) (by rfl) (by rfl) (by kernel_rfl) ?_))
 intro b hb
 refine X_cond b (by kernel_rfl) (fun hc => ?_) (fun hc => ?_)
 ·have hl : s = [] := by
   cases s with
   | nil => rfl
   | cons a r => have := hb (by simp); rw [hc] at this; cases this
  subst hl
  refine rg G (Ok_weak (Wk_J (x' := ⟨[(2, .own 16)], [(16, some (.arr 3 1 []))], 32⟩) G.hL ⟨[(2, [.o 16])], [], [(16, 3, 1, [])], 32⟩ (by kernel_rfl)) ?_)
  exact rt [16] []
 ·refine sN (rs G (hA 2 8 h h0) ?_)
  exact rt [96] []
noncomputable def i_copyLine_M : MS Line Line := ⟨.r, i_copyLine, fun y => .aggv [dV y.Name, .own 0, .own 1], fun y => [arO 3 y.Stops, arO 3 y.Runs], fun _ _ => []⟩
theorem i_copyLine_c {l y} (hm : i_copyLine l = some y) : i_copyLine_M.C l y := i_copyLine_M.c l hm
theorem i_copyLine_ok : FnOK Try.prog tJ 214 i_copyLine_M.S := by
 refine fm tt i_copyLine_M [fo slices_Clone_int_ok] Try.call214 Try.func214 rfl Try.results214 Try.ntmps214 ?_
 rintro l y cx G hm
 have hm : i_copyLine l = some y := hm
 unfold i_copyLine at hm
 refine rg G ?_
 obtain ⟨r2, h2, hm⟩ := obind hm
 obtain ⟨r3, h3, hm⟩ := obind hm
 refine ds G [(9, [32, 112, 160])] (hC 4 (slices_Clone_int_c h2) (hC 7 (slices_Clone_int_c h3) h0)) ?_
 cases hm
 exact rt [112, 160] []
noncomputable def i_copyNetwork_M : MS Network Network := ⟨.r, i_copyNetwork, fun _ => .aggv [.own 0, .own 1], fun y => [arO 9 y.Stops, taO 194 [none, some 3, some 3] y.Lines], fun _ _ => []⟩
theorem i_copyNetwork_c {n y} (hm : i_copyNetwork n = some y) : i_copyNetwork_M.C n y := i_copyNetwork_M.c n hm
theorem i_copyNetwork_ok : FnOK Try.prog tJ 167 i_copyNetwork_M.S := by
 refine fm tt i_copyNetwork_M [fo slices_Clone_string_ok, fo i_copyLine_ok] Try.call167 Try.func167 rfl Try.results167 Try.ntmps167 ?_
 rintro n y cx G hm
 have hm : i_copyNetwork n = some y := hm
 unfold i_copyNetwork at hm
 refine rg G ?_
 obtain ⟨r1, h2, hm⟩ := obind hm
 obtain ⟨u1, h3, hm⟩ := obind hm
 refine ds G [(9, [80, 144, 176])] (hC 2 (slices_Clone_string_c h2) (hN 5 n.Lines (hO 6 (.l (List.map Enc.e (List.replicate (n.Lines.length : Int).toNat ((⟨ByteArray.empty, ([] : List Int), ([] : List Int)⟩ : Line) : Line)))) (hP (mk_p (b := 64) (chk_t h3) rfl) (hP (rep_m Enc.e (n.Lines.length : Int).toNat ((⟨ByteArray.empty, ([] : List Int), ([] : List Int)⟩ : Line) : Line)) h0))))) ?_
 refine Ok_seq (rs G (hN 2 n.Lines h0) ?_)
 refine tl hm (fun v2 => ⟨[(2, .ref 16 0), (3, .ref 32 0)], [bX 16 60 [.dat (.sc (.slice none 0 0)), .dat (.sc (.slice none 0 0))], bX 32 60 [.own 48, .own 64], aX 48 9 r1, tX 64 194 [none, some 3, some 3] v2 64 none], 96⟩) (fun v2 hm => ?_) ?_
 ·refine Ok_block (lp G hm (fun (v, v1) => ⟨[(2, .ref 16 0), (3, .ref 32 0), (15, dV n.Lines), (16, dV (n.Lines.length : Int)), (17, dV v)], [bX 16 60 [.dat (.sc (.slice none 0 0)), .dat (.sc (.slice none 0 0))], bX 32 60 [.own 48, .own 64], aX 48 9 r1, tX 64 194 [none, some 3, some 3] v1 64 none], 96⟩) ?_)
  rintro ⟨v, v1⟩ r0 hb hm
  rw [i_copyNetwork_L1] at hm
  refine rg G (Ok_seq (cd hm (fun hm => ?_) (fun hm => ?_)))
  ·refine X_skip (thN (Ok_seq (Ok_block ?_)))
   obtain ⟨e, h4, hm⟩ := obind hm
   refine rs G (hD 1 h4 h0) ?_
   obtain ⟨r3, h7, hm⟩ := obind hm
   obtain ⟨e2, h8, hm⟩ := obind hm
   refine de G [(6, [64, 272, 273])] (hC 4 (i_copyLine_c h7) (hD 5 h8 (hS 6 h8 r3 h0))) ?_
   exact ibN (thN (rh G (wL G hm)))
  ·exact Ok_exit (thE (thE (ibE (wD G hm hb))))
 rintro v2 hm s hw
 refine thN (Ok_weak hw ?_)
 refine rg G ?_
 cases hm
 exact rt [48, 64] []
noncomputable def slices_Clone_Trip_M : MS ((List Trip)) ((List Trip)) := ⟨.r, slices_Clone_Trip, fun _ => .own 0, fun y => [arO 168 y], fun _ _ => []⟩
theorem slices_Clone_Trip_c {s y} (hm : slices_Clone_Trip s = some y) : slices_Clone_Trip_M.C s y := slices_Clone_Trip_M.c s hm
theorem slices_Clone_Trip_ok : FnOK Try.prog tJ 168 slices_Clone_Trip_M.S := by
 refine fm tt slices_Clone_Trip_M [] Try.call168 Try.func168 rfl Try.results168 Try.ntmps168 ?_
 rintro s y cx G hm
 have hm : slices_Clone_Trip s = some y := hm
 unfold slices_Clone_Trip at hm
 obtain ⟨u, h, hm⟩ := obind hm
 cases hm
 refine rg G (Ok_seq (X_nil_seq G.t.ty G.ok 1 (ds := List.map Enc.e s) (es := 3) [] .nil (by kernel_rfl) (by rfl) (by rfl) (by kernel_rfl) ?_))
 intro b hb
 refine X_cond b (by kernel_rfl) (fun hc => ?_) (fun hc => ?_)
 ·have hl : s = [] := by
   cases s with
   | nil => rfl
   | cons a r => have := hb (by simp); rw [hc] at this; cases this
  subst hl
  refine rg G (Ok_weak (Wk_J (x' := ⟨[(2, .own 16)], [(16, some (.arr 168 3 []))], 32⟩) G.hL ⟨[(2, [.o 16])], [], [(16, 168, 3, [])], 32⟩ (by kernel_rfl)) ?_)
  exact rt [16] []
 ·refine sN (rs G (hA 2 24 h h0) ?_)
  exact rt [96] []
noncomputable def i_copyTimetable_M : MS Timetable Timetable := ⟨.r, i_copyTimetable, fun _ => .aggv [.own 0, .own 1, .own 2], fun y => [arO 9 y.Network.Stops, taO 194 [none, some 3, some 3] y.Network.Lines, arO 168 y.Trips], fun _ _ => []⟩
theorem i_copyTimetable_c {t y} (hm : i_copyTimetable t = some y) : i_copyTimetable_M.C t y := i_copyTimetable_M.c t hm
theorem i_copyTimetable_ok : FnOK Try.prog tJ 99 i_copyTimetable_M.S := by
 refine fm tt i_copyTimetable_M [fo i_copyNetwork_ok, fo slices_Clone_Trip_ok] Try.call99 Try.func99 rfl Try.results99 Try.ntmps99 ?_
 rintro t y cx G hm
 have hm : i_copyTimetable t = some y := hm
 unfold i_copyTimetable at hm
 refine rg G ?_
 obtain ⟨r2, h2, hm⟩ := obind hm
 obtain ⟨r3, h3, hm⟩ := obind hm
 refine ds G [(7, [32, 80, 81, 128])] (hC 2 (i_copyNetwork_c h2) (hC 5 (slices_Clone_Trip_c h3) h0)) ?_
 cases hm
 exact rt [80, 81, 128] []
noncomputable def i_NewConsole_M : MS Timetable (Console × Bool) := ⟨.r, i_NewConsole, fun y => .tup [.aggv [.own 0, .own 1, .own 2, dV y.1.Change, dV y.1.Log.Durable, dV y.1.Log.Pending, dV y.1.Log.Count], dV y.2], fun y => [arO 9 y.1.Timetable.Network.Stops, taO 194 [none, some 3, some 3] y.1.Timetable.Network.Lines, arO 168 y.1.Timetable.Trips], fun _ _ => []⟩
theorem i_NewConsole_c {t y} (hm : i_NewConsole t = some y) : i_NewConsole_M.C t y := i_NewConsole_M.c t hm
theorem i_NewConsole_ok : FnOK Try.prog tJ 28 i_NewConsole_M.S := by
 refine fm tt i_NewConsole_M [fo i_IsValidTimetable_ok, fo i_copyTimetable_ok] Try.call28 Try.func28 rfl Try.results28 Try.ntmps28 ?_
 rintro t y cx G hm
 have hm : i_NewConsole t = some y := hm
 unfold i_NewConsole at hm
 refine rg G (Ok_seq ?_)
 obtain ⟨r, h, hm⟩ := obind hm
 refine rs G (hC 1 (i_IsValidTimetable_c h) h0) ?_
 refine cd hm (fun hm => ?_) (fun hm => ?_)
 ·refine rg G ?_
  cases hm
  refine wR (x' := ⟨[(2, .ref 16 0), (3, dV false)], [bX 16 67 [.own 32, .own 48, .own 64, kV .i64 0, dV ByteArray.empty, dV ByteArray.empty, kV .i64 0], aX 32 9 ([] : List ByteArray), tX 48 194 [none, some 3, some 3] ([] : List Line) 48 none, aX 64 168 ([] : List Trip)], 96⟩) (Wk_J G.hL ⟨[(2, []), (3, [])], [(16, 32, [.o 32, .o 48, .o 64])], [(32, 9, 1, []), (48, 194, 3, [none, some 3, some 3]), (64, 168, 3, [])], 96⟩ (by kernel_rfl)) ?_
  exact rt [32, 48, 64] []
 ·refine X_skip (thN ?_)
  obtain ⟨r1, h1, hm⟩ := obind hm
  refine rs G (hC 1 (i_copyTimetable_c h1) h0) ?_
  cases hm
  exact rt [128, 129, 130] []
noncomputable def v_eqStringS_M : MS ((List ByteArray) × (List ByteArray)) Bool := ⟨.x .r .r, fun x => v_eqStringS x.1 x.2, fun y => dV y, fun _ => [], fun _ _ => []⟩
theorem v_eqStringS_c {a b y} (hm : v_eqStringS a b = some y) : v_eqStringS_M.C (a, b) y := v_eqStringS_M.c (a, b) hm
theorem v_eqStringS_ok : FnOK Try.prog tJ 169 v_eqStringS_M.S := by
 refine fm tt v_eqStringS_M [] Try.call169 Try.func169 rfl Try.results169 Try.ntmps169 ?_
 rintro ⟨a, b⟩ y cx G hm
 have hm : v_eqStringS a b = some y := hm
 unfold v_eqStringS at hm
 refine rg G (Ok_seq (rs G (hN 1 a (hN 3 b h0)) ?_))
 refine cd hm (fun hm => ?_) (fun hm => ?_)
 ·refine rg G ?_
  cases hm
  exact rt [] []
 ·refine X_skip (thN (Ok_seq (rg G (tF hm (fun _ => ⟨[], [], 32⟩) (fun v1 hr hm => ?_) ?_))))
  ·refine Ok_block (lp G hm (fun v => ⟨[(0, dV a), (1, dV b), (5, dV v)], [], 32⟩) ?_)
   rintro v r0 hb hm
   rw [v_eqStringS_L1] at hm
   refine Ok_seq (rs G (hN 2 a h0) ?_)
   refine cd hm (fun hm => ?_) (fun hm => ?_)
   ·refine X_skip (thN (Ok_seq (Ok_block ?_)))
    obtain ⟨e2, h2, hm⟩ := obind hm
    obtain ⟨e3, h3, hm⟩ := obind hm
    refine ds G [] (hD 2 h2 (hD 6 h3 h0)) ?_
    refine cd hm (fun hm => ?_) (fun hm => ?_)
    ·refine rg G ?_
     have hm := eL hm hb hr
     cases hm
     exact rt [] []
    ·exact X_skip (ibN (thN (rh G (wL G hm))))
   ·exact Ok_exit (thE (thE (ibE (wE G hm hb))))
  rintro ⟨⟩ hm s hw
  refine thN (Ok_weak hw ?_)
  refine rg G ?_
  cases hm
  exact rt [] []
noncomputable def v_eqIntS_M : MS ((List Int) × (List Int)) Bool := ⟨.x .r .r, fun x => v_eqIntS x.1 x.2, fun y => dV y, fun _ => [], fun _ _ => []⟩
theorem v_eqIntS_c {a b y} (hm : v_eqIntS a b = some y) : v_eqIntS_M.C (a, b) y := v_eqIntS_M.c (a, b) hm
theorem v_eqIntS_ok : FnOK Try.prog tJ 236 v_eqIntS_M.S := by
 refine fm tt v_eqIntS_M [] Try.call236 Try.func236 rfl Try.results236 Try.ntmps236 ?_
 rintro ⟨a, b⟩ y cx G hm
 have hm : v_eqIntS a b = some y := hm
 unfold v_eqIntS at hm
 refine rg G (Ok_seq (rs G (hN 1 a (hN 3 b h0)) ?_))
 refine cd hm (fun hm => ?_) (fun hm => ?_)
 ·refine rg G ?_
  cases hm
  exact rt [] []
 ·refine X_skip (thN (Ok_seq (rg G (tF hm (fun _ => ⟨[], [], 32⟩) (fun v1 hr hm => ?_) ?_))))
  ·refine Ok_block (lp G hm (fun v => ⟨[(0, dV a), (1, dV b), (5, dV v)], [], 32⟩) ?_)
   rintro v r0 hb hm
   rw [v_eqIntS_L1] at hm
   refine Ok_seq (rs G (hN 2 a h0) ?_)
   refine cd hm (fun hm => ?_) (fun hm => ?_)
   ·refine X_skip (thN (Ok_seq (Ok_block ?_)))
    obtain ⟨e2, h2, hm⟩ := obind hm
    obtain ⟨e3, h3, hm⟩ := obind hm
    refine ds G [] (hD 2 h2 (hD 6 h3 h0)) ?_
    refine cd hm (fun hm => ?_) (fun hm => ?_)
    ·refine rg G ?_
     have hm := eL hm hb hr
     cases hm
     exact rt [] []
    ·exact X_skip (ibN (thN (rh G (wL G hm))))
   ·exact Ok_exit (thE (thE (ibE (wE G hm hb))))
  rintro ⟨⟩ hm s hw
  refine thN (Ok_weak hw ?_)
  refine rg G ?_
  cases hm
  exact rt [] []
noncomputable def v_eqLine_M : MS (Line × Line) Bool := ⟨.x .r .r, fun x => v_eqLine x.1 x.2, fun y => dV y, fun _ => [], fun _ _ => []⟩
theorem v_eqLine_c {a b y} (hm : v_eqLine a b = some y) : v_eqLine_M.C (a, b) y := v_eqLine_M.c (a, b) hm
theorem v_eqLine_ok : FnOK Try.prog tJ 215 v_eqLine_M.S := by
 refine fm tt v_eqLine_M [fo v_eqIntS_ok] Try.call215 Try.func215 rfl Try.results215 Try.ntmps215 ?_
 rintro ⟨a, b⟩ y cx G hm
 have hm : v_eqLine a b = some y := hm
 unfold v_eqLine at hm
 refine rg G (Ok_seq (rg G (cd hm (fun hm => ?_) (fun hm => ?_))))
 ·refine rg G ?_
  cases hm
  exact rt [] []
 ·refine X_skip (thN (Ok_seq ?_))
  obtain ⟨r, h, hm⟩ := obind hm
  refine rs G (hC 4 (v_eqIntS_c h) h0) ?_
  refine cd hm (fun hm => ?_) (fun hm => ?_)
  ·refine rg G ?_
   cases hm
   exact rt [] []
  ·refine X_skip (thN (Ok_seq ?_))
   obtain ⟨r1, h1, hm⟩ := obind hm
   refine rs G (hC 4 (v_eqIntS_c h1) h0) ?_
   refine cd hm (fun hm => ?_) (fun hm => ?_)
   ·refine rg G ?_
    cases hm
    exact rt [] []
   ·refine X_skip (thN (rg G ?_))
    cases hm
    exact rt [] []
noncomputable def v_eqLineS_M : MS ((List Line) × (List Line)) Bool := ⟨.x .r .r, fun x => v_eqLineS x.1 x.2, fun y => dV y, fun _ => [], fun _ _ => []⟩
theorem v_eqLineS_c {a b y} (hm : v_eqLineS a b = some y) : v_eqLineS_M.C (a, b) y := v_eqLineS_M.c (a, b) hm
theorem v_eqLineS_ok : FnOK Try.prog tJ 170 v_eqLineS_M.S := by
 refine fm tt v_eqLineS_M [fo v_eqLine_ok] Try.call170 Try.func170 rfl Try.results170 Try.ntmps170 ?_
 rintro ⟨a, b⟩ y cx G hm
 have hm : v_eqLineS a b = some y := hm
 unfold v_eqLineS at hm
 refine rg G (Ok_seq (rs G (hN 1 a (hN 3 b h0)) ?_))
 refine cd hm (fun hm => ?_) (fun hm => ?_)
 ·refine rg G ?_
  cases hm
  exact rt [] []
 ·refine X_skip (thN (Ok_seq (rg G (tF hm (fun _ => ⟨[], [], 32⟩) (fun v1 hr hm => ?_) ?_))))
  ·refine Ok_block (lp G hm (fun v => ⟨[(0, dV a), (1, dV b), (5, dV v)], [], 32⟩) ?_)
   rintro v r0 hb hm
   rw [v_eqLineS_L1] at hm
   refine Ok_seq (rs G (hN 2 a h0) ?_)
   refine cd hm (fun hm => ?_) (fun hm => ?_)
   ·refine X_skip (thN (Ok_seq (Ok_block ?_)))
    obtain ⟨e2, h3, hm⟩ := obind hm
    obtain ⟨e3, h4, hm⟩ := obind hm
    obtain ⟨r1, h5, hm⟩ := obind hm
    refine ds G [] (hD 2 h3 (hD 6 h4 (hC 8 (v_eqLine_c h5) h0))) ?_
    refine cd hm (fun hm => ?_) (fun hm => ?_)
    ·refine rg G ?_
     have hm := eL hm hb hr
     cases hm
     exact rt [] []
    ·exact X_skip (ibN (thN (rh G (wL G hm))))
   ·exact Ok_exit (thE (thE (ibE (wE G hm hb))))
  rintro ⟨⟩ hm s hw
  refine thN (Ok_weak hw ?_)
  refine rg G ?_
  cases hm
  exact rt [] []
noncomputable def v_eqNetwork_M : MS (Network × Network) Bool := ⟨.x .r .r, fun x => v_eqNetwork x.1 x.2, fun y => dV y, fun _ => [], fun _ _ => []⟩
theorem v_eqNetwork_c {a b y} (hm : v_eqNetwork a b = some y) : v_eqNetwork_M.C (a, b) y := v_eqNetwork_M.c (a, b) hm
theorem v_eqNetwork_ok : FnOK Try.prog tJ 101 v_eqNetwork_M.S := by
 refine fm tt v_eqNetwork_M [fo v_eqStringS_ok, fo v_eqLineS_ok] Try.call101 Try.func101 rfl Try.results101 Try.ntmps101 ?_
 rintro ⟨a, b⟩ y cx G hm
 have hm : v_eqNetwork a b = some y := hm
 unfold v_eqNetwork at hm
 refine rg G (Ok_seq ?_)
 obtain ⟨r, h, hm⟩ := obind hm
 refine rs G (hC 4 (v_eqStringS_c h) h0) ?_
 refine cd hm (fun hm => ?_) (fun hm => ?_)
 ·refine rg G ?_
  cases hm
  exact rt [] []
 ·refine X_skip (thN (Ok_seq ?_))
  obtain ⟨r1, h1, hm⟩ := obind hm
  refine rs G (hC 4 (v_eqLineS_c h1) h0) ?_
  refine cd hm (fun hm => ?_) (fun hm => ?_)
  ·refine rg G ?_
   cases hm
   exact rt [] []
  ·refine X_skip (thN (rg G ?_))
   cases hm
   exact rt [] []
noncomputable def v_eqTrip_M : MS (Trip × Trip) Bool := ⟨.x .r .r, fun x => v_eqTrip x.1 x.2, fun y => dV y, fun _ => [], fun _ _ => []⟩
theorem v_eqTrip_c {a b y} (hm : v_eqTrip a b = some y) : v_eqTrip_M.C (a, b) y := v_eqTrip_M.c (a, b) hm
theorem v_eqTrip_ok : FnOK Try.prog tJ 171 v_eqTrip_M.S := by
 refine fm tt v_eqTrip_M [] Try.call171 Try.func171 rfl Try.results171 Try.ntmps171 ?_
 rintro ⟨a, b⟩ y cx G hm
 have hm : v_eqTrip a b = some y := hm
 unfold v_eqTrip at hm
 refine rg G (Ok_seq (rg G (cd hm (fun hm => ?_) (fun hm => ?_))))
 ·refine rg G ?_
  cases hm
  exact rt [] []
 ·refine X_skip (thN (Ok_seq (rg G (cd hm (fun hm => ?_) (fun hm => ?_)))))
  ·refine rg G ?_
   cases hm
   exact rt [] []
  ·refine X_skip (thN (Ok_seq (rg G (cd hm (fun hm => ?_) (fun hm => ?_)))))
   ·refine rg G ?_
    cases hm
    exact rt [] []
   ·refine X_skip (thN (rg G ?_))
    cases hm
    exact rt [] []
noncomputable def v_eqTripS_M : MS ((List Trip) × (List Trip)) Bool := ⟨.x .r .r, fun x => v_eqTripS x.1 x.2, fun y => dV y, fun _ => [], fun _ _ => []⟩
theorem v_eqTripS_c {a b y} (hm : v_eqTripS a b = some y) : v_eqTripS_M.C (a, b) y := v_eqTripS_M.c (a, b) hm
theorem v_eqTripS_ok : FnOK Try.prog tJ 102 v_eqTripS_M.S := by
 refine fm tt v_eqTripS_M [fo v_eqTrip_ok] Try.call102 Try.func102 rfl Try.results102 Try.ntmps102 ?_
 rintro ⟨a, b⟩ y cx G hm
 have hm : v_eqTripS a b = some y := hm
 unfold v_eqTripS at hm
 refine rg G (Ok_seq (rs G (hN 1 a (hN 3 b h0)) ?_))
 refine cd hm (fun hm => ?_) (fun hm => ?_)
 ·refine rg G ?_
  cases hm
  exact rt [] []
 ·refine X_skip (thN (Ok_seq (rg G (tF hm (fun _ => ⟨[], [], 32⟩) (fun v1 hr hm => ?_) ?_))))
  ·refine Ok_block (lp G hm (fun v => ⟨[(0, dV a), (1, dV b), (5, dV v)], [], 32⟩) ?_)
   rintro v r0 hb hm
   rw [v_eqTripS_L1] at hm
   refine Ok_seq (rs G (hN 2 a h0) ?_)
   refine cd hm (fun hm => ?_) (fun hm => ?_)
   ·refine X_skip (thN (Ok_seq (Ok_block ?_)))
    obtain ⟨e2, h3, hm⟩ := obind hm
    obtain ⟨e3, h4, hm⟩ := obind hm
    obtain ⟨r1, h5, hm⟩ := obind hm
    refine ds G [] (hD 2 h3 (hD 6 h4 (hC 8 (v_eqTrip_c h5) h0))) ?_
    refine cd hm (fun hm => ?_) (fun hm => ?_)
    ·refine rg G ?_
     have hm := eL hm hb hr
     cases hm
     exact rt [] []
    ·exact X_skip (ibN (thN (rh G (wL G hm))))
   ·exact Ok_exit (thE (thE (ibE (wE G hm hb))))
  rintro ⟨⟩ hm s hw
  refine thN (Ok_weak hw ?_)
  refine rg G ?_
  cases hm
  exact rt [] []
noncomputable def v_eqTimetable_M : MS (Timetable × Timetable) Bool := ⟨.x .r .r, fun x => v_eqTimetable x.1 x.2, fun y => dV y, fun _ => [], fun _ _ => []⟩
theorem v_eqTimetable_c {a b y} (hm : v_eqTimetable a b = some y) : v_eqTimetable_M.C (a, b) y := v_eqTimetable_M.c (a, b) hm
theorem v_eqTimetable_ok : FnOK Try.prog tJ 30 v_eqTimetable_M.S := by
 refine fm tt v_eqTimetable_M [fo v_eqNetwork_ok, fo v_eqTripS_ok] Try.call30 Try.func30 rfl Try.results30 Try.ntmps30 ?_
 rintro ⟨a, b⟩ y cx G hm
 have hm : v_eqTimetable a b = some y := hm
 unfold v_eqTimetable at hm
 refine rg G (Ok_seq ?_)
 obtain ⟨r, h, hm⟩ := obind hm
 refine rs G (hC 4 (v_eqNetwork_c h) h0) ?_
 refine cd hm (fun hm => ?_) (fun hm => ?_)
 ·refine rg G ?_
  cases hm
  exact rt [] []
 ·refine X_skip (thN (Ok_seq ?_))
  obtain ⟨r1, h1, hm⟩ := obind hm
  refine rs G (hC 4 (v_eqTripS_c h1) h0) ?_
  refine cd hm (fun hm => ?_) (fun hm => ?_)
  ·refine rg G ?_
   cases hm
   exact rt [] []
  ·refine X_skip (thN (rg G ?_))
   cases hm
   exact rt [] []
noncomputable def v_eqLog_M : MS (Log × Log) Bool := ⟨.x .r .r, fun x => v_eqLog x.1 x.2, fun y => dV y, fun _ => [], fun _ _ => []⟩
theorem v_eqLog_c {a b y} (hm : v_eqLog a b = some y) : v_eqLog_M.C (a, b) y := v_eqLog_M.c (a, b) hm
theorem v_eqLog_ok : FnOK Try.prog tJ 100 v_eqLog_M.S := by
 refine fm tt v_eqLog_M [] Try.call100 Try.func100 rfl Try.results100 Try.ntmps100 ?_
 rintro ⟨a, b⟩ y cx G hm
 have hm : v_eqLog a b = some y := hm
 unfold v_eqLog at hm
 refine rg G (Ok_seq (rg G (cd hm (fun hm => ?_) (fun hm => ?_))))
 ·refine rg G ?_
  cases hm
  exact rt [] []
 ·refine X_skip (thN (Ok_seq (rg G (cd hm (fun hm => ?_) (fun hm => ?_)))))
  ·refine rg G ?_
   cases hm
   exact rt [] []
  ·refine X_skip (thN (Ok_seq (rg G (cd hm (fun hm => ?_) (fun hm => ?_)))))
   ·refine rg G ?_
    cases hm
    exact rt [] []
   ·refine X_skip (thN (rg G ?_))
    cases hm
    exact rt [] []
noncomputable def v_eqConsole_M : MS (Console × Console) Bool := ⟨.x .r .r, fun x => v_eqConsole x.1 x.2, fun y => dV y, fun _ => [], fun _ _ => []⟩
theorem v_eqConsole_c {a b y} (hm : v_eqConsole a b = some y) : v_eqConsole_M.C (a, b) y := v_eqConsole_M.c (a, b) hm
theorem v_eqConsole_ok : FnOK Try.prog tJ 29 v_eqConsole_M.S := by
 refine fm tt v_eqConsole_M [fo v_eqTimetable_ok, fo v_eqLog_ok] Try.call29 Try.func29 rfl Try.results29 Try.ntmps29 ?_
 rintro ⟨a, b⟩ y cx G hm
 have hm : v_eqConsole a b = some y := hm
 unfold v_eqConsole at hm
 refine rg G (Ok_seq ?_)
 obtain ⟨r, h, hm⟩ := obind hm
 refine rs G (hC 4 (v_eqTimetable_c h) h0) ?_
 refine cd hm (fun hm => ?_) (fun hm => ?_)
 ·refine rg G ?_
  cases hm
  exact rt [] []
 ·refine X_skip (thN (Ok_seq (rg G (cd hm (fun hm => ?_) (fun hm => ?_)))))
  ·refine rg G ?_
   cases hm
   exact rt [] []
  ·refine X_skip (thN (Ok_seq ?_))
   obtain ⟨r1, h1, hm⟩ := obind hm
   refine rs G (hC 4 (v_eqLog_c h1) h0) ?_
   refine cd hm (fun hm => ?_) (fun hm => ?_)
   ·refine rg G ?_
    cases hm
    exact rt [] []
   ·refine X_skip (thN (rg G ?_))
    cases hm
    exact rt [] []
noncomputable def v_markText_M : MS Int ByteArray := ⟨.r, v_markText, fun y => dV y, fun _ => [], fun _ _ => []⟩
theorem v_markText_c {k y} (hm : v_markText k = some y) : v_markText_M.C k y := v_markText_M.c k hm
theorem v_markText_ok : FnOK Try.prog tJ 216 v_markText_M.S := by
 refine fm tt v_markText_M [] Try.call216 Try.func216 rfl Try.results216 Try.ntmps216 ?_
 rintro k y cx G hm
 have hm : v_markText k = some y := hm
 unfold v_markText at hm
 refine rg G (Ok_seq (rg G (cd hm (fun hm => ?_) (fun hm => ?_))))
 ·refine rg G ?_
  cases hm
  exact rt [] []
 ·refine X_skip (thN (rg G (jn hm (fun v1 => ⟨[(3, dV v1)], [], 32⟩) (fun v1 hm => ?_) ?_)))
  ·refine Ok_block (lp G hm (fun (k1, v) => ⟨[(0, dV k1), (3, dV v)], [], 32⟩) ?_)
   rintro ⟨k1, v⟩ r0 hb hm
   rw [v_markText_L1] at hm
   refine Ok_seq (rg G (cd hm (fun hm => ?_) (fun hm => ?_)))
   ·refine X_skip (thN (Ok_block ?_))
    obtain ⟨u, h, hm⟩ := obind hm
    obtain ⟨u1, h1, hm⟩ := obind hm
    refine rs G (hK h (hO 3 (.n ((mkU8 (IntKind.u8.wrap ((w64 (48 + (k1.tmod 10)))))).toNat : Int)) (hP (u8w_m (w64 (48 + (k1.tmod 10)))) (hO 5 (.s (bytS ([(mkU8 (IntKind.u8.wrap ((w64 (48 + (k1.tmod 10))))))] : List UInt8))) (hP (byt_p ([(mkU8 (IntKind.u8.wrap ((w64 (48 + (k1.tmod 10))))))] : List UInt8)) (hP (byt_m ([(mkU8 (IntKind.u8.wrap ((w64 (48 + (k1.tmod 10))))))] : List UInt8)) (hP (cat_p (chk_t h1)) h0))))))) ?_
    obtain ⟨u2, h2, hm⟩ := obind hm
    refine re G (hK h2 h0) ?_
    exact ibN (wL G hm)
   ·exact Ok_exit (thE (thE (ibE (wD G hm hb))))
  rintro v1 hm
  obtain ⟨u3, h3, hm⟩ := obind hm
  refine rs G (hP (cat_p (chk_t h3)) h0) ?_
  cases hm
  exact rt [] []
noncomputable def v_markStringS_w_M : MS ((List ByteArray) × Int) (Int × (List ByteArray)) := ⟨.x (.s 9) .r, fun x => v_markStringS_w x.1 x.2, fun y => dV y.1, fun _ => [], fun _ y => [arO 9 y.2]⟩
theorem v_markStringS_w_c {a k y} (hm : v_markStringS_w a k = some y) : v_markStringS_w_M.C (a, k) y := v_markStringS_w_M.c (a, k) hm
theorem v_markStringS_w_ok : FnOK Try.prog tJ 172 v_markStringS_w_M.S := by
 refine fm tt v_markStringS_w_M [fo v_markText_ok] Try.call172 Try.func172 rfl Try.results172 Try.ntmps172 ?_
 rintro ⟨a, k⟩ y cx G hm
 have hm : v_markStringS_w a k = some y := hm
 unfold v_markStringS_w at hm
 refine rg G (Ok_seq (rg G (tl hm (fun (k2, a2) => ⟨[(0, .own 0), (1, dV k2)], [aX 0 9 a2], 48⟩) (fun vv hm => ?_) ?_)))
 ·refine Ok_block (lp G hm (fun (k1, v, a1) => ⟨[(0, .own 0), (1, dV k1), (5, dV v)], [aX 0 9 a1], 48⟩) ?_)
  rintro ⟨k1, v, a1⟩ r0 hb hm
  rw [v_markStringS_w_L1] at hm
  refine Ok_seq (rs G (hN 2 a1 h0) ?_)
  refine cd hm (fun hm => ?_) (fun hm => ?_)
  ·refine X_skip (thN (Ok_seq (Ok_block ?_)))
   obtain ⟨r, h, hm⟩ := obind hm
   obtain ⟨e, h1, hm⟩ := obind hm
   refine rs G (hC 3 (v_markText_c h) (hD 4 h1 (hS 5 h1 r h0))) ?_
   exact rh G (ibN (thN (rh G (wL G hm))))
  ·exact Ok_exit (thE (thE (ibE (wD G hm hb))))
 rintro ⟨k2, a2⟩ hm s hw
 refine thN (Ok_weak hw ?_)
 refine rg G ?_
 cases hm
 exact rt [] []
noncomputable def v_markIntS_w_M : MS ((List Int) × Int) (Int × (List Int)) := ⟨.x (.s 3) .r, fun x => v_markIntS_w x.1 x.2, fun y => dV y.1, fun _ => [], fun _ y => [arO 3 y.2]⟩
theorem v_markIntS_w_c {a k y} (hm : v_markIntS_w a k = some y) : v_markIntS_w_M.C (a, k) y := v_markIntS_w_M.c (a, k) hm
theorem v_markIntS_w_ok : FnOK Try.prog tJ 217 v_markIntS_w_M.S := by
 refine fm tt v_markIntS_w_M [] Try.call217 Try.func217 rfl Try.results217 Try.ntmps217 ?_
 rintro ⟨a, k⟩ y cx G hm
 have hm : v_markIntS_w a k = some y := hm
 unfold v_markIntS_w at hm
 refine rg G (Ok_seq (rg G (tl hm (fun (k2, a2) => ⟨[(0, .own 0), (1, dV k2)], [aX 0 3 a2], 48⟩) (fun vv hm => ?_) ?_)))
 ·refine Ok_block (lp G hm (fun (k1, v, a1) => ⟨[(0, .own 0), (1, dV k1), (5, dV v)], [aX 0 3 a1], 48⟩) ?_)
  rintro ⟨k1, v, a1⟩ r0 hb hm
  rw [v_markIntS_w_L1] at hm
  refine Ok_seq (rs G (hN 2 a1 h0) ?_)
  refine cd hm (fun hm => ?_) (fun hm => ?_)
  ·refine X_skip (thN (Ok_seq (Ok_block ?_)))
   obtain ⟨e, h, hm⟩ := obind hm
   refine rs G (hD 3 h (hS 4 h k1 h0)) ?_
   exact rh G (ibN (thN (rh G (wL G hm))))
  ·exact Ok_exit (thE (thE (ibE (wD G hm hb))))
 rintro ⟨k2, a2⟩ hm s hw
 refine thN (Ok_weak hw ?_)
 refine rg G ?_
 cases hm
 exact rt [] []
noncomputable def v_markLineS_w_M : MS ((List Line) × Int) (Int × (List Line)) := ⟨.x (.t 194 [none, some 3, some 3]) .r, fun x => v_markLineS_w x.1 x.2, fun y => dV y.1, fun _ => [], fun _ y => [taO 194 [none, some 3, some 3] y.2]⟩
theorem v_markLineS_w_c {a k y} (hm : v_markLineS_w a k = some y) : v_markLineS_w_M.C (a, k) y := v_markLineS_w_M.c (a, k) hm
theorem v_markLineS_w_ok : FnOK Try.prog tJ 173 v_markLineS_w_M.S := by
 refine fm tt v_markLineS_w_M [fo v_markText_ok, fo v_markIntS_w_ok] Try.call173 Try.func173 rfl Try.results173 Try.ntmps173 ?_
 rintro ⟨a, k⟩ y cx G hm
 have hm : v_markLineS_w a k = some y := hm
 unfold v_markLineS_w at hm
 refine rg G (Ok_seq (rg G (tl hm (fun (k2, a2) => ⟨[(0, .own 0), (1, dV k2)], [tX 0 194 [none, some 3, some 3] a2 0 none], 48⟩) (fun vv hm => ?_) ?_)))
 ·refine Ok_block (lp G hm (fun (k1, v, a1) => ⟨[(0, .own 0), (1, dV k1), (5, dV v)], [tX 0 194 [none, some 3, some 3] a1 0 none], 48⟩) ?_)
  rintro ⟨k1, v, a1⟩ r0 hb hm
  rw [v_markLineS_w_L1] at hm
  refine Ok_seq (rs G (hN 2 a1 h0) ?_)
  refine cd hm (fun hm => ?_) (fun hm => ?_)
  ·refine X_skip (thN (Ok_seq (Ok_block ?_)))
   obtain ⟨r, h, hm⟩ := obind hm
   obtain ⟨e, h1, hm⟩ := obind hm
   refine rs G (hC 3 (v_markText_c h) (hD 4 h1 (hS 6 h1 (⟨r, e.Stops, e.Runs⟩ : Line) h0))) ?_
   refine rg G ?_
   obtain ⟨e1, h2, hm⟩ := obind hm
   obtain ⟨r1, h3, hm⟩ := obind hm
   refine ldQ G 6 24 (⟨r, e.Stops, e.Runs⟩ : Line) ((a1.set v.toNat (⟨r, e.Stops, e.Runs⟩ : Line)).set v.toNat (⟨((⟨r, e.Stops, e.Runs⟩ : Line).Name), r1.2, ((⟨r, e.Stops, e.Runs⟩ : Line).Runs)⟩ : Line)) (hD 2 h2 (hE 4 (idx_set (y := (⟨r, e.Stops, e.Runs⟩ : Line)) h1) (hP (idx_m2 (f := Enc.e) (idx_set (y := (⟨r, e.Stops, e.Runs⟩ : Line)) h1)) (hP (Eq.refl v.toNat) (hP (idx_m2 (f := Enc.e) (idx_set (y := (⟨r, e.Stops, e.Runs⟩ : Line)) h1)) (hP (set_m Enc.e (a1.set v.toNat (⟨r, e.Stops, e.Runs⟩ : Line)) v.toNat (⟨((⟨r, e.Stops, e.Runs⟩ : Line).Name), r1.2, ((⟨r, e.Stops, e.Runs⟩ : Line).Runs)⟩ : Line)) (hC 6 (v_markIntS_w_c h3) h0))))))) ?_
   obtain ⟨e2, h4, hm⟩ := obind hm
   obtain ⟨r2, h5, hm⟩ := obind hm
   refine ldE G 6 31 (⟨((⟨r, e.Stops, e.Runs⟩ : Line).Name), r1.2, ((⟨r, e.Stops, e.Runs⟩ : Line).Runs)⟩ : Line) (((a1.set v.toNat (⟨r, e.Stops, e.Runs⟩ : Line)).set v.toNat (⟨((⟨r, e.Stops, e.Runs⟩ : Line).Name), r1.2, ((⟨r, e.Stops, e.Runs⟩ : Line).Runs)⟩ : Line)).set v.toNat (⟨((⟨((⟨r, e.Stops, e.Runs⟩ : Line).Name), r1.2, ((⟨r, e.Stops, e.Runs⟩ : Line).Runs)⟩ : Line).Name), ((⟨((⟨r, e.Stops, e.Runs⟩ : Line).Name), r1.2, ((⟨r, e.Stops, e.Runs⟩ : Line).Runs)⟩ : Line).Stops), r2.2⟩ : Line)) (hD 2 h4 (hE 4 (idx_set (y := (⟨((⟨r, e.Stops, e.Runs⟩ : Line).Name), r1.2, ((⟨r, e.Stops, e.Runs⟩ : Line).Runs)⟩ : Line)) (idx_set (y := (⟨r, e.Stops, e.Runs⟩ : Line)) h1)) (hP (idx_m2 (f := Enc.e) (idx_set (y := (⟨((⟨r, e.Stops, e.Runs⟩ : Line).Name), r1.2, ((⟨r, e.Stops, e.Runs⟩ : Line).Runs)⟩ : Line)) (idx_set (y := (⟨r, e.Stops, e.Runs⟩ : Line)) h1))) (hP (Eq.refl v.toNat) (hP (idx_m2 (f := Enc.e) (idx_set (y := (⟨((⟨r, e.Stops, e.Runs⟩ : Line).Name), r1.2, ((⟨r, e.Stops, e.Runs⟩ : Line).Runs)⟩ : Line)) (idx_set (y := (⟨r, e.Stops, e.Runs⟩ : Line)) h1))) (hP (set_m Enc.e ((a1.set v.toNat (⟨r, e.Stops, e.Runs⟩ : Line)).set v.toNat (⟨((⟨r, e.Stops, e.Runs⟩ : Line).Name), r1.2, ((⟨r, e.Stops, e.Runs⟩ : Line).Runs)⟩ : Line)) v.toNat (⟨((⟨((⟨r, e.Stops, e.Runs⟩ : Line).Name), r1.2, ((⟨r, e.Stops, e.Runs⟩ : Line).Runs)⟩ : Line).Name), ((⟨((⟨r, e.Stops, e.Runs⟩ : Line).Name), r1.2, ((⟨r, e.Stops, e.Runs⟩ : Line).Runs)⟩ : Line).Stops), r2.2⟩ : Line)) (hC 6 (v_markIntS_w_c h5) h0))))))) ?_
   exact ibN (thN (rh G (wL G hm)))
  ·exact Ok_exit (thE (thE (ibE (wD G hm hb))))
 rintro ⟨k2, a2⟩ hm s hw
 refine thN (Ok_weak hw ?_)
 refine rg G ?_
 cases hm
 exact rt [] []
noncomputable def v_markNetwork_a_M : MS (Network × Int) (Int × (List ByteArray) × (List Line)) := ⟨⟨[.ag [.sl, .sl], .rd], fun x => [.agg [.sc undef, .sc undef], Enc.e x.2], fun x => [arO 9 x.1.Stops, taO 194 [none, some 3, some 3] x.1.Lines], 2, 2, fun _ => rfl, fun _ => rfl, rfl, (by
  rintro ⟨a0, a1⟩ ⟨b0, b1⟩ h hO
  have q0 : a0 = b0 := Enc.inj _ _ (congrArg D.agg (cons_eq (congrArg (fun l => D.sl 1 (obL l 0)) hO) (cons_eq (congrArg (fun l => D.sl 3 (obL l 1)) hO) rfl)))
  have q1 : a1 = b1 := qI 1 h
  subst q0; subst q1; rfl)⟩, fun x => v_markNetwork_a x.1 x.2, fun y => dV y.1, fun _ => [], fun _ y => [arO 9 y.2.1, taO 194 [none, some 3, some 3] y.2.2]⟩
theorem v_markNetwork_a_c {a k y} (hm : v_markNetwork_a a k = some y) : v_markNetwork_a_M.C (a, k) y := v_markNetwork_a_M.c (a, k) hm
theorem v_markNetwork_a_ok : FnOK Try.prog tJ 103 v_markNetwork_a_M.S := by
 refine fm tt v_markNetwork_a_M [fo v_markStringS_w_ok, fo v_markLineS_w_ok] Try.call103 Try.func103 rfl Try.results103 Try.ntmps103 ?_
 rintro ⟨a, k⟩ y cx G hm
 have hm : v_markNetwork_a a k = some y := hm
 unfold v_markNetwork_a at hm
 refine rg G ?_
 obtain ⟨r, h, hm⟩ := obind hm
 refine rs G (hC 3 (v_markStringS_w_c h) h0) ?_
 obtain ⟨r1, h1, hm⟩ := obind hm
 refine rs G (hC 3 (v_markLineS_w_c h1) h0) ?_
 refine rg G ?_
 cases hm
 exact rt [] []
noncomputable def v_markTripS_w_M : MS ((List Trip) × Int) (Int × (List Trip)) := ⟨.x (.s 168) .r, fun x => v_markTripS_w x.1 x.2, fun y => dV y.1, fun _ => [], fun _ y => [arO 168 y.2]⟩
theorem v_markTripS_w_c {a k y} (hm : v_markTripS_w a k = some y) : v_markTripS_w_M.C (a, k) y := v_markTripS_w_M.c (a, k) hm
theorem v_markTripS_w_ok : FnOK Try.prog tJ 104 v_markTripS_w_M.S := by
 refine fm tt v_markTripS_w_M [] Try.call104 Try.func104 rfl Try.results104 Try.ntmps104 ?_
 rintro ⟨a, k⟩ y cx G hm
 have hm : v_markTripS_w a k = some y := hm
 unfold v_markTripS_w at hm
 refine rg G (Ok_seq (rg G (tl hm (fun (k2, a2) => ⟨[(0, .own 0), (1, dV k2)], [aX 0 168 a2], 48⟩) (fun vv hm => ?_) ?_)))
 ·refine Ok_block (lp G hm (fun (k1, v, a1) => ⟨[(0, .own 0), (1, dV k1), (5, dV v)], [aX 0 168 a1], 48⟩) ?_)
  rintro ⟨k1, v, a1⟩ r0 hb hm
  rw [v_markTripS_w_L1] at hm
  refine Ok_seq (rs G (hN 2 a1 h0) ?_)
  refine cd hm (fun hm => ?_) (fun hm => ?_)
  ·refine X_skip (thN (Ok_seq (Ok_block ?_)))
   obtain ⟨e, h, hm⟩ := obind hm
   refine rs G (hD 3 h (hS 5 h (⟨k1, e.Line, e.Start⟩ : Trip) h0)) ?_
   refine rg G ?_
   obtain ⟨e1, h1, hm⟩ := obind hm
   refine rs G (hD 3 h1 (hS 5 h1 (⟨e1.Id, (w64 (k1 + 1)), e1.Start⟩ : Trip) h0)) ?_
   refine rg G ?_
   obtain ⟨e2, h2, hm⟩ := obind hm
   refine rs G (hD 3 h2 (hS 5 h2 (⟨e2.Id, e2.Line, (w64 ((w64 (k1 + 1)) + 1))⟩ : Trip) h0)) ?_
   exact rh G (ibN (thN (rh G (wL G hm))))
  ·exact Ok_exit (thE (thE (ibE (wD G hm hb))))
 rintro ⟨k2, a2⟩ hm s hw
 refine thN (Ok_weak hw ?_)
 refine rg G ?_
 cases hm
 exact rt [] []
noncomputable def v_markTimetable_a_M : MS (Timetable × Int) (Int × (List ByteArray) × (List Line) × (List Trip)) := ⟨⟨[.ag [.sl, .sl, .sl], .rd], fun x => [.agg [.sc undef, .sc undef, .sc undef], Enc.e x.2], fun x => [arO 9 x.1.Network.Stops, taO 194 [none, some 3, some 3] x.1.Network.Lines, arO 168 x.1.Trips], 3, 3, fun _ => rfl, fun _ => rfl, rfl, (by
  rintro ⟨a0, a1⟩ ⟨b0, b1⟩ h hO
  have q0 : a0 = b0 := Enc.inj _ _ (congrArg D.agg (cons_eq (congrArg (fun l => D.sl 1 (obL l 0)) hO) (cons_eq (congrArg (fun l => D.sl 3 (obL l 1)) hO) (cons_eq (congrArg (fun l => D.sl 3 (obL l 2)) hO) rfl))))
  have q1 : a1 = b1 := qI 1 h
  subst q0; subst q1; rfl)⟩, fun x => v_markTimetable_a x.1 x.2, fun y => dV y.1, fun _ => [], fun _ y => [arO 9 y.2.1, taO 194 [none, some 3, some 3] y.2.2.1, arO 168 y.2.2.2]⟩
theorem v_markTimetable_a_c {a k y} (hm : v_markTimetable_a a k = some y) : v_markTimetable_a_M.C (a, k) y := v_markTimetable_a_M.c (a, k) hm
theorem v_markTimetable_a_ok : FnOK Try.prog tJ 31 v_markTimetable_a_M.S := by
 refine fm tt v_markTimetable_a_M [fo v_markNetwork_a_ok, fo v_markTripS_w_ok] Try.call31 Try.func31 rfl Try.results31 Try.ntmps31 ?_
 rintro ⟨a, k⟩ y cx G hm
 have hm : v_markTimetable_a a k = some y := hm
 unfold v_markTimetable_a at hm
 refine rg G ?_
 obtain ⟨r, h, hm⟩ := obind hm
 refine rs G (hC 3 (v_markNetwork_a_c h) h0) ?_
 obtain ⟨r1, h1, hm⟩ := obind hm
 refine rs G (hC 3 (v_markTripS_w_c h1) h0) ?_
 refine rg G ?_
 cases hm
 exact rt [] []
noncomputable def v_markConsole_a_M : MS (Console × Int) (Int × (List ByteArray) × (List Line) × (List Trip)) := ⟨⟨[.ag [.sl, .sl, .sl, .rd, .rd, .rd, .rd], .rd], fun x => [.agg [.sc undef, .sc undef, .sc undef, .sc (.int .i64 x.1.Change), .sc (.string x.1.Log.Durable), .sc (.string x.1.Log.Pending), .sc (.int .i64 x.1.Log.Count)], Enc.e x.2], fun x => [arO 9 x.1.Timetable.Network.Stops, taO 194 [none, some 3, some 3] x.1.Timetable.Network.Lines, arO 168 x.1.Timetable.Trips], 3, 3, fun _ => rfl, fun _ => rfl, rfl, (by
  rintro ⟨a0, a1⟩ ⟨b0, b1⟩ h hO
  have q0 : a0 = b0 := Enc.inj _ _ (congrArg D.agg (cons_eq (congrArg (fun l => D.sl 1 (obL l 0)) hO) (cons_eq (congrArg (fun l => D.sl 3 (obL l 1)) hO) (cons_eq (congrArg (fun l => D.sl 3 (obL l 2)) hO) (cons_eq (congrArg (fun l => (D.cells (List.getD l 0 (.sc undef))).getD 3 (.sc undef)) h) (cons_eq (congrArg (fun l => (D.cells (List.getD l 0 (.sc undef))).getD 4 (.sc undef)) h) (cons_eq (congrArg (fun l => (D.cells (List.getD l 0 (.sc undef))).getD 5 (.sc undef)) h) (cons_eq (congrArg (fun l => (D.cells (List.getD l 0 (.sc undef))).getD 6 (.sc undef)) h) rfl))))))))
  have q1 : a1 = b1 := qI 1 h
  subst q0; subst q1; rfl)⟩, fun x => v_markConsole_a x.1 x.2, fun y => dV y.1, fun _ => [], fun _ y => [arO 9 y.2.1, taO 194 [none, some 3, some 3] y.2.2.1, arO 168 y.2.2.2]⟩
theorem v_markConsole_a_c {a k y} (hm : v_markConsole_a a k = some y) : v_markConsole_a_M.C (a, k) y := v_markConsole_a_M.c (a, k) hm
theorem v_markConsole_a_ok : FnOK Try.prog tJ 32 v_markConsole_a_M.S := by
 refine fm tt v_markConsole_a_M [fo v_markTimetable_a_ok] Try.call32 Try.func32 rfl Try.results32 Try.ntmps32 ?_
 rintro ⟨a, k⟩ y cx G hm
 have hm : v_markConsole_a a k = some y := hm
 unfold v_markConsole_a at hm
 refine rg G ?_
 obtain ⟨r, h, hm⟩ := obind hm
 refine rs G (hC 3 (v_markTimetable_a_c h) h0) ?_
 refine rg G ?_
 cases hm
 exact rt [] []
noncomputable def v_heldStringS_M : MS ((List ByteArray) × Int) Int := ⟨.x .r .r, fun x => v_heldStringS x.1 x.2, fun y => dV y, fun _ => [], fun _ _ => []⟩
theorem v_heldStringS_c {a k y} (hm : v_heldStringS a k = some y) : v_heldStringS_M.C (a, k) y := v_heldStringS_M.c (a, k) hm
theorem v_heldStringS_ok : FnOK Try.prog tJ 218 v_heldStringS_M.S := by
 refine fm tt v_heldStringS_M [fo v_markText_ok] Try.call218 Try.func218 rfl Try.results218 Try.ntmps218 ?_
 rintro ⟨a, k⟩ y cx G hm
 have hm : v_heldStringS a k = some y := hm
 unfold v_heldStringS at hm
 refine rg G (Ok_seq (rg G (tF hm (fun k2 => ⟨[(1, dV k2)], [], 32⟩) (fun v1 hr hm => ?_) ?_)))
 ·refine Ok_block (lp G hm (fun (k1, v) => ⟨[(0, dV a), (1, dV k1), (5, dV v)], [], 32⟩) ?_)
  rintro ⟨k1, v⟩ r0 hb hm
  rw [v_heldStringS_L1] at hm
  refine Ok_seq (rs G (hN 2 a h0) ?_)
  refine cd hm (fun hm => ?_) (fun hm => ?_)
  ·refine X_skip (thN (Ok_seq (Ok_block (Ok_seq ?_))))
   obtain ⟨e1, h2, hm⟩ := obind hm
   obtain ⟨r1, h3, hm⟩ := obind hm
   refine ds G [] (hD 2 h2 (hC 5 (v_markText_c h3) h0)) ?_
   refine cd hm (fun hm => ?_) (fun hm => ?_)
   ·refine rg G ?_
    have hm := eL hm hb hr
    cases hm
    exact rt [] []
   ·exact X_skip (thN (rh G (ibN (thN (rh G (wL G hm))))))
  ·exact Ok_exit (thE (thE (ibE (wE G hm hb))))
 rintro k2 hm s hw
 refine thN (Ok_weak hw ?_)
 refine rg G ?_
 cases hm
 exact rt [] []
noncomputable def v_heldIntS_M : MS ((List Int) × Int) Int := ⟨.x .r .r, fun x => v_heldIntS x.1 x.2, fun y => dV y, fun _ => [], fun _ _ => []⟩
theorem v_heldIntS_c {a k y} (hm : v_heldIntS a k = some y) : v_heldIntS_M.C (a, k) y := v_heldIntS_M.c (a, k) hm
theorem v_heldIntS_ok : FnOK Try.prog tJ 237 v_heldIntS_M.S := by
 refine fm tt v_heldIntS_M [] Try.call237 Try.func237 rfl Try.results237 Try.ntmps237 ?_
 rintro ⟨a, k⟩ y cx G hm
 have hm : v_heldIntS a k = some y := hm
 unfold v_heldIntS at hm
 refine rg G (Ok_seq (rg G (tF hm (fun k2 => ⟨[(1, dV k2)], [], 32⟩) (fun v1 hr hm => ?_) ?_)))
 ·refine Ok_block (lp G hm (fun (k1, v) => ⟨[(0, dV a), (1, dV k1), (5, dV v)], [], 32⟩) ?_)
  rintro ⟨k1, v⟩ r0 hb hm
  rw [v_heldIntS_L1] at hm
  refine Ok_seq (rs G (hN 2 a h0) ?_)
  refine cd hm (fun hm => ?_) (fun hm => ?_)
  ·refine X_skip (thN (Ok_seq (Ok_block (Ok_seq ?_))))
   obtain ⟨e, h, hm⟩ := obind hm
   refine rs G (hD 2 h h0) ?_
   refine cd hm (fun hm => ?_) (fun hm => ?_)
   ·refine rg G ?_
    have hm := eL hm hb hr
    cases hm
    exact rt [] []
   ·exact X_skip (thN (rh G (ibN (thN (rh G (wL G hm))))))
  ·exact Ok_exit (thE (thE (ibE (wE G hm hb))))
 rintro k2 hm s hw
 refine thN (Ok_weak hw ?_)
 refine rg G ?_
 cases hm
 exact rt [] []
noncomputable def v_heldLineS_M : MS ((List Line) × Int) Int := ⟨.x .r .r, fun x => v_heldLineS x.1 x.2, fun y => dV y, fun _ => [], fun _ _ => []⟩
theorem v_heldLineS_c {a k y} (hm : v_heldLineS a k = some y) : v_heldLineS_M.C (a, k) y := v_heldLineS_M.c (a, k) hm
theorem v_heldLineS_ok : FnOK Try.prog tJ 219 v_heldLineS_M.S := by
 refine fm tt v_heldLineS_M [fo v_markText_ok, fo v_heldIntS_ok] Try.call219 Try.func219 rfl Try.results219 Try.ntmps219 ?_
 rintro ⟨a, k⟩ y cx G hm
 have hm : v_heldLineS a k = some y := hm
 unfold v_heldLineS at hm
 refine rg G (Ok_seq (rg G (tF hm (fun k2 => ⟨[(1, dV k2)], [], 32⟩) (fun v1 hr hm => ?_) ?_)))
 ·refine Ok_block (lp G hm (fun (k1, v) => ⟨[(0, dV a), (1, dV k1), (5, dV v)], [], 32⟩) ?_)
  rintro ⟨k1, v⟩ r0 hb hm
  rw [v_heldLineS_L1] at hm
  refine Ok_seq (rs G (hN 2 a h0) ?_)
  refine cd hm (fun hm => ?_) (fun hm => ?_)
  ·refine X_skip (thN (Ok_seq (Ok_block (Ok_seq ?_))))
   obtain ⟨e1, h2, hm⟩ := obind hm
   obtain ⟨r1, h3, hm⟩ := obind hm
   refine ds G [] (hD 2 h2 (hC 6 (v_markText_c h3) h0)) ?_
   refine cd hm (fun hm => ?_) (fun hm => ?_)
   ·refine rg G ?_
    have hm := eL hm hb hr
    cases hm
    exact rt [] []
   ·refine X_skip (thN (rg G ?_))
    obtain ⟨e3, h4, hm⟩ := obind hm
    obtain ⟨r3, h5, hm⟩ := obind hm
    refine rs G (hD 2 h4 (hC 6 (v_heldIntS_c h5) h0)) ?_
    refine Ok_seq (rg G (cd hm (fun hm => ?_) (fun hm => ?_)))
    ·refine rg G ?_
     have hm := eL hm hb hr
     cases hm
     exact rt [] []
    ·refine X_skip (thN ?_)
     obtain ⟨e5, h6, hm⟩ := obind hm
     obtain ⟨r5, h7, hm⟩ := obind hm
     refine rs G (hD 2 h6 (hC 6 (v_heldIntS_c h7) h0)) ?_
     refine rg G (cd hm (fun hm => ?_) (fun hm => ?_))
     ·refine rg G ?_
      have hm := eL hm hb hr
      cases hm
      exact rt [] []
     ·exact X_skip (ibN (thN (rh G (wL G hm))))
  ·exact Ok_exit (thE (thE (ibE (wE G hm hb))))
 rintro k2 hm s hw
 refine thN (Ok_weak hw ?_)
 refine rg G ?_
 cases hm
 exact rt [] []
noncomputable def v_heldNetwork_M : MS (Network × Int) Int := ⟨.x .r .r, fun x => v_heldNetwork x.1 x.2, fun y => dV y, fun _ => [], fun _ _ => []⟩
theorem v_heldNetwork_c {a k y} (hm : v_heldNetwork a k = some y) : v_heldNetwork_M.C (a, k) y := v_heldNetwork_M.c (a, k) hm
theorem v_heldNetwork_ok : FnOK Try.prog tJ 174 v_heldNetwork_M.S := by
 refine fm tt v_heldNetwork_M [fo v_heldStringS_ok, fo v_heldLineS_ok] Try.call174 Try.func174 rfl Try.results174 Try.ntmps174 ?_
 rintro ⟨a, k⟩ y cx G hm
 have hm : v_heldNetwork a k = some y := hm
 unfold v_heldNetwork at hm
 refine rg G ?_
 obtain ⟨r, h, hm⟩ := obind hm
 refine rs G (hC 3 (v_heldStringS_c h) h0) ?_
 refine Ok_seq (rg G (cd hm (fun hm => ?_) (fun hm => ?_)))
 ·refine rg G ?_
  cases hm
  exact rt [] []
 ·refine X_skip (thN ?_)
  obtain ⟨r1, h1, hm⟩ := obind hm
  refine rs G (hC 3 (v_heldLineS_c h1) h0) ?_
  refine Ok_seq (rg G (cd hm (fun hm => ?_) (fun hm => ?_)))
  ·refine rg G ?_
   cases hm
   exact rt [] []
  ·refine X_skip (thN (rg G ?_))
   cases hm
   exact rt [] []
noncomputable def v_heldTripS_M : MS ((List Trip) × Int) Int := ⟨.x .r .r, fun x => v_heldTripS x.1 x.2, fun y => dV y, fun _ => [], fun _ _ => []⟩
theorem v_heldTripS_c {a k y} (hm : v_heldTripS a k = some y) : v_heldTripS_M.C (a, k) y := v_heldTripS_M.c (a, k) hm
theorem v_heldTripS_ok : FnOK Try.prog tJ 175 v_heldTripS_M.S := by
 refine fm tt v_heldTripS_M [] Try.call175 Try.func175 rfl Try.results175 Try.ntmps175 ?_
 rintro ⟨a, k⟩ y cx G hm
 have hm : v_heldTripS a k = some y := hm
 unfold v_heldTripS at hm
 refine rg G (Ok_seq (rg G (tF hm (fun k2 => ⟨[(1, dV k2)], [], 32⟩) (fun v1 hr hm => ?_) ?_)))
 ·refine Ok_block (lp G hm (fun (k1, v) => ⟨[(0, dV a), (1, dV k1), (5, dV v)], [], 32⟩) ?_)
  rintro ⟨k1, v⟩ r0 hb hm
  rw [v_heldTripS_L1] at hm
  refine Ok_seq (rs G (hN 2 a h0) ?_)
  refine cd hm (fun hm => ?_) (fun hm => ?_)
  ·refine X_skip (thN (Ok_seq (Ok_block (Ok_seq ?_))))
   obtain ⟨e, h, hm⟩ := obind hm
   refine rs G (hD 2 h h0) ?_
   refine cd hm (fun hm => ?_) (fun hm => ?_)
   ·refine rg G ?_
    have hm := eL hm hb hr
    cases hm
    exact rt [] []
   ·refine X_skip (thN (rg G (Ok_seq ?_)))
    obtain ⟨e2, h1, hm⟩ := obind hm
    refine rs G (hD 2 h1 h0) ?_
    refine cd hm (fun hm => ?_) (fun hm => ?_)
    ·refine rg G ?_
     have hm := eL hm hb hr
     cases hm
     exact rt [] []
    ·refine X_skip (thN (rg G (Ok_seq ?_)))
     obtain ⟨e4, h2, hm⟩ := obind hm
     refine rs G (hD 2 h2 h0) ?_
     refine cd hm (fun hm => ?_) (fun hm => ?_)
     ·refine rg G ?_
      have hm := eL hm hb hr
      cases hm
      exact rt [] []
     ·exact X_skip (thN (rh G (ibN (thN (rh G (wL G hm))))))
  ·exact Ok_exit (thE (thE (ibE (wE G hm hb))))
 rintro k2 hm s hw
 refine thN (Ok_weak hw ?_)
 refine rg G ?_
 cases hm
 exact rt [] []
noncomputable def v_heldTimetable_M : MS (Timetable × Int) Int := ⟨.x .r .r, fun x => v_heldTimetable x.1 x.2, fun y => dV y, fun _ => [], fun _ _ => []⟩
theorem v_heldTimetable_c {a k y} (hm : v_heldTimetable a k = some y) : v_heldTimetable_M.C (a, k) y := v_heldTimetable_M.c (a, k) hm
theorem v_heldTimetable_ok : FnOK Try.prog tJ 105 v_heldTimetable_M.S := by
 refine fm tt v_heldTimetable_M [fo v_heldNetwork_ok, fo v_heldTripS_ok] Try.call105 Try.func105 rfl Try.results105 Try.ntmps105 ?_
 rintro ⟨a, k⟩ y cx G hm
 have hm : v_heldTimetable a k = some y := hm
 unfold v_heldTimetable at hm
 refine rg G ?_
 obtain ⟨r, h, hm⟩ := obind hm
 refine rs G (hC 3 (v_heldNetwork_c h) h0) ?_
 refine Ok_seq (rg G (cd hm (fun hm => ?_) (fun hm => ?_)))
 ·refine rg G ?_
  cases hm
  exact rt [] []
 ·refine X_skip (thN ?_)
  obtain ⟨r1, h1, hm⟩ := obind hm
  refine rs G (hC 3 (v_heldTripS_c h1) h0) ?_
  refine Ok_seq (rg G (cd hm (fun hm => ?_) (fun hm => ?_)))
  ·refine rg G ?_
   cases hm
   exact rt [] []
  ·refine X_skip (thN (rg G ?_))
   cases hm
   exact rt [] []
noncomputable def v_heldConsole_M : MS (Console × Int) Int := ⟨.x .r .r, fun x => v_heldConsole x.1 x.2, fun y => dV y, fun _ => [], fun _ _ => []⟩
theorem v_heldConsole_c {a k y} (hm : v_heldConsole a k = some y) : v_heldConsole_M.C (a, k) y := v_heldConsole_M.c (a, k) hm
theorem v_heldConsole_ok : FnOK Try.prog tJ 33 v_heldConsole_M.S := by
 refine fm tt v_heldConsole_M [fo v_heldTimetable_ok] Try.call33 Try.func33 rfl Try.results33 Try.ntmps33 ?_
 rintro ⟨a, k⟩ y cx G hm
 have hm : v_heldConsole a k = some y := hm
 unfold v_heldConsole at hm
 refine rg G ?_
 obtain ⟨r, h, hm⟩ := obind hm
 refine rs G (hC 3 (v_heldTimetable_c h) h0) ?_
 refine Ok_seq (rg G (cd hm (fun hm => ?_) (fun hm => ?_)))
 ·refine rg G ?_
  cases hm
  exact rt [] []
 ·refine X_skip (thN (rg G ?_))
  cases hm
  exact rt [] []
noncomputable def v_FnExactNewConsole_M : MS Timetable Bool := ⟨.r, v_FnExactNewConsole, fun y => dV y, fun _ => [], fun _ _ => []⟩
theorem v_FnExactNewConsole_c {aT y} (hm : v_FnExactNewConsole aT = some y) : v_FnExactNewConsole_M.C aT y := v_FnExactNewConsole_M.c aT hm
theorem v_FnExactNewConsole_ok : FnOK Try.prog tJ 4 v_FnExactNewConsole_M.S := by
 refine fm tt v_FnExactNewConsole_M [fo v_szTimetable_ok, fo v_toTimetable_ok, fo s_NewConsole_ok, fo i_NewConsole_ok, fo v_eqConsole_ok, fo v_eqTimetable_ok, fo v_markTimetable_a_ok, fo v_markConsole_a_ok, fo v_heldConsole_ok] Try.call4 Try.func4 rfl Try.results4 Try.ntmps4 ?_
 rintro aT y cx G hm
 have hm : v_FnExactNewConsole aT = some y := hm
 unfold v_FnExactNewConsole at hm
 refine rg G (rg G ?_)
 obtain ⟨r, h, hm⟩ := obind hm
 refine rs G (hC 2 (v_szTimetable_c h) h0) ?_
 refine Ok_seq (rg G (cd hm (fun hm => ?_) (fun hm => ?_)))
 ·refine rg G ?_
  cases hm
  exact rt [] []
 ·refine X_skip (thN ?_)
  obtain ⟨r1, h1, hm⟩ := obind hm
  obtain ⟨r2, h2, hm⟩ := obind hm
  refine rs G (hC 1 (v_toTimetable_c h1) (hO 2 (.fz [176, 177, 178] [] []) (hC 2 (s_NewConsole_c h2) h0))) ?_
  obtain ⟨r3, h3, hm⟩ := obind hm
  refine rs G (hC 1 (v_toTimetable_c h3) h0) ?_
  obtain ⟨r4, h4, hm⟩ := obind hm
  refine rs G (hF 1 (i_NewConsole_c h4) ⟨(flat_cons flat_arr (flat_cons (flat_tab fun _ => flatT_agg (fT_d trivial (fT_s (fT_s fT_n)))) (flat_cons flat_arr flat_nil))), flat_nil⟩ h0) ?_
  refine Ok_seq ?_
  obtain ⟨r5, h5, hm⟩ := obind hm
  refine jn hm (fun v => ⟨[(1, .ref 16 0), (4, .ref 32 0), (5, dV r2.2), (6, .ref 48 0), (7, .ref 64 0), (8, dV r4.2), (40, dV v)], [bX 16 56 [dV aT.Network.Stops, dV aT.Network.Lines, dV aT.Trips], bX 32 67 [dV r2.1.Timetable.Network.Stops, dV r2.1.Timetable.Network.Lines, dV r2.1.Timetable.Trips, dV r2.1.Change, dV r2.1.Log.Durable, dV r2.1.Log.Pending, dV r2.1.Log.Count], bX 48 63 [.own 80, .own 96, .own 112], bX 64 67 [.own 128, .own 144, .own 160, dV r4.1.Change, dV r4.1.Log.Durable, dV r4.1.Log.Pending, dV r4.1.Log.Count], aX 80 9 r3.Network.Stops, tX 96 194 [none, some 3, some 3] r3.Network.Lines 96 none, aX 112 168 r3.Trips, aX 128 9 r4.1.Timetable.Network.Stops, tX 144 194 [none, some 3, some 3] r4.1.Timetable.Network.Lines 144 none, aX 160 168 r4.1.Timetable.Trips], 192⟩) (fun v hm => ?_) ?_
  ·rcases bf hm with ⟨hb, hm⟩ | ⟨hb, hm⟩
   ·refine re G (hC 2 (v_eqConsole_c h5) (hO 4 (.b true) (hP hb h0))) ?_
    exact wJ G hm
   ·refine re G (hC 2 (v_eqConsole_c h5) (hO 4 (.b false) (hP hb h0))) ?_
    exact wJ G hm
  rintro v hm
  refine cd hm (fun hm => ?_) (fun hm => ?_)
  ·refine rg G ?_
   cases hm
   exact rt [] []
  ·refine X_skip (thN (Ok_seq ?_))
   obtain ⟨r8, h8, hm⟩ := obind hm
   obtain ⟨r9, h9, hm⟩ := obind hm
   refine ds G [] (hC 2 (v_toTimetable_c h8) (hC 3 (v_eqTimetable_c h9) h0)) ?_
   refine cd hm (fun hm => ?_) (fun hm => ?_)
   ·refine rg G ?_
    cases hm
    exact rt [] []
   ·refine X_skip (thN (rg G ?_))
    obtain ⟨r10, h10, hm⟩ := obind hm
    refine rs G (hC 2 (v_markTimetable_a_c h10) h0) ?_
    refine Ok_seq (jn hm (fun v1 => ⟨[(1, .ref 16 0), (4, .ref 32 0), (5, dV r2.2), (7, .ref 48 0), (61, dV v1)], [bX 16 56 [dV aT.Network.Stops, dV aT.Network.Lines, dV aT.Trips], bX 32 67 [dV r2.1.Timetable.Network.Stops, dV r2.1.Timetable.Network.Lines, dV r2.1.Timetable.Trips, dV r2.1.Change, dV r2.1.Log.Durable, dV r2.1.Log.Pending, dV r2.1.Log.Count], bX 48 67 [.own 64, .own 80, .own 96, dV r4.1.Change, dV r4.1.Log.Durable, dV r4.1.Log.Pending, dV r4.1.Log.Count], aX 64 9 r4.1.Timetable.Network.Stops, tX 80 194 [none, some 3, some 3] r4.1.Timetable.Network.Lines 80 none, aX 96 168 r4.1.Timetable.Trips], 128⟩) (fun v1 hm => ?_) ?_)
    ·rcases bf hm with ⟨hb1, hm⟩ | ⟨hb1, hm⟩
     ·refine re G (hO 2 (.b true) (hP hb1 h0)) ?_
      exact wJ G hm
     ·obtain ⟨r11, h11, hm⟩ := obind hm
      rcases bf hm with ⟨hb2, hm⟩ | ⟨hb2, hm⟩
      ·refine re G (hO 2 (.b false) (hP hb1 (hC 5 (v_eqConsole_c h11) (hO 8 (.b true) (hP hb2 h0))))) ?_
       exact wJ G hm
      ·refine re G (hO 2 (.b false) (hP hb1 (hC 5 (v_eqConsole_c h11) (hO 8 (.b false) (hP hb2 h0))))) ?_
       exact wJ G hm
    rintro v1 hm
    refine cd hm (fun hm => ?_) (fun hm => ?_)
    ·refine rg G ?_
     cases hm
     exact rt [] []
    ·refine X_skip (thN (rg G ?_))
     obtain ⟨r12, h12, hm⟩ := obind hm
     refine rs G (hC 2 (v_markConsole_a_c h12) h0) ?_
     refine rg G ?_
     obtain ⟨r13, h13, hm⟩ := obind hm
     refine rs G (hC 2 (v_heldConsole_c h13) h0) ?_
     refine Ok_seq (rg G (cd hm (fun hm => ?_) (fun hm => ?_)))
     ·refine rg G ?_
      cases hm
      exact rt [] []
     ·refine X_skip (thN (Ok_seq (rg G (cd hm (fun hm => ?_) (fun hm => ?_)))))
      ·refine rg G ?_
       cases hm
       exact rt [] []
      ·refine X_skip (thN ?_)
       obtain ⟨r14, h14, hm⟩ := obind hm
       obtain ⟨r15, h15, hm⟩ := obind hm
       refine rs G (hC 1 (v_toTimetable_c h14) (hF 2 (i_NewConsole_c h15) ⟨(flat_cons flat_arr (flat_cons (flat_tab fun _ => flatT_agg (fT_d trivial (fT_s (fT_s fT_n)))) (flat_cons flat_arr flat_nil))), flat_nil⟩ h0)) ?_
       refine Ok_seq ?_
       obtain ⟨r16, h16, hm⟩ := obind hm
       refine jn hm (fun v2 => ⟨[(7, .ref 16 0), (10, dV r12.1), (87, dV v2)], [bX 16 67 [.own 32, .own 48, .own 64, dV r4.1.Change, dV r4.1.Log.Durable, dV r4.1.Log.Pending, dV r4.1.Log.Count], aX 32 9 r12.2.1, tX 48 194 [none, some 3, some 3] r12.2.2.1 48 none, aX 64 168 r12.2.2.2], 96⟩) (fun v2 hm => ?_) ?_
       ·rcases bf hm with ⟨hb3, hm⟩ | ⟨hb3, hm⟩
        ·refine re G (hC 2 (v_eqConsole_c h16) (hO 4 (.b true) (hP hb3 h0))) ?_
         exact wJ G hm
        ·refine re G (hC 2 (v_eqConsole_c h16) (hO 4 (.b false) (hP hb3 h0))) ?_
         exact wJ G hm
       rintro v2 hm
       refine cd hm (fun hm => ?_) (fun hm => ?_)
       ·refine rg G ?_
        cases hm
        exact rt [] []
       ·refine X_skip (thN (rg G ?_))
        obtain ⟨r17, h17, hm⟩ := obind hm
        refine rs G (hC 2 (v_heldConsole_c h17) h0) ?_
        refine Ok_seq (rg G (cd hm (fun hm => ?_) (fun hm => ?_)))
        ·refine rg G ?_
         cases hm
         exact rt [] []
        ·refine X_skip (thN (Ok_seq (rg G (cd hm (fun hm => ?_) (fun hm => ?_)))))
         ·refine rg G ?_
          cases hm
          exact rt [] []
         ·refine X_skip (thN (rg G ?_))
          cases hm
          exact rt [] []
end Go.Proofs.Ytjahononbnbjnaa
