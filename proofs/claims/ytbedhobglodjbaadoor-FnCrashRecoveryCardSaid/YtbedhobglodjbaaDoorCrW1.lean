/- Each function computes what its model says. Made by program (dec.py). -/
import Derived.Test.YtbedhobglodjbaaDoorTy
import Derived.Test.YtbedhobglodjbaaDoorAbC
import Derived.Test.YtbedhobglodjbaaDoorCrM
import Derived.Test.YtbedhobglodjbaaDoorSh
namespace Go.Proofs.YtbedhobglodjbaaDoor
open Go Go.Ab
set_option maxRecDepth 100000
set_option maxHeartbeats 4000000
set_option linter.unusedVariables false
set_option linter.unusedSimpArgs false
theorem tt : TT Tryd.prog ty := ⟨by kernel_rfl, ty_ok⟩
abbrev tJ : Inv := strJ Tryd.prog (some Lib.pow10Tab)
noncomputable def v_vBig_M : MS ((List UInt8)) Bool := ⟨.r, v_vBig, fun y => dV y, fun _ => [], fun _ _ => []⟩
theorem v_vBig_c {code y} (hm : v_vBig code = some y) : v_vBig_M.C code y := v_vBig_M.c code hm
theorem v_vBig_ok : FnOK Tryd.prog tJ 11 v_vBig_M.S := by
 refine fm tt v_vBig_M [] Tryd.call11 Tryd.func11 rfl Tryd.results11 Tryd.ntmps11 ?_
 rintro code y cx G hm
 have hm : v_vBig code = some y := hm
 unfold v_vBig at hm
 refine rg G (rs G (hN 1 code h0) ?_)
 cases hm
 exact rt [] []
noncomputable def s_l1Cur_next_M : MS l1Cur (Int × l1Cur) := ⟨.b 90, s_l1Cur_next, fun y => dV y.1, fun _ => [], fun _ y => [bxO 90 y.2]⟩
theorem s_l1Cur_next_c {c y} (hm : s_l1Cur_next c = some y) : s_l1Cur_next_M.C c y := s_l1Cur_next_M.c c hm
theorem s_l1Cur_next_ok : FnOK Tryd.prog tJ 127 s_l1Cur_next_M.S := by
 refine fm tt s_l1Cur_next_M [] Tryd.call127 Tryd.func127 rfl Tryd.results127 Tryd.ntmps127 ?_
 rintro c y cx G hm
 have hm : s_l1Cur_next c = some y := hm
 unfold s_l1Cur_next at hm
 refine rg G (rg G (jn hm (fun v => ⟨[(0, .ref 0 0), (3, dV v)], [bX 0 90 [dV c.code_, dV c.at_, kV .u64 c.seed_.v]], 48⟩) (fun v hm => ?_) ?_))
 ·refine ds G [] (hN 8 c.code_ h0) ?_
  refine cd hm (fun hm => ?_) (fun hm => ?_)
  ·obtain ⟨e1, h1, hm⟩ := obind hm
   refine de G [] (hD 8 h1 h0) ?_
   exact wJ G hm
  ·exact X_skip (wJ G hm)
 rintro v hm
 refine rg G (rg G (Ok_seq (ds G [] (hN 8 c.code_ h0) ?_)))
 refine cd hm (fun hm => ?_) (fun hm => ?_)
 ·refine rg G ?_
  cases hm
  exact rt [] []
 ·refine X_skip (thN ?_)
  obtain ⟨u, h2, hm⟩ := obind hm
  refine rs G (hK h2 h0) ?_
  cases hm
  exact rt [] []
noncomputable def s_l1Cur_pick_M : MS (l1Cur × Int) (Int × l1Cur) := ⟨.x (.b 90) .r, fun x => s_l1Cur_pick x.1 x.2, fun y => dV y.1, fun _ => [], fun _ y => [bxO 90 y.2]⟩
theorem s_l1Cur_pick_c {c n y} (hm : s_l1Cur_pick c n = some y) : s_l1Cur_pick_M.C (c, n) y := s_l1Cur_pick_M.c (c, n) hm
theorem s_l1Cur_pick_ok : FnOK Tryd.prog tJ 73 s_l1Cur_pick_M.S := by
 refine fm tt s_l1Cur_pick_M [fo s_l1Cur_next_ok] Tryd.call73 Tryd.func73 rfl Tryd.results73 Tryd.ntmps73 ?_
 rintro ⟨c, n⟩ y cx G hm
 have hm : s_l1Cur_pick c n = some y := hm
 unfold s_l1Cur_pick at hm
 refine rg G (Ok_seq (rg G (cd hm (fun hm => ?_) (fun hm => ?_))))
 ·refine rg G ?_
  cases hm
  exact rt [] []
 ·refine X_skip (thN ?_)
  obtain ⟨r, h, hm⟩ := obind hm
  refine rs G (hC 1 (s_l1Cur_next_c h) h0) ?_
  refine jn hm (fun (v, v1, v2, v3) => ⟨[(0, .ref 0 0), (1, dV n), (5, dV v)], [bX 0 90 [dV v1, dV v2, kV .u64 v3]], 48⟩) (fun vv hm => ?_) ?_
  ·refine rg G (cd hm (fun hm => ?_) (fun hm => ?_))
   ·obtain ⟨r1, h1, hm⟩ := obind hm
    refine re G (hC 3 (s_l1Cur_next_c h1) h0) ?_
    exact wJ G hm
   ·exact X_skip (wJ G hm)
  rintro ⟨v, v1, v2, v3⟩ hm
  obtain ⟨u, h2, hm⟩ := obind hm
  refine rs G (hK h2 h0) ?_
  cases hm
  exact rt [] []
noncomputable def s_l1Cur_of_M : MS (l1Cur × (List ByteArray)) (ByteArray × l1Cur) := ⟨.x (.b 90) .r, fun x => s_l1Cur_of x.1 x.2, fun y => dV y.1, fun _ => [], fun _ y => [bxO 90 y.2]⟩
theorem s_l1Cur_of_c {c list y} (hm : s_l1Cur_of c list = some y) : s_l1Cur_of_M.C (c, list) y := s_l1Cur_of_M.c (c, list) hm
theorem s_l1Cur_of_ok : FnOK Tryd.prog tJ 71 s_l1Cur_of_M.S := by
 refine fm tt s_l1Cur_of_M [fo s_l1Cur_pick_ok] Tryd.call71 Tryd.func71 rfl Tryd.results71 Tryd.ntmps71 ?_
 rintro ⟨c, list⟩ y cx G hm
 have hm : s_l1Cur_of c list = some y := hm
 unfold s_l1Cur_of at hm
 refine rg G ?_
 obtain ⟨r, h, hm⟩ := obind hm
 obtain ⟨e, h1, hm⟩ := obind hm
 refine rs G (hN 3 list (hC 4 (s_l1Cur_pick_c h) (hD 5 h1 h0))) ?_
 cases hm
 exact rt [] []
noncomputable def s_l1Cur_logRecord_M : MS l1Cur (LogRecord × l1Cur) := ⟨.b 90, s_l1Cur_logRecord, fun y => dV y.1, fun _ => [], fun _ y => [bxO 90 y.2]⟩
theorem s_l1Cur_logRecord_c {c y} (hm : s_l1Cur_logRecord c = some y) : s_l1Cur_logRecord_M.C c y := s_l1Cur_logRecord_M.c c hm
theorem s_l1Cur_logRecord_ok : FnOK Tryd.prog tJ 89 s_l1Cur_logRecord_M.S := by
 refine fm tt s_l1Cur_logRecord_M [fo s_l1Cur_of_ok, fo s_l1Cur_pick_ok] Tryd.call89 Tryd.func89 rfl Tryd.results89 Tryd.ntmps89 ?_
 rintro c y cx G hm
 have hm : s_l1Cur_logRecord c = some y := hm
 unfold s_l1Cur_logRecord at hm
 refine rg G ?_
 obtain ⟨r, h, hm⟩ := obind hm
 obtain ⟨r1, h1, hm⟩ := obind hm
 refine rs G (hO 2 (.fz [48] [] []) (hC 2 (s_l1Cur_of_c h) (hO 5 (.fz [96] [] []) (hC 5 (s_l1Cur_of_c h1) h0)))) ?_
 refine jn hm (fun (v, v1, v2, v3, v4) => ⟨[(0, .ref 0 0), (2, .ref 32 0), (3, .ref 48 0)], [bX 0 90 [dV v, dV v1, kV .u64 v2], bX 32 44 [dV ByteArray.empty, dV ByteArray.empty], bX 48 44 [dV v3, dV v4]], 80⟩) (fun vv hm => ?_) ?_
 ·obtain ⟨r2, h2, hm⟩ := obind hm
  refine rs G (hC 1 (s_l1Cur_pick_c h2) h0) ?_
  refine Ok_block (rg G (cd hm (fun hm => ?_) (fun hm => ?_)))
  ·obtain ⟨u, h3, hm⟩ := obind hm
   obtain ⟨r3, h4, hm⟩ := obind hm
   refine re G (hO 1 (.l (List.map Enc.e (List.replicate (3 : Int).toNat (mkU8 0 : UInt8)))) (hP (mk_p (b := 1) (chk_t h3) rfl) (hP (rep_m Enc.e (3 : Int).toNat (mkU8 0 : UInt8)) (hO 2 (.s (bytS (List.replicate (3 : Int).toNat (mkU8 0 : UInt8)))) (hP (byt_p (List.replicate (3 : Int).toNat (mkU8 0 : UInt8))) (hP (byt_m (List.replicate (3 : Int).toNat (mkU8 0 : UInt8))) (hO 4 (.fz [288] [] []) (hC 4 (s_l1Cur_of_c h4) h0)))))))) ?_
   exact ibN (wJ G hm)
  ·refine rg G (cd hm (fun hm => ?_) (fun hm => ?_))
   ·obtain ⟨r4, h5, hm⟩ := obind hm
    refine re G (hO 2 (.fz [288] [] []) (hC 2 (s_l1Cur_of_c h5) h0)) ?_
    exact ibN (wJ G hm)
   ·exact X_skip (ibN (wJ G hm))
 rintro ⟨v, v1, v2, v3, v4⟩ hm
 refine rg G ?_
 cases hm
 exact rt [] []
noncomputable def s_l1Split_M : MS (ByteArray × UInt8) ((List ByteArray)) := ⟨.x .r .r, fun x => s_l1Split x.1 x.2, fun _ => .own 0, fun y => [arO 9 y], fun _ _ => []⟩
theorem s_l1Split_c {s b y} (hm : s_l1Split s b = some y) : s_l1Split_M.C (s, b) y := s_l1Split_M.c (s, b) hm
theorem s_l1Split_ok : FnOK Tryd.prog tJ 125 s_l1Split_M.S := by
 refine fm tt s_l1Split_M [] Tryd.call125 Tryd.func125 rfl Tryd.results125 Tryd.ntmps125 ?_
 rintro ⟨s, b⟩ y cx G hm
 have hm : s_l1Split s b = some y := hm
 unfold s_l1Split at hm
 refine rg G (rg G (rg G (Ok_seq (rg G (tl hm (fun (v3, i2) => ⟨[(0, dV s), (5, .own 16), (6, dV v3)], [aX 16 9 i2], 48⟩) (fun vv1 hm => ?_) ?_)))))
 ·refine Ok_block (lp G hm (fun (v, v1, i) => ⟨[(0, dV s), (1, dV b), (5, .own 16), (6, dV v), (7, dV v1)], [aX 16 9 i], 48⟩) ?_)
  rintro ⟨v, v1, i⟩ r0 hb hm
  rw [s_l1Split_L1] at hm
  refine Ok_seq (rg G (cd hm (fun hm => ?_) (fun hm => ?_)))
  ·refine X_skip (thN (jn hm (fun (v2, i1) => ⟨[(0, dV s), (1, dV b), (5, .own 16), (6, dV v2), (7, dV v1)], [aX 16 9 i1], 48⟩) (fun vv hm => ?_) ?_))
   ·refine Ok_block ?_
    obtain ⟨u, h, hm⟩ := obind hm
    refine rs G (hK h h0) ?_
    refine cd hm (fun hm => ?_) (fun hm => ?_)
    ·obtain ⟨u1, h1, hm⟩ := obind hm
     obtain ⟨u2, h2, hm⟩ := obind hm
     refine rs G (hK h1 (hA 6 16 h2 h0)) ?_
     exact rh G (ibN (wJ G hm))
    ·exact X_skip (ibN (wJ G hm))
   rintro ⟨v2, i1⟩ hm
   exact rh G (wL G hm)
  ·exact Ok_exit (thE (thE (ibE (wD G hm hb))))
 rintro ⟨v3, i2⟩ hm s1 hw
 refine thN (Ok_weak hw ?_)
 obtain ⟨u3, h3, hm⟩ := obind hm
 obtain ⟨u4, h4, hm⟩ := obind hm
 refine rs G (hK h3 (hA 5 16 h4 h0)) ?_
 cases hm
 exact rt [128] []
noncomputable def s_l1Num_MR (rec_ : Int → Option (ByteArray)) : MS Int ByteArray := ⟨.r, rec_, fun y => dV y, fun _ => [], fun _ _ => []⟩
noncomputable def s_l1Num_M : MS Int ByteArray := s_l1Num_MR s_l1Num
theorem s_l1Num_c {n y} (hm : s_l1Num n = some y) : s_l1Num_M.C n y := s_l1Num_M.c n hm
theorem s_l1Num_cR {rec_ : Int → Option (ByteArray)} {n y} (hm : rec_ n = some y) : (s_l1Num_MR rec_).C n y := (s_l1Num_MR rec_).c n hm
theorem s_l1Num_okF {rec_ : Int → Option (ByteArray)} (hrec : FnOK Tryd.prog tJ 81 (s_l1Num_MR rec_).S) : FnOK Tryd.prog tJ 81 (s_l1Num_MR (s_l1Num_F rec_)).S := by
 refine fm tt (s_l1Num_MR (s_l1Num_F rec_)) [fo hrec] Tryd.call81 Tryd.func81 rfl Tryd.results81 Tryd.ntmps81 ?_
 rintro n y cx G hm
 have hm : s_l1Num_F rec_ n = some y := hm
 unfold s_l1Num_F at hm
 refine rg G (Ok_seq (rg G (cd hm (fun hm => ?_) (fun hm => ?_))))
 ·obtain ⟨r, h, hm⟩ := obind hm
  obtain ⟨u, h1, hm⟩ := obind hm
  refine rs G (hC 2 (s_l1Num_cR h) (hP (cat_p (chk_t h1)) h0)) ?_
  cases hm
  exact rt [] []
 ·refine X_skip (thN (Ok_seq (rg G (cd hm (fun hm => ?_) (fun hm => ?_)))))
  ·obtain ⟨u1, h2, hm⟩ := obind hm
   refine rs G (hK h2 h0) ?_
   cases hm
   exact rt [] []
  ·refine X_skip (thN ?_)
   obtain ⟨u7, h9, hm⟩ := obind hm
   obtain ⟨r2, h10, hm⟩ := obind hm
   obtain ⟨u8, h11, hm⟩ := obind hm
   obtain ⟨u9, h12, hm⟩ := obind hm
   obtain ⟨u10, h13, hm⟩ := obind hm
   obtain ⟨u11, h14, hm⟩ := obind hm
   refine ds G [] (hK h9 (hC 2 (s_l1Num_cR h10) (hK h11 (hK h12 (hK h13 (hP (cat_p (chk_t h14)) h0)))))) ?_
   cases hm
   exact rt [] []
theorem s_l1Num_okn : ∀ k, FnOK Tryd.prog tJ 81 (s_l1Num_MR (s_l1Num_k k)).S
 | 0 => ⟨fun args w => Tryd.call81 args w, fun vs w F ds obs κ hp => by obtain ⟨x, y, _, _, h⟩ := hp; cases h⟩
 | k + 1 => s_l1Num_okF (s_l1Num_okn k)
theorem s_l1Num_ok : FnOK Tryd.prog tJ 81 s_l1Num_M.S := s_l1Num_okn 4294967296
noncomputable def s_l1In_M : MS (Int × Int × Int) Bool := ⟨.x .r (.x .r .r), fun x => s_l1In x.1 x.2.1 x.2.2, fun y => dV y, fun _ => [], fun _ _ => []⟩
theorem s_l1In_c {x a b y} (hm : s_l1In x a b = some y) : s_l1In_M.C (x, a, b) y := s_l1In_M.c (x, a, b) hm
theorem s_l1In_ok : FnOK Tryd.prog tJ 80 s_l1In_M.S := by
 refine fm tt s_l1In_M [] Tryd.call80 Tryd.func80 rfl Tryd.results80 Tryd.ntmps80 ?_
 rintro ⟨x, a, b⟩ y cx G hm
 have hm : s_l1In x a b = some y := hm
 unfold s_l1In at hm
 refine rg G (jn hm (fun v => ⟨[(6, dV v)], [], 32⟩) (fun v hm => ?_) ?_)
 ·rcases bf hm with ⟨hb, hm⟩ | ⟨hb, hm⟩
  ·refine re G (hO 3 (.b true) (hP hb h0)) ?_
   exact wJ G hm
  ·refine re G (hO 3 (.b false) (hP hb h0)) ?_
   exact wJ G hm
 rintro v hm
 cases hm
 exact rt [] []
noncomputable def s_l27Plain_M : MS (ByteArray × Int) Bool := ⟨.x .r .r, fun x => s_l27Plain x.1 x.2, fun y => dV y, fun _ => [], fun _ _ => []⟩
theorem s_l27Plain_c {s most y} (hm : s_l27Plain s most = some y) : s_l27Plain_M.C (s, most) y := s_l27Plain_M.c (s, most) hm
theorem s_l27Plain_ok : FnOK Tryd.prog tJ 136 s_l27Plain_M.S := by
 refine fm tt s_l27Plain_M [fo s_l1In_ok] Tryd.call136 Tryd.func136 rfl Tryd.results136 Tryd.ntmps136 ?_
 rintro ⟨s, most⟩ y cx G hm
 have hm : s_l27Plain s most = some y := hm
 unfold s_l27Plain at hm
 refine rg G (Ok_seq (rg G (tF hm (fun _ => ⟨[(0, dV s), (1, dV most)], [], 32⟩) (fun v2 hr hm => ?_) ?_)))
 ·refine Ok_block (lp G hm (fun v => ⟨[(0, dV s), (1, dV most), (5, dV v)], [], 32⟩) ?_)
  rintro v r0 hb hm
  rw [s_l27Plain_L1] at hm
  refine Ok_seq (rg G (cd hm (fun hm => ?_) (fun hm => ?_)))
  ·refine X_skip (thN (Ok_seq (Ok_block ?_)))
   obtain ⟨u, h, hm⟩ := obind hm
   obtain ⟨r, h1, hm⟩ := obind hm
   refine jn hm (fun v1 => ⟨[(0, dV s), (1, dV most), (5, dV v), (23, dV v1)], [], 32⟩) (fun v1 hm => ?_) ?_
   ·rcases bf hm with ⟨hb1, hm⟩ | ⟨hb1, hm⟩
    ·refine re G (hK h (hC 4 (s_l1In_c h1) (hO 6 (.b true) (hP hb1 h0)))) ?_
     exact wJ G hm
    ·obtain ⟨u1, h2, hm⟩ := obind hm
     refine re G (hK h (hC 4 (s_l1In_c h1) (hO 6 (.b false) (hP hb1 (hK h2 h0))))) ?_
     exact wJ G hm
   rintro v1 hm
   refine cd hm (fun hm => ?_) (fun hm => ?_)
   ·refine rg G ?_
    have hm := eL hm hb hr
    cases hm
    exact rt [] []
   ·exact X_skip (ibN (thN (rh G (wL G hm))))
  ·exact Ok_exit (thE (thE (ibE (wE G hm hb))))
 rintro ⟨⟩ hm s1 hw
 refine thN (Ok_weak hw ?_)
 refine rg G ?_
 cases hm
 exact rt [] []
noncomputable def s_l1Stands_M : MS (ByteArray × UInt8) Bool := ⟨.x .r .r, fun x => s_l1Stands x.1 x.2, fun y => dV y, fun _ => [], fun _ _ => []⟩
theorem s_l1Stands_c {s b y} (hm : s_l1Stands s b = some y) : s_l1Stands_M.C (s, b) y := s_l1Stands_M.c (s, b) hm
theorem s_l1Stands_ok : FnOK Tryd.prog tJ 77 s_l1Stands_M.S := by
 refine fm tt s_l1Stands_M [] Tryd.call77 Tryd.func77 rfl Tryd.results77 Tryd.ntmps77 ?_
 rintro ⟨s, b⟩ y cx G hm
 have hm : s_l1Stands s b = some y := hm
 unfold s_l1Stands at hm
 refine rg G (Ok_seq (rg G (tF hm (fun _ => ⟨[], [], 32⟩) (fun v1 hr hm => ?_) ?_)))
 ·refine Ok_block (lp G hm (fun v => ⟨[(0, dV s), (1, dV b), (5, dV v)], [], 32⟩) ?_)
  rintro v r0 hb hm
  rw [s_l1Stands_L1] at hm
  refine Ok_seq (rg G (cd hm (fun hm => ?_) (fun hm => ?_)))
  ·refine X_skip (thN (Ok_seq (Ok_block ?_)))
   obtain ⟨u, h, hm⟩ := obind hm
   refine rs G (hK h h0) ?_
   refine cd hm (fun hm => ?_) (fun hm => ?_)
   ·refine rg G ?_
    have hm := eL hm hb hr
    cases hm
    exact rt [] []
   ·exact X_skip (ibN (thN (rh G (wL G hm))))
  ·exact Ok_exit (thE (thE (ibE (wE G hm hb))))
 rintro ⟨⟩ hm s1 hw
 refine thN (Ok_weak hw ?_)
 refine rg G ?_
 cases hm
 exact rt [] []
noncomputable def s_l27Good_M : MS LogRecord Bool := ⟨.r, s_l27Good, fun y => dV y, fun _ => [], fun _ _ => []⟩
theorem s_l27Good_c {e y} (hm : s_l27Good e = some y) : s_l27Good_M.C e y := s_l27Good_M.c e hm
theorem s_l27Good_ok : FnOK Tryd.prog tJ 92 s_l27Good_M.S := by
 refine fm tt s_l27Good_M [fo s_l27Plain_ok, fo s_l1Stands_ok] Tryd.call92 Tryd.func92 rfl Tryd.results92 Tryd.ntmps92 ?_
 rintro e y cx G hm
 have hm : s_l27Good e = some y := hm
 unfold s_l27Good at hm
 refine rg G (jn hm (fun v => ⟨[(2, dV v)], [], 32⟩) (fun v hm => ?_) ?_)
 ·rcases bf hm with ⟨hb, hm⟩ | ⟨hb, hm⟩
  ·obtain ⟨r, h, hm⟩ := obind hm
   rcases bf hm with ⟨hb1, hm⟩ | ⟨hb1, hm⟩
   ·obtain ⟨r1, h1, hm⟩ := obind hm
    rcases bf hm with ⟨hb2, hm⟩ | ⟨hb2, hm⟩
    ·obtain ⟨r2, h2, hm⟩ := obind hm
     refine re G (hO 3 (.b true) (hP hb (hC 6 (s_l27Plain_c h) (hO 8 (.b true) (hP hb1 (hC 11 (s_l1Stands_c h1) (hO 14 (.b true) (hP hb2 (hC 17 (s_l27Plain_c h2) h0))))))))) ?_
     exact wJ G hm
    ·refine re G (hO 3 (.b true) (hP hb (hC 6 (s_l27Plain_c h) (hO 8 (.b true) (hP hb1 (hC 11 (s_l1Stands_c h1) (hO 14 (.b false) (hP hb2 h0)))))))) ?_
     exact wJ G hm
   ·refine re G (hO 3 (.b true) (hP hb (hC 6 (s_l27Plain_c h) (hO 8 (.b false) (hP hb1 h0))))) ?_
    exact wJ G hm
  ·refine re G (hO 3 (.b false) (hP hb h0)) ?_
   exact wJ G hm
 rintro v hm
 cases hm
 exact rt [] []
noncomputable def s_l1Sum_M : MS ByteArray Int := ⟨.r, s_l1Sum, fun y => dV y, fun _ => [], fun _ _ => []⟩
theorem s_l1Sum_c {s y} (hm : s_l1Sum s = some y) : s_l1Sum_M.C s y := s_l1Sum_M.c s hm
theorem s_l1Sum_ok : FnOK Tryd.prog tJ 134 s_l1Sum_M.S := by
 refine fm tt s_l1Sum_M [] Tryd.call134 Tryd.func134 rfl Tryd.results134 Tryd.ntmps134 ?_
 rintro s y cx G hm
 have hm : s_l1Sum s = some y := hm
 unfold s_l1Sum at hm
 refine rg G (rg G (Ok_seq (rg G (tl hm (fun i1 => ⟨[(3, dV i1)], [], 32⟩) (fun i1 hm => ?_) ?_))))
 ·refine Ok_block (lp G hm (fun (i, v) => ⟨[(0, dV s), (3, dV i), (4, dV v)], [], 32⟩) ?_)
  rintro ⟨i, v⟩ r0 hb hm
  rw [s_l1Sum_L1] at hm
  refine Ok_seq (rg G (cd hm (fun hm => ?_) (fun hm => ?_)))
  ·refine X_skip (thN (Ok_seq (Ok_block ?_)))
   obtain ⟨u, h, hm⟩ := obind hm
   obtain ⟨u1, h1, hm⟩ := obind hm
   refine re G (hK h (hK h1 h0)) ?_
   exact ibN (thN (rh G (wL G hm)))
  ·exact Ok_exit (thE (thE (ibE (wD G hm hb))))
 rintro i1 hm s1 hw
 refine thN (Ok_weak hw ?_)
 refine rg G ?_
 cases hm
 exact rt [] []
noncomputable def s_l1Seal_M : MS ByteArray ByteArray := ⟨.r, s_l1Seal, fun y => dV y, fun _ => [], fun _ _ => []⟩
theorem s_l1Seal_c {s y} (hm : s_l1Seal s = some y) : s_l1Seal_M.C s y := s_l1Seal_M.c s hm
theorem s_l1Seal_ok : FnOK Tryd.prog tJ 86 s_l1Seal_M.S := by
 refine fm tt s_l1Seal_M [fo s_l1Sum_ok, fo s_l1Num_ok] Tryd.call86 Tryd.func86 rfl Tryd.results86 Tryd.ntmps86 ?_
 rintro s y cx G hm
 have hm : s_l1Seal s = some y := hm
 unfold s_l1Seal at hm
 refine rg G ?_
 obtain ⟨u, h, hm⟩ := obind hm
 obtain ⟨r, h1, hm⟩ := obind hm
 obtain ⟨r1, h2, hm⟩ := obind hm
 obtain ⟨u1, h3, hm⟩ := obind hm
 refine rs G (hP (cat_p (chk_t h)) (hC 3 (s_l1Sum_c h1) (hC 4 (s_l1Num_c h2) (hP (cat_p (chk_t h3)) h0)))) ?_
 cases hm
 exact rt [] []
noncomputable def s_l27Line_M : MS (Int × LogRecord) ByteArray := ⟨.x .r .r, fun x => s_l27Line x.1 x.2, fun y => dV y, fun _ => [], fun _ _ => []⟩
theorem s_l27Line_c {k e y} (hm : s_l27Line k e = some y) : s_l27Line_M.C (k, e) y := s_l27Line_M.c (k, e) hm
theorem s_l27Line_ok : FnOK Tryd.prog tJ 93 s_l27Line_M.S := by
 refine fm tt s_l27Line_M [fo s_l1Num_ok, fo s_l1Seal_ok] Tryd.call93 Tryd.func93 rfl Tryd.results93 Tryd.ntmps93 ?_
 rintro ⟨k, e⟩ y cx G hm
 have hm : s_l27Line k e = some y := hm
 unfold s_l27Line at hm
 refine rg G ?_
 obtain ⟨r2, h7, hm⟩ := obind hm
 obtain ⟨u5, h8, hm⟩ := obind hm
 obtain ⟨u6, h9, hm⟩ := obind hm
 obtain ⟨u7, h10, hm⟩ := obind hm
 obtain ⟨u8, h11, hm⟩ := obind hm
 obtain ⟨r3, h12, hm⟩ := obind hm
 obtain ⟨u9, h13, hm⟩ := obind hm
 refine ds G [] (hC 1 (s_l1Num_c h7) (hP (cat_p (chk_t h8)) (hP (cat_p (chk_t h9)) (hP (cat_p (chk_t h10)) (hP (cat_p (chk_t h11)) (hC 10 (s_l1Seal_c h12) (hP (cat_p (chk_t h13)) h0))))))) ?_
 cases hm
 exact rt [] []
noncomputable def s_l27Read_M : MS (ByteArray × Int) (LogRecord × Bool) := ⟨.x .r .r, fun x => s_l27Read x.1 x.2, fun y => .tup [dV y.1, dV y.2], fun _ => [], fun _ _ => []⟩
theorem s_l27Read_c {s k y} (hm : s_l27Read s k = some y) : s_l27Read_M.C (s, k) y := s_l27Read_M.c (s, k) hm
theorem s_l27Read_ok : FnOK Tryd.prog tJ 139 s_l27Read_M.S := by
 refine fm tt s_l27Read_M [fo s_l1Num_ok, fo s_l1Split_ok, fo s_l27Good_ok, fo s_l27Line_ok] Tryd.call139 Tryd.func139 rfl Tryd.results139 Tryd.ntmps139 ?_
 rintro ⟨s, k⟩ y cx G hm
 have hm : s_l27Read s k = some y := hm
 unfold s_l27Read at hm
 refine rg G ?_
 obtain ⟨r, h, hm⟩ := obind hm
 obtain ⟨u, h1, hm⟩ := obind hm
 refine rs G (hC 1 (s_l1Num_c h) (hP (cat_p (chk_t h1)) h0)) ?_
 obtain ⟨r1, h2, hm⟩ := obind hm
 obtain ⟨e, h3, hm⟩ := obind hm
 refine rs G (hC 1 (s_l1Split_c h2) (hD 2 h3 (hE 3 h3 h0))) ?_
 refine Ok_seq (jn hm (fun v => ⟨[(0, dV s), (1, dV k), (4, .ref 16 0), (6, dV (r ++ (str [32]))), (7, dV e), (30, dV v)], [bX 16 44 [dV ByteArray.empty, dV ByteArray.empty]], 48⟩) (fun v hm => ?_) ?_)
 ·rcases bf hm with ⟨hb, hm⟩ | ⟨hb, hm⟩
  ·refine re G (hO 5 (.b true) (hP hb h0)) ?_
   exact wJ G hm
  ·obtain ⟨u1, h4, hm⟩ := obind hm
   refine re G (hO 5 (.b false) (hP hb (hK h4 h0))) ?_
   exact wJ G hm
 rintro v hm
 refine cd hm (fun hm => ?_) (fun hm => ?_)
 ·refine rg G ?_
  cases hm
  exact rt [] []
 ·refine X_skip (thN ?_)
  obtain ⟨u2, h5, hm⟩ := obind hm
  refine rs G (hK h5 h0) ?_
  obtain ⟨r2, h6, hm⟩ := obind hm
  obtain ⟨e1, h7, hm⟩ := obind hm
  refine rs G (hC 1 (s_l1Split_c h6) (hD 2 h7 (hE 3 h7 h0))) ?_
  refine Ok_seq (rg G (cd hm (fun hm => ?_) (fun hm => ?_)))
  ·refine rg G ?_
   cases hm
   exact rt [] []
  ·refine X_skip (thN ?_)
   obtain ⟨u3, h8, hm⟩ := obind hm
   refine rs G (hK h8 h0) ?_
   obtain ⟨r5, h12, hm⟩ := obind hm
   refine jn hm (fun text => ⟨[(4, .ref 16 0), (5, dV text)], [bX 16 44 [dV e1, dV ((e.extract ((r ++ (str [32])).size : Int).toNat e.size).extract (w64 ((e1.size : Int) + 1)).toNat (e.extract ((r ++ (str [32])).size : Int).toNat e.size).size)]], 48⟩) (fun text hm => ?_) ?_
   ·rcases bf hm with ⟨hb1, hm⟩ | ⟨hb1, hm⟩
    ·obtain ⟨r6, h13, hm⟩ := obind hm
     obtain ⟨u5, h14, hm⟩ := obind hm
     refine de G [(11, [16])] (hC 2 (s_l27Good_c h12) (hO 3 (.b true) (hP hb1 (hC 6 (s_l27Line_c h13) (hP (cat_p (chk_t h14)) h0))))) ?_
     exact wJ G hm
    ·refine de G [(11, [16])] (hC 2 (s_l27Good_c h12) (hO 3 (.b false) (hP hb1 h0))) ?_
     exact wJ G hm
   rintro text hm
   cases hm
   exact rt [] []
noncomputable def s_l27Open_M : MS ByteArray ((List LogRecord) × Int) := ⟨.r, s_l27Open, fun y => .tup [.own 0, dV y.2], fun y => [arO 44 y.1], fun _ _ => []⟩
theorem s_l27Open_c {s y} (hm : s_l27Open s = some y) : s_l27Open_M.C s y := s_l27Open_M.c s hm
theorem s_l27Open_ok : FnOK Tryd.prog tJ 100 s_l27Open_M.S := by
 refine fm tt s_l27Open_M [fo s_l1Split_ok, fo s_l27Read_ok] Tryd.call100 Tryd.func100 rfl Tryd.results100 Tryd.ntmps100 ?_
 rintro s y cx G hm
 have hm : s_l27Open s = some y := hm
 unfold s_l27Open at hm
 refine rg G (rg G (rg G (jn hm (fun (line1, at_1) => ⟨[(4, .own 16), (5, dV line1)], [aX 16 44 at_1], 48⟩) (fun vv hm => ?_) ?_)))
 ·refine Ok_block (lp G hm (fun (line, at_) => ⟨[(0, dV s), (4, .own 16), (5, dV line)], [aX 16 44 at_], 48⟩) ?_)
  rintro ⟨line, at_⟩ r0 hb hm
  rw [s_l27Open_L1] at hm
  refine Ok_seq (jn hm (fun v => ⟨[(0, dV s), (4, .own 16), (5, dV line), (18, dV v)], [aX 16 44 at_], 48⟩) (fun v hm => ?_) ?_)
  ·rcases bf hm with ⟨hb1, hm⟩ | ⟨hb1, hm⟩
   ·refine re G (hO 4 (.b true) (hP hb1 (hN 6 at_ h0))) ?_
    exact wJ G hm
   ·refine re G (hO 4 (.b false) (hP hb1 h0)) ?_
    exact wJ G hm
  rintro v hm
  refine cd hm (fun hm => ?_) (fun hm => ?_)
  ·refine X_skip (thN (Ok_block ?_))
   obtain ⟨u, h, hm⟩ := obind hm
   obtain ⟨r, h1, hm⟩ := obind hm
   refine rs G (hK h (hC 3 (s_l1Split_c h1) h0)) ?_
   obtain ⟨e, h2, hm⟩ := obind hm
   obtain ⟨r1, h3, hm⟩ := obind hm
   refine rs G (hD 1 h2 (hE 2 h2 (hN 4 at_ (hC 5 (s_l27Read_c h3) h0)))) ?_
   refine Ok_seq (jn hm (fun v1 => ⟨[(0, dV s), (4, .own 16), (5, dV line), (6, .own 32), (7, .ref 48 0), (38, dV v1)], [aX 16 44 at_, aX 32 9 r, bX 48 44 [dV r1.1.Command, dV r1.1.Reply]], 80⟩) (fun v1 hm => ?_) ?_)
   ·rcases bf hm with ⟨hb2, hm⟩ | ⟨hb2, hm⟩
    ·refine re G (hN 1 r (hO 3 (.b true) (hP hb2 h0))) ?_
     exact wJ G hm
    ·refine re G (hN 1 r (hO 3 (.b false) (hP hb2 h0))) ?_
     exact wJ G hm
   rintro v1 hm
   refine cd hm (fun hm => ?_) (fun hm => ?_)
   ·exact Ok_exit (thE (ibX rfl (thE (ibE (wD G hm hb)))))
   ·refine X_skip (thN ?_)
    obtain ⟨u1, h4, hm⟩ := obind hm
    refine rs G (hA 3 32 h4 h0) ?_
    obtain ⟨e1, h5, hm⟩ := obind hm
    refine re G (hD 2 h5 (hE 3 h5 h0)) ?_
    exact ibN (wL G hm)
  ·exact Ok_exit (thE (thE (ibE (wD G hm hb))))
 rintro ⟨line1, at_1⟩ hm
 refine rg G ?_
 cases hm
 exact rt [16] []
noncomputable def s_l27Log_M : MS Log Bool := ⟨.r, s_l27Log, fun y => dV y, fun _ => [], fun _ _ => []⟩
theorem s_l27Log_c {l y} (hm : s_l27Log l = some y) : s_l27Log_M.C l y := s_l27Log_M.c l hm
theorem s_l27Log_ok : FnOK Tryd.prog tJ 91 s_l27Log_M.S := by
 refine fm tt s_l27Log_M [fo s_l27Open_ok] Tryd.call91 Tryd.func91 rfl Tryd.results91 Tryd.ntmps91 ?_
 rintro l y cx G hm
 have hm : s_l27Log l = some y := hm
 unfold s_l27Log at hm
 refine rg G (Ok_seq (rg G (cd hm (fun hm => ?_) (fun hm => ?_))))
 ·refine rg G ?_
  cases hm
  exact rt [] []
 ·refine X_skip (thN ?_)
  obtain ⟨u, h, hm⟩ := obind hm
  obtain ⟨r, h1, hm⟩ := obind hm
  refine rs G (hP (cat_p (chk_t h)) (hC 5 (s_l27Open_c h1) h0)) ?_
  obtain ⟨r1, h2, hm⟩ := obind hm
  refine rs G (hC 2 (s_l27Open_c h2) h0) ?_
  refine jn hm (fun all => ⟨[(2, dV all)], [], 32⟩) (fun all hm => ?_) ?_
  ·rcases bf hm with ⟨hb, hm⟩ | ⟨hb, hm⟩
   ·rcases bf hm with ⟨hb1, hm⟩ | ⟨hb1, hm⟩
    ·refine re G (hO 9 (.b true) (hP hb (hO 16 (.b true) (hP hb1 (hN 18 r.1 h0))))) ?_
     exact wJ G hm
    ·refine re G (hO 9 (.b true) (hP hb (hO 16 (.b false) (hP hb1 h0)))) ?_
     exact wJ G hm
   ·refine re G (hO 9 (.b false) (hP hb h0)) ?_
    exact wJ G hm
  rintro all hm
  cases hm
  exact rt [] []
noncomputable def s_AppendRecord_M : MS (Log × LogRecord) (Log × Int) := ⟨.x .r .r, fun x => s_AppendRecord x.1 x.2, fun y => .tup [dV y.1, dV y.2], fun _ => [], fun _ _ => []⟩
theorem s_AppendRecord_c {l e y} (hm : s_AppendRecord l e = some y) : s_AppendRecord_M.C (l, e) y := s_AppendRecord_M.c (l, e) hm
theorem s_AppendRecord_ok : FnOK Tryd.prog tJ 33 s_AppendRecord_M.S := by
 refine fm tt s_AppendRecord_M [fo s_l27Log_ok, fo s_l27Good_ok, fo s_l27Line_ok] Tryd.call33 Tryd.func33 rfl Tryd.results33 Tryd.ntmps33 ?_
 rintro ⟨l, e⟩ y cx G hm
 have hm : s_AppendRecord l e = some y := hm
 unfold s_AppendRecord at hm
 refine rg G (Ok_seq ?_)
 obtain ⟨r, h, hm⟩ := obind hm
 refine jn hm (fun v => ⟨[(2, .ref 16 0), (3, .ref 32 0), (4, .ref 48 0), (13, dV v)], [bX 16 42 [dV l.Durable, dV l.Pending, dV l.Count], bX 32 44 [dV e.Command, dV e.Reply], bX 48 42 [dV ByteArray.empty, dV ByteArray.empty, kV .i64 0]], 80⟩) (fun v hm => ?_) ?_
 ·rcases bf hm with ⟨hb, hm⟩ | ⟨hb, hm⟩
  ·refine re G (hC 1 (s_l27Log_c h) (hO 3 (.b true) (hP hb h0))) ?_
   exact wJ G hm
  ·obtain ⟨r1, h1, hm⟩ := obind hm
   refine re G (hC 1 (s_l27Log_c h) (hO 3 (.b false) (hP hb (hC 5 (s_l27Good_c h1) h0)))) ?_
   exact wJ G hm
 rintro v hm
 refine cd hm (fun hm => ?_) (fun hm => ?_)
 ·refine rg G ?_
  cases hm
  exact rt [] []
 ·refine X_skip (thN (Ok_seq (rg G (cd hm (fun hm => ?_) (fun hm => ?_)))))
  ·refine rg G ?_
   cases hm
   exact rt [] []
  ·refine X_skip (thN ?_)
   obtain ⟨r3, h4, hm⟩ := obind hm
   obtain ⟨u1, h5, hm⟩ := obind hm
   refine ds G [(8, [16])] (hC 5 (s_l27Line_c h4) (hP (cat_p (chk_t h5)) h0)) ?_
   refine rg G (rg G ?_)
   cases hm
   exact rt [] []
noncomputable def s_l1Cur_one_M : MS (l1Cur × Int) (Bool × l1Cur) := ⟨.x (.b 90) .r, fun x => s_l1Cur_one x.1 x.2, fun y => dV y.1, fun _ => [], fun _ y => [bxO 90 y.2]⟩
theorem s_l1Cur_one_c {c n y} (hm : s_l1Cur_one c n = some y) : s_l1Cur_one_M.C (c, n) y := s_l1Cur_one_M.c (c, n) hm
theorem s_l1Cur_one_ok : FnOK Tryd.prog tJ 74 s_l1Cur_one_M.S := by
 refine fm tt s_l1Cur_one_M [fo s_l1Cur_pick_ok] Tryd.call74 Tryd.func74 rfl Tryd.results74 Tryd.ntmps74 ?_
 rintro ⟨c, n⟩ y cx G hm
 have hm : s_l1Cur_one c n = some y := hm
 unfold s_l1Cur_one at hm
 refine rg G ?_
 obtain ⟨r, h, hm⟩ := obind hm
 refine rs G (hC 2 (s_l1Cur_pick_c h) h0) ?_
 cases hm
 exact rt [] []
noncomputable def s_SyncLog_M : MS Log (Log × Bool) := ⟨.r, s_SyncLog, fun y => .tup [dV y.1, dV y.2], fun _ => [], fun _ _ => []⟩
theorem s_SyncLog_c {l y} (hm : s_SyncLog l = some y) : s_SyncLog_M.C l y := s_SyncLog_M.c l hm
theorem s_SyncLog_ok : FnOK Tryd.prog tJ 138 s_SyncLog_M.S := by
 refine fm tt s_SyncLog_M [fo s_l27Log_ok] Tryd.call138 Tryd.func138 rfl Tryd.results138 Tryd.ntmps138 ?_
 rintro l y cx G hm
 have hm : s_SyncLog l = some y := hm
 unfold s_SyncLog at hm
 refine rg G (Ok_seq ?_)
 obtain ⟨r, h, hm⟩ := obind hm
 refine rs G (hC 1 (s_l27Log_c h) h0) ?_
 refine cd hm (fun hm => ?_) (fun hm => ?_)
 ·refine rg G ?_
  cases hm
  exact rt [] []
 ·refine X_skip (thN ?_)
  obtain ⟨u, h1, hm⟩ := obind hm
  refine rs G (hP (cat_p (chk_t h1)) h0) ?_
  cases hm
  exact rt [] []
noncomputable def s_l1Cur_log_M : MS l1Cur (Log × l1Cur) := ⟨.b 90, s_l1Cur_log, fun y => dV y.1, fun _ => [], fun _ y => [bxO 90 y.2]⟩
theorem s_l1Cur_log_c {c y} (hm : s_l1Cur_log c = some y) : s_l1Cur_log_M.C c y := s_l1Cur_log_M.c c hm
theorem s_l1Cur_log_ok : FnOK Tryd.prog tJ 98 s_l1Cur_log_M.S := by
 refine fm tt s_l1Cur_log_M [fo s_l1Cur_pick_ok, fo s_l1Cur_logRecord_ok, fo s_AppendRecord_ok, fo s_l1Cur_one_ok, fo s_SyncLog_ok] Tryd.call98 Tryd.func98 rfl Tryd.results98 Tryd.ntmps98 ?_
 rintro c y cx G hm
 have hm : s_l1Cur_log c = some y := hm
 unfold s_l1Cur_log at hm
 refine rg G (rg G (Ok_seq ?_))
 obtain ⟨r, h, hm⟩ := obind hm
 refine rs G (hC 1 (s_l1Cur_pick_c h) h0) ?_
 refine tl hm (fun (v13, v14, v15, v16, v17, v18) => ⟨[(0, .ref 0 0), (2, .ref 32 0), (3, .ref 48 0)], [bX 0 90 [dV v13, dV v14, kV .u64 v15], bX 32 42 [dV ByteArray.empty, dV ByteArray.empty, kV .i64 0], bX 48 42 [dV v16, dV v17, dV v18]], 80⟩) (fun vv1 hm => ?_) ?_
 ·refine Ok_block (lp G hm (fun (v, v1, v2, v3, v4, v5, v6) => ⟨[(0, .ref 0 0), (2, .ref 32 0), (3, .ref 48 0), (4, dV v)], [bX 0 90 [dV v1, dV v2, kV .u64 v3], bX 32 42 [dV ByteArray.empty, dV ByteArray.empty, kV .i64 0], bX 48 42 [dV v4, dV v5, dV v6]], 80⟩) ?_)
  rintro ⟨v, v1, v2, v3, v4, v5, v6⟩ r0 hb hm
  rw [s_l1Cur_log_L1] at hm
  refine Ok_seq (rg G (cd hm (fun hm => ?_) (fun hm => ?_)))
  ·refine X_skip (thN (jn hm (fun (v7, v8, v9, v10, v11, v12) => ⟨[(0, .ref 0 0), (2, .ref 32 0), (3, .ref 48 0), (4, dV v)], [bX 0 90 [dV v7, dV v8, kV .u64 v9], bX 32 42 [dV ByteArray.empty, dV ByteArray.empty, kV .i64 0], bX 48 42 [dV v10, dV v11, dV v12]], 80⟩) (fun vv hm => ?_) ?_))
   ·refine Ok_block ?_
    obtain ⟨r3, h3, hm⟩ := obind hm
    obtain ⟨r4, h4, hm⟩ := obind hm
    refine ds G [(2, [0]), (7, [48])] (hC 2 (s_l1Cur_logRecord_c h3) (hC 3 (s_AppendRecord_c h4) h0)) ?_
    obtain ⟨r5, h5, hm⟩ := obind hm
    refine rs G (hC 1 (s_l1Cur_one_c h5) h0) ?_
    refine cd hm (fun hm => ?_) (fun hm => ?_)
    ·obtain ⟨r6, h6, hm⟩ := obind hm
     refine re G (hC 1 (s_SyncLog_c h6) h0) ?_
     exact ibN (wJ G hm)
    ·exact X_skip (ibN (wJ G hm))
   rintro ⟨v7, v8, v9, v10, v11, v12⟩ hm
   exact rh G (wL G hm)
  ·exact Ok_exit (thE (thE (ibE (wD G hm hb))))
 rintro ⟨v13, v14, v15, v16, v17, v18⟩ hm s hw
 refine thN (Ok_weak hw ?_)
 refine rg G ?_
 cases hm
 exact rt [] []
noncomputable def s_l1Cur_spoilt_M : MS (l1Cur × ByteArray × ByteArray) (ByteArray × l1Cur) := ⟨.x (.b 90) (.x .r .r), fun x => s_l1Cur_spoilt x.1 x.2.1 x.2.2, fun y => dV y.1, fun _ => [], fun _ y => [bxO 90 y.2]⟩
theorem s_l1Cur_spoilt_c {c t with_ y} (hm : s_l1Cur_spoilt c t with_ = some y) : s_l1Cur_spoilt_M.C (c, t, with_) y := s_l1Cur_spoilt_M.c (c, t, with_) hm
theorem s_l1Cur_spoilt_ok : FnOK Tryd.prog tJ 99 s_l1Cur_spoilt_M.S := by
 refine fm tt s_l1Cur_spoilt_M [fo s_l1Cur_pick_ok] Tryd.call99 Tryd.func99 rfl Tryd.results99 Tryd.ntmps99 ?_
 rintro ⟨c, t, with_⟩ y cx G hm
 have hm : s_l1Cur_spoilt c t with_ = some y := hm
 unfold s_l1Cur_spoilt at hm
 refine rg G (Ok_seq (rg G (cd hm (fun hm => ?_) (fun hm => ?_))))
 ·obtain ⟨u, h, hm⟩ := obind hm
  refine rs G (hK h h0) ?_
  cases hm
  exact rt [] []
 ·refine X_skip (thN ?_)
  obtain ⟨r, h1, hm⟩ := obind hm
  refine rs G (hC 3 (s_l1Cur_pick_c h1) h0) ?_
  obtain ⟨r1, h2, hm⟩ := obind hm
  obtain ⟨u1, h3, hm⟩ := obind hm
  obtain ⟨u2, h4, hm⟩ := obind hm
  refine rs G (hC 4 (s_l1Cur_pick_c h2) (hK h3 (hK h4 h0))) ?_
  refine Ok_seq ?_
  obtain ⟨r2, h5, hm⟩ := obind hm
  refine rs G (hC 1 (s_l1Cur_pick_c h5) h0) ?_
  refine Ok_block (rg G (cd hm (fun hm => ?_) (fun hm => ?_)))
  ·obtain ⟨u7, h10, hm⟩ := obind hm
   obtain ⟨u8, h11, hm⟩ := obind hm
   obtain ⟨u9, h12, hm⟩ := obind hm
   obtain ⟨u10, h13, hm⟩ := obind hm
   refine ds G [] (hK h10 (hP (cat_p (chk_t h11)) (hK h12 (hP (cat_p (chk_t h13)) h0)))) ?_
   cases hm
   exact rt [] []
  ·refine rg G (cd hm (fun hm => ?_) (fun hm => ?_))
   ·obtain ⟨u15, h18, hm⟩ := obind hm
    obtain ⟨u16, h19, hm⟩ := obind hm
    obtain ⟨u17, h20, hm⟩ := obind hm
    obtain ⟨u18, h21, hm⟩ := obind hm
    refine ds G [] (hK h18 (hP (cat_p (chk_t h19)) (hK h20 (hP (cat_p (chk_t h21)) h0)))) ?_
    cases hm
    exact rt [] []
   ·refine X_skip (ibN (thN ?_))
    obtain ⟨u22, h25, hm⟩ := obind hm
    obtain ⟨u23, h26, hm⟩ := obind hm
    obtain ⟨u24, h27, hm⟩ := obind hm
    refine ds G [] (hK h25 (hK h26 (hP (cat_p (chk_t h27)) h0))) ?_
    cases hm
    exact rt [] []
noncomputable def s_l1Cur_anyLog_M : MS l1Cur (Log × l1Cur) := ⟨.b 90, s_l1Cur_anyLog, fun y => dV y.1, fun _ => [], fun _ y => [bxO 90 y.2]⟩
theorem s_l1Cur_anyLog_c {c y} (hm : s_l1Cur_anyLog c = some y) : s_l1Cur_anyLog_M.C c y := s_l1Cur_anyLog_M.c c hm
theorem s_l1Cur_anyLog_ok : FnOK Tryd.prog tJ 88 s_l1Cur_anyLog_M.S := by
 refine fm tt s_l1Cur_anyLog_M [fo s_l1Cur_log_ok, fo s_l1Cur_pick_ok, fo s_l1Cur_spoilt_ok] Tryd.call88 Tryd.func88 rfl Tryd.results88 Tryd.ntmps88 ?_
 rintro c y cx G hm
 have hm : s_l1Cur_anyLog c = some y := hm
 unfold s_l1Cur_anyLog at hm
 refine rg G ?_
 obtain ⟨r, h, hm⟩ := obind hm
 refine rs G (hC 1 (s_l1Cur_log_c h) h0) ?_
 refine jn hm (fun (v, v1, v2, v3, v4, v5) => ⟨[(0, .ref 0 0), (2, .ref 32 0), (3, .ref 48 0)], [bX 0 90 [dV v, dV v1, kV .u64 v2], bX 32 42 [dV ByteArray.empty, dV ByteArray.empty, kV .i64 0], bX 48 42 [dV v3, dV v4, dV v5]], 80⟩) (fun vv hm => ?_) ?_
 ·obtain ⟨r1, h1, hm⟩ := obind hm
  refine rs G (hC 1 (s_l1Cur_pick_c h1) h0) ?_
  refine Ok_block (rg G (cd hm (fun hm => ?_) (fun hm => ?_)))
  ·exact rh G (ibN (wJ G hm))
  ·refine rg G (cd hm (fun hm => ?_) (fun hm => ?_))
   ·obtain ⟨r2, h2, hm⟩ := obind hm
    refine re G (hC 3 (s_l1Cur_spoilt_c h2) h0) ?_
    exact ibN (wJ G hm)
   ·refine rg G (cd hm (fun hm => ?_) (fun hm => ?_))
    ·obtain ⟨u, h3, hm⟩ := obind hm
     refine re G (hP (cat_p (chk_t h3)) h0) ?_
     exact ibN (wJ G hm)
    ·exact X_skip (ibN (wJ G hm))
 rintro ⟨v, v1, v2, v3, v4, v5⟩ hm
 refine rg G ?_
 cases hm
 exact rt [] []
noncomputable def s_DrawCrashLog_M : MS ((List UInt8)) (Log × Int × Bool) := ⟨.r, s_DrawCrashLog, fun y => .tup [dV y.1, dV y.2.1, dV y.2.2], fun _ => [], fun _ _ => []⟩
theorem s_DrawCrashLog_c {code y} (hm : s_DrawCrashLog code = some y) : s_DrawCrashLog_M.C code y := s_DrawCrashLog_M.c code hm
theorem s_DrawCrashLog_ok : FnOK Tryd.prog tJ 46 s_DrawCrashLog_M.S := by
 refine fm tt s_DrawCrashLog_M [fo s_l1Cur_anyLog_ok, fo s_l1Cur_pick_ok, fo s_l1Cur_one_ok] Tryd.call46 Tryd.func46 rfl Tryd.results46 Tryd.ntmps46 ?_
 rintro code y cx G hm
 have hm : s_DrawCrashLog code = some y := hm
 unfold s_DrawCrashLog at hm
 refine rg G (rg G ?_)
 obtain ⟨r, h, hm⟩ := obind hm
 refine rs G (hC 1 (s_l1Cur_anyLog_c h) h0) ?_
 obtain ⟨r1, h1, hm⟩ := obind hm
 refine rs G (hC 5 (s_l1Cur_pick_c h1) h0) ?_
 obtain ⟨r3, h3, hm⟩ := obind hm
 refine ds G [(3, [96]), (4, [16])] (hC 3 (s_l1Cur_one_c h3) h0) ?_
 cases hm
 exact rt [] []
noncomputable def strings_Cut_M : MS (ByteArray × ByteArray) (ByteArray × ByteArray × Bool) := ⟨.x .r .r, fun x => strings_Cut x.1 x.2, fun y => .tup [dV y.1, dV y.2.1, dV y.2.2], fun _ => [], fun _ _ => []⟩
theorem strings_Cut_c {s sep y} (hm : strings_Cut s sep = some y) : strings_Cut_M.C (s, sep) y := strings_Cut_M.c (s, sep) hm
theorem strings_Cut_ok : FnOK Tryd.prog tJ 87 strings_Cut_M.S := cutOK Tryd.lays145 Tryd.call87 (by kernel_rfl)
noncomputable def i_within_M : MS (Int × Int × Int) Bool := ⟨.x .r (.x .r .r), fun x => i_within x.1 x.2.1 x.2.2, fun y => dV y, fun _ => [], fun _ _ => []⟩
theorem i_within_c {n lo hi y} (hm : i_within n lo hi = some y) : i_within_M.C (n, lo, hi) y := i_within_M.c (n, lo, hi) hm
theorem i_within_ok : FnOK Tryd.prog tJ 97 i_within_M.S := by
 refine fm tt i_within_M [] Tryd.call97 Tryd.func97 rfl Tryd.results97 Tryd.ntmps97 ?_
 rintro ⟨n, lo, hi⟩ y cx G hm
 have hm : i_within n lo hi = some y := hm
 unfold i_within at hm
 refine rg G (jn hm (fun v => ⟨[(6, dV v)], [], 32⟩) (fun v hm => ?_) ?_)
 ·rcases bf hm with ⟨hb, hm⟩ | ⟨hb, hm⟩
  ·refine re G (hO 3 (.b true) (hP hb h0)) ?_
   exact wJ G hm
  ·refine re G (hO 3 (.b false) (hP hb h0)) ?_
   exact wJ G hm
 rintro v hm
 cases hm
 exact rt [] []
noncomputable def i_isPrintable_M : MS ByteArray Bool := ⟨.r, i_isPrintable, fun y => dV y, fun _ => [], fun _ _ => []⟩
theorem i_isPrintable_c {s y} (hm : i_isPrintable s = some y) : i_isPrintable_M.C s y := i_isPrintable_M.c s hm
theorem i_isPrintable_ok : FnOK Tryd.prog tJ 96 i_isPrintable_M.S := by
 refine fm tt i_isPrintable_M [] Tryd.call96 Tryd.func96 rfl Tryd.results96 Tryd.ntmps96 ?_
 rintro s y cx G hm
 have hm : i_isPrintable s = some y := hm
 unfold i_isPrintable at hm
 refine rg G (Ok_seq (rg G (tF hm (fun _ => ⟨[], [], 32⟩) (fun v2 hr hm => ?_) ?_)))
 ·refine Ok_block (lp G hm (fun v => ⟨[(0, dV s), (5, dV (s.size : Int)), (6, dV v)], [], 32⟩) ?_)
  rintro v r0 hb hm
  rw [i_isPrintable_L1] at hm
  refine rg G (Ok_seq (cd hm (fun hm => ?_) (fun hm => ?_)))
  ·refine X_skip (thN (Ok_seq (Ok_block (rg G ?_))))
   obtain ⟨u, h, hm⟩ := obind hm
   refine jn hm (fun v1 => ⟨[(0, dV s), (5, dV (s.size : Int)), (6, dV v), (24, dV v1)], [], 32⟩) (fun v1 hm => ?_) ?_
   ·rcases bf hm with ⟨hb1, hm⟩ | ⟨hb1, hm⟩
    ·refine re G (hK h (hO 4 (.b true) (hP hb1 h0))) ?_
     exact wJ G hm
    ·obtain ⟨u1, h1, hm⟩ := obind hm
     rcases bf hm with ⟨hb2, hm⟩ | ⟨hb2, hm⟩
     ·refine re G (hK h (hO 4 (.b false) (hP hb1 (hK h1 (hO 10 (.b true) (hP hb2 h0)))))) ?_
      exact wJ G hm
     ·obtain ⟨u2, h2, hm⟩ := obind hm
      refine re G (hK h (hO 4 (.b false) (hP hb1 (hK h1 (hO 10 (.b false) (hP hb2 (hK h2 h0))))))) ?_
      exact wJ G hm
   rintro v1 hm
   refine cd hm (fun hm => ?_) (fun hm => ?_)
   ·refine rg G ?_
    have hm := eL hm hb hr
    cases hm
    exact rt [] []
   ·exact X_skip (ibN (thN (rh G (wL G hm))))
  ·exact Ok_exit (thE (thE (ibE (wE G hm hb))))
 rintro ⟨⟩ hm s1 hw
 refine thN (Ok_weak hw ?_)
 refine rg G ?_
 cases hm
 exact rt [] []
noncomputable def strings_Contains_M : MS (ByteArray × ByteArray) Bool := ⟨.x .r .r, fun x => strings_Contains x.1 x.2, fun y => dV y, fun _ => [], fun _ _ => []⟩
theorem strings_Contains_c {s substr y} (hm : strings_Contains s substr = some y) : strings_Contains_M.C (s, substr) y := strings_Contains_M.c (s, substr) hm
theorem strings_Contains_ok : FnOK Tryd.prog tJ 75 strings_Contains_M.S := containsOK Tryd.lays144 Tryd.call75 (by kernel_rfl)
noncomputable def i_isCommand_M : MS ByteArray Bool := ⟨.r, i_isCommand, fun y => dV y, fun _ => [], fun _ _ => []⟩
theorem i_isCommand_c {s y} (hm : i_isCommand s = some y) : i_isCommand_M.C s y := i_isCommand_M.c s hm
theorem i_isCommand_ok : FnOK Tryd.prog tJ 95 i_isCommand_M.S := by
 refine fm tt i_isCommand_M [fo i_within_ok, fo i_isPrintable_ok, fo strings_Contains_ok] Tryd.call95 Tryd.func95 rfl Tryd.results95 Tryd.ntmps95 ?_
 rintro s y cx G hm
 have hm : i_isCommand s = some y := hm
 unfold i_isCommand at hm
 refine rg G ?_
 obtain ⟨r, h, hm⟩ := obind hm
 refine jn hm (fun v => ⟨[(2, dV v)], [], 32⟩) (fun v hm => ?_) ?_
 ·rcases bf hm with ⟨hb, hm⟩ | ⟨hb, hm⟩
  ·obtain ⟨r1, h1, hm⟩ := obind hm
   rcases bf hm with ⟨hb1, hm⟩ | ⟨hb1, hm⟩
   ·obtain ⟨r2, h2, hm⟩ := obind hm
    refine re G (hC 2 (i_within_c h) (hO 3 (.b true) (hP hb (hC 5 (i_isPrintable_c h1) (hO 7 (.b true) (hP hb1 (hC 9 (strings_Contains_c h2) h0))))))) ?_
    exact wJ G hm
   ·refine re G (hC 2 (i_within_c h) (hO 3 (.b true) (hP hb (hC 5 (i_isPrintable_c h1) (hO 7 (.b false) (hP hb1 h0)))))) ?_
    exact wJ G hm
  ·refine re G (hC 2 (i_within_c h) (hO 3 (.b false) (hP hb h0))) ?_
   exact wJ G hm
 rintro v hm
 cases hm
 exact rt [] []
noncomputable def i_IsValidRecord_M : MS LogRecord Bool := ⟨.r, i_IsValidRecord, fun y => dV y, fun _ => [], fun _ _ => []⟩
theorem i_IsValidRecord_c {e y} (hm : i_IsValidRecord e = some y) : i_IsValidRecord_M.C e y := i_IsValidRecord_M.c e hm
theorem i_IsValidRecord_ok : FnOK Tryd.prog tJ 36 i_IsValidRecord_M.S := by
 refine fm tt i_IsValidRecord_M [fo i_isCommand_ok, fo i_isPrintable_ok] Tryd.call36 Tryd.func36 rfl Tryd.results36 Tryd.ntmps36 ?_
 rintro e y cx G hm
 have hm : i_IsValidRecord e = some y := hm
 unfold i_IsValidRecord at hm
 refine rg G ?_
 obtain ⟨r, h, hm⟩ := obind hm
 refine jn hm (fun v => ⟨[(2, dV v)], [], 32⟩) (fun v hm => ?_) ?_
 ·rcases bf hm with ⟨hb, hm⟩ | ⟨hb, hm⟩
  ·rcases bf hm with ⟨hb1, hm⟩ | ⟨hb1, hm⟩
   ·obtain ⟨r1, h1, hm⟩ := obind hm
    refine re G (hC 2 (i_isCommand_c h) (hO 3 (.b true) (hP hb (hO 9 (.b true) (hP hb1 (hC 12 (i_isPrintable_c h1) h0)))))) ?_
    exact wJ G hm
   ·refine re G (hC 2 (i_isCommand_c h) (hO 3 (.b true) (hP hb (hO 9 (.b false) (hP hb1 h0))))) ?_
    exact wJ G hm
  ·refine re G (hC 2 (i_isCommand_c h) (hO 3 (.b false) (hP hb h0))) ?_
   exact wJ G hm
 rintro v hm
 cases hm
 exact rt [] []
noncomputable def strconv_Itoa_M : MS Int ByteArray := ⟨.r, strconv_Itoa, fun y => dV y, fun _ => [], fun _ _ => []⟩
theorem strconv_Itoa_c {i y} (hm : strconv_Itoa i = some y) : strconv_Itoa_M.C i y := strconv_Itoa_M.c i hm
theorem strconv_Itoa_ok : FnOK Tryd.prog tJ 79 strconv_Itoa_M.S := itoaOK Tryd.laysM171 Tryd.call79 (g := 1) (by kernel_rfl)
noncomputable def i_checksum_M : MS ByteArray Int := ⟨.r, i_checksum, fun y => dV y, fun _ => [], fun _ _ => []⟩
theorem i_checksum_c {s y} (hm : i_checksum s = some y) : i_checksum_M.C s y := i_checksum_M.c s hm
theorem i_checksum_ok : FnOK Tryd.prog tJ 85 i_checksum_M.S := by
 refine fm tt i_checksum_M [] Tryd.call85 Tryd.func85 rfl Tryd.results85 Tryd.ntmps85 ?_
 rintro s y cx G hm
 have hm : i_checksum s = some y := hm
 unfold i_checksum at hm
 refine rg G (rg G (Ok_seq (rg G (tl hm (fun i1 => ⟨[(3, dV i1)], [], 32⟩) (fun i1 hm => ?_) ?_))))
 ·refine Ok_block (lp G hm (fun (i, v) => ⟨[(0, dV s), (3, dV i), (6, dV (s.size : Int)), (7, dV v)], [], 32⟩) ?_)
  rintro ⟨i, v⟩ r0 hb hm
  rw [i_checksum_L1] at hm
  refine rg G (Ok_seq (cd hm (fun hm => ?_) (fun hm => ?_)))
  ·refine X_skip (thN (Ok_seq (Ok_block (rg G ?_))))
   obtain ⟨u, h, hm⟩ := obind hm
   obtain ⟨u1, h1, hm⟩ := obind hm
   refine re G (hK h (hK h1 h0)) ?_
   exact ibN (thN (rh G (wL G hm)))
  ·exact Ok_exit (thE (thE (ibE (wD G hm hb))))
 rintro i1 hm s1 hw
 refine thN (Ok_weak hw ?_)
 refine rg G ?_
 cases hm
 exact rt [] []
noncomputable def i_AppendChecksum_M : MS ByteArray (ByteArray × Bool) := ⟨.r, i_AppendChecksum, fun y => .tup [dV y.1, dV y.2], fun _ => [], fun _ _ => []⟩
theorem i_AppendChecksum_c {s y} (hm : i_AppendChecksum s = some y) : i_AppendChecksum_M.C s y := i_AppendChecksum_M.c s hm
theorem i_AppendChecksum_ok : FnOK Tryd.prog tJ 27 i_AppendChecksum_M.S := by
 refine fm tt i_AppendChecksum_M [fo strings_Contains_ok, fo i_checksum_ok, fo strconv_Itoa_ok] Tryd.call27 Tryd.func27 rfl Tryd.results27 Tryd.ntmps27 ?_
 rintro s y cx G hm
 have hm : i_AppendChecksum s = some y := hm
 unfold i_AppendChecksum at hm
 refine rg G (Ok_seq (jn hm (fun v => ⟨[(0, dV s), (11, dV v)], [], 32⟩) (fun v hm => ?_) ?_))
 ·rcases bf hm with ⟨hb, hm⟩ | ⟨hb, hm⟩
  ·refine re G (hO 3 (.b true) (hP hb h0)) ?_
   exact wJ G hm
  ·obtain ⟨r, h, hm⟩ := obind hm
   refine re G (hO 3 (.b false) (hP hb (hC 5 (strings_Contains_c h) h0))) ?_
   exact wJ G hm
 rintro v hm
 refine cd hm (fun hm => ?_) (fun hm => ?_)
 ·refine rg G ?_
  cases hm
  exact rt [] []
 ·refine X_skip (thN ?_)
  obtain ⟨u, h1, hm⟩ := obind hm
  obtain ⟨r1, h2, hm⟩ := obind hm
  obtain ⟨r2, h3, hm⟩ := obind hm
  obtain ⟨u1, h4, hm⟩ := obind hm
  refine rs G (hP (cat_p (chk_t h1)) (hC 3 (i_checksum_c h2) (hC 4 (strconv_Itoa_c h3) (hP (cat_p (chk_t h4)) h0)))) ?_
  refine Ok_seq (rg G (cd hm (fun hm => ?_) (fun hm => ?_)))
  ·refine rg G ?_
   cases hm
   exact rt [] []
  ·refine X_skip (thN (rg G ?_))
   cases hm
   exact rt [] []
noncomputable def i_encoded_M : MS (Int × LogRecord) ByteArray := ⟨.x .r .r, fun x => i_encoded x.1 x.2, fun y => dV y, fun _ => [], fun _ _ => []⟩
theorem i_encoded_c {k e y} (hm : i_encoded k e = some y) : i_encoded_M.C (k, e) y := i_encoded_M.c (k, e) hm
theorem i_encoded_ok : FnOK Tryd.prog tJ 90 i_encoded_M.S := by
 refine fm tt i_encoded_M [fo strconv_Itoa_ok, fo i_AppendChecksum_ok] Tryd.call90 Tryd.func90 rfl Tryd.results90 Tryd.ntmps90 ?_
 rintro ⟨k, e⟩ y cx G hm
 have hm : i_encoded k e = some y := hm
 unfold i_encoded at hm
 refine rg G ?_
 obtain ⟨r2, h6, hm⟩ := obind hm
 obtain ⟨u4, h7, hm⟩ := obind hm
 obtain ⟨u5, h8, hm⟩ := obind hm
 obtain ⟨u6, h9, hm⟩ := obind hm
 obtain ⟨u7, h10, hm⟩ := obind hm
 obtain ⟨r3, h11, hm⟩ := obind hm
 refine ds G [] (hC 1 (strconv_Itoa_c h6) (hP (cat_p (chk_t h7)) (hP (cat_p (chk_t h8)) (hP (cat_p (chk_t h9)) (hP (cat_p (chk_t h10)) (hC 10 (i_AppendChecksum_c h11) h0)))))) ?_
 obtain ⟨u8, h12, hm⟩ := obind hm
 refine rs G (hP (cat_p (chk_t h12)) h0) ?_
 cases hm
 exact rt [] []
noncomputable def i_decoded_M : MS (Int × ByteArray) (LogRecord × Int × Bool) := ⟨.x .r .r, fun x => i_decoded x.1 x.2, fun y => .tup [dV y.1, dV y.2.1, dV y.2.2], fun _ => [], fun _ _ => []⟩
theorem i_decoded_c {k s y} (hm : i_decoded k s = some y) : i_decoded_M.C (k, s) y := i_decoded_M.c (k, s) hm
theorem i_decoded_ok : FnOK Tryd.prog tJ 137 i_decoded_M.S := by
 refine fm tt i_decoded_M [fo strings_Cut_ok, fo i_IsValidRecord_ok, fo i_encoded_ok] Tryd.call137 Tryd.func137 rfl Tryd.results137 Tryd.ntmps137 ?_
 rintro ⟨k, s⟩ y cx G hm
 have hm : i_decoded k s = some y := hm
 unfold i_decoded at hm
 refine rg G ?_
 obtain ⟨r, h, hm⟩ := obind hm
 refine rs G (hC 1 (strings_Cut_c h) h0) ?_
 refine Ok_seq (jn hm (fun v => ⟨[(0, dV k), (4, .ref 16 0), (7, dV r.1), (31, dV v)], [bX 16 44 [dV ByteArray.empty, dV ByteArray.empty]], 48⟩) (fun v hm => ?_) ?_)
 ·rcases bf hm with ⟨hb, hm⟩ | ⟨hb, hm⟩
  ·refine re G (hO 2 (.b true) (hP hb h0)) ?_
   exact wJ G hm
  ·refine re G (hO 2 (.b false) (hP hb h0)) ?_
   exact wJ G hm
 rintro v hm
 refine cd hm (fun hm => ?_) (fun hm => ?_)
 ·refine rg G ?_
  cases hm
  exact rt [] []
 ·refine X_skip (thN ?_)
  obtain ⟨r1, h1, hm⟩ := obind hm
  refine rs G (hC 1 (strings_Cut_c h1) h0) ?_
  obtain ⟨r2, h2, hm⟩ := obind hm
  refine rs G (hC 1 (strings_Cut_c h2) h0) ?_
  obtain ⟨r3, h3, hm⟩ := obind hm
  refine rs G (hC 1 (strings_Cut_c h3) h0) ?_
  refine rg G (Ok_seq ?_)
  obtain ⟨r4, h4, hm⟩ := obind hm
  refine jn hm (fun v1 => ⟨[(4, .ref 16 0), (7, dV r.1), (19, .ref 32 0), (64, dV v1)], [bX 16 44 [dV ByteArray.empty, dV ByteArray.empty], bX 32 44 [dV r3.1, dV r3.2.1]], 64⟩) (fun v1 hm => ?_) ?_
  ·rcases bf hm with ⟨hb1, hm⟩ | ⟨hb1, hm⟩
   ·refine re G (hC 1 (i_IsValidRecord_c h4) (hO 3 (.b true) (hP hb1 h0))) ?_
    exact wJ G hm
   ·obtain ⟨r5, h5, hm⟩ := obind hm
    obtain ⟨u, h6, hm⟩ := obind hm
    refine re G (hC 1 (i_IsValidRecord_c h4) (hO 3 (.b false) (hP hb1 (hC 6 (i_encoded_c h5) (hP (cat_p (chk_t h6)) h0))))) ?_
    exact wJ G hm
  rintro v1 hm
  refine cd hm (fun hm => ?_) (fun hm => ?_)
  ·refine rg G ?_
   cases hm
   exact rt [] []
  ·refine X_skip (thN (rg G ?_))
   cases hm
   exact rt [] []
noncomputable def i_readLog_M : MS ByteArray ((List LogRecord) × (List Int)) := ⟨.r, i_readLog, fun _ => .tup [.own 0, .own 1], fun y => [arO 44 y.1, arO 3 y.2], fun _ _ => []⟩
theorem i_readLog_c {s y} (hm : i_readLog s = some y) : i_readLog_M.C s y := i_readLog_M.c s hm
theorem i_readLog_ok : FnOK Tryd.prog tJ 94 i_readLog_M.S := by
 refine fm tt i_readLog_M [fo i_decoded_ok] Tryd.call94 Tryd.func94 rfl Tryd.results94 Tryd.ntmps94 ?_
 rintro s y cx G hm
 have hm : i_readLog s = some y := hm
 unfold i_readLog at hm
 refine rg G (rg G (rg G (Ok_block (lpP hm (fun (ends, at_) => ⟨[(0, dV s), (4, .own 16), (5, .own 32)], [aX 16 44 ends, aX 32 3 at_], 64⟩) (Wk_J G.hL ⟨[(0, []), (4, [.o 16]), (5, [])], [(32, 64, [])], [(16, 44, 2, [])], 64⟩ (by kernel_rfl)) ?_))))
 rintro ⟨ends, at_⟩ r0 hb hm
 rw [i_readLog_L1] at hm
 refine Ok_block ?_
 obtain ⟨e, h, hm⟩ := obind hm
 refine rs G (hN 2 ends (hD 3 h (hE 4 h h0))) ?_
 obtain ⟨u, h1, hm⟩ := obind hm
 obtain ⟨r, h2, hm⟩ := obind hm
 refine rs G (hN 1 ends (hK h1 (hC 5 (i_decoded_c h2) h0))) ?_
 refine Ok_seq (rg G (cd hm (fun hm => ?_) (fun hm => ?_)))
 ·refine rg G ?_
  have hm := eD hm hb
  cases hm
  exact rt [16, 32] []
 ·refine X_skip (thN ?_)
  obtain ⟨u1, h3, hm⟩ := obind hm
  obtain ⟨u2, h4, hm⟩ := obind hm
  refine re G (hA 3 32 h3 (hA 9 8 h4 h0)) ?_
  exact ibN (wL G hm)
noncomputable def i_IsValidLog_M : MS Log Bool := ⟨.r, i_IsValidLog, fun y => dV y, fun _ => [], fun _ _ => []⟩
theorem i_IsValidLog_c {l y} (hm : i_IsValidLog l = some y) : i_IsValidLog_M.C l y := i_IsValidLog_M.c l hm
theorem i_IsValidLog_ok : FnOK Tryd.prog tJ 34 i_IsValidLog_M.S := by
 refine fm tt i_IsValidLog_M [fo i_readLog_ok] Tryd.call34 Tryd.func34 rfl Tryd.results34 Tryd.ntmps34 ?_
 rintro l y cx G hm
 have hm : i_IsValidLog l = some y := hm
 unfold i_IsValidLog at hm
 refine rg G ?_
 obtain ⟨u, h, hm⟩ := obind hm
 obtain ⟨r, h1, hm⟩ := obind hm
 refine rs G (hP (cat_p (chk_t h)) (hC 5 (i_readLog_c h1) h0)) ?_
 refine Ok_seq ?_
 obtain ⟨e1, h3, hm⟩ := obind hm
 refine jn hm (fun v => ⟨[(1, .ref 16 0), (4, .own 32), (35, dV v)], [bX 16 42 [dV l.Durable, dV l.Pending, dV l.Count], aX 32 3 r.2], 64⟩) (fun v hm => ?_) ?_
 ·rcases bf hm with ⟨hb, hm⟩ | ⟨hb, hm⟩
  ·refine de G [] (hN 2 r.1 (hD 3 h3 (hE 4 h3 (hO 13 (.b true) (hP hb h0))))) ?_
   exact wJ G hm
  ·refine de G [] (hN 2 r.1 (hD 3 h3 (hE 4 h3 (hO 13 (.b false) (hP hb (hN 17 r.1 h0)))))) ?_
   exact wJ G hm
 rintro v hm
 refine cd hm (fun hm => ?_) (fun hm => ?_)
 ·refine rg G ?_
  cases hm
  exact rt [] []
 ·refine X_skip (thN (Ok_seq (rs G (hN 1 r.2 h0) ?_)))
  refine tF hm (fun _ => ⟨[], [], 32⟩) (fun v2 hr hm => ?_) ?_
  ·refine Ok_block (lp G hm (fun v1 => ⟨[(1, .ref 16 0), (36, .own 32), (37, dV (r.2.length : Int)), (38, dV v1)], [bX 16 42 [dV l.Durable, dV l.Pending, dV l.Count], aX 32 3 r.2], 64⟩) ?_)
   rintro v1 r0 hb1 hm
   rw [i_IsValidLog_L1] at hm
   refine rg G (Ok_seq (cd hm (fun hm => ?_) (fun hm => ?_)))
   ·refine X_skip (thN (Ok_seq (Ok_block ?_)))
    obtain ⟨e2, h4, hm⟩ := obind hm
    refine rs G (hD 0 h4 (hE 1 h4 h0)) ?_
    refine rg G (cd hm (fun hm => ?_) (fun hm => ?_))
    ·refine rg G ?_
     have hm := eL hm hb1 hr
     cases hm
     exact rt [] []
    ·exact X_skip (ibN (thN (rh G (wL G hm))))
   ·exact Ok_exit (thE (thE (ibE (wE G hm hb1))))
  rintro ⟨⟩ hm s hw
  refine thN (Ok_weak hw ?_)
  refine rg G ?_
  cases hm
  exact rt [] []
noncomputable def i_CrashLog_M : MS (Log × Int × Bool) (ByteArray × Bool) := ⟨.x .r (.x .r .r), fun x => i_CrashLog x.1 x.2.1 x.2.2, fun y => .tup [dV y.1, dV y.2], fun _ => [], fun _ _ => []⟩
theorem i_CrashLog_c {l keep torn y} (hm : i_CrashLog l keep torn = some y) : i_CrashLog_M.C (l, keep, torn) y := i_CrashLog_M.c (l, keep, torn) hm
theorem i_CrashLog_ok : FnOK Tryd.prog tJ 47 i_CrashLog_M.S := by
 refine fm tt i_CrashLog_M [fo i_IsValidLog_ok, fo i_within_ok] Tryd.call47 Tryd.func47 rfl Tryd.results47 Tryd.ntmps47 ?_
 rintro ⟨l, keep, torn⟩ y cx G hm
 have hm : i_CrashLog l keep torn = some y := hm
 unfold i_CrashLog at hm
 refine rg G (Ok_seq ?_)
 obtain ⟨r, h, hm⟩ := obind hm
 refine jn hm (fun v => ⟨[(1, dV keep), (2, dV torn), (3, .ref 16 0), (19, dV v)], [bX 16 42 [dV l.Durable, dV l.Pending, dV l.Count]], 48⟩) (fun v hm => ?_) ?_
 ·rcases bf hm with ⟨hb, hm⟩ | ⟨hb, hm⟩
  ·refine re G (hC 1 (i_IsValidLog_c h) (hO 3 (.b true) (hP hb h0))) ?_
   exact wJ G hm
  ·obtain ⟨r1, h1, hm⟩ := obind hm
   refine re G (hC 1 (i_IsValidLog_c h) (hO 3 (.b false) (hP hb (hC 8 (i_within_c h1) h0)))) ?_
   exact wJ G hm
 rintro v hm
 refine cd hm (fun hm => ?_) (fun hm => ?_)
 ·refine rg G ?_
  cases hm
  exact rt [] []
 ·refine X_skip (thN ?_)
  obtain ⟨u, h2, hm⟩ := obind hm
  refine rs G (hK h2 h0) ?_
  refine jn hm (fun v1 => ⟨[(3, .ref 16 0), (8, dV v1)], [bX 16 42 [dV l.Durable, dV l.Pending, dV l.Count]], 48⟩) (fun v1 hm => ?_) ?_
  ·refine jn hm (fun v2 => ⟨[(1, dV keep), (3, .ref 16 0), (8, dV (l.Pending.extract (0 : Int).toNat keep.toNat)), (28, dV v2)], [bX 16 42 [dV l.Durable, dV l.Pending, dV l.Count]], 48⟩) (fun v2 hm => ?_) ?_
   ·rcases bf hm with ⟨hb1, hm⟩ | ⟨hb1, hm⟩
    ·refine re G (hO 1 (.b true) (hP hb1 h0)) ?_
     exact wJ G hm
    ·refine re G (hO 1 (.b false) (hP hb1 h0)) ?_
     exact wJ G hm
   rintro v2 hm
   refine cd hm (fun hm => ?_) (fun hm => ?_)
   ·obtain ⟨u4, h6, hm⟩ := obind hm
    obtain ⟨u5, h7, hm⟩ := obind hm
    obtain ⟨u6, h8, hm⟩ := obind hm
    refine de G [] (hK h6 (hK h7 (hO 8 (.n ((mkU8 (IntKind.u8.wrap (255 - (((l.Pending.extract (0 : Int).toNat keep.toNat).data.toList.getD (w64 (keep - 1)).toNat 0).toNat : Int)))).toNat : Int)) (hP (u8w_m (255 - (((l.Pending.extract (0 : Int).toNat keep.toNat).data.toList.getD (w64 (keep - 1)).toNat 0).toNat : Int))) (hO 10 (.s (bytS ([(mkU8 (IntKind.u8.wrap (255 - (((l.Pending.extract (0 : Int).toNat keep.toNat).data.toList.getD (w64 (keep - 1)).toNat 0).toNat : Int))))] : List UInt8))) (hP (byt_p ([(mkU8 (IntKind.u8.wrap (255 - (((l.Pending.extract (0 : Int).toNat keep.toNat).data.toList.getD (w64 (keep - 1)).toNat 0).toNat : Int))))] : List UInt8)) (hP (byt_m ([(mkU8 (IntKind.u8.wrap (255 - (((l.Pending.extract (0 : Int).toNat keep.toNat).data.toList.getD (w64 (keep - 1)).toNat 0).toNat : Int))))] : List UInt8)) (hP (cat_p (chk_t h8)) h0)))))))) ?_
    exact wJ G hm
   ·exact X_skip (wJ G hm)
  rintro v1 hm
  obtain ⟨u7, h9, hm⟩ := obind hm
  refine rs G (hP (cat_p (chk_t h9)) h0) ?_
  cases hm
  exact rt [] []
noncomputable def s_CrashLog_M : MS (Log × Int × Bool) (ByteArray × Bool) := ⟨.x .r (.x .r .r), fun x => s_CrashLog x.1 x.2.1 x.2.2, fun y => .tup [dV y.1, dV y.2], fun _ => [], fun _ _ => []⟩
theorem s_CrashLog_c {l keep torn y} (hm : s_CrashLog l keep torn = some y) : s_CrashLog_M.C (l, keep, torn) y := s_CrashLog_M.c (l, keep, torn) hm
theorem s_CrashLog_ok : FnOK Tryd.prog tJ 48 s_CrashLog_M.S := by
 refine fm tt s_CrashLog_M [fo s_l27Log_ok, fo s_l1In_ok] Tryd.call48 Tryd.func48 rfl Tryd.results48 Tryd.ntmps48 ?_
 rintro ⟨l, keep, torn⟩ y cx G hm
 have hm : s_CrashLog l keep torn = some y := hm
 unfold s_CrashLog at hm
 refine rg G (Ok_seq ?_)
 obtain ⟨r, h, hm⟩ := obind hm
 refine jn hm (fun v => ⟨[(1, dV keep), (2, dV torn), (3, .ref 16 0), (19, dV v)], [bX 16 42 [dV l.Durable, dV l.Pending, dV l.Count]], 48⟩) (fun v hm => ?_) ?_
 ·rcases bf hm with ⟨hb, hm⟩ | ⟨hb, hm⟩
  ·refine re G (hC 1 (s_l27Log_c h) (hO 3 (.b true) (hP hb h0))) ?_
   exact wJ G hm
  ·obtain ⟨r1, h1, hm⟩ := obind hm
   refine re G (hC 1 (s_l27Log_c h) (hO 3 (.b false) (hP hb (hC 8 (s_l1In_c h1) h0)))) ?_
   exact wJ G hm
 rintro v hm
 refine cd hm (fun hm => ?_) (fun hm => ?_)
 ·refine rg G ?_
  cases hm
  exact rt [] []
 ·refine X_skip (thN ?_)
  obtain ⟨u, h2, hm⟩ := obind hm
  obtain ⟨u1, h3, hm⟩ := obind hm
  refine rs G (hK h2 (hO 4 (.l (List.map Enc.e (l.Pending.extract (0 : Int).toNat keep.toNat).data.toList)) (hK h3 (hP (bts_m (l.Pending.extract (0 : Int).toNat keep.toNat)) h0)))) ?_
  refine jn hm (fun v1 => ⟨[(3, .ref 16 0), (8, .own 32)], [bX 16 42 [dV l.Durable, dV l.Pending, dV l.Count], aX 32 4294967301 v1], 64⟩) (fun v1 hm => ?_) ?_
  ·refine jn hm (fun v2 => ⟨[(1, dV keep), (3, .ref 16 0), (8, .own 32), (29, dV v2)], [bX 16 42 [dV l.Durable, dV l.Pending, dV l.Count], aX 32 4294967301 ((l.Pending.extract (0 : Int).toNat keep.toNat).data.toList)], 64⟩) (fun v2 hm => ?_) ?_
   ·rcases bf hm with ⟨hb1, hm⟩ | ⟨hb1, hm⟩
    ·refine re G (hO 1 (.b true) (hP hb1 h0)) ?_
     exact wJ G hm
    ·refine re G (hO 1 (.b false) (hP hb1 h0)) ?_
     exact wJ G hm
   rintro v2 hm
   refine cd hm (fun hm => ?_) (fun hm => ?_)
   ·obtain ⟨e, h4, hm⟩ := obind hm
    obtain ⟨e1, h5, hm⟩ := obind hm
    refine re G (hD 6 h4 (hE 7 h4 (hO 8 (.n ((mkU8 (IntKind.u8.wrap (255 - (e.toNat : Int)))).toNat : Int)) (hP (u8w_m (255 - (e.toNat : Int))) (hD 9 h5 (hS 10 h5 (mkU8 (IntKind.u8.wrap (255 - (e.toNat : Int)))) h0)))))) ?_
    exact wJ G hm
   ·exact X_skip (wJ G hm)
  rintro v1 hm
  obtain ⟨u2, h6, hm⟩ := obind hm
  refine rs G (hO 3 (.s (bytS v1)) (hP (byt_p v1) (hP (byt_m v1) (hP (cat_p (chk_t h6)) h0)))) ?_
  cases hm
  exact rt [] []
noncomputable def i_RecoverLog_M : MS ByteArray (Log × Int × Bool) := ⟨.r, i_RecoverLog, fun y => .tup [dV y.1, dV y.2.1, dV y.2.2], fun _ => [], fun _ _ => []⟩
theorem i_RecoverLog_c {s y} (hm : i_RecoverLog s = some y) : i_RecoverLog_M.C s y := i_RecoverLog_M.c s hm
theorem i_RecoverLog_ok : FnOK Tryd.prog tJ 39 i_RecoverLog_M.S := by
 refine fm tt i_RecoverLog_M [fo i_readLog_ok] Tryd.call39 Tryd.func39 rfl Tryd.results39 Tryd.ntmps39 ?_
 rintro s y cx G hm
 have hm : i_RecoverLog s = some y := hm
 unfold i_RecoverLog at hm
 refine rg G (Ok_seq (rg G (cd hm (fun hm => ?_) (fun hm => ?_))))
 ·refine rg G ?_
  cases hm
  exact rt [] []
 ·refine X_skip (thN ?_)
  obtain ⟨r, h, hm⟩ := obind hm
  refine rs G (hC 1 (i_readLog_c h) h0) ?_
  obtain ⟨e, h1, hm⟩ := obind hm
  refine rs G (hN 2 r.1 (hD 3 h1 (hE 4 h1 h0))) ?_
  obtain ⟨u, h2, hm⟩ := obind hm
  refine rs G (hK h2 (hN 4 r.1 h0)) ?_
  cases hm
  exact rt [] []
noncomputable def i_LogRecords_M : MS Log ((List LogRecord) × Bool) := ⟨.r, i_LogRecords, fun y => .tup [dV y.1, dV y.2], fun _ => [], fun _ _ => []⟩
theorem i_LogRecords_c {l y} (hm : i_LogRecords l = some y) : i_LogRecords_M.C l y := i_LogRecords_M.c l hm
theorem i_LogRecords_ok : FnOK Tryd.prog tJ 38 i_LogRecords_M.S := by
 refine fm tt i_LogRecords_M [fo i_IsValidLog_ok, fo i_readLog_ok] Tryd.call38 Tryd.func38 rfl Tryd.results38 Tryd.ntmps38 ?_
 rintro l y cx G hm
 have hm : i_LogRecords l = some y := hm
 unfold i_LogRecords at hm
 refine rg G (Ok_seq ?_)
 obtain ⟨r, h, hm⟩ := obind hm
 refine rs G (hC 1 (i_IsValidLog_c h) h0) ?_
 refine cd hm (fun hm => ?_) (fun hm => ?_)
 ·refine rg G ?_
  cases hm
  exact rt [] [[.z 2]]
 ·refine X_skip (thN ?_)
  obtain ⟨u, h1, hm⟩ := obind hm
  obtain ⟨r1, h2, hm⟩ := obind hm
  refine rs G (hP (cat_p (chk_t h1)) (hC 5 (i_readLog_c h2) h0)) ?_
  refine rg G ?_
  cases hm
  exact rt [] []
noncomputable def s_LogRecords_M : MS Log ((List LogRecord) × Bool) := ⟨.r, s_LogRecords, fun y => .tup [.own 0, dV y.2], fun y => [arO 44 y.1], fun _ _ => []⟩
theorem s_LogRecords_c {l y} (hm : s_LogRecords l = some y) : s_LogRecords_M.C l y := s_LogRecords_M.c l hm
theorem s_LogRecords_ok : FnOK Tryd.prog tJ 49 s_LogRecords_M.S := by
 refine fm tt s_LogRecords_M [fo s_l27Log_ok, fo s_l27Open_ok] Tryd.call49 Tryd.func49 rfl Tryd.results49 Tryd.ntmps49 ?_
 rintro l y cx G hm
 have hm : s_LogRecords l = some y := hm
 unfold s_LogRecords at hm
 refine rg G (Ok_seq ?_)
 obtain ⟨r, h, hm⟩ := obind hm
 refine rs G (hC 1 (s_l27Log_c h) h0) ?_
 refine cd hm (fun hm => ?_) (fun hm => ?_)
 ·refine rg G ?_
  cases hm
  exact rt [112] []
 ·refine X_skip (thN ?_)
  obtain ⟨u, h1, hm⟩ := obind hm
  obtain ⟨r1, h2, hm⟩ := obind hm
  refine rs G (hP (cat_p (chk_t h1)) (hC 5 (s_l27Open_c h2) h0)) ?_
  refine rg G ?_
  cases hm
  exact rt [192] []
noncomputable def v_FnCrashRecovery_M : MS ((List UInt8)) Bool := ⟨.r, v_FnCrashRecovery, fun y => dV y, fun _ => [], fun _ _ => []⟩
theorem v_FnCrashRecovery_c {code y} (hm : v_FnCrashRecovery code = some y) : v_FnCrashRecovery_M.C code y := v_FnCrashRecovery_M.c code hm
theorem v_FnCrashRecovery_ok : FnOK Tryd.prog tJ 7 v_FnCrashRecovery_M.S := by
 refine fm tt v_FnCrashRecovery_M [fo v_vBig_ok, fo s_DrawCrashLog_ok, fo i_CrashLog_ok, fo s_CrashLog_ok, fo i_RecoverLog_ok, fo i_LogRecords_ok, fo s_LogRecords_ok, fo i_IsValidLog_ok] Tryd.call7 Tryd.func7 rfl Tryd.results7 Tryd.ntmps7 ?_
 rintro code y cx G hm
 have hm : v_FnCrashRecovery code = some y := hm
 unfold v_FnCrashRecovery at hm
 refine rg G (Ok_seq ?_)
 obtain ⟨r, h, hm⟩ := obind hm
 refine rs G (hC 1 (v_vBig_c h) h0) ?_
 refine cd hm (fun hm => ?_) (fun hm => ?_)
 ·refine rg G ?_
  cases hm
  exact rt [] []
 ·refine X_skip (thN ?_)
  obtain ⟨r1, h1, hm⟩ := obind hm
  refine rs G (hC 1 (s_DrawCrashLog_c h1) h0) ?_
  obtain ⟨r2, h2, hm⟩ := obind hm
  refine rs G (hC 3 (i_CrashLog_c h2) h0) ?_
  refine Ok_seq ?_
  obtain ⟨r3, h3, hm⟩ := obind hm
  refine rs G (hC 3 (s_CrashLog_c h3) h0) ?_
  refine jn hm (fun v => ⟨[(3, .ref 16 0), (6, dV r2.1), (7, dV r2.2), (47, dV v)], [bX 16 42 [dV r1.1.Durable, dV r1.1.Pending, dV r1.1.Count]], 48⟩) (fun v hm => ?_) ?_
  ·rcases bf hm with ⟨hb, hm⟩ | ⟨hb, hm⟩
   ·refine re G (hO 3 (.b true) (hP hb h0)) ?_
    exact wJ G hm
   ·refine re G (hO 3 (.b false) (hP hb h0)) ?_
    exact wJ G hm
  rintro v hm
  refine cd hm (fun hm => ?_) (fun hm => ?_)
  ·refine rg G ?_
   cases hm
   exact rt [] []
  ·refine X_skip (thN (Ok_seq (rg G (cd hm (fun hm => ?_) (fun hm => ?_)))))
   ·refine rg G ?_
    cases hm
    exact rt [] []
   ·refine X_skip (thN ?_)
    obtain ⟨r4, h4, hm⟩ := obind hm
    refine rs G (hC 1 (i_RecoverLog_c h4) h0) ?_
    obtain ⟨r5, h5, hm⟩ := obind hm
    refine rs G (hC 1 (i_LogRecords_c h5) h0) ?_
    obtain ⟨r6, h6, hm⟩ := obind hm
    refine rs G (hC 1 (s_LogRecords_c h6) h0) ?_
    refine Ok_seq (jn hm (fun v1 => ⟨[(6, dV r2.1), (10, .ref 16 0), (11, dV r4.2.1), (13, dV r5.1), (15, .own 32), (89, dV v1)], [bX 16 42 [dV r4.1.Durable, dV r4.1.Pending, dV r4.1.Count], aX 32 44 r6.1], 64⟩) (fun v1 hm => ?_) ?_)
    ·rcases bf hm with ⟨hb1, hm⟩ | ⟨hb1, hm⟩
     ·refine re G (hO 2 (.b true) (hP hb1 h0)) ?_
      exact wJ G hm
     ·rcases bf hm with ⟨hb2, hm⟩ | ⟨hb2, hm⟩
      ·refine re G (hO 2 (.b false) (hP hb1 (hO 8 (.b true) (hP hb2 h0)))) ?_
       exact wJ G hm
      ·rcases bf hm with ⟨hb3, hm⟩ | ⟨hb3, hm⟩
       ·refine re G (hO 2 (.b false) (hP hb1 (hO 8 (.b false) (hP hb2 (hO 15 (.b true) (hP hb3 h0)))))) ?_
        exact wJ G hm
       ·refine re G (hO 2 (.b false) (hP hb1 (hO 8 (.b false) (hP hb2 (hO 15 (.b false) (hP hb3 (hN 17 r5.1 (hN 19 r6.1 h0)))))))) ?_
        exact wJ G hm
    rintro v1 hm
    refine cd hm (fun hm => ?_) (fun hm => ?_)
    ·refine rg G ?_
     cases hm
     exact rt [] []
    ·refine X_skip (thN (Ok_seq (rg G (tF hm (fun _ => ⟨[(6, dV r2.1), (10, .ref 16 0), (11, dV r4.2.1)], [bX 16 42 [dV r4.1.Durable, dV r4.1.Pending, dV r4.1.Count]], 48⟩) (fun v3 hr hm => ?_) ?_))))
     ·refine Ok_block (lp G hm (fun v2 => ⟨[(6, dV r2.1), (10, .ref 16 0), (11, dV r4.2.1), (13, dV r5.1), (15, .own 32), (17, dV v2)], [bX 16 42 [dV r4.1.Durable, dV r4.1.Pending, dV r4.1.Count], aX 32 44 r6.1], 64⟩) ?_)
      rintro v2 r0 hb4 hm
      rw [v_FnCrashRecovery_L1] at hm
      refine Ok_seq (rs G (hN 2 r5.1 h0) ?_)
      refine cd hm (fun hm => ?_) (fun hm => ?_)
      ·refine X_skip (thN (Ok_seq (Ok_block ?_)))
       obtain ⟨e2, h9, hm⟩ := obind hm
       obtain ⟨e3, h10, hm⟩ := obind hm
       refine ds G [] (hD 2 h9 (hD 6 h10 (hE 7 h10 h0))) ?_
       refine cd hm (fun hm => ?_) (fun hm => ?_)
       ·refine rg G ?_
        have hm := eL hm hb4 hr
        cases hm
        exact rt [] []
       ·exact X_skip (ibN (thN (rh G (wL G hm))))
      ·exact Ok_exit (thE (thE (ibE (wE G hm hb4))))
     rintro ⟨⟩ hm s hw
     refine thN (Ok_weak hw ?_)
     obtain ⟨r9, h13, hm⟩ := obind hm
     refine jn hm (fun l => ⟨[(2, dV l)], [], 32⟩) (fun l hm => ?_) ?_
     ·rcases bf hm with ⟨hb5, hm⟩ | ⟨hb5, hm⟩
      ·obtain ⟨u1, h14, hm⟩ := obind hm
       refine de G [] (hC 1 (i_IsValidLog_c h13) (hO 2 (.b true) (hP hb5 (hK h14 h0)))) ?_
       exact wJ G hm
      ·refine de G [] (hC 1 (i_IsValidLog_c h13) (hO 2 (.b false) (hP hb5 h0))) ?_
       exact wJ G hm
     rintro l hm
     cases hm
     exact rt [] []
end Go.Proofs.YtbedhobglodjbaaDoor
