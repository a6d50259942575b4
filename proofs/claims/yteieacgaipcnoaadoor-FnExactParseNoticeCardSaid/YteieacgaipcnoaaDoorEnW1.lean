/- Each function computes what its model says. Made by program (dec.py). -/
import Derived.Test.YteieacgaipcnoaaDoorTy
import Derived.Test.YteieacgaipcnoaaDoorAbArr
import Derived.Test.YteieacgaipcnoaaDoorEnM
import Derived.Test.YteieacgaipcnoaaDoorSh
namespace Go.Proofs.YteieacgaipcnoaaDoor
open Go Go.Ab
set_option maxRecDepth 100000
set_option maxHeartbeats 4000000
set_option linter.unusedVariables false
set_option linter.unusedSimpArgs false
theorem tt : TT Tryd.prog ty := ⟨by kernel_rfl, ty_ok⟩
abbrev tJ : Inv := strJ Tryd.prog (some Lib.pow10Tab)
noncomputable def s_l24Reader_take_M : MS (l24Reader × ByteArray) (Bool × l24Reader) := ⟨.x (.b 35) .r, fun x => s_l24Reader_take x.1 x.2, fun y => dV y.1, fun _ => [], fun _ y => [bxO 35 y.2]⟩
theorem s_l24Reader_take_c {r s y} (hm : s_l24Reader_take r s = some y) : s_l24Reader_take_M.C (r, s) y := s_l24Reader_take_M.c (r, s) hm
theorem s_l24Reader_take_ok : FnOK Tryd.prog tJ 22 s_l24Reader_take_M.S := by
 refine fm tt s_l24Reader_take_M [] Tryd.call22 Tryd.func22 rfl Tryd.results22 Tryd.ntmps22 ?_
 rintro ⟨r, s⟩ y cx G hm
 have hm : s_l24Reader_take r s = some y := hm
 unfold s_l24Reader_take at hm
 refine rg G (Ok_seq (jn hm (fun v => ⟨[(0, .ref 0 0), (1, dV s), (43, dV v)], [bX 0 35 [dV r.s_, dV r.at_, dV r.bad_]], 48⟩) (fun v hm => ?_) ?_))
 ·rcases bf hm with ⟨hb, hm⟩ | ⟨hb, hm⟩
  ·refine de G [] (hO 4 (.b true) (hP hb h0)) ?_
   exact wJ G hm
  ·rcases bf hm with ⟨hb1, hm⟩ | ⟨hb1, hm⟩
   ·refine de G [] (hO 4 (.b false) (hP hb (hO 19 (.b true) (hP hb1 h0)))) ?_
    exact wJ G hm
   ·obtain ⟨u1, h1, hm⟩ := obind hm
    refine de G [] (hO 4 (.b false) (hP hb (hO 19 (.b false) (hP hb1 (hK h1 h0))))) ?_
    exact wJ G hm
 rintro v hm
 refine cd hm (fun hm => ?_) (fun hm => ?_)
 ·refine rg G ?_
  cases hm
  exact rt [] []
 ·refine X_skip (thN (rg G (rg G ?_)))
  cases hm
  exact rt [] []
noncomputable def s_l24Reader_want_M : MS (l24Reader × ByteArray) l24Reader := ⟨.x (.b 35) .r, fun x => s_l24Reader_want x.1 x.2, fun _ => .tup [], fun _ => [], fun _ y => [bxO 35 y]⟩
theorem s_l24Reader_want_c {r s y} (hm : s_l24Reader_want r s = some y) : s_l24Reader_want_M.C (r, s) y := s_l24Reader_want_M.c (r, s) hm
theorem s_l24Reader_want_ok : FnOK Tryd.prog tJ 18 s_l24Reader_want_M.S := by
 refine fm tt s_l24Reader_want_M [fo s_l24Reader_take_ok] Tryd.call18 Tryd.func18 rfl Tryd.results18 Tryd.ntmps18 ?_
 rintro ⟨r, s⟩ y cx G hm
 have hm : s_l24Reader_want r s = some y := hm
 unfold s_l24Reader_want at hm
 obtain ⟨r1, h, hm⟩ := obind hm
 refine rs G (hC 2 (s_l24Reader_take_c h) h0) ?_
 refine cd hm (fun hm => ?_) (fun hm => ?_)
 ·refine rh G ?_
  cases hm
  exact fN [] []
 ·refine X_skip ?_
  cases hm
  exact fN [] []
noncomputable def s_l24Reader_word_M : MS l24Reader (ByteArray × l24Reader) := ⟨.b 35, s_l24Reader_word, fun y => dV y.1, fun _ => [], fun _ y => [bxO 35 y.2]⟩
theorem s_l24Reader_word_c {r y} (hm : s_l24Reader_word r = some y) : s_l24Reader_word_M.C r y := s_l24Reader_word_M.c r hm
theorem s_l24Reader_word_ok : FnOK Tryd.prog tJ 23 s_l24Reader_word_M.S := by
 refine fm tt s_l24Reader_word_M [] Tryd.call23 Tryd.func23 rfl Tryd.results23 Tryd.ntmps23 ?_
 rintro r y cx G hm
 have hm : s_l24Reader_word r = some y := hm
 unfold s_l24Reader_word at hm
 refine rg G (rg G (jn hm (fun v2 => ⟨[(0, .ref 0 0), (3, dV r.at_)], [bX 0 35 [dV r.s_, dV v2, dV r.bad_]], 48⟩) (fun v2 hm => ?_) ?_))
 ·refine Ok_block (lp G hm (fun v => ⟨[(0, .ref 0 0), (3, dV r.at_)], [bX 0 35 [dV r.s_, dV v, dV r.bad_]], 48⟩) ?_)
  rintro v r0 hb hm
  rw [s_l24Reader_word_L1] at hm
  refine Ok_seq (jn hm (fun v1 => ⟨[(0, .ref 0 0), (3, dV r.at_), (65, dV v1)], [bX 0 35 [dV r.s_, dV v, dV r.bad_]], 48⟩) (fun v1 hm => ?_) ?_)
  ·rcases bf hm with ⟨hb1, hm⟩ | ⟨hb1, hm⟩
   ·obtain ⟨u6, h6, hm⟩ := obind hm
    rcases bf hm with ⟨hb2, hm⟩ | ⟨hb2, hm⟩
    ·obtain ⟨u7, h7, hm⟩ := obind hm
     rcases bf hm with ⟨hb3, hm⟩ | ⟨hb3, hm⟩
     ·refine de G [] (hO 10 (.b true) (hP hb1 (hK h6 (hO 21 (.b true) (hP hb2 (hK h7 (hO 33 (.b true) (hP hb3 h0)))))))) ?_
      exact wJ G hm
     ·obtain ⟨u8, h8, hm⟩ := obind hm
      rcases bf hm with ⟨hb4, hm⟩ | ⟨hb4, hm⟩
      ·obtain ⟨u9, h9, hm⟩ := obind hm
       refine de G [] (hO 10 (.b true) (hP hb1 (hK h6 (hO 21 (.b true) (hP hb2 (hK h7 (hO 33 (.b false) (hP hb3 (hK h8 (hO 44 (.b true) (hP hb4 (hK h9 h0)))))))))))) ?_
       exact wJ G hm
      ·refine de G [] (hO 10 (.b true) (hP hb1 (hK h6 (hO 21 (.b true) (hP hb2 (hK h7 (hO 33 (.b false) (hP hb3 (hK h8 (hO 44 (.b false) (hP hb4 h0))))))))))) ?_
       exact wJ G hm
    ·obtain ⟨u10, h10, hm⟩ := obind hm
     rcases bf hm with ⟨hb5, hm⟩ | ⟨hb5, hm⟩
     ·obtain ⟨u11, h11, hm⟩ := obind hm
      refine de G [] (hO 10 (.b true) (hP hb1 (hK h6 (hO 21 (.b false) (hP hb2 (hK h10 (hO 44 (.b true) (hP hb5 (hK h11 h0))))))))) ?_
      exact wJ G hm
     ·refine de G [] (hO 10 (.b true) (hP hb1 (hK h6 (hO 21 (.b false) (hP hb2 (hK h10 (hO 44 (.b false) (hP hb5 h0)))))))) ?_
      exact wJ G hm
   ·refine de G [] (hO 10 (.b false) (hP hb1 h0)) ?_
    exact wJ G hm
  rintro v1 hm
  refine cd hm (fun hm => ?_) (fun hm => ?_)
  ·exact X_skip (thN (Ok_block (rh G (ibN (wL G hm)))))
  ·exact Ok_exit (thE (thE (ibE (wD G hm hb))))
 rintro v2 hm
 obtain ⟨u13, h13, hm⟩ := obind hm
 refine ds G [] (hK h13 h0) ?_
 cases hm
 exact rt [] []
noncomputable def s_l1In_M : MS (Int × Int × Int) Bool := ⟨.x .r (.x .r .r), fun x => s_l1In x.1 x.2.1 x.2.2, fun y => dV y, fun _ => [], fun _ _ => []⟩
theorem s_l1In_c {x a b y} (hm : s_l1In x a b = some y) : s_l1In_M.C (x, a, b) y := s_l1In_M.c (x, a, b) hm
theorem s_l1In_ok : FnOK Tryd.prog tJ 27 s_l1In_M.S := by
 refine fm tt s_l1In_M [] Tryd.call27 Tryd.func27 rfl Tryd.results27 Tryd.ntmps27 ?_
 rintro ⟨x, a, b⟩ y cx G hm
 have hm : s_l1In x a b = some y := hm
 unfold s_l1In at hm
 refine rg G (jn hm (fun v => ⟨[(6, dV v)], [], 32⟩) (fun v hm => ?_) ?_)
 ·rcases bf hm with ⟨hb, hm⟩ | ⟨hb, hm⟩
  ·refine re G (hO 3 (.b true) (hP hb h0)) ?_
   exact wJ G hm
  ·refine re G (hO 3 (.b false) (hP hb h0)) ?_
   exact wJ G hm
 rintro v hm
 cases hm
 exact rt [] []
noncomputable def s_l1Num_MR (rec_ : Int → Option (ByteArray)) : MS Int ByteArray := ⟨.r, rec_, fun y => dV y, fun _ => [], fun _ _ => []⟩
noncomputable def s_l1Num_M : MS Int ByteArray := s_l1Num_MR s_l1Num
theorem s_l1Num_c {n y} (hm : s_l1Num n = some y) : s_l1Num_M.C n y := s_l1Num_M.c n hm
theorem s_l1Num_cR {rec_ : Int → Option (ByteArray)} {n y} (hm : rec_ n = some y) : (s_l1Num_MR rec_).C n y := (s_l1Num_MR rec_).c n hm
theorem s_l1Num_okF {rec_ : Int → Option (ByteArray)} (hrec : FnOK Tryd.prog tJ 39 (s_l1Num_MR rec_).S) : FnOK Tryd.prog tJ 39 (s_l1Num_MR (s_l1Num_F rec_)).S := by
 refine fm tt (s_l1Num_MR (s_l1Num_F rec_)) [fo hrec] Tryd.call39 Tryd.func39 rfl Tryd.results39 Tryd.ntmps39 ?_
 rintro n y cx G hm
 have hm : s_l1Num_F rec_ n = some y := hm
 unfold s_l1Num_F at hm
 refine rg G (Ok_seq (rg G (cd hm (fun hm => ?_) (fun hm => ?_))))
 ·obtain ⟨r, h, hm⟩ := obind hm
  obtain ⟨u, h1, hm⟩ := obind hm
  refine rs G (hC 2 (s_l1Num_cR h) (hP (cat_p (chk_t h1)) h0)) ?_
  cases hm
  exact rt [] []
 ·refine X_skip (thN (Ok_seq (rg G (cd hm (fun hm => ?_) (fun hm => ?_)))))
  ·obtain ⟨u1, h2, hm⟩ := obind hm
   refine rs G (hK h2 h0) ?_
   cases hm
   exact rt [] []
  ·refine X_skip (thN ?_)
   obtain ⟨u7, h9, hm⟩ := obind hm
   obtain ⟨r2, h10, hm⟩ := obind hm
   obtain ⟨u8, h11, hm⟩ := obind hm
   obtain ⟨u9, h12, hm⟩ := obind hm
   obtain ⟨u10, h13, hm⟩ := obind hm
   obtain ⟨u11, h14, hm⟩ := obind hm
   refine ds G [] (hK h9 (hC 2 (s_l1Num_cR h10) (hK h11 (hK h12 (hK h13 (hP (cat_p (chk_t h14)) h0)))))) ?_
   cases hm
   exact rt [] []
theorem s_l1Num_okn : ∀ k, FnOK Tryd.prog tJ 39 (s_l1Num_MR (s_l1Num_k k)).S
 | 0 => ⟨fun args w => Tryd.call39 args w, fun vs w F ds obs κ hp => by obtain ⟨x, y, _, _, h⟩ := hp; cases h⟩
 | k + 1 => s_l1Num_okF (s_l1Num_okn k)
theorem s_l1Num_ok : FnOK Tryd.prog tJ 39 s_l1Num_M.S := s_l1Num_okn 4294967296
noncomputable def s_l1Read_M : MS ByteArray (Int × Bool) := ⟨.r, s_l1Read, fun y => .tup [dV y.1, dV y.2], fun _ => [], fun _ _ => []⟩
theorem s_l1Read_c {s y} (hm : s_l1Read s = some y) : s_l1Read_M.C s y := s_l1Read_M.c s hm
theorem s_l1Read_ok : FnOK Tryd.prog tJ 24 s_l1Read_M.S := by
 refine fm tt s_l1Read_M [fo s_l1In_ok, fo s_l1Num_ok] Tryd.call24 Tryd.func24 rfl Tryd.results24 Tryd.ntmps24 ?_
 rintro s y cx G hm
 have hm : s_l1Read s = some y := hm
 unfold s_l1Read at hm
 refine rg G (rg G (jn hm (fun n => ⟨[(0, dV s), (4, dV n)], [], 32⟩) (fun n hm => ?_) ?_))
 ·refine jn hm (fun v => ⟨[(0, dV s), (4, dV s), (15, dV v)], [], 32⟩) (fun v hm => ?_) ?_
  ·rcases bf hm with ⟨hb, hm⟩ | ⟨hb, hm⟩
   ·obtain ⟨u, h, hm⟩ := obind hm
    refine re G (hO 3 (.b true) (hP hb (hK h h0))) ?_
    exact wJ G hm
   ·refine re G (hO 3 (.b false) (hP hb h0)) ?_
    exact wJ G hm
  rintro v hm
  refine cd hm (fun hm => ?_) (fun hm => ?_)
  ·obtain ⟨u1, h1, hm⟩ := obind hm
   refine re G (hK h1 h0) ?_
   exact wJ G hm
  ·exact X_skip (wJ G hm)
 rintro n hm
 refine Ok_seq ?_
 obtain ⟨r, h2, hm⟩ := obind hm
 refine rs G (hC 2 (s_l1In_c h2) h0) ?_
 refine cd hm (fun hm => ?_) (fun hm => ?_)
 ·refine rg G ?_
  cases hm
  exact rt [] []
 ·refine X_skip (thN (rg G (Ok_seq (rg G (tF hm (fun i1 => ⟨[(0, dV s), (4, dV n), (5, dV i1)], [], 32⟩) (fun v3 hr1 hm => ?_) ?_)))))
  ·refine Ok_block (lp G hm (fun (i, v1) => ⟨[(0, dV s), (4, dV n), (5, dV i), (6, dV v1)], [], 32⟩) ?_)
   rintro ⟨i, v1⟩ r0 hb1 hm
   rw [s_l1Read_L1] at hm
   refine Ok_seq (rg G (cd hm (fun hm => ?_) (fun hm => ?_)))
   ·refine X_skip (thN (Ok_seq (Ok_block (Ok_seq ?_))))
    obtain ⟨u2, h3, hm⟩ := obind hm
    refine jn hm (fun v2 => ⟨[(0, dV s), (4, dV n), (5, dV i), (6, dV v1), (37, dV v2)], [], 32⟩) (fun v2 hm => ?_) ?_
    ·rcases bf hm with ⟨hb2, hm⟩ | ⟨hb2, hm⟩
     ·refine re G (hK h3 (hO 4 (.b true) (hP hb2 h0))) ?_
      exact wJ G hm
     ·obtain ⟨u3, h4, hm⟩ := obind hm
      refine re G (hK h3 (hO 4 (.b false) (hP hb2 (hK h4 h0)))) ?_
      exact wJ G hm
    rintro v2 hm
    refine cd hm (fun hm => ?_) (fun hm => ?_)
    ·refine rg G ?_
     have hm := eL hm hb1 hr1
     cases hm
     exact rt [] []
    ·refine X_skip (thN ?_)
     obtain ⟨u4, h5, hm⟩ := obind hm
     refine re G (hK h5 h0) ?_
     exact ibN (thN (rh G (wL G hm)))
   ·exact Ok_exit (thE (thE (ibE (wE G hm hb1))))
  rintro i1 hm s1 hw
  refine thN (Ok_weak hw ?_)
  refine jn hm (fun i2 => ⟨[(0, dV s), (5, dV i2)], [], 32⟩) (fun i2 hm => ?_) ?_
  ·refine rg G (cd hm (fun hm => ?_) (fun hm => ?_))
   ·exact rh G (wJ G hm)
   ·exact X_skip (wJ G hm)
  rintro i2 hm
  refine Ok_seq ?_
  obtain ⟨r2, h6, hm⟩ := obind hm
  refine rs G (hC 1 (s_l1Num_c h6) h0) ?_
  refine cd hm (fun hm => ?_) (fun hm => ?_)
  ·refine rg G ?_
   cases hm
   exact rt [] []
  ·refine X_skip (thN (rg G ?_))
   cases hm
   exact rt [] []
noncomputable def s_l4Time_M : MS Int Bool := ⟨.r, s_l4Time, fun y => dV y, fun _ => [], fun _ _ => []⟩
theorem s_l4Time_c {t y} (hm : s_l4Time t = some y) : s_l4Time_M.C t y := s_l4Time_M.c t hm
theorem s_l4Time_ok : FnOK Tryd.prog tJ 28 s_l4Time_M.S := by
 refine fm tt s_l4Time_M [fo s_l1In_ok] Tryd.call28 Tryd.func28 rfl Tryd.results28 Tryd.ntmps28 ?_
 rintro t y cx G hm
 have hm : s_l4Time t = some y := hm
 unfold s_l4Time at hm
 refine rg G ?_
 obtain ⟨r, h, hm⟩ := obind hm
 refine rs G (hC 1 (s_l1In_c h) h0) ?_
 cases hm
 exact rt [] []
noncomputable def s_l4Two_M : MS Int ByteArray := ⟨.r, s_l4Two, fun y => dV y, fun _ => [], fun _ _ => []⟩
theorem s_l4Two_c {n y} (hm : s_l4Two n = some y) : s_l4Two_M.C n y := s_l4Two_M.c n hm
theorem s_l4Two_ok : FnOK Tryd.prog tJ 60 s_l4Two_M.S := by
 refine fm tt s_l4Two_M [] Tryd.call60 Tryd.func60 rfl Tryd.results60 Tryd.ntmps60 ?_
 rintro n y cx G hm
 have hm : s_l4Two n = some y := hm
 unfold s_l4Two at hm
 refine rg G ?_
 obtain ⟨u7, h7, hm⟩ := obind hm
 obtain ⟨u8, h8, hm⟩ := obind hm
 obtain ⟨u9, h9, hm⟩ := obind hm
 obtain ⟨u10, h10, hm⟩ := obind hm
 obtain ⟨u11, h11, hm⟩ := obind hm
 obtain ⟨u12, h12, hm⟩ := obind hm
 obtain ⟨u13, h13, hm⟩ := obind hm
 refine ds G [] (hK h7 (hK h8 (hK h9 (hK h10 (hK h11 (hK h12 (hP (cat_p (chk_t h13)) h0))))))) ?_
 cases hm
 exact rt [] []
noncomputable def s_l4Text_M : MS Int ByteArray := ⟨.r, s_l4Text, fun y => dV y, fun _ => [], fun _ _ => []⟩
theorem s_l4Text_c {t y} (hm : s_l4Text t = some y) : s_l4Text_M.C t y := s_l4Text_M.c t hm
theorem s_l4Text_ok : FnOK Tryd.prog tJ 51 s_l4Text_M.S := by
 refine fm tt s_l4Text_M [fo s_l4Two_ok] Tryd.call51 Tryd.func51 rfl Tryd.results51 Tryd.ntmps51 ?_
 rintro t y cx G hm
 have hm : s_l4Text t = some y := hm
 unfold s_l4Text at hm
 refine rg G ?_
 obtain ⟨u, h, hm⟩ := obind hm
 obtain ⟨r, h1, hm⟩ := obind hm
 obtain ⟨u1, h2, hm⟩ := obind hm
 obtain ⟨u2, h3, hm⟩ := obind hm
 obtain ⟨r1, h4, hm⟩ := obind hm
 obtain ⟨u3, h5, hm⟩ := obind hm
 refine rs G (hK h (hC 2 (s_l4Two_c h1) (hP (cat_p (chk_t h2)) (hK h3 (hC 6 (s_l4Two_c h4) (hP (cat_p (chk_t h5)) h0)))))) ?_
 cases hm
 exact rt [] []
noncomputable def s_l4Parse_M : MS ByteArray (Int × Bool) := ⟨.r, s_l4Parse, fun y => .tup [dV y.1, dV y.2], fun _ => [], fun _ _ => []⟩
theorem s_l4Parse_c {s y} (hm : s_l4Parse s = some y) : s_l4Parse_M.C s y := s_l4Parse_M.c s hm
theorem s_l4Parse_ok : FnOK Tryd.prog tJ 40 s_l4Parse_M.S := by
 refine fm tt s_l4Parse_M [fo s_l4Time_ok, fo s_l4Text_ok] Tryd.call40 Tryd.func40 rfl Tryd.results40 Tryd.ntmps40 ?_
 rintro s y cx G hm
 have hm : s_l4Parse s = some y := hm
 unfold s_l4Parse at hm
 refine rg G (Ok_seq (rg G (cd hm (fun hm => ?_) (fun hm => ?_))))
 ·refine rg G ?_
  cases hm
  exact rt [] []
 ·refine X_skip (thN ?_)
  obtain ⟨u4, h4, hm⟩ := obind hm
  obtain ⟨u5, h5, hm⟩ := obind hm
  obtain ⟨u6, h6, hm⟩ := obind hm
  obtain ⟨u7, h7, hm⟩ := obind hm
  refine ds G [] (hK h4 (hK h5 (hK h6 (hK h7 h0)))) ?_
  refine Ok_seq ?_
  obtain ⟨r, h8, hm⟩ := obind hm
  refine jn hm (fun v => ⟨[(4, dV (w64 ((w64 ((w64 ((w64 ((w64 ((w64 ((w64 ((w64 ((w64 (((s.data.toList.getD (0 : Int).toNat 0).toNat : Int))) - 48)) * 10)) + (w64 (((s.data.toList.getD (1 : Int).toNat 0).toNat : Int))))) - 48)) * 60)) + (w64 ((w64 ((w64 (((s.data.toList.getD (3 : Int).toNat 0).toNat : Int))) - 48)) * 10)))) + (w64 (((s.data.toList.getD (4 : Int).toNat 0).toNat : Int))))) - 48))), (38, dV v)], [], 32⟩) (fun v hm => ?_) ?_
  ·rcases bf hm with ⟨hb, hm⟩ | ⟨hb, hm⟩
   ·refine re G (hC 1 (s_l4Time_c h8) (hO 3 (.b true) (hP hb h0))) ?_
    exact wJ G hm
   ·obtain ⟨r1, h9, hm⟩ := obind hm
    refine re G (hC 1 (s_l4Time_c h8) (hO 3 (.b false) (hP hb (hC 5 (s_l4Text_c h9) h0)))) ?_
    exact wJ G hm
  rintro v hm
  refine cd hm (fun hm => ?_) (fun hm => ?_)
  ·refine rg G ?_
   cases hm
   exact rt [] []
  ·refine X_skip (thN (rg G ?_))
   cases hm
   exact rt [] []
noncomputable def s_l24Reader_time_M : MS l24Reader (Int × l24Reader) := ⟨.b 35, s_l24Reader_time, fun y => dV y.1, fun _ => [], fun _ y => [bxO 35 y.2]⟩
theorem s_l24Reader_time_c {r y} (hm : s_l24Reader_time r = some y) : s_l24Reader_time_M.C r y := s_l24Reader_time_M.c r hm
theorem s_l24Reader_time_ok : FnOK Tryd.prog tJ 25 s_l24Reader_time_M.S := by
 refine fm tt s_l24Reader_time_M [fo s_l4Parse_ok] Tryd.call25 Tryd.func25 rfl Tryd.results25 Tryd.ntmps25 ?_
 rintro r y cx G hm
 have hm : s_l24Reader_time r = some y := hm
 unfold s_l24Reader_time at hm
 refine rg G (Ok_seq (jn hm (fun v => ⟨[(0, .ref 0 0), (21, dV v)], [bX 0 35 [dV r.s_, dV r.at_, dV r.bad_]], 48⟩) (fun v hm => ?_) ?_))
 ·rcases bf hm with ⟨hb, hm⟩ | ⟨hb, hm⟩
  ·refine de G [] (hO 4 (.b true) (hP hb h0)) ?_
   exact wJ G hm
  ·refine de G [] (hO 4 (.b false) (hP hb h0)) ?_
   exact wJ G hm
 rintro v hm
 refine cd hm (fun hm => ?_) (fun hm => ?_)
 ·refine rg G (rg G ?_)
  cases hm
  exact rt [] []
 ·refine X_skip (thN ?_)
  obtain ⟨u1, h2, hm⟩ := obind hm
  obtain ⟨r2, h3, hm⟩ := obind hm
  refine ds G [] (hK h2 (hC 14 (s_l4Parse_c h3) h0)) ?_
  refine rg G (rg G (rg G ?_))
  cases hm
  exact rt [] []
noncomputable def s_l24Reader_sentence_M : MS l24Reader (Message × l24Reader) := ⟨.b 35, s_l24Reader_sentence, fun y => dV y.1, fun _ => [], fun _ y => [bxO 35 y.2]⟩
theorem s_l24Reader_sentence_c {r y} (hm : s_l24Reader_sentence r = some y) : s_l24Reader_sentence_M.C r y := s_l24Reader_sentence_M.c r hm
theorem s_l24Reader_sentence_ok : FnOK Tryd.prog tJ 13 s_l24Reader_sentence_M.S := by
 refine fm tt s_l24Reader_sentence_M [fo s_l24Reader_take_ok, fo s_l24Reader_word_ok, fo s_l24Reader_want_ok, fo s_l1Read_ok, fo s_l24Reader_time_ok] Tryd.call13 Tryd.func13 rfl Tryd.results13 Tryd.ntmps13 ?_
 rintro r y cx G hm
 have hm : s_l24Reader_sentence r = some y := hm
 unfold s_l24Reader_sentence at hm
 refine rg G (rg G (jn hm (fun (v, v1, v2, v3, v4, v5, v6, v7, v8) => ⟨[(0, .ref 0 0), (2, .ref 32 0), (3, .ref 48 0)], [bX 0 35 [dV v, dV v1, dV v2], bX 32 23 [kV .i64 0, dV ByteArray.empty, dV ByteArray.empty, kV .i64 0, kV .i64 0, kV .i64 0], bX 48 23 [dV v3, dV v4, dV v5, dV v6, dV v7, dV v8]], 80⟩) (fun vv hm => ?_) ?_))
 ·refine Ok_block ?_
  obtain ⟨r1, h, hm⟩ := obind hm
  refine rs G (hC 1 (s_l24Reader_take_c h) h0) ?_
  refine cd hm (fun hm => ?_) (fun hm => ?_)
  ·refine rg G ?_
   obtain ⟨r2, h1, hm⟩ := obind hm
   refine rs G (hC 1 (s_l24Reader_word_c h1) h0) ?_
   obtain ⟨r3, h2, hm⟩ := obind hm
   refine rs G (hC 1 (s_l24Reader_want_c h2) h0) ?_
   obtain ⟨r4, h3, hm⟩ := obind hm
   obtain ⟨r5, h4, hm⟩ := obind hm
   refine rs G (hC 1 (s_l24Reader_word_c h3) (hC 2 (s_l1Read_c h4) h0)) ?_
   refine jn hm (fun v9 => ⟨[(0, .ref 0 0), (2, .ref 32 0), (3, .ref 48 0), (4, dV r5.1)], [bX 0 35 [dV r4.2.s_, dV r4.2.at_, dV v9], bX 32 23 [kV .i64 0, dV ByteArray.empty, dV ByteArray.empty, kV .i64 0, kV .i64 0, kV .i64 0], bX 48 23 [kV .i64 1, dV r2.1, dV ByteArray.empty, kV .i64 0, kV .i64 0, kV .i64 0]], 80⟩) (fun v9 hm => ?_) ?_
   ·rcases bf hm with ⟨hb, hm⟩ | ⟨hb, hm⟩
    ·refine re G (hO 5 (.b true) (hP hb h0)) ?_
     exact wJ G hm
    ·refine re G (hO 5 (.b false) (hP hb h0)) ?_
     exact wJ G hm
   rintro v9 hm
   refine rg G (rg G (cd hm (fun hm => ?_) (fun hm => ?_)))
   ·obtain ⟨r6, h5, hm⟩ := obind hm
    refine re G (hC 1 (s_l24Reader_want_c h5) h0) ?_
    exact ibN (wJ G hm)
   ·obtain ⟨r7, h6, hm⟩ := obind hm
    refine re G (hC 1 (s_l24Reader_want_c h6) h0) ?_
    exact ibN (wJ G hm)
  ·obtain ⟨r8, h7, hm⟩ := obind hm
   refine rs G (hC 1 (s_l24Reader_take_c h7) h0) ?_
   refine cd hm (fun hm => ?_) (fun hm => ?_)
   ·refine rg G ?_
    obtain ⟨r9, h8, hm⟩ := obind hm
    refine rs G (hC 1 (s_l24Reader_word_c h8) h0) ?_
    obtain ⟨r10, h9, hm⟩ := obind hm
    refine rs G (hC 1 (s_l24Reader_want_c h9) h0) ?_
    obtain ⟨r11, h10, hm⟩ := obind hm
    refine rs G (hC 1 (s_l24Reader_time_c h10) h0) ?_
    obtain ⟨r12, h11, hm⟩ := obind hm
    refine rs G (hC 1 (s_l24Reader_want_c h11) h0) ?_
    obtain ⟨r13, h12, hm⟩ := obind hm
    refine rs G (hC 1 (s_l24Reader_time_c h12) h0) ?_
    obtain ⟨r14, h13, hm⟩ := obind hm
    refine re G (hC 1 (s_l24Reader_want_c h13) h0) ?_
    exact ibN (wJ G hm)
   ·obtain ⟨r15, h14, hm⟩ := obind hm
    refine rs G (hC 1 (s_l24Reader_take_c h14) h0) ?_
    refine cd hm (fun hm => ?_) (fun hm => ?_)
    ·refine rg G ?_
     obtain ⟨r16, h15, hm⟩ := obind hm
     refine rs G (hC 1 (s_l24Reader_time_c h15) h0) ?_
     obtain ⟨r17, h16, hm⟩ := obind hm
     refine rs G (hC 1 (s_l24Reader_want_c h16) h0) ?_
     obtain ⟨r18, h17, hm⟩ := obind hm
     refine rs G (hC 1 (s_l24Reader_time_c h17) h0) ?_
     obtain ⟨r19, h18, hm⟩ := obind hm
     refine rs G (hC 1 (s_l24Reader_want_c h18) h0) ?_
     obtain ⟨r20, h19, hm⟩ := obind hm
     refine rs G (hC 1 (s_l24Reader_word_c h19) h0) ?_
     obtain ⟨r21, h20, hm⟩ := obind hm
     refine rs G (hC 1 (s_l24Reader_want_c h20) h0) ?_
     obtain ⟨r22, h21, hm⟩ := obind hm
     refine rs G (hC 1 (s_l24Reader_word_c h21) h0) ?_
     obtain ⟨r23, h22, hm⟩ := obind hm
     refine re G (hC 1 (s_l24Reader_want_c h22) h0) ?_
     exact ibN (wJ G hm)
    ·obtain ⟨r24, h23, hm⟩ := obind hm
     refine rs G (hC 1 (s_l24Reader_want_c h23) h0) ?_
     obtain ⟨r25, h24, hm⟩ := obind hm
     refine rs G (hC 1 (s_l24Reader_word_c h24) h0) ?_
     obtain ⟨r26, h25, hm⟩ := obind hm
     refine rs G (hC 1 (s_l24Reader_want_c h25) h0) ?_
     obtain ⟨r27, h26, hm⟩ := obind hm
     refine rs G (hC 1 (s_l24Reader_time_c h26) h0) ?_
     refine rg G ?_
     obtain ⟨r28, h27, hm⟩ := obind hm
     refine rs G (hC 1 (s_l24Reader_take_c h27) h0) ?_
     refine cd hm (fun hm => ?_) (fun hm => ?_)
     ·refine rg G ?_
      obtain ⟨r29, h28, hm⟩ := obind hm
      refine re G (hC 1 (s_l24Reader_want_c h28) h0) ?_
      exact ibN (wJ G hm)
     ·exact X_skip (ibN (wJ G hm))
 rintro ⟨v, v1, v2, v3, v4, v5, v6, v7, v8⟩ hm
 refine rg G ?_
 cases hm
 exact rt [] []
noncomputable def s_l2Name_M : MS ByteArray Bool := ⟨.r, s_l2Name, fun y => dV y, fun _ => [], fun _ _ => []⟩
theorem s_l2Name_c {s y} (hm : s_l2Name s = some y) : s_l2Name_M.C s y := s_l2Name_M.c s hm
theorem s_l2Name_ok : FnOK Tryd.prog tJ 26 s_l2Name_M.S := by
 refine fm tt s_l2Name_M [fo s_l1In_ok] Tryd.call26 Tryd.func26 rfl Tryd.results26 Tryd.ntmps26 ?_
 rintro s y cx G hm
 have hm : s_l2Name s = some y := hm
 unfold s_l2Name at hm
 refine rg G (Ok_seq ?_)
 obtain ⟨r, h, hm⟩ := obind hm
 refine jn hm (fun v => ⟨[(0, dV s), (17, dV v)], [], 32⟩) (fun v hm => ?_) ?_
 ·rcases bf hm with ⟨hb, hm⟩ | ⟨hb, hm⟩
  ·refine re G (hC 2 (s_l1In_c h) (hO 4 (.b true) (hP hb h0))) ?_
   exact wJ G hm
  ·obtain ⟨u, h1, hm⟩ := obind hm
   rcases bf hm with ⟨hb1, hm⟩ | ⟨hb1, hm⟩
   ·refine re G (hC 2 (s_l1In_c h) (hO 4 (.b false) (hP hb (hK h1 (hO 9 (.b true) (hP hb1 h0)))))) ?_
    exact wJ G hm
   ·obtain ⟨u1, h2, hm⟩ := obind hm
    refine re G (hC 2 (s_l1In_c h) (hO 4 (.b false) (hP hb (hK h1 (hO 9 (.b false) (hP hb1 (hK h2 h0))))))) ?_
    exact wJ G hm
 rintro v hm
 refine cd hm (fun hm => ?_) (fun hm => ?_)
 ·refine rg G ?_
  cases hm
  exact rt [] []
 ·refine X_skip (thN (Ok_seq (rg G (tF hm (fun _ => ⟨[], [], 32⟩) (fun v3 hr hm => ?_) ?_))))
  ·refine Ok_block (lp G hm (fun v1 => ⟨[(0, dV s), (3, dV v1)], [], 32⟩) ?_)
   rintro v1 r0 hb2 hm
   rw [s_l2Name_L1] at hm
   refine Ok_seq (rg G (cd hm (fun hm => ?_) (fun hm => ?_)))
   ·refine X_skip (thN (Ok_seq (Ok_block ?_)))
    obtain ⟨u2, h3, hm⟩ := obind hm
    refine jn hm (fun v2 => ⟨[(0, dV s), (3, dV v1), (45, dV v2)], [], 32⟩) (fun v2 hm => ?_) ?_
    ·rcases bf hm with ⟨hb3, hm⟩ | ⟨hb3, hm⟩
     ·obtain ⟨u3, h4, hm⟩ := obind hm
      rcases bf hm with ⟨hb4, hm⟩ | ⟨hb4, hm⟩
      ·refine re G (hK h3 (hO 4 (.b true) (hP hb3 (hK h4 (hO 15 (.b true) (hP hb4 h0)))))) ?_
       exact wJ G hm
      ·obtain ⟨u4, h5, hm⟩ := obind hm
       refine re G (hK h3 (hO 4 (.b true) (hP hb3 (hK h4 (hO 15 (.b false) (hP hb4 (hK h5 h0))))))) ?_
       exact wJ G hm
     ·obtain ⟨u5, h6, hm⟩ := obind hm
      rcases bf hm with ⟨hb5, hm⟩ | ⟨hb5, hm⟩
      ·obtain ⟨u6, h7, hm⟩ := obind hm
       rcases bf hm with ⟨hb6, hm⟩ | ⟨hb6, hm⟩
       ·refine re G (hK h3 (hO 4 (.b false) (hP hb3 (hK h6 (hO 10 (.b true) (hP hb5 (hK h7 (hO 15 (.b true) (hP hb6 h0))))))))) ?_
        exact wJ G hm
       ·obtain ⟨u7, h8, hm⟩ := obind hm
        refine re G (hK h3 (hO 4 (.b false) (hP hb3 (hK h6 (hO 10 (.b true) (hP hb5 (hK h7 (hO 15 (.b false) (hP hb6 (hK h8 h0)))))))))) ?_
        exact wJ G hm
      ·refine re G (hK h3 (hO 4 (.b false) (hP hb3 (hK h6 (hO 10 (.b false) (hP hb5 h0)))))) ?_
       exact wJ G hm
    rintro v2 hm
    refine cd hm (fun hm => ?_) (fun hm => ?_)
    ·refine rg G ?_
     have hm := eL hm hb2 hr
     cases hm
     exact rt [] []
    ·exact X_skip (ibN (thN (rh G (wL G hm))))
   ·exact Ok_exit (thE (thE (ibE (wE G hm hb2))))
  rintro ⟨⟩ hm s1 hw
  refine thN (Ok_weak hw ?_)
  refine rg G ?_
  cases hm
  exact rt [] []
noncomputable def s_l24Good_M : MS Message Bool := ⟨.r, s_l24Good, fun y => dV y, fun _ => [], fun _ _ => []⟩
theorem s_l24Good_c {m y} (hm : s_l24Good m = some y) : s_l24Good_M.C m y := s_l24Good_M.c m hm
theorem s_l24Good_ok : FnOK Tryd.prog tJ 14 s_l24Good_M.S := by
 refine fm tt s_l24Good_M [fo s_l2Name_ok, fo s_l1In_ok, fo s_l4Time_ok] Tryd.call14 Tryd.func14 rfl Tryd.results14 Tryd.ntmps14 ?_
 rintro m y cx G hm
 have hm : s_l24Good m = some y := hm
 unfold s_l24Good at hm
 refine rg G (rg G (Ok_seq (rg G (Ok_block (rg G (cd hm (fun hm => ?_) (fun hm => ?_)))))))
 ·refine rg G (jn hm (fun x => ⟨[(2, dV x)], [], 32⟩) (fun x hm => ?_) ?_)
  ·rcases bf hm with ⟨hb, hm⟩ | ⟨hb, hm⟩
   ·obtain ⟨r, h, hm⟩ := obind hm
    rcases bf hm with ⟨hb1, hm⟩ | ⟨hb1, hm⟩
    ·obtain ⟨r1, h1, hm⟩ := obind hm
     refine re G (hO 3 (.b true) (hP hb (hC 6 (s_l2Name_c h) (hO 8 (.b true) (hP hb1 (hC 11 (s_l1In_c h1) h0)))))) ?_
     exact wJ G hm
    ·refine re G (hO 3 (.b true) (hP hb (hC 6 (s_l2Name_c h) (hO 8 (.b false) (hP hb1 h0))))) ?_
     exact wJ G hm
   ·refine re G (hO 3 (.b false) (hP hb h0)) ?_
    exact wJ G hm
  rintro x hm
  cases hm
  exact rt [] []
 ·refine jn hm (fun v => ⟨[(1, .ref 16 0), (3, .ref 32 0), (10, dV m.Kind), (29, dV v)], [bX 16 23 [dV m.Kind, dV m.Line, dV m.Stop, dV m.From, dV m.To, dV m.Minutes], bX 32 23 [dV m.Kind, dV m.Line, dV ByteArray.empty, kV .i64 0, kV .i64 0, kV .i64 0]], 64⟩) (fun v hm => ?_) ?_
  ·refine rg G (cd hm (fun hm => ?_) (fun hm => ?_))
   ·exact X_skip (wJ G hm)
   ·exact rh G (wJ G hm)
  rintro v hm
  refine cd hm (fun hm => ?_) (fun hm => ?_)
  ·refine rg G (jn hm (fun x1 => ⟨[(2, dV x1)], [], 32⟩) (fun x1 hm => ?_) ?_)
   ·rcases bf hm with ⟨hb2, hm⟩ | ⟨hb2, hm⟩
    ·obtain ⟨r2, h2, hm⟩ := obind hm
     rcases bf hm with ⟨hb3, hm⟩ | ⟨hb3, hm⟩
     ·obtain ⟨r3, h3, hm⟩ := obind hm
      refine re G (hO 3 (.b true) (hP hb2 (hC 6 (s_l2Name_c h2) (hO 8 (.b true) (hP hb3 (hC 11 (s_l4Time_c h3) h0)))))) ?_
      exact wJ G hm
     ·refine re G (hO 3 (.b true) (hP hb2 (hC 6 (s_l2Name_c h2) (hO 8 (.b false) (hP hb3 h0))))) ?_
      exact wJ G hm
    ·refine re G (hO 3 (.b false) (hP hb2 h0)) ?_
     exact wJ G hm
   rintro x1 hm
   cases hm
   exact rt [] []
  ·refine rg G (cd hm (fun hm => ?_) (fun hm => ?_))
   ·refine jn hm (fun x2 => ⟨[(2, dV x2)], [], 32⟩) (fun x2 hm => ?_) ?_
    ·rcases bf hm with ⟨hb4, hm⟩ | ⟨hb4, hm⟩
     ·rcases bf hm with ⟨hb5, hm⟩ | ⟨hb5, hm⟩
      ·obtain ⟨r4, h4, hm⟩ := obind hm
       rcases bf hm with ⟨hb6, hm⟩ | ⟨hb6, hm⟩
       ·obtain ⟨r5, h5, hm⟩ := obind hm
        rcases bf hm with ⟨hb7, hm⟩ | ⟨hb7, hm⟩
        ·obtain ⟨r6, h6, hm⟩ := obind hm
         rcases bf hm with ⟨hb8, hm⟩ | ⟨hb8, hm⟩
         ·refine re G (hO 3 (.b true) (hP hb4 (hO 8 (.b true) (hP hb5 (hC 11 (s_l2Name_c h4) (hO 13 (.b true) (hP hb6 (hC 16 (s_l4Time_c h5) (hO 18 (.b true) (hP hb7 (hC 21 (s_l4Time_c h6) (hO 23 (.b true) (hP hb8 h0))))))))))))) ?_
          exact wJ G hm
         ·refine re G (hO 3 (.b true) (hP hb4 (hO 8 (.b true) (hP hb5 (hC 11 (s_l2Name_c h4) (hO 13 (.b true) (hP hb6 (hC 16 (s_l4Time_c h5) (hO 18 (.b true) (hP hb7 (hC 21 (s_l4Time_c h6) (hO 23 (.b false) (hP hb8 h0))))))))))))) ?_
          exact wJ G hm
        ·refine re G (hO 3 (.b true) (hP hb4 (hO 8 (.b true) (hP hb5 (hC 11 (s_l2Name_c h4) (hO 13 (.b true) (hP hb6 (hC 16 (s_l4Time_c h5) (hO 18 (.b false) (hP hb7 h0)))))))))) ?_
         exact wJ G hm
       ·refine re G (hO 3 (.b true) (hP hb4 (hO 8 (.b true) (hP hb5 (hC 11 (s_l2Name_c h4) (hO 13 (.b false) (hP hb6 h0))))))) ?_
        exact wJ G hm
      ·refine re G (hO 3 (.b true) (hP hb4 (hO 8 (.b false) (hP hb5 h0)))) ?_
       exact wJ G hm
     ·refine re G (hO 3 (.b false) (hP hb4 h0)) ?_
      exact wJ G hm
    rintro x2 hm
    cases hm
    exact rt [] []
   ·refine rg G (cd hm (fun hm => ?_) (fun hm => ?_))
    ·refine jn hm (fun x3 => ⟨[(2, dV x3)], [], 32⟩) (fun x3 hm => ?_) ?_
     ·rcases bf hm with ⟨hb9, hm⟩ | ⟨hb9, hm⟩
      ·obtain ⟨r7, h7, hm⟩ := obind hm
       rcases bf hm with ⟨hb10, hm⟩ | ⟨hb10, hm⟩
       ·obtain ⟨r8, h8, hm⟩ := obind hm
        rcases bf hm with ⟨hb11, hm⟩ | ⟨hb11, hm⟩
        ·obtain ⟨r9, h9, hm⟩ := obind hm
         rcases bf hm with ⟨hb12, hm⟩ | ⟨hb12, hm⟩
         ·obtain ⟨r10, h10, hm⟩ := obind hm
          rcases bf hm with ⟨hb13, hm⟩ | ⟨hb13, hm⟩
          ·refine re G (hO 3 (.b true) (hP hb9 (hC 6 (s_l2Name_c h7) (hO 8 (.b true) (hP hb10 (hC 11 (s_l2Name_c h8) (hO 13 (.b true) (hP hb11 (hC 16 (s_l4Time_c h9) (hO 18 (.b true) (hP hb12 (hC 21 (s_l4Time_c h10) (hO 23 (.b true) (hP hb13 h0)))))))))))))) ?_
           exact wJ G hm
          ·refine re G (hO 3 (.b true) (hP hb9 (hC 6 (s_l2Name_c h7) (hO 8 (.b true) (hP hb10 (hC 11 (s_l2Name_c h8) (hO 13 (.b true) (hP hb11 (hC 16 (s_l4Time_c h9) (hO 18 (.b true) (hP hb12 (hC 21 (s_l4Time_c h10) (hO 23 (.b false) (hP hb13 h0)))))))))))))) ?_
           exact wJ G hm
         ·refine re G (hO 3 (.b true) (hP hb9 (hC 6 (s_l2Name_c h7) (hO 8 (.b true) (hP hb10 (hC 11 (s_l2Name_c h8) (hO 13 (.b true) (hP hb11 (hC 16 (s_l4Time_c h9) (hO 18 (.b false) (hP hb12 h0))))))))))) ?_
          exact wJ G hm
        ·refine re G (hO 3 (.b true) (hP hb9 (hC 6 (s_l2Name_c h7) (hO 8 (.b true) (hP hb10 (hC 11 (s_l2Name_c h8) (hO 13 (.b false) (hP hb11 h0)))))))) ?_
         exact wJ G hm
       ·refine re G (hO 3 (.b true) (hP hb9 (hC 6 (s_l2Name_c h7) (hO 8 (.b false) (hP hb10 h0))))) ?_
        exact wJ G hm
      ·refine re G (hO 3 (.b false) (hP hb9 h0)) ?_
       exact wJ G hm
     rintro x3 hm
     cases hm
     exact rt [] []
    ·refine X_skip (ibN (thN (rg G ?_)))
     cases hm
     exact rt [] []
noncomputable def s_l24Notice_M : MS ((List Message)) Bool := ⟨.r, s_l24Notice, fun y => dV y, fun _ => [], fun _ _ => []⟩
theorem s_l24Notice_c {list y} (hm : s_l24Notice list = some y) : s_l24Notice_M.C list y := s_l24Notice_M.c list hm
theorem s_l24Notice_ok : FnOK Tryd.prog tJ 19 s_l24Notice_M.S := by
 refine fm tt s_l24Notice_M [fo s_l24Good_ok] Tryd.call19 Tryd.func19 rfl Tryd.results19 Tryd.ntmps19 ?_
 rintro list y cx G hm
 have hm : s_l24Notice list = some y := hm
 unfold s_l24Notice at hm
 refine rg G (Ok_seq (rg G (tF hm (fun _ => ⟨[(0, dV list)], [], 32⟩) (fun v1 hr hm => ?_) ?_)))
 ·refine Ok_block (lp G hm (fun v => ⟨[(0, dV list), (3, dV v)], [], 32⟩) ?_)
  rintro v r0 hb hm
  rw [s_l24Notice_L1] at hm
  refine Ok_seq (rs G (hN 2 list h0) ?_)
  refine cd hm (fun hm => ?_) (fun hm => ?_)
  ·refine X_skip (thN (Ok_seq (Ok_block ?_)))
   obtain ⟨e, h, hm⟩ := obind hm
   obtain ⟨r, h1, hm⟩ := obind hm
   refine rs G (hD 2 h (hC 4 (s_l24Good_c h1) h0)) ?_
   refine cd hm (fun hm => ?_) (fun hm => ?_)
   ·refine rg G ?_
    have hm := eL hm hb hr
    cases hm
    exact rt [] []
   ·exact X_skip (ibN (thN (rh G (wL G hm))))
  ·exact Ok_exit (thE (thE (ibE (wE G hm hb))))
 rintro ⟨⟩ hm s hw
 refine thN (Ok_weak hw ?_)
 refine rs G (hN 1 list h0) ?_
 cases hm
 exact rt [] []
noncomputable def s_ParseNotice_M : MS ByteArray ((List Message) × Bool) := ⟨.r, s_ParseNotice, fun y => .tup [.own 0, dV y.2], fun y => [arO 23 y.1], fun _ _ => []⟩
theorem s_ParseNotice_c {s y} (hm : s_ParseNotice s = some y) : s_ParseNotice_M.C s y := s_ParseNotice_M.c s hm
theorem s_ParseNotice_ok : FnOK Tryd.prog tJ 8 s_ParseNotice_M.S := by
 refine fm tt s_ParseNotice_M [fo s_l24Reader_want_ok, fo s_l24Reader_sentence_ok, fo s_l24Notice_ok] Tryd.call8 Tryd.func8 rfl Tryd.results8 Tryd.ntmps8 ?_
 rintro s y cx G hm
 have hm : s_ParseNotice s = some y := hm
 unfold s_ParseNotice at hm
 refine rg G (rg G (rg G (jn hm (fun (r3, v7, v8, v9) => ⟨[(0, dV s), (4, .own 16), (5, .ref 32 0)], [aX 16 23 r3, bX 32 35 [dV v7, dV v8, dV v9]], 64⟩) (fun vv1 hm => ?_) ?_)))
 ·refine Ok_block (lp G hm (fun (r, v, v1, v2) => ⟨[(0, dV s), (4, .own 16), (5, .ref 32 0)], [aX 16 23 r, bX 32 35 [dV v, dV v1, dV v2]], 64⟩) ?_)
  rintro ⟨r, v, v1, v2⟩ r0 hb hm
  rw [s_ParseNotice_L1] at hm
  refine Ok_seq (jn hm (fun v3 => ⟨[(0, dV s), (4, .own 16), (5, .ref 32 0), (28, dV v3)], [aX 16 23 r, bX 32 35 [dV v, dV v1, dV v2]], 64⟩) (fun v3 hm => ?_) ?_)
  ·rcases bf hm with ⟨hb1, hm⟩ | ⟨hb1, hm⟩
   ·rcases bf hm with ⟨hb2, hm⟩ | ⟨hb2, hm⟩
    ·refine re G (hO 5 (.b true) (hP hb1 (hO 14 (.b true) (hP hb2 (hN 16 r h0))))) ?_
     exact wJ G hm
    ·refine re G (hO 5 (.b true) (hP hb1 (hO 14 (.b false) (hP hb2 h0)))) ?_
     exact wJ G hm
   ·refine re G (hO 5 (.b false) (hP hb1 h0)) ?_
    exact wJ G hm
  rintro v3 hm
  refine cd hm (fun hm => ?_) (fun hm => ?_)
  ·refine X_skip (thN (Ok_block (jn hm (fun (v4, v5, v6) => ⟨[(0, dV s), (4, .own 16), (5, .ref 32 0)], [aX 16 23 r, bX 32 35 [dV v4, dV v5, dV v6]], 64⟩) (fun vv hm => ?_) ?_)))
   ·refine rs G (hN 1 r h0) ?_
    refine cd hm (fun hm => ?_) (fun hm => ?_)
    ·obtain ⟨r1, h, hm⟩ := obind hm
     refine re G (hC 1 (s_l24Reader_want_c h) h0) ?_
     exact wJ G hm
    ·exact X_skip (wJ G hm)
   rintro ⟨v4, v5, v6⟩ hm
   obtain ⟨r2, h1, hm⟩ := obind hm
   obtain ⟨u, h2, hm⟩ := obind hm
   refine re G (hC 2 (s_l24Reader_sentence_c h1) (hA 4 64 h2 h0)) ?_
   exact ibN (wL G hm)
  ·exact Ok_exit (thE (thE (ibE (wD G hm hb))))
 rintro ⟨r3, v7, v8, v9⟩ hm
 refine Ok_seq (jn hm (fun v10 => ⟨[(4, .own 16), (56, dV v10)], [aX 16 23 r3], 48⟩) (fun v10 hm => ?_) ?_)
 ·rcases bf hm with ⟨hb3, hm⟩ | ⟨hb3, hm⟩
  ·refine re G (hO 4 (.b true) (hP hb3 h0)) ?_
   exact wJ G hm
  ·rcases bf hm with ⟨hb4, hm⟩ | ⟨hb4, hm⟩
   ·refine re G (hO 4 (.b false) (hP hb3 (hO 13 (.b true) (hP hb4 h0)))) ?_
    exact wJ G hm
   ·obtain ⟨r4, h3, hm⟩ := obind hm
    refine re G (hO 4 (.b false) (hP hb3 (hO 13 (.b false) (hP hb4 (hC 15 (s_l24Notice_c h3) h0))))) ?_
    exact wJ G hm
 rintro v10 hm
 refine cd hm (fun hm => ?_) (fun hm => ?_)
 ·refine rg G ?_
  cases hm
  exact rt [48] []
 ·refine X_skip (thN (rg G ?_))
  cases hm
  exact rt [16] []
noncomputable def strings_genSplit_M : MS (ByteArray × ByteArray × Int × Int) ((List ByteArray)) := ⟨.x .r (.x .r (.x .r .r)), fun x => strings_genSplit x.1 x.2.1 x.2.2.1 x.2.2.2, fun _ => .own 0, fun y => [arO 9 y], fun _ _ => []⟩
theorem strings_genSplit_c {s sep sepSave n y} (hm : strings_genSplit s sep sepSave n = some y) : strings_genSplit_M.C (s, sep, sepSave, n) y := strings_genSplit_M.c (s, sep, sepSave, n) hm
theorem strings_genSplit_ok : FnOK Tryd.prog tJ 38 strings_genSplit_M.S := genSplitOK Tryd.lays221 (by kernel_rfl) Tryd.call38 (by kernel_rfl)
noncomputable def strings_SplitAfterN_M : MS (ByteArray × ByteArray × Int) ((List ByteArray)) := ⟨.x .r (.x .r .r), fun x => strings_SplitAfterN x.1 x.2.1 x.2.2, fun _ => .own 0, fun y => [arO 9 y], fun _ _ => []⟩
theorem strings_SplitAfterN_c {s sep n y} (hm : strings_SplitAfterN s sep n = some y) : strings_SplitAfterN_M.C (s, sep, n) y := strings_SplitAfterN_M.c (s, sep, n) hm
theorem strings_SplitAfterN_ok : FnOK Tryd.prog tJ 20 strings_SplitAfterN_M.S := by
 refine fm tt strings_SplitAfterN_M [fo strings_genSplit_ok] Tryd.call20 Tryd.func20 rfl Tryd.results20 Tryd.ntmps20 ?_
 rintro ⟨s, sep, n⟩ y cx G hm
 have hm : strings_SplitAfterN s sep n = some y := hm
 unfold strings_SplitAfterN at hm
 refine rg G ?_
 obtain ⟨r, h, hm⟩ := obind hm
 refine rs G (hC 5 (strings_genSplit_c h) h0) ?_
 cases hm
 exact rt [112] []
noncomputable def strings_Split_M : MS (ByteArray × ByteArray) ((List ByteArray)) := ⟨.x .r .r, fun x => strings_Split x.1 x.2, fun _ => .own 0, fun y => [arO 9 y], fun _ _ => []⟩
theorem strings_Split_c {s sep y} (hm : strings_Split s sep = some y) : strings_Split_M.C (s, sep) y := strings_Split_M.c (s, sep) hm
theorem strings_Split_ok : FnOK Tryd.prog tJ 41 strings_Split_M.S := splitOK Tryd.lays146 (by kernel_rfl) Tryd.call41 (by kernel_rfl)
noncomputable def strings_Cut_M : MS (ByteArray × ByteArray) (ByteArray × ByteArray × Bool) := ⟨.x .r .r, fun x => strings_Cut x.1 x.2, fun y => .tup [dV y.1, dV y.2.1, dV y.2.2], fun _ => [], fun _ _ => []⟩
theorem strings_Cut_c {s sep y} (hm : strings_Cut s sep = some y) : strings_Cut_M.C (s, sep) y := strings_Cut_M.c (s, sep) hm
theorem strings_Cut_ok : FnOK Tryd.prog tJ 42 strings_Cut_M.S := cutOK Tryd.lays145 Tryd.call42 (by kernel_rfl)
noncomputable def strings_CutPrefix_M : MS (ByteArray × ByteArray) (ByteArray × Bool) := ⟨.x .r .r, fun x => strings_CutPrefix x.1 x.2, fun y => .tup [dV y.1, dV y.2], fun _ => [], fun _ _ => []⟩
theorem strings_CutPrefix_c {s prefix_ y} (hm : strings_CutPrefix s prefix_ = some y) : strings_CutPrefix_M.C (s, prefix_) y := strings_CutPrefix_M.c (s, prefix_) hm
theorem strings_CutPrefix_ok : FnOK Tryd.prog tJ 43 strings_CutPrefix_M.S := cutPrefixOK Tryd.lays103 Tryd.call43
noncomputable def strings_CutSuffix_M : MS (ByteArray × ByteArray) (ByteArray × Bool) := ⟨.x .r .r, fun x => strings_CutSuffix x.1 x.2, fun y => .tup [dV y.1, dV y.2], fun _ => [], fun _ _ => []⟩
theorem strings_CutSuffix_c {s suffix y} (hm : strings_CutSuffix s suffix = some y) : strings_CutSuffix_M.C (s, suffix) y := strings_CutSuffix_M.c (s, suffix) hm
theorem strings_CutSuffix_ok : FnOK Tryd.prog tJ 44 strings_CutSuffix_M.S := cutSuffixOK Tryd.lays104 Tryd.call44
noncomputable def i_fields_M : MS (ByteArray × ByteArray) ((List ByteArray) × Bool) := ⟨.x .r .r, fun x => i_fields x.1 x.2, fun y => .tup [dV y.1, dV y.2], fun _ => [], fun _ _ => []⟩
theorem i_fields_c {s pattern y} (hm : i_fields s pattern = some y) : i_fields_M.C (s, pattern) y := i_fields_M.c (s, pattern) hm
theorem i_fields_ok : FnOK Tryd.prog tJ 29 i_fields_M.S := by
 refine fm tt i_fields_M [fo strings_Split_ok, fo strings_Cut_ok, fo strings_CutPrefix_ok, fo strings_CutSuffix_ok] Tryd.call29 Tryd.func29 rfl Tryd.results29 Tryd.ntmps29 ?_
 rintro ⟨s, pattern⟩ y cx G hm
 have hm : i_fields s pattern = some y := hm
 unfold i_fields at hm
 refine rg G ?_
 obtain ⟨r, h, hm⟩ := obind hm
 obtain ⟨r1, h1, hm⟩ := obind hm
 refine rs G (hC 1 (strings_Split_c h) (hC 3 (strings_Split_c h1) h0)) ?_
 refine Ok_seq (rs G (hN 1 r (hN 3 r1 h0)) ?_)
 refine cd hm (fun hm => ?_) (fun hm => ?_)
 ·refine rg G ?_
  cases hm
  exact rt [] [[.z 1]]
 ·refine X_skip (thN (rg G (Ok_seq (rs G (hN 1 r1 h0) ?_))))
  refine tF hm (fun p2 => ⟨[(8, .own 16)], [aX 16 9 p2], 48⟩) (fun v4 hr hm => ?_) ?_
  ·refine Ok_block (lpP hm (fun (v, p) => ⟨[(6, .own 16), (8, .own 32), (27, .own 48), (28, dV (r1.length : Int)), (29, dV v)], [aX 16 9 r, aX 32 9 p, aX 48 9 r1], 80⟩) (Wk_J G.hL ⟨[(6, []), (8, [.o 32]), (27, []), (28, []), (29, [])], [(16, 64, []), (48, 96, [])], [(32, 9, 1, [])], 80⟩ (by kernel_rfl)) ?_)
   rintro ⟨v, p⟩ r0 hb hm
   rw [i_fields_L1] at hm
   refine rg G (Ok_seq (cd hm (fun hm => ?_) (fun hm => ?_)))
   ·refine X_skip (thN (jF hm (fun p1 => ⟨[(6, .own 16), (8, .own 32), (27, .own 48), (28, dV (r1.length : Int)), (29, dV v)], [aX 16 9 r, aX 32 9 p1, aX 48 9 r1], 80⟩) (fun v3 hr1 hm => ?_) ?_))
    ·refine Ok_block ?_
     obtain ⟨e, h2, hm⟩ := obind hm
     refine rs G (hD 1 h2 (hE 2 h2 h0)) ?_
     obtain ⟨r2, h3, hm⟩ := obind hm
     refine rs G (hC 1 (strings_Cut_c h3) h0) ?_
     obtain ⟨e1, h4, hm⟩ := obind hm
     refine rs G (hD 2 h4 (hE 3 h4 h0)) ?_
     refine Ok_block (jn hm (fun v1 => ⟨[(6, .own 16), (8, .own 32), (11, dV r2.1), (12, dV r2.2.1), (13, dV r2.2.2), (14, dV e1), (27, .own 48), (28, dV (r1.length : Int)), (29, dV v), (44, dV v1)], [aX 16 9 r, aX 32 9 p, aX 48 9 r1], 80⟩) (fun v1 hm => ?_) ?_)
     ·rcases bf hm with ⟨hb1, hm⟩ | ⟨hb1, hm⟩
      ·refine re G (hO 2 (.b true) (hP hb1 h0)) ?_
       exact wJ G hm
      ·refine re G (hO 2 (.b false) (hP hb1 h0)) ?_
       exact wJ G hm
     rintro v1 hm
     refine cd hm (fun hm => ?_) (fun hm => ?_)
     ·refine rg G ?_
      have hm := eR hm hr1
      have hm := eL hm hb hr
      cases hm
      exact rt [] [[.z 1]]
     ·refine rg G (cd hm (fun hm => ?_) (fun hm => ?_))
      ·obtain ⟨r5, h5, hm⟩ := obind hm
       refine rs G (hC 2 (strings_CutPrefix_c h5) h0) ?_
       obtain ⟨r6, h6, hm⟩ := obind hm
       refine rs G (hC 2 (strings_CutSuffix_c h6) h0) ?_
       refine Ok_seq (jn hm (fun v2 => ⟨[(6, .own 16), (8, .own 32), (15, dV r6.1), (27, .own 48), (28, dV (r1.length : Int)), (29, dV v), (71, dV v2)], [aX 16 9 r, aX 32 9 p, aX 48 9 r1], 80⟩) (fun v2 hm => ?_) ?_)
       ·rcases bf hm with ⟨hb2, hm⟩ | ⟨hb2, hm⟩
        ·refine re G (hO 2 (.b true) (hP hb2 h0)) ?_
         exact wJ G hm
        ·refine re G (hO 2 (.b false) (hP hb2 h0)) ?_
         exact wJ G hm
       rintro v2 hm
       refine cd hm (fun hm => ?_) (fun hm => ?_)
       ·refine rg G ?_
        have hm := eR hm hr1
        have hm := eL hm hb hr
        cases hm
        exact rt [] [[.z 1]]
       ·refine X_skip (thN ?_)
        obtain ⟨u, h7, hm⟩ := obind hm
        refine re G (hA 3 16 h7 h0) ?_
        exact ibN (ibN (wF G hm))
      ·exact X_skip (ibN (ibN (wF G hm)))
    rintro p1 hm
    exact rh G (wL G hm)
   ·exact Ok_exit (thE (thE (ibE (wE G hm hb))))
  rintro p2 hm s1 hw
  refine thN (Ok_weak hw ?_)
  refine rg G ?_
  cases hm
  exact rt [] []
noncomputable def i_natural_M : MS ByteArray (Int × ByteArray × Bool) := ⟨.r, i_natural, fun y => .tup [dV y.1, dV y.2.1, dV y.2.2], fun _ => [], fun _ _ => []⟩
theorem i_natural_c {s y} (hm : i_natural s = some y) : i_natural_M.C s y := i_natural_M.c s hm
theorem i_natural_ok : FnOK Tryd.prog tJ 45 i_natural_M.S := by
 refine fm tt i_natural_M [] Tryd.call45 Tryd.func45 rfl Tryd.results45 Tryd.ntmps45 ?_
 rintro s y cx G hm
 have hm : i_natural s = some y := hm
 unfold i_natural at hm
 refine rg G (rg G (jF hm (fun (i1, v3) => ⟨[(0, dV s), (5, dV i1), (6, dV v3)], [], 32⟩) (fun v4 hr hm => ?_) ?_))
 ·refine Ok_block (lp G hm (fun (i, v) => ⟨[(0, dV s), (5, dV i), (6, dV v)], [], 32⟩) ?_)
  rintro ⟨i, v⟩ r0 hb hm
  rw [i_natural_L1] at hm
  refine Ok_seq (jn hm (fun v1 => ⟨[(0, dV s), (5, dV i), (6, dV v), (22, dV v1)], [], 32⟩) (fun v1 hm => ?_) ?_)
  ·rcases bf hm with ⟨hb1, hm⟩ | ⟨hb1, hm⟩
   ·obtain ⟨u, h, hm⟩ := obind hm
    rcases bf hm with ⟨hb2, hm⟩ | ⟨hb2, hm⟩
    ·obtain ⟨u1, h1, hm⟩ := obind hm
     refine re G (hO 4 (.b true) (hP hb1 (hK h (hO 10 (.b true) (hP hb2 (hK h1 h0)))))) ?_
     exact wJ G hm
    ·refine re G (hO 4 (.b true) (hP hb1 (hK h (hO 10 (.b false) (hP hb2 h0))))) ?_
     exact wJ G hm
   ·refine re G (hO 4 (.b false) (hP hb1 h0)) ?_
    exact wJ G hm
  rintro v1 hm
  refine cd hm (fun hm => ?_) (fun hm => ?_)
  ·refine X_skip (thN (Ok_block (Ok_seq (jn hm (fun v2 => ⟨[(0, dV s), (5, dV i), (6, dV v), (32, dV v2)], [], 32⟩) (fun v2 hm => ?_) ?_))))
   ·rcases bf hm with ⟨hb3, hm⟩ | ⟨hb3, hm⟩
    ·refine re G (hO 2 (.b true) (hP hb3 h0)) ?_
     exact wJ G hm
    ·rcases bf hm with ⟨hb4, hm⟩ | ⟨hb4, hm⟩
     ·refine re G (hO 2 (.b false) (hP hb3 (hO 5 (.b true) (hP hb4 h0)))) ?_
      exact wJ G hm
     ·refine re G (hO 2 (.b false) (hP hb3 (hO 5 (.b false) (hP hb4 h0)))) ?_
      exact wJ G hm
   rintro v2 hm
   refine cd hm (fun hm => ?_) (fun hm => ?_)
   ·refine rg G ?_
    have hm := eL hm hb hr
    cases hm
    exact rt [] []
   ·refine X_skip (thN ?_)
    obtain ⟨u2, h2, hm⟩ := obind hm
    refine rs G (hK h2 h0) ?_
    exact rh G (ibN (wL G hm))
  ·exact Ok_exit (thE (thE (ibE (wE G hm hb))))
 rintro ⟨i1, v3⟩ hm
 obtain ⟨u4, h4, hm⟩ := obind hm
 refine ds G [] (hK h4 h0) ?_
 cases hm
 exact rt [] []
noncomputable def i_ParseInt_M : MS ByteArray (Int × Bool) := ⟨.r, i_ParseInt, fun y => .tup [dV y.1, dV y.2], fun _ => [], fun _ _ => []⟩
theorem i_ParseInt_c {s y} (hm : i_ParseInt s = some y) : i_ParseInt_M.C s y := i_ParseInt_M.c s hm
theorem i_ParseInt_ok : FnOK Tryd.prog tJ 30 i_ParseInt_M.S := by
 refine fm tt i_ParseInt_M [fo strings_CutPrefix_ok, fo i_natural_ok] Tryd.call30 Tryd.func30 rfl Tryd.results30 Tryd.ntmps30 ?_
 rintro s y cx G hm
 have hm : i_ParseInt s = some y := hm
 unfold i_ParseInt at hm
 refine rg G ?_
 obtain ⟨r, h, hm⟩ := obind hm
 refine rs G (hC 1 (strings_CutPrefix_c h) h0) ?_
 obtain ⟨r1, h1, hm⟩ := obind hm
 refine rs G (hC 1 (i_natural_c h1) h0) ?_
 refine Ok_seq (jn hm (fun v => ⟨[(5, dV r.2), (6, dV r1.1), (32, dV v)], [], 32⟩) (fun v hm => ?_) ?_)
 ·rcases bf hm with ⟨hb, hm⟩ | ⟨hb, hm⟩
  ·refine re G (hO 2 (.b true) (hP hb h0)) ?_
   exact wJ G hm
  ·rcases bf hm with ⟨hb1, hm⟩ | ⟨hb1, hm⟩
   ·refine re G (hO 2 (.b false) (hP hb (hO 6 (.b true) (hP hb1 h0)))) ?_
    exact wJ G hm
   ·rcases bf hm with ⟨hb2, hm⟩ | ⟨hb2, hm⟩
    ·refine re G (hO 2 (.b false) (hP hb (hO 6 (.b false) (hP hb1 (hO 8 (.b true) (hP hb2 h0)))))) ?_
     exact wJ G hm
    ·refine re G (hO 2 (.b false) (hP hb (hO 6 (.b false) (hP hb1 (hO 8 (.b false) (hP hb2 h0)))))) ?_
     exact wJ G hm
 rintro v hm
 refine cd hm (fun hm => ?_) (fun hm => ?_)
 ·refine rg G ?_
  cases hm
  exact rt [] []
 ·refine X_skip (thN (jn hm (fun rest => ⟨[(6, dV rest)], [], 32⟩) (fun rest hm => ?_) ?_))
  ·refine rg G (cd hm (fun hm => ?_) (fun hm => ?_))
   ·exact rh G (wJ G hm)
   ·exact X_skip (wJ G hm)
  rintro rest hm
  refine rg G ?_
  cases hm
  exact rt [] []
noncomputable def i_within_M : MS (Int × Int × Int) Bool := ⟨.x .r (.x .r .r), fun x => i_within x.1 x.2.1 x.2.2, fun y => dV y, fun _ => [], fun _ _ => []⟩
theorem i_within_c {n lo hi y} (hm : i_within n lo hi = some y) : i_within_M.C (n, lo, hi) y := i_within_M.c (n, lo, hi) hm
theorem i_within_ok : FnOK Tryd.prog tJ 33 i_within_M.S := by
 refine fm tt i_within_M [] Tryd.call33 Tryd.func33 rfl Tryd.results33 Tryd.ntmps33 ?_
 rintro ⟨n, lo, hi⟩ y cx G hm
 have hm : i_within n lo hi = some y := hm
 unfold i_within at hm
 refine rg G (jn hm (fun v => ⟨[(6, dV v)], [], 32⟩) (fun v hm => ?_) ?_)
 ·rcases bf hm with ⟨hb, hm⟩ | ⟨hb, hm⟩
  ·refine re G (hO 3 (.b true) (hP hb h0)) ?_
   exact wJ G hm
  ·refine re G (hO 3 (.b false) (hP hb h0)) ?_
   exact wJ G hm
 rintro v hm
 cases hm
 exact rt [] []
noncomputable def i_IsValidTime_M : MS Int Bool := ⟨.r, i_IsValidTime, fun y => dV y, fun _ => [], fun _ _ => []⟩
theorem i_IsValidTime_c {t y} (hm : i_IsValidTime t = some y) : i_IsValidTime_M.C t y := i_IsValidTime_M.c t hm
theorem i_IsValidTime_ok : FnOK Tryd.prog tJ 34 i_IsValidTime_M.S := by
 refine fm tt i_IsValidTime_M [fo i_within_ok] Tryd.call34 Tryd.func34 rfl Tryd.results34 Tryd.ntmps34 ?_
 rintro t y cx G hm
 have hm : i_IsValidTime t = some y := hm
 unfold i_IsValidTime at hm
 refine rg G ?_
 obtain ⟨r, h, hm⟩ := obind hm
 refine rs G (hC 1 (i_within_c h) h0) ?_
 cases hm
 exact rt [] []
noncomputable def i_ParseTime_M : MS ByteArray (Int × Bool) := ⟨.r, i_ParseTime, fun y => .tup [dV y.1, dV y.2], fun _ => [], fun _ _ => []⟩
theorem i_ParseTime_c {s y} (hm : i_ParseTime s = some y) : i_ParseTime_M.C s y := i_ParseTime_M.c s hm
theorem i_ParseTime_ok : FnOK Tryd.prog tJ 31 i_ParseTime_M.S := by
 refine fm tt i_ParseTime_M [fo i_IsValidTime_ok] Tryd.call31 Tryd.func31 rfl Tryd.results31 Tryd.ntmps31 ?_
 rintro s y cx G hm
 have hm : i_ParseTime s = some y := hm
 unfold i_ParseTime at hm
 refine rg G (Ok_seq (jn hm (fun v => ⟨[(0, dV s), (14, dV v)], [], 32⟩) (fun v hm => ?_) ?_))
 ·rcases bf hm with ⟨hb, hm⟩ | ⟨hb, hm⟩
  ·refine re G (hO 3 (.b true) (hP hb h0)) ?_
   exact wJ G hm
  ·obtain ⟨u, h, hm⟩ := obind hm
   refine re G (hO 3 (.b false) (hP hb (hK h h0))) ?_
   exact wJ G hm
 rintro v hm
 refine cd hm (fun hm => ?_) (fun hm => ?_)
 ·refine rg G ?_
  cases hm
  exact rt [] []
 ·refine X_skip (thN (Ok_seq (rg G (tF hm (fun _ => ⟨[(0, dV s)], [], 32⟩) (fun v4 hr hm => ?_) ?_))))
  ·refine Ok_block (lp G hm (fun v1 => ⟨[(0, dV s), (15, .dat (.agg [.sc (.int .i64 0), .sc (.int .i64 1), .sc (.int .i64 3), .sc (.int .i64 4)])), (16, dV v1)], [], 32⟩) ?_)
   rintro v1 r0 hb1 hm
   rw [i_ParseTime_L1] at hm
   refine rg G (Ok_seq (cd hm (fun hm => ?_) (fun hm => ?_)))
   ·refine X_skip (thN (Ok_seq (Ok_block ?_)))
    obtain ⟨u1, h2, hm⟩ := obind hm
    obtain ⟨e, h1, hm⟩ := obind hm
    refine ixS1 (ls := ([0, 1, 3, 4] : List Int)) (t := 62) (el := 3) (kk := .i64) (T := tyE62) (E := tyE3) (len := 4) (e := e) G (chk_t h2) h1 h0 ?_ (fun _ => ⟨rfl, rfl⟩)
    obtain ⟨u2, h3, hm⟩ := obind hm
    refine jn hm (fun v2 => ⟨[(0, dV s), (15, .dat (.agg [.sc (.int .i64 0), .sc (.int .i64 1), .sc (.int .i64 3), .sc (.int .i64 4)])), (16, dV v1), (28, dV v2)], [], 32⟩) (fun v2 hm => ?_) ?_
    ·rcases bf hm with ⟨hb2, hm⟩ | ⟨hb2, hm⟩
     ·refine re G (hK h3 (hO 4 (.b true) (hP hb2 h0))) ?_
      exact wJ G hm
     ·obtain ⟨u3, h4, hm⟩ := obind hm
      refine re G (hK h3 (hO 4 (.b false) (hP hb2 (hK h4 h0)))) ?_
      exact wJ G hm
    rintro v2 hm
    refine cd hm (fun hm => ?_) (fun hm => ?_)
    ·refine rg G ?_
     have hm := eL hm hb1 hr
     cases hm
     exact rt [] []
    ·exact X_skip (ibN (thN (rh G (wL G hm))))
   ·exact Ok_exit (thE (thE (ibE (wE G hm hb1))))
  rintro ⟨⟩ hm s1 hw
  refine thN (Ok_weak hw ?_)
  obtain ⟨u8, h9, hm⟩ := obind hm
  obtain ⟨u9, h10, hm⟩ := obind hm
  obtain ⟨u10, h11, hm⟩ := obind hm
  obtain ⟨u11, h12, hm⟩ := obind hm
  refine ds G [] (hK h9 (hK h10 (hK h11 (hK h12 h0)))) ?_
  refine Ok_seq ?_
  obtain ⟨u12, h13, hm⟩ := obind hm
  refine jn hm (fun v3 => ⟨[(6, dV (w64 ((w64 ((w64 ((w64 ((w64 ((w64 ((IntKind.u8.wrap (((s.data.toList.getD (0 : Int).toNat 0).toNat : Int) - 48)))) * 10)) + (w64 ((IntKind.u8.wrap (((s.data.toList.getD (1 : Int).toNat 0).toNat : Int) - 48)))))) * 60)) + (w64 ((w64 ((IntKind.u8.wrap (((s.data.toList.getD (3 : Int).toNat 0).toNat : Int) - 48)))) * 10)))) + (w64 ((IntKind.u8.wrap (((s.data.toList.getD (4 : Int).toNat 0).toNat : Int) - 48))))))), (59, dV v3)], [], 32⟩) (fun v3 hm => ?_) ?_
  ·rcases bf hm with ⟨hb3, hm⟩ | ⟨hb3, hm⟩
   ·refine re G (hK h13 (hO 3 (.b true) (hP hb3 h0))) ?_
    exact wJ G hm
   ·obtain ⟨r1, h14, hm⟩ := obind hm
    refine re G (hK h13 (hO 3 (.b false) (hP hb3 (hC 5 (i_IsValidTime_c h14) h0)))) ?_
    exact wJ G hm
  rintro v3 hm
  refine cd hm (fun hm => ?_) (fun hm => ?_)
  ·refine rg G ?_
   cases hm
   exact rt [] []
  ·refine X_skip (thN (rg G ?_))
   cases hm
   exact rt [] []
noncomputable def i_parseMessage_M : MS ByteArray Message := ⟨.r, i_parseMessage, fun y => dV y, fun _ => [], fun _ _ => []⟩
theorem i_parseMessage_c {s y} (hm : i_parseMessage s = some y) : i_parseMessage_M.C s y := i_parseMessage_M.c s hm
theorem i_parseMessage_ok : FnOK Tryd.prog tJ 15 i_parseMessage_M.S := by
 refine fm tt i_parseMessage_M [fo i_fields_ok, fo i_ParseInt_ok, fo i_ParseTime_ok] Tryd.call15 Tryd.func15 rfl Tryd.results15 Tryd.ntmps15 ?_
 rintro s y cx G hm
 have hm : i_parseMessage s = some y := hm
 unfold i_parseMessage at hm
 refine rg G (Ok_seq ?_)
 obtain ⟨r, h, hm⟩ := obind hm
 refine rs G (hC 1 (i_fields_c h) h0) ?_
 refine rg G (cd hm (fun hm => ?_) (fun hm => ?_))
 ·obtain ⟨e, h1, hm⟩ := obind hm
  obtain ⟨r1, h2, hm⟩ := obind hm
  refine rs G (hD 1 h1 (hC 3 (i_ParseInt_c h2) h0)) ?_
  obtain ⟨e1, h3, hm⟩ := obind hm
  refine rs G (hD 1 h3 h0) ?_
  cases hm
  exact rt [] []
 ·refine X_skip (thN (Ok_seq ?_))
  obtain ⟨r2, h4, hm⟩ := obind hm
  refine rs G (hC 1 (i_fields_c h4) h0) ?_
  refine rg G (cd hm (fun hm => ?_) (fun hm => ?_))
  ·obtain ⟨e2, h5, hm⟩ := obind hm
   obtain ⟨r3, h6, hm⟩ := obind hm
   refine rs G (hD 1 h5 (hC 3 (i_ParseTime_c h6) h0)) ?_
   obtain ⟨e3, h7, hm⟩ := obind hm
   refine rs G (hD 1 h7 h0) ?_
   cases hm
   exact rt [] []
  ·refine X_skip (thN (Ok_seq ?_))
   obtain ⟨r4, h8, hm⟩ := obind hm
   refine rs G (hC 1 (i_fields_c h8) h0) ?_
   refine rg G (cd hm (fun hm => ?_) (fun hm => ?_))
   ·obtain ⟨e4, h9, hm⟩ := obind hm
    obtain ⟨r5, h10, hm⟩ := obind hm
    refine rs G (hD 1 h9 (hC 3 (i_ParseTime_c h10) h0)) ?_
    obtain ⟨e5, h11, hm⟩ := obind hm
    obtain ⟨r6, h12, hm⟩ := obind hm
    refine rs G (hD 1 h11 (hC 3 (i_ParseTime_c h12) h0)) ?_
    obtain ⟨e6, h13, hm⟩ := obind hm
    refine rs G (hD 1 h13 h0) ?_
    cases hm
    exact rt [] []
   ·refine X_skip (thN (Ok_seq ?_))
    obtain ⟨r7, h14, hm⟩ := obind hm
    refine rs G (hC 1 (i_fields_c h14) h0) ?_
    refine rg G (cd hm (fun hm => ?_) (fun hm => ?_))
    ·obtain ⟨e7, h15, hm⟩ := obind hm
     obtain ⟨r8, h16, hm⟩ := obind hm
     refine rs G (hD 1 h15 (hC 3 (i_ParseTime_c h16) h0)) ?_
     obtain ⟨e8, h17, hm⟩ := obind hm
     obtain ⟨r9, h18, hm⟩ := obind hm
     refine rs G (hD 1 h17 (hC 3 (i_ParseTime_c h18) h0)) ?_
     obtain ⟨e11, h21, hm⟩ := obind hm
     obtain ⟨e12, h22, hm⟩ := obind hm
     refine ds G [(9, [16])] (hD 1 h21 (hD 4 h22 h0)) ?_
     cases hm
     exact rt [] []
    ·refine X_skip (thN (Ok_seq ?_))
     obtain ⟨r10, h23, hm⟩ := obind hm
     refine rs G (hC 1 (i_fields_c h23) h0) ?_
     refine rg G (cd hm (fun hm => ?_) (fun hm => ?_))
     ·obtain ⟨e13, h24, hm⟩ := obind hm
      obtain ⟨r11, h25, hm⟩ := obind hm
      refine rs G (hD 1 h24 (hC 3 (i_ParseTime_c h25) h0)) ?_
      obtain ⟨e14, h26, hm⟩ := obind hm
      refine rs G (hD 1 h26 h0) ?_
      cases hm
      exact rt [] []
     ·refine X_skip (thN (rg G ?_))
      cases hm
      exact rt [] []
noncomputable def i_isName_M : MS ByteArray Bool := ⟨.r, i_isName, fun y => dV y, fun _ => [], fun _ _ => []⟩
theorem i_isName_c {s y} (hm : i_isName s = some y) : i_isName_M.C s y := i_isName_M.c s hm
theorem i_isName_ok : FnOK Tryd.prog tJ 32 i_isName_M.S := by
 refine fm tt i_isName_M [] Tryd.call32 Tryd.func32 rfl Tryd.results32 Tryd.ntmps32 ?_
 rintro s y cx G hm
 have hm : i_isName s = some y := hm
 unfold i_isName at hm
 refine rg G (Ok_seq (jn hm (fun v => ⟨[(0, dV s), (12, dV v)], [], 32⟩) (fun v hm => ?_) ?_))
 ·rcases bf hm with ⟨hb, hm⟩ | ⟨hb, hm⟩
  ·refine re G (hO 3 (.b true) (hP hb h0)) ?_
   exact wJ G hm
  ·refine re G (hO 3 (.b false) (hP hb h0)) ?_
   exact wJ G hm
 rintro v hm
 refine cd hm (fun hm => ?_) (fun hm => ?_)
 ·refine rg G ?_
  cases hm
  exact rt [] []
 ·refine X_skip (thN (Ok_seq (rg G (tF hm (fun _ => ⟨[], [], 32⟩) (fun v4 hr hm => ?_) ?_))))
  ·refine Ok_block (lp G hm (fun v1 => ⟨[(0, dV s), (14, dV (s.size : Int)), (15, dV v1)], [], 32⟩) ?_)
   rintro v1 r0 hb1 hm
   rw [i_isName_L1] at hm
   refine rg G (Ok_seq (cd hm (fun hm => ?_) (fun hm => ?_)))
   ·refine X_skip (thN (Ok_seq (Ok_block (rg G ?_))))
    obtain ⟨u, h, hm⟩ := obind hm
    refine jn hm (fun v2 => ⟨[(0, dV s), (3, dV v1), (4, dV v2), (14, dV (s.size : Int)), (15, dV v1)], [], 32⟩) (fun v2 hm => ?_) ?_
    ·rcases bf hm with ⟨hb2, hm⟩ | ⟨hb2, hm⟩
     ·obtain ⟨u1, h1, hm⟩ := obind hm
      refine re G (hK h (hO 4 (.b true) (hP hb2 (hK h1 h0)))) ?_
      exact wJ G hm
     ·refine re G (hK h (hO 4 (.b false) (hP hb2 h0))) ?_
      exact wJ G hm
    rintro v2 hm
    refine jn hm (fun v3 => ⟨[(0, dV s), (14, dV (s.size : Int)), (15, dV v1), (45, dV v3)], [], 32⟩) (fun v3 hm => ?_) ?_
    ·rcases bf hm with ⟨hb3, hm⟩ | ⟨hb3, hm⟩
     ·rcases bf hm with ⟨hb4, hm⟩ | ⟨hb4, hm⟩
      ·refine re G (hO 2 (.b true) (hP hb3 (hO 5 (.b true) (hP hb4 h0)))) ?_
       exact wJ G hm
      ·obtain ⟨u2, h2, hm⟩ := obind hm
       rcases bf hm with ⟨hb5, hm⟩ | ⟨hb5, hm⟩
       ·refine re G (hO 2 (.b true) (hP hb3 (hO 5 (.b false) (hP hb4 (hK h2 (hO 11 (.b true) (hP hb5 h0))))))) ?_
        exact wJ G hm
       ·obtain ⟨u3, h3, hm⟩ := obind hm
        refine re G (hO 2 (.b true) (hP hb3 (hO 5 (.b false) (hP hb4 (hK h2 (hO 11 (.b false) (hP hb5 (hK h3 h0)))))))) ?_
        exact wJ G hm
     ·refine re G (hO 2 (.b false) (hP hb3 h0)) ?_
      exact wJ G hm
    rintro v3 hm
    refine cd hm (fun hm => ?_) (fun hm => ?_)
    ·refine rg G ?_
     have hm := eL hm hb1 hr
     cases hm
     exact rt [] []
    ·exact X_skip (ibN (thN (rh G (wL G hm))))
   ·exact Ok_exit (thE (thE (ibE (wE G hm hb1))))
  rintro ⟨⟩ hm s1 hw
  refine thN (Ok_weak hw ?_)
  refine rg G ?_
  cases hm
  exact rt [] []
noncomputable def i_isPeriod_M : MS Message Bool := ⟨.r, i_isPeriod, fun y => dV y, fun _ => [], fun _ _ => []⟩
theorem i_isPeriod_c {m y} (hm : i_isPeriod m = some y) : i_isPeriod_M.C m y := i_isPeriod_M.c m hm
theorem i_isPeriod_ok : FnOK Tryd.prog tJ 35 i_isPeriod_M.S := by
 refine fm tt i_isPeriod_M [fo i_IsValidTime_ok] Tryd.call35 Tryd.func35 rfl Tryd.results35 Tryd.ntmps35 ?_
 rintro m y cx G hm
 have hm : i_isPeriod m = some y := hm
 unfold i_isPeriod at hm
 refine rg G ?_
 obtain ⟨r, h, hm⟩ := obind hm
 refine jn hm (fun v => ⟨[(2, dV v)], [], 32⟩) (fun v hm => ?_) ?_
 ·rcases bf hm with ⟨hb, hm⟩ | ⟨hb, hm⟩
  ·obtain ⟨r1, h1, hm⟩ := obind hm
   rcases bf hm with ⟨hb1, hm⟩ | ⟨hb1, hm⟩
   ·refine re G (hC 2 (i_IsValidTime_c h) (hO 3 (.b true) (hP hb (hC 6 (i_IsValidTime_c h1) (hO 8 (.b true) (hP hb1 h0)))))) ?_
    exact wJ G hm
   ·refine re G (hC 2 (i_IsValidTime_c h) (hO 3 (.b true) (hP hb (hC 6 (i_IsValidTime_c h1) (hO 8 (.b false) (hP hb1 h0)))))) ?_
    exact wJ G hm
  ·refine re G (hC 2 (i_IsValidTime_c h) (hO 3 (.b false) (hP hb h0))) ?_
   exact wJ G hm
 rintro v hm
 cases hm
 exact rt [] []
noncomputable def i_IsValidMessage_M : MS Message Bool := ⟨.r, i_IsValidMessage, fun y => dV y, fun _ => [], fun _ _ => []⟩
theorem i_IsValidMessage_c {m y} (hm : i_IsValidMessage m = some y) : i_IsValidMessage_M.C m y := i_IsValidMessage_M.c m hm
theorem i_IsValidMessage_ok : FnOK Tryd.prog tJ 16 i_IsValidMessage_M.S := by
 refine fm tt i_IsValidMessage_M [fo i_isName_ok, fo i_within_ok, fo i_IsValidTime_ok, fo i_isPeriod_ok] Tryd.call16 Tryd.func16 rfl Tryd.results16 Tryd.ntmps16 ?_
 rintro m y cx G hm
 have hm : i_IsValidMessage m = some y := hm
 unfold i_IsValidMessage at hm
 refine rg G (rg G (jF hm (fun (v, v1, v2, v3, v4) => ⟨[(1, .ref 16 0), (3, .ref 32 0)], [bX 16 23 [dV m.Kind, dV m.Line, dV m.Stop, dV m.From, dV m.To, dV m.Minutes], bX 32 23 [dV m.Kind, dV v, dV v1, dV v2, dV v3, dV v4]], 64⟩) (fun v10 hr hm => ?_) ?_))
 ·refine rg G (Ok_block (rg G (cd hm (fun hm => ?_) (fun hm => ?_))))
  ·refine rg G ?_
   obtain ⟨r, h, hm⟩ := obind hm
   refine jn hm (fun v5 => ⟨[(1, .ref 16 0), (3, .ref 32 0), (20, dV v5)], [bX 16 23 [dV m.Kind, dV m.Line, dV m.Stop, dV m.From, dV m.To, dV m.Minutes], bX 32 23 [dV m.Kind, dV (str []), dV m.Stop, dV m.From, dV m.To, kV .i64 0]], 64⟩) (fun v5 hm => ?_) ?_
   ·rcases bf hm with ⟨hb, hm⟩ | ⟨hb, hm⟩
    ·refine re G (hC 2 (i_isName_c h) (hO 4 (.b true) (hP hb h0))) ?_
     exact wJ G hm
    ·obtain ⟨r1, h1, hm⟩ := obind hm
     refine re G (hC 2 (i_isName_c h) (hO 4 (.b false) (hP hb (hC 7 (i_within_c h1) h0)))) ?_
     exact wJ G hm
   rintro v5 hm
   refine cd hm (fun hm => ?_) (fun hm => ?_)
   ·refine rg G ?_
    have hm := eR hm hr
    cases hm
    exact rt [] []
   ·exact X_skip (ibN (wF G hm))
  ·refine jn hm (fun v6 => ⟨[(1, .ref 16 0), (3, .ref 32 0), (6, dV m.Kind), (21, dV v6)], [bX 16 23 [dV m.Kind, dV m.Line, dV m.Stop, dV m.From, dV m.To, dV m.Minutes], bX 32 23 [dV m.Kind, dV m.Line, dV m.Stop, dV m.From, dV m.To, dV m.Minutes]], 64⟩) (fun v6 hm => ?_) ?_
   ·refine rg G (cd hm (fun hm => ?_) (fun hm => ?_))
    ·exact X_skip (wJ G hm)
    ·exact rh G (wJ G hm)
   rintro v6 hm
   refine cd hm (fun hm => ?_) (fun hm => ?_)
   ·refine rg G ?_
    obtain ⟨r3, h2, hm⟩ := obind hm
    refine jn hm (fun v7 => ⟨[(1, .ref 16 0), (3, .ref 32 0), (35, dV v7)], [bX 16 23 [dV m.Kind, dV m.Line, dV m.Stop, dV m.From, dV m.To, dV m.Minutes], bX 32 23 [dV m.Kind, dV (str []), dV m.Stop, kV .i64 0, dV m.To, dV m.Minutes]], 64⟩) (fun v7 hm => ?_) ?_
    ·rcases bf hm with ⟨hb1, hm⟩ | ⟨hb1, hm⟩
     ·refine re G (hC 2 (i_isName_c h2) (hO 4 (.b true) (hP hb1 h0))) ?_
      exact wJ G hm
     ·obtain ⟨r4, h3, hm⟩ := obind hm
      refine re G (hC 2 (i_isName_c h2) (hO 4 (.b false) (hP hb1 (hC 7 (i_IsValidTime_c h3) h0)))) ?_
      exact wJ G hm
    rintro v7 hm
    refine cd hm (fun hm => ?_) (fun hm => ?_)
    ·refine rg G ?_
     have hm := eR hm hr
     cases hm
     exact rt [] []
    ·exact X_skip (ibN (wF G hm))
   ·refine rg G (cd hm (fun hm => ?_) (fun hm => ?_))
    ·refine rg G ?_
     obtain ⟨r6, h4, hm⟩ := obind hm
     refine jn hm (fun v8 => ⟨[(1, .ref 16 0), (3, .ref 32 0), (49, dV v8)], [bX 16 23 [dV m.Kind, dV m.Line, dV m.Stop, dV m.From, dV m.To, dV m.Minutes], bX 32 23 [dV m.Kind, dV m.Line, dV (str []), kV .i64 0, kV .i64 0, dV m.Minutes]], 64⟩) (fun v8 hm => ?_) ?_
     ·rcases bf hm with ⟨hb2, hm⟩ | ⟨hb2, hm⟩
      ·refine re G (hC 2 (i_isName_c h4) (hO 4 (.b true) (hP hb2 h0))) ?_
       exact wJ G hm
      ·obtain ⟨r7, h5, hm⟩ := obind hm
       refine re G (hC 2 (i_isName_c h4) (hO 4 (.b false) (hP hb2 (hC 6 (i_isPeriod_c h5) h0)))) ?_
       exact wJ G hm
     rintro v8 hm
     refine cd hm (fun hm => ?_) (fun hm => ?_)
     ·refine rg G ?_
      have hm := eR hm hr
      cases hm
      exact rt [] []
     ·exact X_skip (ibN (wF G hm))
    ·refine rg G (cd hm (fun hm => ?_) (fun hm => ?_))
     ·refine rg G ?_
      obtain ⟨r9, h6, hm⟩ := obind hm
      refine jn hm (fun v9 => ⟨[(1, .ref 16 0), (3, .ref 32 0), (70, dV v9)], [bX 16 23 [dV m.Kind, dV m.Line, dV m.Stop, dV m.From, dV m.To, dV m.Minutes], bX 32 23 [dV m.Kind, dV (str []), dV (str []), kV .i64 0, kV .i64 0, dV m.Minutes]], 64⟩) (fun v9 hm => ?_) ?_
      ·rcases bf hm with ⟨hb3, hm⟩ | ⟨hb3, hm⟩
       ·refine re G (hC 2 (i_isName_c h6) (hO 4 (.b true) (hP hb3 h0))) ?_
        exact wJ G hm
       ·obtain ⟨r10, h7, hm⟩ := obind hm
        rcases bf hm with ⟨hb4, hm⟩ | ⟨hb4, hm⟩
        ·refine re G (hC 2 (i_isName_c h6) (hO 4 (.b false) (hP hb3 (hC 7 (i_isName_c h7) (hO 10 (.b true) (hP hb4 h0)))))) ?_
         exact wJ G hm
        ·obtain ⟨r11, h8, hm⟩ := obind hm
         refine re G (hC 2 (i_isName_c h6) (hO 4 (.b false) (hP hb3 (hC 7 (i_isName_c h7) (hO 10 (.b false) (hP hb4 (hC 12 (i_isPeriod_c h8) h0))))))) ?_
         exact wJ G hm
      rintro v9 hm
      refine cd hm (fun hm => ?_) (fun hm => ?_)
      ·refine rg G ?_
       have hm := eR hm hr
       cases hm
       exact rt [] []
      ·exact X_skip (ibN (wF G hm))
     ·refine rg G ?_
      have hm := eR hm hr
      cases hm
      exact rt [] []
 rintro ⟨v, v1, v2, v3, v4⟩ hm
 refine rg G ?_
 cases hm
 exact rt [] []
noncomputable def strconv_Itoa_M : MS Int ByteArray := ⟨.r, strconv_Itoa, fun y => dV y, fun _ => [], fun _ _ => []⟩
theorem strconv_Itoa_c {i y} (hm : strconv_Itoa i = some y) : strconv_Itoa_M.C i y := strconv_Itoa_M.c i hm
theorem strconv_Itoa_ok : FnOK Tryd.prog tJ 36 strconv_Itoa_M.S := itoaOK Tryd.laysM171 Tryd.call36 (g := 1) (by kernel_rfl)
noncomputable def i_clockText_1_M : MS Int ByteArray := ⟨.r, i_clockText_1, fun y => dV y, fun _ => [], fun _ _ => []⟩
theorem i_clockText_1_c {n y} (hm : i_clockText_1 n = some y) : i_clockText_1_M.C n y := i_clockText_1_M.c n hm
theorem i_clockText_1_ok : FnOK Tryd.prog tJ 47 i_clockText_1_M.S := by
 refine fm tt i_clockText_1_M [] Tryd.call47 Tryd.func47 rfl Tryd.results47 Tryd.ntmps47 ?_
 rintro n y cx G hm
 have hm : i_clockText_1 n = some y := hm
 unfold i_clockText_1 at hm
 refine rg G ?_
 obtain ⟨u, h, hm⟩ := obind hm
 obtain ⟨u1, h1, hm⟩ := obind hm
 refine rs G (hK h (hO 3 (.n ((mkU8 (IntKind.u8.wrap ((w64 (48 + (w64 (n.tdiv 10))))))).toNat : Int)) (hP (u8w_m (w64 (48 + (w64 (n.tdiv 10))))) (hK h1 (hO 7 (.n ((mkU8 (IntKind.u8.wrap ((w64 (48 + (n.tmod 10)))))).toNat : Int)) (hP (u8w_m (w64 (48 + (n.tmod 10)))) (hO 9 (.s (bytS ([(mkU8 (IntKind.u8.wrap ((w64 (48 + (w64 (n.tdiv 10))))))), (mkU8 (IntKind.u8.wrap ((w64 (48 + (n.tmod 10))))))] : List UInt8))) (hP (byt_p ([(mkU8 (IntKind.u8.wrap ((w64 (48 + (w64 (n.tdiv 10))))))), (mkU8 (IntKind.u8.wrap ((w64 (48 + (n.tmod 10))))))] : List UInt8)) (hP (byt_m ([(mkU8 (IntKind.u8.wrap ((w64 (48 + (w64 (n.tdiv 10))))))), (mkU8 (IntKind.u8.wrap ((w64 (48 + (n.tmod 10))))))] : List UInt8)) h0))))))))) ?_
 cases hm
 exact rt [] []
noncomputable def i_clockText_M : MS Int ByteArray := ⟨.r, i_clockText, fun y => dV y, fun _ => [], fun _ _ => []⟩
theorem i_clockText_c {t y} (hm : i_clockText t = some y) : i_clockText_M.C t y := i_clockText_M.c t hm
theorem i_clockText_ok : FnOK Tryd.prog tJ 37 i_clockText_M.S := by
 refine fm tt i_clockText_M [fo i_clockText_1_ok] Tryd.call37 Tryd.func37 rfl Tryd.results37 Tryd.ntmps37 ?_
 rintro t y cx G hm
 have hm : i_clockText t = some y := hm
 unfold i_clockText at hm
 refine rg G (rg G ?_)
 obtain ⟨u, h, hm⟩ := obind hm
 obtain ⟨r, h1, hm⟩ := obind hm
 obtain ⟨u1, h2, hm⟩ := obind hm
 obtain ⟨u2, h3, hm⟩ := obind hm
 obtain ⟨r1, h4, hm⟩ := obind hm
 obtain ⟨u3, h5, hm⟩ := obind hm
 refine rs G (hK h (hC 3 (i_clockText_1_c h1) (hP (cat_p (chk_t h2)) (hK h3 (hC 8 (i_clockText_1_c h4) (hP (cat_p (chk_t h5)) h0)))))) ?_
 cases hm
 exact rt [] []
noncomputable def i_messageText_M : MS Message ByteArray := ⟨.r, i_messageText, fun y => dV y, fun _ => [], fun _ _ => []⟩
theorem i_messageText_c {m y} (hm : i_messageText m = some y) : i_messageText_M.C m y := i_messageText_M.c m hm
theorem i_messageText_ok : FnOK Tryd.prog tJ 17 i_messageText_M.S := by
 refine fm tt i_messageText_M [fo strconv_Itoa_ok, fo i_clockText_ok] Tryd.call17 Tryd.func17 rfl Tryd.results17 Tryd.ntmps17 ?_
 rintro m y cx G hm
 have hm : i_messageText m = some y := hm
 unfold i_messageText at hm
 refine rg G (Ok_seq (rg G (Ok_block (rg G (cd hm (fun hm => ?_) (fun hm => ?_))))))
 ·refine rg G (jn hm (fun v => ⟨[(1, .ref 16 0), (3, dV v)], [bX 16 23 [dV m.Kind, dV m.Line, dV m.Stop, dV m.From, dV m.To, dV m.Minutes]], 48⟩) (fun v hm => ?_) ?_)
  ·refine rg G (cd hm (fun hm => ?_) (fun hm => ?_))
   ·exact rh G (wJ G hm)
   ·exact X_skip (wJ G hm)
  rintro v hm
  obtain ⟨u4, h5, hm⟩ := obind hm
  obtain ⟨u5, h6, hm⟩ := obind hm
  obtain ⟨r1, h7, hm⟩ := obind hm
  obtain ⟨u6, h8, hm⟩ := obind hm
  obtain ⟨u7, h9, hm⟩ := obind hm
  refine ds G [] (hP (cat_p (chk_t h5)) (hP (cat_p (chk_t h6)) (hC 6 (strconv_Itoa_c h7) (hP (cat_p (chk_t h8)) (hP (cat_p (chk_t h9)) h0))))) ?_
  cases hm
  exact rt [] []
 ·refine rg G (cd hm (fun hm => ?_) (fun hm => ?_))
  ·obtain ⟨u12, h15, hm⟩ := obind hm
   obtain ⟨u13, h16, hm⟩ := obind hm
   obtain ⟨r3, h17, hm⟩ := obind hm
   obtain ⟨u14, h18, hm⟩ := obind hm
   obtain ⟨u15, h19, hm⟩ := obind hm
   refine ds G [] (hP (cat_p (chk_t h15)) (hP (cat_p (chk_t h16)) (hC 6 (i_clockText_c h17) (hP (cat_p (chk_t h18)) (hP (cat_p (chk_t h19)) h0))))) ?_
   cases hm
   exact rt [] []
  ·refine rg G (cd hm (fun hm => ?_) (fun hm => ?_))
   ·obtain ⟨u22, h28, hm⟩ := obind hm
    obtain ⟨u23, h29, hm⟩ := obind hm
    obtain ⟨r6, h30, hm⟩ := obind hm
    obtain ⟨u24, h31, hm⟩ := obind hm
    obtain ⟨u25, h32, hm⟩ := obind hm
    obtain ⟨r7, h33, hm⟩ := obind hm
    obtain ⟨u26, h34, hm⟩ := obind hm
    obtain ⟨u27, h35, hm⟩ := obind hm
    refine ds G [] (hP (cat_p (chk_t h28)) (hP (cat_p (chk_t h29)) (hC 6 (i_clockText_c h30) (hP (cat_p (chk_t h31)) (hP (cat_p (chk_t h32)) (hC 11 (i_clockText_c h33) (hP (cat_p (chk_t h34)) (hP (cat_p (chk_t h35)) h0)))))))) ?_
    cases hm
    exact rt [] []
   ·refine rg G (cd hm (fun hm => ?_) (fun hm => ?_))
    ·obtain ⟨r10, h46, hm⟩ := obind hm
     obtain ⟨u36, h47, hm⟩ := obind hm
     obtain ⟨u37, h48, hm⟩ := obind hm
     obtain ⟨r11, h49, hm⟩ := obind hm
     obtain ⟨u38, h50, hm⟩ := obind hm
     obtain ⟨u39, h51, hm⟩ := obind hm
     obtain ⟨u40, h52, hm⟩ := obind hm
     obtain ⟨u41, h53, hm⟩ := obind hm
     obtain ⟨u42, h54, hm⟩ := obind hm
     obtain ⟨u43, h55, hm⟩ := obind hm
     refine ds G [] (hC 2 (i_clockText_c h46) (hP (cat_p (chk_t h47)) (hP (cat_p (chk_t h48)) (hC 7 (i_clockText_c h49) (hP (cat_p (chk_t h50)) (hP (cat_p (chk_t h51)) (hP (cat_p (chk_t h52)) (hP (cat_p (chk_t h53)) (hP (cat_p (chk_t h54)) (hP (cat_p (chk_t h55)) h0)))))))))) ?_
     cases hm
     exact rt [] []
    ·refine X_skip (ibN (thN ?_))
     obtain ⟨u48, h61, hm⟩ := obind hm
     obtain ⟨u49, h62, hm⟩ := obind hm
     obtain ⟨r13, h63, hm⟩ := obind hm
     obtain ⟨u50, h64, hm⟩ := obind hm
     obtain ⟨u51, h65, hm⟩ := obind hm
     refine ds G [] (hP (cat_p (chk_t h61)) (hP (cat_p (chk_t h62)) (hC 6 (i_clockText_c h63) (hP (cat_p (chk_t h64)) (hP (cat_p (chk_t h65)) h0))))) ?_
     cases hm
     exact rt [] []
noncomputable def i_ParseMessage_M : MS ByteArray (Message × Bool) := ⟨.r, i_ParseMessage, fun y => .tup [dV y.1, dV y.2], fun _ => [], fun _ _ => []⟩
theorem i_ParseMessage_c {s y} (hm : i_ParseMessage s = some y) : i_ParseMessage_M.C s y := i_ParseMessage_M.c s hm
theorem i_ParseMessage_ok : FnOK Tryd.prog tJ 6 i_ParseMessage_M.S := by
 refine fm tt i_ParseMessage_M [fo i_parseMessage_ok, fo i_IsValidMessage_ok, fo i_messageText_ok] Tryd.call6 Tryd.func6 rfl Tryd.results6 Tryd.ntmps6 ?_
 rintro s y cx G hm
 have hm : i_ParseMessage s = some y := hm
 unfold i_ParseMessage at hm
 refine rg G ?_
 obtain ⟨r, h, hm⟩ := obind hm
 refine rs G (hC 1 (i_parseMessage_c h) h0) ?_
 refine Ok_seq ?_
 obtain ⟨r1, h1, hm⟩ := obind hm
 refine jn hm (fun v => ⟨[(2, .ref 16 0), (4, .ref 32 0), (15, dV v)], [bX 16 23 [kV .i64 0, dV ByteArray.empty, dV ByteArray.empty, kV .i64 0, kV .i64 0, kV .i64 0], bX 32 23 [dV r.Kind, dV r.Line, dV r.Stop, dV r.From, dV r.To, dV r.Minutes]], 64⟩) (fun v hm => ?_) ?_
 ·rcases bf hm with ⟨hb, hm⟩ | ⟨hb, hm⟩
  ·refine re G (hC 1 (i_IsValidMessage_c h1) (hO 3 (.b true) (hP hb h0))) ?_
   exact wJ G hm
  ·obtain ⟨r2, h2, hm⟩ := obind hm
   refine re G (hC 1 (i_IsValidMessage_c h1) (hO 3 (.b false) (hP hb (hC 5 (i_messageText_c h2) h0)))) ?_
   exact wJ G hm
 rintro v hm
 refine cd hm (fun hm => ?_) (fun hm => ?_)
 ·refine rg G ?_
  cases hm
  exact rt [] []
 ·refine X_skip (thN (rg G ?_))
  cases hm
  exact rt [] []
noncomputable def i_ParseNotice_M : MS ByteArray ((List Message) × Bool) := ⟨.r, i_ParseNotice, fun y => .tup [.own 0, dV y.2], fun y => [arO 23 y.1], fun _ _ => []⟩
theorem i_ParseNotice_c {s y} (hm : i_ParseNotice s = some y) : i_ParseNotice_M.C s y := i_ParseNotice_M.c s hm
theorem i_ParseNotice_ok : FnOK Tryd.prog tJ 9 i_ParseNotice_M.S := by
 refine fm tt i_ParseNotice_M [fo strings_SplitAfterN_ok, fo i_ParseMessage_ok] Tryd.call9 Tryd.func9 rfl Tryd.results9 Tryd.ntmps9 ?_
 rintro s y cx G hm
 have hm : i_ParseNotice s = some y := hm
 unfold i_ParseNotice at hm
 refine rg G (Ok_seq (rg G (cd hm (fun hm => ?_) (fun hm => ?_))))
 ·refine rg G ?_
  cases hm
  refine wR (x' := ⟨[(2, .own 16), (3, dV true)], [aX 16 23 ([] : List Message)], 48⟩) (Wk_J G.hL ⟨[(2, [.o 16]), (3, [])], [], [(16, 23, 6, [])], 48⟩ (by kernel_rfl)) ?_
  exact rt [16] []
 ·refine X_skip (thN ?_)
  obtain ⟨r, h, hm⟩ := obind hm
  refine rs G (hC 1 (strings_SplitAfterN_c h) h0) ?_
  refine rg G (Ok_seq (rs G (hN 1 r h0) ?_))
  refine tF hm (fun i1 => ⟨[(5, .own 16)], [aX 16 23 i1], 48⟩) (fun v2 hr hm => ?_) ?_
  ·refine Ok_block (lpP hm (fun (v, i) => ⟨[(4, .own 16), (5, .own 32), (14, .own 16), (15, dV (r.length : Int)), (16, dV v)], [aX 16 9 r, aX 32 23 i], 64⟩) (Wk_J G.hL ⟨[(4, []), (5, [.o 32]), (14, []), (15, []), (16, [])], [(16, 96, [])], [(32, 23, 6, [])], 64⟩ (by kernel_rfl)) ?_)
   rintro ⟨v, i⟩ r0 hb hm
   rw [i_ParseNotice_L1] at hm
   refine rg G (Ok_seq (cd hm (fun hm => ?_) (fun hm => ?_)))
   ·refine X_skip (thN (Ok_seq (Ok_block ?_)))
    obtain ⟨e, h1, hm⟩ := obind hm
    refine rs G (hD 1 h1 (hE 2 h1 h0)) ?_
    refine jn hm (fun m => ⟨[(4, .own 16), (5, .own 32), (7, dV m), (14, .own 16), (15, dV (r.length : Int)), (16, dV v)], [aX 16 9 r, aX 32 23 i], 64⟩) (fun m hm => ?_) ?_
    ·refine rs G (hN 2 r h0) ?_
     refine cd hm (fun hm => ?_) (fun hm => ?_)
     ·obtain ⟨u, h2, hm⟩ := obind hm
      refine re G (hK h2 h0) ?_
      exact wJ G hm
     ·exact X_skip (wJ G hm)
    rintro m hm
    obtain ⟨r1, h3, hm⟩ := obind hm
    refine rs G (hC 1 (i_ParseMessage_c h3) h0) ?_
    refine Ok_seq (jn hm (fun v1 => ⟨[(4, .own 16), (5, .own 32), (8, .ref 48 0), (14, .own 16), (15, dV (r.length : Int)), (16, dV v), (42, dV v1)], [aX 16 9 r, aX 32 23 i, bX 48 23 [dV r1.1.Kind, dV r1.1.Line, dV r1.1.Stop, dV r1.1.From, dV r1.1.To, dV r1.1.Minutes]], 80⟩) (fun v1 hm => ?_) ?_)
    ·rcases bf hm with ⟨hb1, hm⟩ | ⟨hb1, hm⟩
     ·refine re G (hO 2 (.b true) (hP hb1 h0)) ?_
      exact wJ G hm
     ·refine re G (hO 2 (.b false) (hP hb1 (hN 4 i h0))) ?_
      exact wJ G hm
    rintro v1 hm
    refine cd hm (fun hm => ?_) (fun hm => ?_)
    ·refine rg G ?_
     have hm := eL hm hb hr
     cases hm
     refine wR (x' := ⟨[(2, .own 16), (3, dV false)], [aX 16 23 ([] : List Message)], 48⟩) (Wk_J G.hL ⟨[(2, [.o 16]), (3, [])], [], [(16, 23, 6, [])], 48⟩ (by kernel_rfl)) ?_
     exact rt [16] []
    ·refine X_skip (thN ?_)
     obtain ⟨u1, h4, hm⟩ := obind hm
     refine re G (hA 3 64 h4 h0) ?_
     exact ibN (thN (rh G (wL G hm)))
   ·exact Ok_exit (thE (thE (ibE (wE G hm hb))))
  rintro i1 hm s1 hw
  refine thN (Ok_weak hw ?_)
  refine rg G ?_
  cases hm
  exact rt [16] []
noncomputable def v_eqMessage_M : MS (Message × Message) Bool := ⟨.x .r .r, fun x => v_eqMessage x.1 x.2, fun y => dV y, fun _ => [], fun _ _ => []⟩
theorem v_eqMessage_c {a b y} (hm : v_eqMessage a b = some y) : v_eqMessage_M.C (a, b) y := v_eqMessage_M.c (a, b) hm
theorem v_eqMessage_ok : FnOK Tryd.prog tJ 7 v_eqMessage_M.S := by
 refine fm tt v_eqMessage_M [] Tryd.call7 Tryd.func7 rfl Tryd.results7 Tryd.ntmps7 ?_
 rintro ⟨a, b⟩ y cx G hm
 have hm : v_eqMessage a b = some y := hm
 unfold v_eqMessage at hm
 refine rg G (Ok_seq (rg G (cd hm (fun hm => ?_) (fun hm => ?_))))
 ·refine rg G ?_
  cases hm
  exact rt [] []
 ·refine X_skip (thN (Ok_seq (rg G (cd hm (fun hm => ?_) (fun hm => ?_)))))
  ·refine rg G ?_
   cases hm
   exact rt [] []
  ·refine X_skip (thN (Ok_seq (rg G (cd hm (fun hm => ?_) (fun hm => ?_)))))
   ·refine rg G ?_
    cases hm
    exact rt [] []
   ·refine X_skip (thN (Ok_seq (rg G (cd hm (fun hm => ?_) (fun hm => ?_)))))
    ·refine rg G ?_
     cases hm
     exact rt [] []
    ·refine X_skip (thN (Ok_seq (rg G (cd hm (fun hm => ?_) (fun hm => ?_)))))
     ·refine rg G ?_
      cases hm
      exact rt [] []
     ·refine X_skip (thN (Ok_seq (rg G (cd hm (fun hm => ?_) (fun hm => ?_)))))
      ·refine rg G ?_
       cases hm
       exact rt [] []
      ·refine X_skip (thN (rg G ?_))
       cases hm
       exact rt [] []
noncomputable def v_eqMessageS_M : MS ((List Message) × (List Message)) Bool := ⟨.x .r .r, fun x => v_eqMessageS x.1 x.2, fun y => dV y, fun _ => [], fun _ _ => []⟩
theorem v_eqMessageS_c {a b y} (hm : v_eqMessageS a b = some y) : v_eqMessageS_M.C (a, b) y := v_eqMessageS_M.c (a, b) hm
theorem v_eqMessageS_ok : FnOK Tryd.prog tJ 10 v_eqMessageS_M.S := by
 refine fm tt v_eqMessageS_M [fo v_eqMessage_ok] Tryd.call10 Tryd.func10 rfl Tryd.results10 Tryd.ntmps10 ?_
 rintro ⟨a, b⟩ y cx G hm
 have hm : v_eqMessageS a b = some y := hm
 unfold v_eqMessageS at hm
 refine rg G (Ok_seq (rs G (hN 1 a (hN 3 b h0)) ?_))
 refine cd hm (fun hm => ?_) (fun hm => ?_)
 ·refine rg G ?_
  cases hm
  exact rt [] []
 ·refine X_skip (thN (Ok_seq (rg G (tF hm (fun _ => ⟨[], [], 32⟩) (fun v1 hr hm => ?_) ?_))))
  ·refine Ok_block (lp G hm (fun v => ⟨[(0, dV a), (1, dV b), (5, dV v)], [], 32⟩) ?_)
   rintro v r0 hb hm
   rw [v_eqMessageS_L1] at hm
   refine Ok_seq (rs G (hN 2 a h0) ?_)
   refine cd hm (fun hm => ?_) (fun hm => ?_)
   ·refine X_skip (thN (Ok_seq (Ok_block ?_)))
    obtain ⟨e2, h3, hm⟩ := obind hm
    obtain ⟨e3, h4, hm⟩ := obind hm
    obtain ⟨r1, h5, hm⟩ := obind hm
    refine ds G [] (hD 2 h3 (hD 6 h4 (hC 8 (v_eqMessage_c h5) h0))) ?_
    refine cd hm (fun hm => ?_) (fun hm => ?_)
    ·refine rg G ?_
     have hm := eL hm hb hr
     cases hm
     exact rt [] []
    ·exact X_skip (ibN (thN (rh G (wL G hm))))
   ·exact Ok_exit (thE (thE (ibE (wE G hm hb))))
  rintro ⟨⟩ hm s hw
  refine thN (Ok_weak hw ?_)
  refine rg G ?_
  cases hm
  exact rt [] []
noncomputable def v_markText_M : MS Int ByteArray := ⟨.r, v_markText, fun y => dV y, fun _ => [], fun _ _ => []⟩
theorem v_markText_c {k y} (hm : v_markText k = some y) : v_markText_M.C k y := v_markText_M.c k hm
theorem v_markText_ok : FnOK Tryd.prog tJ 21 v_markText_M.S := by
 refine fm tt v_markText_M [] Tryd.call21 Tryd.func21 rfl Tryd.results21 Tryd.ntmps21 ?_
 rintro k y cx G hm
 have hm : v_markText k = some y := hm
 unfold v_markText at hm
 refine rg G (Ok_seq (rg G (cd hm (fun hm => ?_) (fun hm => ?_))))
 ·refine rg G ?_
  cases hm
  exact rt [] []
 ·refine X_skip (thN (rg G (jn hm (fun v1 => ⟨[(3, dV v1)], [], 32⟩) (fun v1 hm => ?_) ?_)))
  ·refine Ok_block (lp G hm (fun (k1, v) => ⟨[(0, dV k1), (3, dV v)], [], 32⟩) ?_)
   rintro ⟨k1, v⟩ r0 hb hm
   rw [v_markText_L1] at hm
   refine Ok_seq (rg G (cd hm (fun hm => ?_) (fun hm => ?_)))
   ·refine X_skip (thN (Ok_block ?_))
    obtain ⟨u, h, hm⟩ := obind hm
    obtain ⟨u1, h1, hm⟩ := obind hm
    refine rs G (hK h (hO 3 (.n ((mkU8 (IntKind.u8.wrap ((w64 (48 + (k1.tmod 10)))))).toNat : Int)) (hP (u8w_m (w64 (48 + (k1.tmod 10)))) (hO 5 (.s (bytS ([(mkU8 (IntKind.u8.wrap ((w64 (48 + (k1.tmod 10))))))] : List UInt8))) (hP (byt_p ([(mkU8 (IntKind.u8.wrap ((w64 (48 + (k1.tmod 10))))))] : List UInt8)) (hP (byt_m ([(mkU8 (IntKind.u8.wrap ((w64 (48 + (k1.tmod 10))))))] : List UInt8)) (hP (cat_p (chk_t h1)) h0))))))) ?_
    obtain ⟨u2, h2, hm⟩ := obind hm
    refine re G (hK h2 h0) ?_
    exact ibN (wL G hm)
   ·exact Ok_exit (thE (thE (ibE (wD G hm hb))))
  rintro v1 hm
  obtain ⟨u3, h3, hm⟩ := obind hm
  refine rs G (hP (cat_p (chk_t h3)) h0) ?_
  cases hm
  exact rt [] []
noncomputable def v_markMessageS_w_M : MS ((List Message) × Int) (Int × (List Message)) := ⟨.x (.s 23) .r, fun x => v_markMessageS_w x.1 x.2, fun y => dV y.1, fun _ => [], fun _ y => [arO 23 y.2]⟩
theorem v_markMessageS_w_c {a k y} (hm : v_markMessageS_w a k = some y) : v_markMessageS_w_M.C (a, k) y := v_markMessageS_w_M.c (a, k) hm
theorem v_markMessageS_w_ok : FnOK Tryd.prog tJ 11 v_markMessageS_w_M.S := by
 refine fm tt v_markMessageS_w_M [fo v_markText_ok] Tryd.call11 Tryd.func11 rfl Tryd.results11 Tryd.ntmps11 ?_
 rintro ⟨a, k⟩ y cx G hm
 have hm : v_markMessageS_w a k = some y := hm
 unfold v_markMessageS_w at hm
 refine rg G (Ok_seq (rg G (tl hm (fun (k2, a2) => ⟨[(0, .own 0), (1, dV k2)], [aX 0 23 a2], 48⟩) (fun vv hm => ?_) ?_)))
 ·refine Ok_block (lp G hm (fun (k1, v, a1) => ⟨[(0, .own 0), (1, dV k1), (5, dV v)], [aX 0 23 a1], 48⟩) ?_)
  rintro ⟨k1, v, a1⟩ r0 hb hm
  rw [v_markMessageS_w_L1] at hm
  refine Ok_seq (rs G (hN 2 a1 h0) ?_)
  refine cd hm (fun hm => ?_) (fun hm => ?_)
  ·refine X_skip (thN (Ok_seq (Ok_block ?_)))
   obtain ⟨e, h, hm⟩ := obind hm
   refine rs G (hD 3 h (hS 5 h (⟨k1, e.Line, e.Stop, e.From, e.To, e.Minutes⟩ : Message) h0)) ?_
   refine rg G ?_
   obtain ⟨r, h1, hm⟩ := obind hm
   obtain ⟨e1, h2, hm⟩ := obind hm
   refine rs G (hC 3 (v_markText_c h1) (hD 4 h2 (hS 6 h2 (⟨e1.Kind, r, e1.Stop, e1.From, e1.To, e1.Minutes⟩ : Message) h0))) ?_
   refine rg G ?_
   obtain ⟨r1, h3, hm⟩ := obind hm
   obtain ⟨e2, h4, hm⟩ := obind hm
   refine rs G (hC 3 (v_markText_c h3) (hD 4 h4 (hS 6 h4 (⟨e2.Kind, e2.Line, r1, e2.From, e2.To, e2.Minutes⟩ : Message) h0))) ?_
   refine rg G ?_
   obtain ⟨e3, h5, hm⟩ := obind hm
   refine rs G (hD 3 h5 (hS 5 h5 (⟨e3.Kind, e3.Line, e3.Stop, (w64 ((w64 ((w64 (k1 + 1)) + 1)) + 1)), e3.To, e3.Minutes⟩ : Message) h0)) ?_
   refine rg G ?_
   obtain ⟨e4, h6, hm⟩ := obind hm
   refine rs G (hD 3 h6 (hS 5 h6 (⟨e4.Kind, e4.Line, e4.Stop, e4.From, (w64 ((w64 ((w64 ((w64 (k1 + 1)) + 1)) + 1)) + 1)), e4.Minutes⟩ : Message) h0)) ?_
   refine rg G ?_
   obtain ⟨e5, h7, hm⟩ := obind hm
   refine rs G (hD 3 h7 (hS 5 h7 (⟨e5.Kind, e5.Line, e5.Stop, e5.From, e5.To, (w64 ((w64 ((w64 ((w64 ((w64 (k1 + 1)) + 1)) + 1)) + 1)) + 1))⟩ : Message) h0)) ?_
   exact rh G (ibN (thN (rh G (wL G hm))))
  ·exact Ok_exit (thE (thE (ibE (wD G hm hb))))
 rintro ⟨k2, a2⟩ hm s hw
 refine thN (Ok_weak hw ?_)
 refine rg G ?_
 cases hm
 exact rt [] []
noncomputable def v_heldMessageS_M : MS ((List Message) × Int) Int := ⟨.x .r .r, fun x => v_heldMessageS x.1 x.2, fun y => dV y, fun _ => [], fun _ _ => []⟩
theorem v_heldMessageS_c {a k y} (hm : v_heldMessageS a k = some y) : v_heldMessageS_M.C (a, k) y := v_heldMessageS_M.c (a, k) hm
theorem v_heldMessageS_ok : FnOK Tryd.prog tJ 12 v_heldMessageS_M.S := by
 refine fm tt v_heldMessageS_M [fo v_markText_ok] Tryd.call12 Tryd.func12 rfl Tryd.results12 Tryd.ntmps12 ?_
 rintro ⟨a, k⟩ y cx G hm
 have hm : v_heldMessageS a k = some y := hm
 unfold v_heldMessageS at hm
 refine rg G (Ok_seq (rg G (tF hm (fun k2 => ⟨[(1, dV k2)], [], 32⟩) (fun v1 hr hm => ?_) ?_)))
 ·refine Ok_block (lp G hm (fun (k1, v) => ⟨[(0, dV a), (1, dV k1), (5, dV v)], [], 32⟩) ?_)
  rintro ⟨k1, v⟩ r0 hb hm
  rw [v_heldMessageS_L1] at hm
  refine Ok_seq (rs G (hN 2 a h0) ?_)
  refine cd hm (fun hm => ?_) (fun hm => ?_)
  ·refine X_skip (thN (Ok_seq (Ok_block (Ok_seq ?_))))
   obtain ⟨e, h, hm⟩ := obind hm
   refine rs G (hD 2 h h0) ?_
   refine cd hm (fun hm => ?_) (fun hm => ?_)
   ·refine rg G ?_
    have hm := eL hm hb hr
    cases hm
    exact rt [] []
   ·refine X_skip (thN (rg G (Ok_seq ?_)))
    obtain ⟨e3, h3, hm⟩ := obind hm
    obtain ⟨r2, h4, hm⟩ := obind hm
    refine ds G [] (hD 2 h3 (hC 6 (v_markText_c h4) h0)) ?_
    refine cd hm (fun hm => ?_) (fun hm => ?_)
    ·refine rg G ?_
     have hm := eL hm hb hr
     cases hm
     exact rt [] []
    ·refine X_skip (thN (rg G (Ok_seq ?_)))
     obtain ⟨e6, h7, hm⟩ := obind hm
     obtain ⟨r5, h8, hm⟩ := obind hm
     refine ds G [] (hD 2 h7 (hC 6 (v_markText_c h8) h0)) ?_
     refine cd hm (fun hm => ?_) (fun hm => ?_)
     ·refine rg G ?_
      have hm := eL hm hb hr
      cases hm
      exact rt [] []
     ·refine X_skip (thN (rg G (Ok_seq ?_)))
      obtain ⟨e8, h9, hm⟩ := obind hm
      refine rs G (hD 2 h9 h0) ?_
      refine cd hm (fun hm => ?_) (fun hm => ?_)
      ·refine rg G ?_
       have hm := eL hm hb hr
       cases hm
       exact rt [] []
      ·refine X_skip (thN (rg G (Ok_seq ?_)))
       obtain ⟨e10, h10, hm⟩ := obind hm
       refine rs G (hD 2 h10 h0) ?_
       refine cd hm (fun hm => ?_) (fun hm => ?_)
       ·refine rg G ?_
        have hm := eL hm hb hr
        cases hm
        exact rt [] []
       ·refine X_skip (thN (rg G (Ok_seq ?_)))
        obtain ⟨e12, h11, hm⟩ := obind hm
        refine rs G (hD 2 h11 h0) ?_
        refine cd hm (fun hm => ?_) (fun hm => ?_)
        ·refine rg G ?_
         have hm := eL hm hb hr
         cases hm
         exact rt [] []
        ·exact X_skip (thN (rh G (ibN (thN (rh G (wL G hm))))))
  ·exact Ok_exit (thE (thE (ibE (wE G hm hb))))
 rintro k2 hm s hw
 refine thN (Ok_weak hw ?_)
 refine rg G ?_
 cases hm
 exact rt [] []
noncomputable def v_FnExactParseNotice_M : MS ByteArray Bool := ⟨.r, v_FnExactParseNotice, fun y => dV y, fun _ => [], fun _ _ => []⟩
theorem v_FnExactParseNotice_c {aS y} (hm : v_FnExactParseNotice aS = some y) : v_FnExactParseNotice_M.C aS y := v_FnExactParseNotice_M.c aS hm
theorem v_FnExactParseNotice_ok : FnOK Tryd.prog tJ 4 v_FnExactParseNotice_M.S := by
 refine fm tt v_FnExactParseNotice_M [fo s_ParseNotice_ok, fo i_ParseNotice_ok, fo v_eqMessageS_ok, fo v_markMessageS_w_ok, fo v_heldMessageS_ok] Tryd.call4 Tryd.func4 rfl Tryd.results4 Tryd.ntmps4 ?_
 rintro aS y cx G hm
 have hm : v_FnExactParseNotice aS = some y := hm
 unfold v_FnExactParseNotice at hm
 refine rg G (Ok_seq (rg G (cd hm (fun hm => ?_) (fun hm => ?_))))
 ·refine rg G ?_
  cases hm
  exact rt [] []
 ·refine X_skip (thN ?_)
  obtain ⟨r, h, hm⟩ := obind hm
  refine rs G (hC 1 (s_ParseNotice_c h) h0) ?_
  obtain ⟨r1, h1, hm⟩ := obind hm
  refine rs G (hC 1 (i_ParseNotice_c h1) h0) ?_
  refine Ok_seq ?_
  obtain ⟨r2, h2, hm⟩ := obind hm
  refine jn hm (fun v => ⟨[(0, dV aS), (3, .own 16), (4, dV r.2), (5, .own 32), (32, dV v)], [aX 16 23 r.1, aX 32 23 r1.1], 64⟩) (fun v hm => ?_) ?_
  ·rcases bf hm with ⟨hb, hm⟩ | ⟨hb, hm⟩
   ·refine re G (hC 2 (v_eqMessageS_c h2) (hO 4 (.b true) (hP hb h0))) ?_
    exact wJ G hm
   ·refine re G (hC 2 (v_eqMessageS_c h2) (hO 4 (.b false) (hP hb h0))) ?_
    exact wJ G hm
  rintro v hm
  refine cd hm (fun hm => ?_) (fun hm => ?_)
  ·refine rg G ?_
   cases hm
   exact rt [] []
  ·refine X_skip (thN (rg G ?_))
   obtain ⟨r3, h3, hm⟩ := obind hm
   refine rs G (hC 2 (v_markMessageS_w_c h3) h0) ?_
   refine rg G ?_
   obtain ⟨r4, h4, hm⟩ := obind hm
   refine rs G (hC 2 (v_heldMessageS_c h4) h0) ?_
   refine Ok_seq (rg G (cd hm (fun hm => ?_) (fun hm => ?_)))
   ·refine rg G ?_
    cases hm
    exact rt [] []
   ·refine X_skip (thN (Ok_seq (rg G (cd hm (fun hm => ?_) (fun hm => ?_)))))
    ·refine rg G ?_
     cases hm
     exact rt [] []
    ·refine X_skip (thN ?_)
     obtain ⟨r5, h5, hm⟩ := obind hm
     refine rs G (hC 1 (i_ParseNotice_c h5) h0) ?_
     refine Ok_seq ?_
     obtain ⟨r6, h6, hm⟩ := obind hm
     refine jn hm (fun v1 => ⟨[(5, .own 16), (7, dV r3.1), (57, dV v1)], [aX 16 23 r3.2], 48⟩) (fun v1 hm => ?_) ?_
     ·rcases bf hm with ⟨hb1, hm⟩ | ⟨hb1, hm⟩
      ·refine re G (hC 2 (v_eqMessageS_c h6) (hO 4 (.b true) (hP hb1 h0))) ?_
       exact wJ G hm
      ·refine re G (hC 2 (v_eqMessageS_c h6) (hO 4 (.b false) (hP hb1 h0))) ?_
       exact wJ G hm
     rintro v1 hm
     refine cd hm (fun hm => ?_) (fun hm => ?_)
     ·refine rg G ?_
      cases hm
      exact rt [] []
     ·refine X_skip (thN (rg G ?_))
      obtain ⟨r7, h7, hm⟩ := obind hm
      refine rs G (hC 2 (v_heldMessageS_c h7) h0) ?_
      refine Ok_seq (rg G (cd hm (fun hm => ?_) (fun hm => ?_)))
      ·refine rg G ?_
       cases hm
       exact rt [] []
      ·refine X_skip (thN (Ok_seq (rg G (cd hm (fun hm => ?_) (fun hm => ?_)))))
       ·refine rg G ?_
        cases hm
        exact rt [] []
       ·refine X_skip (thN (rg G ?_))
        cases hm
        exact rt [] []
end Go.Proofs.YteieacgaipcnoaaDoor
