/- Each function computes what its model says. Made by program (dec.py). -/
import Derived.Test.YtbedhobglodjbaaDoorTy
import Derived.Test.YtbedhobglodjbaaDoorAbC
import Derived.Test.YtbedhobglodjbaaDoorSgM
import Derived.Test.YtbedhobglodjbaaDoorSh
namespace Go.Proofs.YtbedhobglodjbaaDoor
open Go Go.Ab
set_option maxRecDepth 100000
set_option maxHeartbeats 4000000
set_option linter.unusedVariables false
set_option linter.unusedSimpArgs false
theorem tt : TT Tryd.prog ty := ⟨by kernel_rfl, ty_ok⟩
abbrev tJ : Inv := strJ Tryd.prog (some Lib.pow10Tab)
noncomputable def v_vBig_M : MS ((List UInt8)) Bool := ⟨.r, v_vBig, fun y => dV y, fun _ => [], fun _ _ => []⟩
theorem v_vBig_c {code y} (hm : v_vBig code = some y) : v_vBig_M.C code y := v_vBig_M.c code hm
theorem v_vBig_ok : FnOK Tryd.prog tJ 11 v_vBig_M.S := by
 refine fm tt v_vBig_M [] Tryd.call11 Tryd.func11 rfl Tryd.results11 Tryd.ntmps11 ?_
 rintro code y cx G hm
 have hm : v_vBig code = some y := hm
 unfold v_vBig at hm
 refine rg G (rs G (hN 1 code h0) ?_)
 cases hm
 exact rt [] []
noncomputable def s_l1Cur_next_M : MS l1Cur (Int × l1Cur) := ⟨.b 90, s_l1Cur_next, fun y => dV y.1, fun _ => [], fun _ y => [bxO 90 y.2]⟩
theorem s_l1Cur_next_c {c y} (hm : s_l1Cur_next c = some y) : s_l1Cur_next_M.C c y := s_l1Cur_next_M.c c hm
theorem s_l1Cur_next_ok : FnOK Tryd.prog tJ 127 s_l1Cur_next_M.S := by
 refine fm tt s_l1Cur_next_M [] Tryd.call127 Tryd.func127 rfl Tryd.results127 Tryd.ntmps127 ?_
 rintro c y cx G hm
 have hm : s_l1Cur_next c = some y := hm
 unfold s_l1Cur_next at hm
 refine rg G (rg G (jn hm (fun v => ⟨[(0, .ref 0 0), (3, dV v)], [bX 0 90 [dV c.code_, dV c.at_, kV .u64 c.seed_.v]], 48⟩) (fun v hm => ?_) ?_))
 ·refine ds G [] (hN 8 c.code_ h0) ?_
  refine cd hm (fun hm => ?_) (fun hm => ?_)
  ·obtain ⟨e1, h1, hm⟩ := obind hm
   refine de G [] (hD 8 h1 h0) ?_
   exact wJ G hm
  ·exact X_skip (wJ G hm)
 rintro v hm
 refine rg G (rg G (Ok_seq (ds G [] (hN 8 c.code_ h0) ?_)))
 refine cd hm (fun hm => ?_) (fun hm => ?_)
 ·refine rg G ?_
  cases hm
  exact rt [] []
 ·refine X_skip (thN ?_)
  obtain ⟨u, h2, hm⟩ := obind hm
  refine rs G (hK h2 h0) ?_
  cases hm
  exact rt [] []
noncomputable def s_l1Cur_pick_M : MS (l1Cur × Int) (Int × l1Cur) := ⟨.x (.b 90) .r, fun x => s_l1Cur_pick x.1 x.2, fun y => dV y.1, fun _ => [], fun _ y => [bxO 90 y.2]⟩
theorem s_l1Cur_pick_c {c n y} (hm : s_l1Cur_pick c n = some y) : s_l1Cur_pick_M.C (c, n) y := s_l1Cur_pick_M.c (c, n) hm
theorem s_l1Cur_pick_ok : FnOK Tryd.prog tJ 73 s_l1Cur_pick_M.S := by
 refine fm tt s_l1Cur_pick_M [fo s_l1Cur_next_ok] Tryd.call73 Tryd.func73 rfl Tryd.results73 Tryd.ntmps73 ?_
 rintro ⟨c, n⟩ y cx G hm
 have hm : s_l1Cur_pick c n = some y := hm
 unfold s_l1Cur_pick at hm
 refine rg G (Ok_seq (rg G (cd hm (fun hm => ?_) (fun hm => ?_))))
 ·refine rg G ?_
  cases hm
  exact rt [] []
 ·refine X_skip (thN ?_)
  obtain ⟨r, h, hm⟩ := obind hm
  refine rs G (hC 1 (s_l1Cur_next_c h) h0) ?_
  refine jn hm (fun (v, v1, v2, v3) => ⟨[(0, .ref 0 0), (1, dV n), (5, dV v)], [bX 0 90 [dV v1, dV v2, kV .u64 v3]], 48⟩) (fun vv hm => ?_) ?_
  ·refine rg G (cd hm (fun hm => ?_) (fun hm => ?_))
   ·obtain ⟨r1, h1, hm⟩ := obind hm
    refine re G (hC 3 (s_l1Cur_next_c h1) h0) ?_
    exact wJ G hm
   ·exact X_skip (wJ G hm)
  rintro ⟨v, v1, v2, v3⟩ hm
  obtain ⟨u, h2, hm⟩ := obind hm
  refine rs G (hK h2 h0) ?_
  cases hm
  exact rt [] []
noncomputable def s_l1Cur_among_M : MS (l1Cur × (List Int)) (Int × l1Cur) := ⟨.x (.b 90) .r, fun x => s_l1Cur_among x.1 x.2, fun y => dV y.1, fun _ => [], fun _ y => [bxO 90 y.2]⟩
theorem s_l1Cur_among_c {c list y} (hm : s_l1Cur_among c list = some y) : s_l1Cur_among_M.C (c, list) y := s_l1Cur_among_M.c (c, list) hm
theorem s_l1Cur_among_ok : FnOK Tryd.prog tJ 78 s_l1Cur_among_M.S := by
 refine fm tt s_l1Cur_among_M [fo s_l1Cur_pick_ok] Tryd.call78 Tryd.func78 rfl Tryd.results78 Tryd.ntmps78 ?_
 rintro ⟨c, list⟩ y cx G hm
 have hm : s_l1Cur_among c list = some y := hm
 unfold s_l1Cur_among at hm
 refine rg G ?_
 obtain ⟨r, h, hm⟩ := obind hm
 obtain ⟨e, h1, hm⟩ := obind hm
 refine rs G (hN 3 list (hC 4 (s_l1Cur_pick_c h) (hD 5 h1 h0))) ?_
 cases hm
 exact rt [] []
noncomputable def s_DrawFormatInt_M : MS ((List UInt8)) Int := ⟨.r, s_DrawFormatInt, fun y => dV y, fun _ => [], fun _ _ => []⟩
theorem s_DrawFormatInt_c {code y} (hm : s_DrawFormatInt code = some y) : s_DrawFormatInt_M.C code y := s_DrawFormatInt_M.c code hm
theorem s_DrawFormatInt_ok : FnOK Tryd.prog tJ 20 s_DrawFormatInt_M.S := by
 refine fm tt s_DrawFormatInt_M [fo s_l1Cur_pick_ok, fo s_l1Cur_among_ok] Tryd.call20 Tryd.func20 rfl Tryd.results20 Tryd.ntmps20 ?_
 rintro code y cx G hm
 have hm : s_DrawFormatInt code = some y := hm
 unfold s_DrawFormatInt at hm
 refine rg G (rg G ?_)
 obtain ⟨r, h, hm⟩ := obind hm
 obtain ⟨r1, h1, hm⟩ := obind hm
 refine rs G (hC 2 (s_l1Cur_pick_c h) (hO 5 (.fz [160] [] []) (hC 5 (s_l1Cur_among_c h1) h0))) ?_
 cases hm
 exact rt [] []
noncomputable def strconv_Itoa_M : MS Int ByteArray := ⟨.r, strconv_Itoa, fun y => dV y, fun _ => [], fun _ _ => []⟩
theorem strconv_Itoa_c {i y} (hm : strconv_Itoa i = some y) : strconv_Itoa_M.C i y := strconv_Itoa_M.c i hm
theorem strconv_Itoa_ok : FnOK Tryd.prog tJ 79 strconv_Itoa_M.S := itoaOK Tryd.laysM171 Tryd.call79 (g := 1) (by kernel_rfl)
noncomputable def i_FormatInt_M : MS Int (ByteArray × Bool) := ⟨.r, i_FormatInt, fun y => .tup [dV y.1, dV y.2], fun _ => [], fun _ _ => []⟩
theorem i_FormatInt_c {n y} (hm : i_FormatInt n = some y) : i_FormatInt_M.C n y := i_FormatInt_M.c n hm
theorem i_FormatInt_ok : FnOK Tryd.prog tJ 21 i_FormatInt_M.S := by
 refine fm tt i_FormatInt_M [fo strconv_Itoa_ok] Tryd.call21 Tryd.func21 rfl Tryd.results21 Tryd.ntmps21 ?_
 rintro n y cx G hm
 have hm : i_FormatInt n = some y := hm
 unfold i_FormatInt at hm
 refine rg G (Ok_seq (jn hm (fun v => ⟨[(0, dV n), (9, dV v)], [], 32⟩) (fun v hm => ?_) ?_))
 ·rcases bf hm with ⟨hb, hm⟩ | ⟨hb, hm⟩
  ·refine re G (hO 2 (.b true) (hP hb h0)) ?_
   exact wJ G hm
  ·refine re G (hO 2 (.b false) (hP hb h0)) ?_
   exact wJ G hm
 rintro v hm
 refine cd hm (fun hm => ?_) (fun hm => ?_)
 ·refine rg G ?_
  cases hm
  exact rt [] []
 ·refine X_skip (thN ?_)
  obtain ⟨r, h, hm⟩ := obind hm
  refine rs G (hC 1 (strconv_Itoa_c h) h0) ?_
  cases hm
  exact rt [] []
noncomputable def s_l1In_M : MS (Int × Int × Int) Bool := ⟨.x .r (.x .r .r), fun x => s_l1In x.1 x.2.1 x.2.2, fun y => dV y, fun _ => [], fun _ _ => []⟩
theorem s_l1In_c {x a b y} (hm : s_l1In x a b = some y) : s_l1In_M.C (x, a, b) y := s_l1In_M.c (x, a, b) hm
theorem s_l1In_ok : FnOK Tryd.prog tJ 80 s_l1In_M.S := by
 refine fm tt s_l1In_M [] Tryd.call80 Tryd.func80 rfl Tryd.results80 Tryd.ntmps80 ?_
 rintro ⟨x, a, b⟩ y cx G hm
 have hm : s_l1In x a b = some y := hm
 unfold s_l1In at hm
 refine rg G (jn hm (fun v => ⟨[(6, dV v)], [], 32⟩) (fun v hm => ?_) ?_)
 ·rcases bf hm with ⟨hb, hm⟩ | ⟨hb, hm⟩
  ·refine re G (hO 3 (.b true) (hP hb h0)) ?_
   exact wJ G hm
  ·refine re G (hO 3 (.b false) (hP hb h0)) ?_
   exact wJ G hm
 rintro v hm
 cases hm
 exact rt [] []
noncomputable def s_l1Num_MR (rec_ : Int → Option (ByteArray)) : MS Int ByteArray := ⟨.r, rec_, fun y => dV y, fun _ => [], fun _ _ => []⟩
noncomputable def s_l1Num_M : MS Int ByteArray := s_l1Num_MR s_l1Num
theorem s_l1Num_c {n y} (hm : s_l1Num n = some y) : s_l1Num_M.C n y := s_l1Num_M.c n hm
theorem s_l1Num_cR {rec_ : Int → Option (ByteArray)} {n y} (hm : rec_ n = some y) : (s_l1Num_MR rec_).C n y := (s_l1Num_MR rec_).c n hm
theorem s_l1Num_okF {rec_ : Int → Option (ByteArray)} (hrec : FnOK Tryd.prog tJ 81 (s_l1Num_MR rec_).S) : FnOK Tryd.prog tJ 81 (s_l1Num_MR (s_l1Num_F rec_)).S := by
 refine fm tt (s_l1Num_MR (s_l1Num_F rec_)) [fo hrec] Tryd.call81 Tryd.func81 rfl Tryd.results81 Tryd.ntmps81 ?_
 rintro n y cx G hm
 have hm : s_l1Num_F rec_ n = some y := hm
 unfold s_l1Num_F at hm
 refine rg G (Ok_seq (rg G (cd hm (fun hm => ?_) (fun hm => ?_))))
 ·obtain ⟨r, h, hm⟩ := obind hm
  obtain ⟨u, h1, hm⟩ := obind hm
  refine rs G (hC 2 (s_l1Num_cR h) (hP (cat_p (chk_t h1)) h0)) ?_
  cases hm
  exact rt [] []
 ·refine X_skip (thN (Ok_seq (rg G (cd hm (fun hm => ?_) (fun hm => ?_)))))
  ·obtain ⟨u1, h2, hm⟩ := obind hm
   refine rs G (hK h2 h0) ?_
   cases hm
   exact rt [] []
  ·refine X_skip (thN ?_)
   obtain ⟨u7, h9, hm⟩ := obind hm
   obtain ⟨r2, h10, hm⟩ := obind hm
   obtain ⟨u8, h11, hm⟩ := obind hm
   obtain ⟨u9, h12, hm⟩ := obind hm
   obtain ⟨u10, h13, hm⟩ := obind hm
   obtain ⟨u11, h14, hm⟩ := obind hm
   refine ds G [] (hK h9 (hC 2 (s_l1Num_cR h10) (hK h11 (hK h12 (hK h13 (hP (cat_p (chk_t h14)) h0)))))) ?_
   cases hm
   exact rt [] []
theorem s_l1Num_okn : ∀ k, FnOK Tryd.prog tJ 81 (s_l1Num_MR (s_l1Num_k k)).S
 | 0 => ⟨fun args w => Tryd.call81 args w, fun vs w F ds obs κ hp => by obtain ⟨x, y, _, _, h⟩ := hp; cases h⟩
 | k + 1 => s_l1Num_okF (s_l1Num_okn k)
theorem s_l1Num_ok : FnOK Tryd.prog tJ 81 s_l1Num_M.S := s_l1Num_okn 4294967296
noncomputable def s_FormatInt_M : MS Int (ByteArray × Bool) := ⟨.r, s_FormatInt, fun y => .tup [dV y.1, dV y.2], fun _ => [], fun _ _ => []⟩
theorem s_FormatInt_c {n y} (hm : s_FormatInt n = some y) : s_FormatInt_M.C n y := s_FormatInt_M.c n hm
theorem s_FormatInt_ok : FnOK Tryd.prog tJ 22 s_FormatInt_M.S := by
 refine fm tt s_FormatInt_M [fo s_l1In_ok, fo s_l1Num_ok] Tryd.call22 Tryd.func22 rfl Tryd.results22 Tryd.ntmps22 ?_
 rintro n y cx G hm
 have hm : s_FormatInt n = some y := hm
 unfold s_FormatInt at hm
 refine rg G (Ok_seq ?_)
 obtain ⟨r, h, hm⟩ := obind hm
 refine rs G (hC 1 (s_l1In_c h) h0) ?_
 refine cd hm (fun hm => ?_) (fun hm => ?_)
 ·refine rg G ?_
  cases hm
  exact rt [] []
 ·refine X_skip (thN ?_)
  obtain ⟨r1, h1, hm⟩ := obind hm
  refine rs G (hC 1 (s_l1Num_c h1) h0) ?_
  cases hm
  exact rt [] []
noncomputable def s_l1Cur_one_M : MS (l1Cur × Int) (Bool × l1Cur) := ⟨.x (.b 90) .r, fun x => s_l1Cur_one x.1 x.2, fun y => dV y.1, fun _ => [], fun _ y => [bxO 90 y.2]⟩
theorem s_l1Cur_one_c {c n y} (hm : s_l1Cur_one c n = some y) : s_l1Cur_one_M.C (c, n) y := s_l1Cur_one_M.c (c, n) hm
theorem s_l1Cur_one_ok : FnOK Tryd.prog tJ 74 s_l1Cur_one_M.S := by
 refine fm tt s_l1Cur_one_M [fo s_l1Cur_pick_ok] Tryd.call74 Tryd.func74 rfl Tryd.results74 Tryd.ntmps74 ?_
 rintro ⟨c, n⟩ y cx G hm
 have hm : s_l1Cur_one c n = some y := hm
 unfold s_l1Cur_one at hm
 refine rg G ?_
 obtain ⟨r, h, hm⟩ := obind hm
 refine rs G (hC 2 (s_l1Cur_pick_c h) h0) ?_
 cases hm
 exact rt [] []
noncomputable def s_l1Cur_of_M : MS (l1Cur × (List ByteArray)) (ByteArray × l1Cur) := ⟨.x (.b 90) .r, fun x => s_l1Cur_of x.1 x.2, fun y => dV y.1, fun _ => [], fun _ y => [bxO 90 y.2]⟩
theorem s_l1Cur_of_c {c list y} (hm : s_l1Cur_of c list = some y) : s_l1Cur_of_M.C (c, list) y := s_l1Cur_of_M.c (c, list) hm
theorem s_l1Cur_of_ok : FnOK Tryd.prog tJ 71 s_l1Cur_of_M.S := by
 refine fm tt s_l1Cur_of_M [fo s_l1Cur_pick_ok] Tryd.call71 Tryd.func71 rfl Tryd.results71 Tryd.ntmps71 ?_
 rintro ⟨c, list⟩ y cx G hm
 have hm : s_l1Cur_of c list = some y := hm
 unfold s_l1Cur_of at hm
 refine rg G ?_
 obtain ⟨r, h, hm⟩ := obind hm
 obtain ⟨e, h1, hm⟩ := obind hm
 refine rs G (hN 3 list (hC 4 (s_l1Cur_pick_c h) (hD 5 h1 h0))) ?_
 cases hm
 exact rt [] []
noncomputable def s_DrawParseInt_M : MS ((List UInt8)) ByteArray := ⟨.r, s_DrawParseInt, fun y => dV y, fun _ => [], fun _ _ => []⟩
theorem s_DrawParseInt_c {code y} (hm : s_DrawParseInt code = some y) : s_DrawParseInt_M.C code y := s_DrawParseInt_M.c code hm
theorem s_DrawParseInt_ok : FnOK Tryd.prog tJ 23 s_DrawParseInt_M.S := by
 refine fm tt s_DrawParseInt_M [fo s_l1Cur_one_ok, fo s_l1Cur_of_ok, fo s_l1Cur_pick_ok, fo s_l1Num_ok] Tryd.call23 Tryd.func23 rfl Tryd.results23 Tryd.ntmps23 ?_
 rintro code y cx G hm
 have hm : s_DrawParseInt code = some y := hm
 unfold s_DrawParseInt at hm
 refine rg G (rg G (Ok_seq ?_))
 obtain ⟨r, h, hm⟩ := obind hm
 refine rs G (hC 1 (s_l1Cur_one_c h) h0) ?_
 refine cd hm (fun hm => ?_) (fun hm => ?_)
 ·obtain ⟨r1, h1, hm⟩ := obind hm
  refine rs G (hO 2 (.fz [144] [] []) (hC 2 (s_l1Cur_of_c h1) h0)) ?_
  cases hm
  exact rt [] []
 ·refine X_skip (thN ?_)
  obtain ⟨r2, h2, hm⟩ := obind hm
  obtain ⟨r3, h3, hm⟩ := obind hm
  refine rs G (hC 1 (s_l1Cur_pick_c h2) (hC 3 (s_l1Num_c h3) h0)) ?_
  cases hm
  exact rt [] []
noncomputable def strings_CutPrefix_M : MS (ByteArray × ByteArray) (ByteArray × Bool) := ⟨.x .r .r, fun x => strings_CutPrefix x.1 x.2, fun y => .tup [dV y.1, dV y.2], fun _ => [], fun _ _ => []⟩
theorem strings_CutPrefix_c {s prefix_ y} (hm : strings_CutPrefix s prefix_ = some y) : strings_CutPrefix_M.C (s, prefix_) y := strings_CutPrefix_M.c (s, prefix_) hm
theorem strings_CutPrefix_ok : FnOK Tryd.prog tJ 82 strings_CutPrefix_M.S := cutPrefixOK Tryd.lays103 Tryd.call82
noncomputable def i_natural_M : MS ByteArray (Int × ByteArray × Bool) := ⟨.r, i_natural, fun y => .tup [dV y.1, dV y.2.1, dV y.2.2], fun _ => [], fun _ _ => []⟩
theorem i_natural_c {s y} (hm : i_natural s = some y) : i_natural_M.C s y := i_natural_M.c s hm
theorem i_natural_ok : FnOK Tryd.prog tJ 83 i_natural_M.S := by
 refine fm tt i_natural_M [] Tryd.call83 Tryd.func83 rfl Tryd.results83 Tryd.ntmps83 ?_
 rintro s y cx G hm
 have hm : i_natural s = some y := hm
 unfold i_natural at hm
 refine rg G (rg G (jF hm (fun (i1, v3) => ⟨[(0, dV s), (5, dV i1), (6, dV v3)], [], 32⟩) (fun v4 hr hm => ?_) ?_))
 ·refine Ok_block (lp G hm (fun (i, v) => ⟨[(0, dV s), (5, dV i), (6, dV v)], [], 32⟩) ?_)
  rintro ⟨i, v⟩ r0 hb hm
  rw [i_natural_L1] at hm
  refine Ok_seq (jn hm (fun v1 => ⟨[(0, dV s), (5, dV i), (6, dV v), (22, dV v1)], [], 32⟩) (fun v1 hm => ?_) ?_)
  ·rcases bf hm with ⟨hb1, hm⟩ | ⟨hb1, hm⟩
   ·obtain ⟨u, h, hm⟩ := obind hm
    rcases bf hm with ⟨hb2, hm⟩ | ⟨hb2, hm⟩
    ·obtain ⟨u1, h1, hm⟩ := obind hm
     refine re G (hO 4 (.b true) (hP hb1 (hK h (hO 10 (.b true) (hP hb2 (hK h1 h0)))))) ?_
     exact wJ G hm
    ·refine re G (hO 4 (.b true) (hP hb1 (hK h (hO 10 (.b false) (hP hb2 h0))))) ?_
     exact wJ G hm
   ·refine re G (hO 4 (.b false) (hP hb1 h0)) ?_
    exact wJ G hm
  rintro v1 hm
  refine cd hm (fun hm => ?_) (fun hm => ?_)
  ·refine X_skip (thN (Ok_block (Ok_seq (jn hm (fun v2 => ⟨[(0, dV s), (5, dV i), (6, dV v), (32, dV v2)], [], 32⟩) (fun v2 hm => ?_) ?_))))
   ·rcases bf hm with ⟨hb3, hm⟩ | ⟨hb3, hm⟩
    ·refine re G (hO 2 (.b true) (hP hb3 h0)) ?_
     exact wJ G hm
    ·rcases bf hm with ⟨hb4, hm⟩ | ⟨hb4, hm⟩
     ·refine re G (hO 2 (.b false) (hP hb3 (hO 5 (.b true) (hP hb4 h0)))) ?_
      exact wJ G hm
     ·refine re G (hO 2 (.b false) (hP hb3 (hO 5 (.b false) (hP hb4 h0)))) ?_
      exact wJ G hm
   rintro v2 hm
   refine cd hm (fun hm => ?_) (fun hm => ?_)
   ·refine rg G ?_
    have hm := eL hm hb hr
    cases hm
    exact rt [] []
   ·refine X_skip (thN ?_)
    obtain ⟨u2, h2, hm⟩ := obind hm
    refine rs G (hK h2 h0) ?_
    exact rh G (ibN (wL G hm))
  ·exact Ok_exit (thE (thE (ibE (wE G hm hb))))
 rintro ⟨i1, v3⟩ hm
 obtain ⟨u4, h4, hm⟩ := obind hm
 refine ds G [] (hK h4 h0) ?_
 cases hm
 exact rt [] []
noncomputable def i_ParseInt_M : MS ByteArray (Int × Bool) := ⟨.r, i_ParseInt, fun y => .tup [dV y.1, dV y.2], fun _ => [], fun _ _ => []⟩
theorem i_ParseInt_c {s y} (hm : i_ParseInt s = some y) : i_ParseInt_M.C s y := i_ParseInt_M.c s hm
theorem i_ParseInt_ok : FnOK Tryd.prog tJ 24 i_ParseInt_M.S := by
 refine fm tt i_ParseInt_M [fo strings_CutPrefix_ok, fo i_natural_ok] Tryd.call24 Tryd.func24 rfl Tryd.results24 Tryd.ntmps24 ?_
 rintro s y cx G hm
 have hm : i_ParseInt s = some y := hm
 unfold i_ParseInt at hm
 refine rg G ?_
 obtain ⟨r, h, hm⟩ := obind hm
 refine rs G (hC 1 (strings_CutPrefix_c h) h0) ?_
 obtain ⟨r1, h1, hm⟩ := obind hm
 refine rs G (hC 1 (i_natural_c h1) h0) ?_
 refine Ok_seq (jn hm (fun v => ⟨[(5, dV r.2), (6, dV r1.1), (32, dV v)], [], 32⟩) (fun v hm => ?_) ?_)
 ·rcases bf hm with ⟨hb, hm⟩ | ⟨hb, hm⟩
  ·refine re G (hO 2 (.b true) (hP hb h0)) ?_
   exact wJ G hm
  ·rcases bf hm with ⟨hb1, hm⟩ | ⟨hb1, hm⟩
   ·refine re G (hO 2 (.b false) (hP hb (hO 6 (.b true) (hP hb1 h0)))) ?_
    exact wJ G hm
   ·rcases bf hm with ⟨hb2, hm⟩ | ⟨hb2, hm⟩
    ·refine re G (hO 2 (.b false) (hP hb (hO 6 (.b false) (hP hb1 (hO 8 (.b true) (hP hb2 h0)))))) ?_
     exact wJ G hm
    ·refine re G (hO 2 (.b false) (hP hb (hO 6 (.b false) (hP hb1 (hO 8 (.b false) (hP hb2 h0)))))) ?_
     exact wJ G hm
 rintro v hm
 refine cd hm (fun hm => ?_) (fun hm => ?_)
 ·refine rg G ?_
  cases hm
  exact rt [] []
 ·refine X_skip (thN (jn hm (fun rest => ⟨[(6, dV rest)], [], 32⟩) (fun rest hm => ?_) ?_))
  ·refine rg G (cd hm (fun hm => ?_) (fun hm => ?_))
   ·exact rh G (wJ G hm)
   ·exact X_skip (wJ G hm)
  rintro rest hm
  refine rg G ?_
  cases hm
  exact rt [] []
noncomputable def s_l1Read_M : MS ByteArray (Int × Bool) := ⟨.r, s_l1Read, fun y => .tup [dV y.1, dV y.2], fun _ => [], fun _ _ => []⟩
theorem s_l1Read_c {s y} (hm : s_l1Read s = some y) : s_l1Read_M.C s y := s_l1Read_M.c s hm
theorem s_l1Read_ok : FnOK Tryd.prog tJ 84 s_l1Read_M.S := by
 refine fm tt s_l1Read_M [fo s_l1In_ok, fo s_l1Num_ok] Tryd.call84 Tryd.func84 rfl Tryd.results84 Tryd.ntmps84 ?_
 rintro s y cx G hm
 have hm : s_l1Read s = some y := hm
 unfold s_l1Read at hm
 refine rg G (rg G (jn hm (fun n => ⟨[(0, dV s), (4, dV n)], [], 32⟩) (fun n hm => ?_) ?_))
 ·refine jn hm (fun v => ⟨[(0, dV s), (4, dV s), (15, dV v)], [], 32⟩) (fun v hm => ?_) ?_
  ·rcases bf hm with ⟨hb, hm⟩ | ⟨hb, hm⟩
   ·obtain ⟨u, h, hm⟩ := obind hm
    refine re G (hO 3 (.b true) (hP hb (hK h h0))) ?_
    exact wJ G hm
   ·refine re G (hO 3 (.b false) (hP hb h0)) ?_
    exact wJ G hm
  rintro v hm
  refine cd hm (fun hm => ?_) (fun hm => ?_)
  ·obtain ⟨u1, h1, hm⟩ := obind hm
   refine re G (hK h1 h0) ?_
   exact wJ G hm
  ·exact X_skip (wJ G hm)
 rintro n hm
 refine Ok_seq ?_
 obtain ⟨r, h2, hm⟩ := obind hm
 refine rs G (hC 2 (s_l1In_c h2) h0) ?_
 refine cd hm (fun hm => ?_) (fun hm => ?_)
 ·refine rg G ?_
  cases hm
  exact rt [] []
 ·refine X_skip (thN (rg G (Ok_seq (rg G (tF hm (fun i1 => ⟨[(0, dV s), (4, dV n), (5, dV i1)], [], 32⟩) (fun v3 hr1 hm => ?_) ?_)))))
  ·refine Ok_block (lp G hm (fun (i, v1) => ⟨[(0, dV s), (4, dV n), (5, dV i), (6, dV v1)], [], 32⟩) ?_)
   rintro ⟨i, v1⟩ r0 hb1 hm
   rw [s_l1Read_L1] at hm
   refine Ok_seq (rg G (cd hm (fun hm => ?_) (fun hm => ?_)))
   ·refine X_skip (thN (Ok_seq (Ok_block (Ok_seq ?_))))
    obtain ⟨u2, h3, hm⟩ := obind hm
    refine jn hm (fun v2 => ⟨[(0, dV s), (4, dV n), (5, dV i), (6, dV v1), (37, dV v2)], [], 32⟩) (fun v2 hm => ?_) ?_
    ·rcases bf hm with ⟨hb2, hm⟩ | ⟨hb2, hm⟩
     ·refine re G (hK h3 (hO 4 (.b true) (hP hb2 h0))) ?_
      exact wJ G hm
     ·obtain ⟨u3, h4, hm⟩ := obind hm
      refine re G (hK h3 (hO 4 (.b false) (hP hb2 (hK h4 h0)))) ?_
      exact wJ G hm
    rintro v2 hm
    refine cd hm (fun hm => ?_) (fun hm => ?_)
    ·refine rg G ?_
     have hm := eL hm hb1 hr1
     cases hm
     exact rt [] []
    ·refine X_skip (thN ?_)
     obtain ⟨u4, h5, hm⟩ := obind hm
     refine re G (hK h5 h0) ?_
     exact ibN (thN (rh G (wL G hm)))
   ·exact Ok_exit (thE (thE (ibE (wE G hm hb1))))
  rintro i1 hm s1 hw
  refine thN (Ok_weak hw ?_)
  refine jn hm (fun i2 => ⟨[(0, dV s), (5, dV i2)], [], 32⟩) (fun i2 hm => ?_) ?_
  ·refine rg G (cd hm (fun hm => ?_) (fun hm => ?_))
   ·exact rh G (wJ G hm)
   ·exact X_skip (wJ G hm)
  rintro i2 hm
  refine Ok_seq ?_
  obtain ⟨r2, h6, hm⟩ := obind hm
  refine rs G (hC 1 (s_l1Num_c h6) h0) ?_
  refine cd hm (fun hm => ?_) (fun hm => ?_)
  ·refine rg G ?_
   cases hm
   exact rt [] []
  ·refine X_skip (thN (rg G ?_))
   cases hm
   exact rt [] []
noncomputable def s_ParseInt_M : MS ByteArray (Int × Bool) := ⟨.r, s_ParseInt, fun y => .tup [dV y.1, dV y.2], fun _ => [], fun _ _ => []⟩
theorem s_ParseInt_c {s y} (hm : s_ParseInt s = some y) : s_ParseInt_M.C s y := s_ParseInt_M.c s hm
theorem s_ParseInt_ok : FnOK Tryd.prog tJ 25 s_ParseInt_M.S := by
 refine fm tt s_ParseInt_M [fo s_l1Read_ok] Tryd.call25 Tryd.func25 rfl Tryd.results25 Tryd.ntmps25 ?_
 rintro s y cx G hm
 have hm : s_ParseInt s = some y := hm
 unfold s_ParseInt at hm
 refine rg G ?_
 obtain ⟨r, h, hm⟩ := obind hm
 refine rs G (hC 1 (s_l1Read_c h) h0) ?_
 cases hm
 exact rt [] []
noncomputable def s_l1Cur_any1_M : MS l1Cur (ByteArray × l1Cur) := ⟨.b 90, s_l1Cur_any1, fun y => dV y.1, fun _ => [], fun _ y => [bxO 90 y.2]⟩
theorem s_l1Cur_any1_c {c y} (hm : s_l1Cur_any1 c = some y) : s_l1Cur_any1_M.C c y := s_l1Cur_any1_M.c c hm
theorem s_l1Cur_any1_ok : FnOK Tryd.prog tJ 70 s_l1Cur_any1_M.S := by
 refine fm tt s_l1Cur_any1_M [fo s_l1Cur_of_ok] Tryd.call70 Tryd.func70 rfl Tryd.results70 Tryd.ntmps70 ?_
 rintro c y cx G hm
 have hm : s_l1Cur_any1 c = some y := hm
 unfold s_l1Cur_any1 at hm
 refine rg G ?_
 obtain ⟨r, h, hm⟩ := obind hm
 refine rs G (hO 2 (.fz [48] [] []) (hC 2 (s_l1Cur_of_c h) h0)) ?_
 cases hm
 exact rt [] []
noncomputable def s_DrawAppendChecksum_M : MS ((List UInt8)) ByteArray := ⟨.r, s_DrawAppendChecksum, fun y => dV y, fun _ => [], fun _ _ => []⟩
theorem s_DrawAppendChecksum_c {code y} (hm : s_DrawAppendChecksum code = some y) : s_DrawAppendChecksum_M.C code y := s_DrawAppendChecksum_M.c code hm
theorem s_DrawAppendChecksum_ok : FnOK Tryd.prog tJ 26 s_DrawAppendChecksum_M.S := by
 refine fm tt s_DrawAppendChecksum_M [fo s_l1Cur_one_ok, fo s_l1Cur_pick_ok, fo s_l1Cur_any1_ok] Tryd.call26 Tryd.func26 rfl Tryd.results26 Tryd.ntmps26 ?_
 rintro code y cx G hm
 have hm : s_DrawAppendChecksum code = some y := hm
 unfold s_DrawAppendChecksum at hm
 refine rg G (rg G (Ok_seq ?_))
 obtain ⟨r, h, hm⟩ := obind hm
 refine rs G (hC 1 (s_l1Cur_one_c h) h0) ?_
 refine cd hm (fun hm => ?_) (fun hm => ?_)
 ·obtain ⟨r1, h1, hm⟩ := obind hm
  obtain ⟨u, h2, hm⟩ := obind hm
  refine rs G (hC 1 (s_l1Cur_pick_c h1) (hO 3 (.l (List.map Enc.e (List.replicate (w64 (3990 + r1.1)).toNat (mkU8 0 : UInt8)))) (hP (mk_p (b := 1) (chk_t h2) rfl) (hP (rep_m Enc.e (w64 (3990 + r1.1)).toNat (mkU8 0 : UInt8)) (hO 4 (.s (bytS (List.replicate (w64 (3990 + r1.1)).toNat (mkU8 0 : UInt8)))) (hP (byt_p (List.replicate (w64 (3990 + r1.1)).toNat (mkU8 0 : UInt8))) (hP (byt_m (List.replicate (w64 (3990 + r1.1)).toNat (mkU8 0 : UInt8))) h0))))))) ?_
  cases hm
  exact rt [] []
 ·refine X_skip (thN ?_)
  obtain ⟨r2, h3, hm⟩ := obind hm
  refine rs G (hC 1 (s_l1Cur_any1_c h3) h0) ?_
  cases hm
  exact rt [] []
noncomputable def strings_Contains_M : MS (ByteArray × ByteArray) Bool := ⟨.x .r .r, fun x => strings_Contains x.1 x.2, fun y => dV y, fun _ => [], fun _ _ => []⟩
theorem strings_Contains_c {s substr y} (hm : strings_Contains s substr = some y) : strings_Contains_M.C (s, substr) y := strings_Contains_M.c (s, substr) hm
theorem strings_Contains_ok : FnOK Tryd.prog tJ 75 strings_Contains_M.S := containsOK Tryd.lays144 Tryd.call75 (by kernel_rfl)
noncomputable def i_checksum_M : MS ByteArray Int := ⟨.r, i_checksum, fun y => dV y, fun _ => [], fun _ _ => []⟩
theorem i_checksum_c {s y} (hm : i_checksum s = some y) : i_checksum_M.C s y := i_checksum_M.c s hm
theorem i_checksum_ok : FnOK Tryd.prog tJ 85 i_checksum_M.S := by
 refine fm tt i_checksum_M [] Tryd.call85 Tryd.func85 rfl Tryd.results85 Tryd.ntmps85 ?_
 rintro s y cx G hm
 have hm : i_checksum s = some y := hm
 unfold i_checksum at hm
 refine rg G (rg G (Ok_seq (rg G (tl hm (fun i1 => ⟨[(3, dV i1)], [], 32⟩) (fun i1 hm => ?_) ?_))))
 ·refine Ok_block (lp G hm (fun (i, v) => ⟨[(0, dV s), (3, dV i), (6, dV (s.size : Int)), (7, dV v)], [], 32⟩) ?_)
  rintro ⟨i, v⟩ r0 hb hm
  rw [i_checksum_L1] at hm
  refine rg G (Ok_seq (cd hm (fun hm => ?_) (fun hm => ?_)))
  ·refine X_skip (thN (Ok_seq (Ok_block (rg G ?_))))
   obtain ⟨u, h, hm⟩ := obind hm
   obtain ⟨u1, h1, hm⟩ := obind hm
   refine re G (hK h (hK h1 h0)) ?_
   exact ibN (thN (rh G (wL G hm)))
  ·exact Ok_exit (thE (thE (ibE (wD G hm hb))))
 rintro i1 hm s1 hw
 refine thN (Ok_weak hw ?_)
 refine rg G ?_
 cases hm
 exact rt [] []
noncomputable def i_AppendChecksum_M : MS ByteArray (ByteArray × Bool) := ⟨.r, i_AppendChecksum, fun y => .tup [dV y.1, dV y.2], fun _ => [], fun _ _ => []⟩
theorem i_AppendChecksum_c {s y} (hm : i_AppendChecksum s = some y) : i_AppendChecksum_M.C s y := i_AppendChecksum_M.c s hm
theorem i_AppendChecksum_ok : FnOK Tryd.prog tJ 27 i_AppendChecksum_M.S := by
 refine fm tt i_AppendChecksum_M [fo strings_Contains_ok, fo i_checksum_ok, fo strconv_Itoa_ok] Tryd.call27 Tryd.func27 rfl Tryd.results27 Tryd.ntmps27 ?_
 rintro s y cx G hm
 have hm : i_AppendChecksum s = some y := hm
 unfold i_AppendChecksum at hm
 refine rg G (Ok_seq (jn hm (fun v => ⟨[(0, dV s), (11, dV v)], [], 32⟩) (fun v hm => ?_) ?_))
 ·rcases bf hm with ⟨hb, hm⟩ | ⟨hb, hm⟩
  ·refine re G (hO 3 (.b true) (hP hb h0)) ?_
   exact wJ G hm
  ·obtain ⟨r, h, hm⟩ := obind hm
   refine re G (hO 3 (.b false) (hP hb (hC 5 (strings_Contains_c h) h0))) ?_
   exact wJ G hm
 rintro v hm
 refine cd hm (fun hm => ?_) (fun hm => ?_)
 ·refine rg G ?_
  cases hm
  exact rt [] []
 ·refine X_skip (thN ?_)
  obtain ⟨u, h1, hm⟩ := obind hm
  obtain ⟨r1, h2, hm⟩ := obind hm
  obtain ⟨r2, h3, hm⟩ := obind hm
  obtain ⟨u1, h4, hm⟩ := obind hm
  refine rs G (hP (cat_p (chk_t h1)) (hC 3 (i_checksum_c h2) (hC 4 (strconv_Itoa_c h3) (hP (cat_p (chk_t h4)) h0)))) ?_
  refine Ok_seq (rg G (cd hm (fun hm => ?_) (fun hm => ?_)))
  ·refine rg G ?_
   cases hm
   exact rt [] []
  ·refine X_skip (thN (rg G ?_))
   cases hm
   exact rt [] []
noncomputable def s_l1Stands_M : MS (ByteArray × UInt8) Bool := ⟨.x .r .r, fun x => s_l1Stands x.1 x.2, fun y => dV y, fun _ => [], fun _ _ => []⟩
theorem s_l1Stands_c {s b y} (hm : s_l1Stands s b = some y) : s_l1Stands_M.C (s, b) y := s_l1Stands_M.c (s, b) hm
theorem s_l1Stands_ok : FnOK Tryd.prog tJ 77 s_l1Stands_M.S := by
 refine fm tt s_l1Stands_M [] Tryd.call77 Tryd.func77 rfl Tryd.results77 Tryd.ntmps77 ?_
 rintro ⟨s, b⟩ y cx G hm
 have hm : s_l1Stands s b = some y := hm
 unfold s_l1Stands at hm
 refine rg G (Ok_seq (rg G (tF hm (fun _ => ⟨[], [], 32⟩) (fun v1 hr hm => ?_) ?_)))
 ·refine Ok_block (lp G hm (fun v => ⟨[(0, dV s), (1, dV b), (5, dV v)], [], 32⟩) ?_)
  rintro v r0 hb hm
  rw [s_l1Stands_L1] at hm
  refine Ok_seq (rg G (cd hm (fun hm => ?_) (fun hm => ?_)))
  ·refine X_skip (thN (Ok_seq (Ok_block ?_)))
   obtain ⟨u, h, hm⟩ := obind hm
   refine rs G (hK h h0) ?_
   refine cd hm (fun hm => ?_) (fun hm => ?_)
   ·refine rg G ?_
    have hm := eL hm hb hr
    cases hm
    exact rt [] []
   ·exact X_skip (ibN (thN (rh G (wL G hm))))
  ·exact Ok_exit (thE (thE (ibE (wE G hm hb))))
 rintro ⟨⟩ hm s1 hw
 refine thN (Ok_weak hw ?_)
 refine rg G ?_
 cases hm
 exact rt [] []
noncomputable def s_l1Sum_M : MS ByteArray Int := ⟨.r, s_l1Sum, fun y => dV y, fun _ => [], fun _ _ => []⟩
theorem s_l1Sum_c {s y} (hm : s_l1Sum s = some y) : s_l1Sum_M.C s y := s_l1Sum_M.c s hm
theorem s_l1Sum_ok : FnOK Tryd.prog tJ 134 s_l1Sum_M.S := by
 refine fm tt s_l1Sum_M [] Tryd.call134 Tryd.func134 rfl Tryd.results134 Tryd.ntmps134 ?_
 rintro s y cx G hm
 have hm : s_l1Sum s = some y := hm
 unfold s_l1Sum at hm
 refine rg G (rg G (Ok_seq (rg G (tl hm (fun i1 => ⟨[(3, dV i1)], [], 32⟩) (fun i1 hm => ?_) ?_))))
 ·refine Ok_block (lp G hm (fun (i, v) => ⟨[(0, dV s), (3, dV i), (4, dV v)], [], 32⟩) ?_)
  rintro ⟨i, v⟩ r0 hb hm
  rw [s_l1Sum_L1] at hm
  refine Ok_seq (rg G (cd hm (fun hm => ?_) (fun hm => ?_)))
  ·refine X_skip (thN (Ok_seq (Ok_block ?_)))
   obtain ⟨u, h, hm⟩ := obind hm
   obtain ⟨u1, h1, hm⟩ := obind hm
   refine re G (hK h (hK h1 h0)) ?_
   exact ibN (thN (rh G (wL G hm)))
  ·exact Ok_exit (thE (thE (ibE (wD G hm hb))))
 rintro i1 hm s1 hw
 refine thN (Ok_weak hw ?_)
 refine rg G ?_
 cases hm
 exact rt [] []
noncomputable def s_l1Seal_M : MS ByteArray ByteArray := ⟨.r, s_l1Seal, fun y => dV y, fun _ => [], fun _ _ => []⟩
theorem s_l1Seal_c {s y} (hm : s_l1Seal s = some y) : s_l1Seal_M.C s y := s_l1Seal_M.c s hm
theorem s_l1Seal_ok : FnOK Tryd.prog tJ 86 s_l1Seal_M.S := by
 refine fm tt s_l1Seal_M [fo s_l1Sum_ok, fo s_l1Num_ok] Tryd.call86 Tryd.func86 rfl Tryd.results86 Tryd.ntmps86 ?_
 rintro s y cx G hm
 have hm : s_l1Seal s = some y := hm
 unfold s_l1Seal at hm
 refine rg G ?_
 obtain ⟨u, h, hm⟩ := obind hm
 obtain ⟨r, h1, hm⟩ := obind hm
 obtain ⟨r1, h2, hm⟩ := obind hm
 obtain ⟨u1, h3, hm⟩ := obind hm
 refine rs G (hP (cat_p (chk_t h)) (hC 3 (s_l1Sum_c h1) (hC 4 (s_l1Num_c h2) (hP (cat_p (chk_t h3)) h0)))) ?_
 cases hm
 exact rt [] []
noncomputable def s_AppendChecksum_M : MS ByteArray (ByteArray × Bool) := ⟨.r, s_AppendChecksum, fun y => .tup [dV y.1, dV y.2], fun _ => [], fun _ _ => []⟩
theorem s_AppendChecksum_c {s y} (hm : s_AppendChecksum s = some y) : s_AppendChecksum_M.C s y := s_AppendChecksum_M.c s hm
theorem s_AppendChecksum_ok : FnOK Tryd.prog tJ 28 s_AppendChecksum_M.S := by
 refine fm tt s_AppendChecksum_M [fo s_l1Stands_ok, fo s_l1Seal_ok] Tryd.call28 Tryd.func28 rfl Tryd.results28 Tryd.ntmps28 ?_
 rintro s y cx G hm
 have hm : s_AppendChecksum s = some y := hm
 unfold s_AppendChecksum at hm
 refine rg G (Ok_seq (jn hm (fun v => ⟨[(0, dV s), (16, dV v)], [], 32⟩) (fun v hm => ?_) ?_))
 ·rcases bf hm with ⟨hb, hm⟩ | ⟨hb, hm⟩
  ·refine re G (hO 3 (.b true) (hP hb h0)) ?_
   exact wJ G hm
  ·obtain ⟨r, h, hm⟩ := obind hm
   rcases bf hm with ⟨hb1, hm⟩ | ⟨hb1, hm⟩
   ·refine re G (hO 3 (.b false) (hP hb (hC 5 (s_l1Stands_c h) (hO 7 (.b true) (hP hb1 h0))))) ?_
    exact wJ G hm
   ·obtain ⟨r1, h1, hm⟩ := obind hm
    refine re G (hO 3 (.b false) (hP hb (hC 5 (s_l1Stands_c h) (hO 7 (.b false) (hP hb1 (hC 9 (s_l1Seal_c h1) h0)))))) ?_
    exact wJ G hm
 rintro v hm
 refine cd hm (fun hm => ?_) (fun hm => ?_)
 ·refine rg G ?_
  cases hm
  exact rt [] []
 ·refine X_skip (thN ?_)
  obtain ⟨r2, h2, hm⟩ := obind hm
  refine rs G (hC 1 (s_l1Seal_c h2) h0) ?_
  cases hm
  exact rt [] []
noncomputable def strings_Cut_M : MS (ByteArray × ByteArray) (ByteArray × ByteArray × Bool) := ⟨.x .r .r, fun x => strings_Cut x.1 x.2, fun y => .tup [dV y.1, dV y.2.1, dV y.2.2], fun _ => [], fun _ _ => []⟩
theorem strings_Cut_c {s sep y} (hm : strings_Cut s sep = some y) : strings_Cut_M.C (s, sep) y := strings_Cut_M.c (s, sep) hm
theorem strings_Cut_ok : FnOK Tryd.prog tJ 87 strings_Cut_M.S := cutOK Tryd.lays145 Tryd.call87 (by kernel_rfl)
noncomputable def i_VerifyChecksum_M : MS ByteArray (ByteArray × Bool) := ⟨.r, i_VerifyChecksum, fun y => .tup [dV y.1, dV y.2], fun _ => [], fun _ _ => []⟩
theorem i_VerifyChecksum_c {s y} (hm : i_VerifyChecksum s = some y) : i_VerifyChecksum_M.C s y := i_VerifyChecksum_M.c s hm
theorem i_VerifyChecksum_ok : FnOK Tryd.prog tJ 29 i_VerifyChecksum_M.S := by
 refine fm tt i_VerifyChecksum_M [fo strings_Cut_ok, fo i_AppendChecksum_ok] Tryd.call29 Tryd.func29 rfl Tryd.results29 Tryd.ntmps29 ?_
 rintro s y cx G hm
 have hm : i_VerifyChecksum s = some y := hm
 unfold i_VerifyChecksum at hm
 refine rg G ?_
 obtain ⟨r, h, hm⟩ := obind hm
 refine rs G (hC 1 (strings_Cut_c h) h0) ?_
 refine Ok_seq (rg G (cd hm (fun hm => ?_) (fun hm => ?_)))
 ·refine rg G ?_
  cases hm
  exact rt [] []
 ·refine X_skip (thN (Ok_seq ?_))
  obtain ⟨r1, h1, hm⟩ := obind hm
  refine rs G (hC 1 (i_AppendChecksum_c h1) h0) ?_
  refine jn hm (fun v => ⟨[(4, dV r.1), (28, dV v)], [], 32⟩) (fun v hm => ?_) ?_
  ·rcases bf hm with ⟨hb, hm⟩ | ⟨hb, hm⟩
   ·refine re G (hO 2 (.b true) (hP hb h0)) ?_
    exact wJ G hm
   ·refine re G (hO 2 (.b false) (hP hb h0)) ?_
    exact wJ G hm
  rintro v hm
  refine cd hm (fun hm => ?_) (fun hm => ?_)
  ·refine rg G ?_
   cases hm
   exact rt [] []
  ·refine X_skip (thN (rg G ?_))
   cases hm
   exact rt [] []
noncomputable def v_vAt_M : MS ((List UInt8) × Int) Int := ⟨.x .r .r, fun x => v_vAt x.1 x.2, fun y => dV y, fun _ => [], fun _ _ => []⟩
theorem v_vAt_c {code i y} (hm : v_vAt code i = some y) : v_vAt_M.C (code, i) y := v_vAt_M.c (code, i) hm
theorem v_vAt_ok : FnOK Tryd.prog tJ 30 v_vAt_M.S := by
 refine fm tt v_vAt_M [] Tryd.call30 Tryd.func30 rfl Tryd.results30 Tryd.ntmps30 ?_
 rintro ⟨code, i⟩ y cx G hm
 have hm : v_vAt code i = some y := hm
 unfold v_vAt at hm
 refine rg G (Ok_seq (rs G (hN 2 code h0) ?_))
 refine cd hm (fun hm => ?_) (fun hm => ?_)
 ·obtain ⟨e, h, hm⟩ := obind hm
  refine rs G (hD 2 h h0) ?_
  cases hm
  exact rt [] []
 ·refine X_skip (thN ?_)
  obtain ⟨u, h1, hm⟩ := obind hm
  refine rs G (hN 3 code (hK h1 h0)) ?_
  cases hm
  exact rt [] []
noncomputable def v_FnStrings_M : MS ((List UInt8)) Bool := ⟨.r, v_FnStrings, fun y => dV y, fun _ => [], fun _ _ => []⟩
theorem v_FnStrings_c {code y} (hm : v_FnStrings code = some y) : v_FnStrings_M.C code y := v_FnStrings_M.c code hm
theorem v_FnStrings_ok : FnOK Tryd.prog tJ 4 v_FnStrings_M.S := by
 refine fm tt v_FnStrings_M [fo v_vBig_ok, fo s_DrawFormatInt_ok, fo i_FormatInt_ok, fo s_FormatInt_ok, fo s_DrawParseInt_ok, fo i_ParseInt_ok, fo s_ParseInt_ok, fo s_DrawAppendChecksum_ok, fo i_AppendChecksum_ok, fo s_AppendChecksum_ok, fo i_VerifyChecksum_ok, fo v_vAt_ok] Tryd.call4 Tryd.func4 rfl Tryd.results4 Tryd.ntmps4 ?_
 rintro code y cx G hm
 have hm : v_FnStrings code = some y := hm
 unfold v_FnStrings at hm
 refine rg G (Ok_seq ?_)
 obtain ⟨r, h, hm⟩ := obind hm
 refine rs G (hC 1 (v_vBig_c h) h0) ?_
 refine cd hm (fun hm => ?_) (fun hm => ?_)
 ·refine rg G ?_
  cases hm
  exact rt [] []
 ·refine X_skip (thN ?_)
  obtain ⟨r1, h1, hm⟩ := obind hm
  refine rs G (hC 1 (s_DrawFormatInt_c h1) h0) ?_
  obtain ⟨r2, h2, hm⟩ := obind hm
  refine rs G (hC 1 (i_FormatInt_c h2) h0) ?_
  obtain ⟨r3, h3, hm⟩ := obind hm
  refine rs G (hC 1 (s_FormatInt_c h3) h0) ?_
  obtain ⟨r4, h4, hm⟩ := obind hm
  refine rs G (hC 1 (s_DrawParseInt_c h4) h0) ?_
  obtain ⟨r5, h5, hm⟩ := obind hm
  refine rs G (hC 1 (i_ParseInt_c h5) h0) ?_
  obtain ⟨r6, h6, hm⟩ := obind hm
  refine rs G (hC 1 (s_ParseInt_c h6) h0) ?_
  obtain ⟨r7, h7, hm⟩ := obind hm
  refine rs G (hC 1 (s_DrawAppendChecksum_c h7) h0) ?_
  obtain ⟨r8, h8, hm⟩ := obind hm
  refine rs G (hC 1 (i_AppendChecksum_c h8) h0) ?_
  obtain ⟨r9, h9, hm⟩ := obind hm
  refine rs G (hC 1 (s_AppendChecksum_c h9) h0) ?_
  refine Ok_seq (jn hm (fun v => ⟨[(0, dV code), (3, dV r1), (4, dV r2.1), (5, dV r2.2), (13, dV r7), (14, dV r8.1), (15, dV r8.2), (91, dV v)], [], 32⟩) (fun v hm => ?_) ?_)
  ·rcases bf hm with ⟨hb, hm⟩ | ⟨hb, hm⟩
   ·refine re G (hO 3 (.b true) (hP hb h0)) ?_
    exact wJ G hm
   ·rcases bf hm with ⟨hb1, hm⟩ | ⟨hb1, hm⟩
    ·refine re G (hO 3 (.b false) (hP hb (hO 8 (.b true) (hP hb1 h0)))) ?_
     exact wJ G hm
    ·rcases bf hm with ⟨hb2, hm⟩ | ⟨hb2, hm⟩
     ·refine re G (hO 3 (.b false) (hP hb (hO 8 (.b false) (hP hb1 (hO 13 (.b true) (hP hb2 h0)))))) ?_
      exact wJ G hm
     ·rcases bf hm with ⟨hb3, hm⟩ | ⟨hb3, hm⟩
      ·refine re G (hO 3 (.b false) (hP hb (hO 8 (.b false) (hP hb1 (hO 13 (.b false) (hP hb2 (hO 18 (.b true) (hP hb3 h0)))))))) ?_
       exact wJ G hm
      ·rcases bf hm with ⟨hb4, hm⟩ | ⟨hb4, hm⟩
       ·refine re G (hO 3 (.b false) (hP hb (hO 8 (.b false) (hP hb1 (hO 13 (.b false) (hP hb2 (hO 18 (.b false) (hP hb3 (hO 23 (.b true) (hP hb4 h0)))))))))) ?_
        exact wJ G hm
       ·refine re G (hO 3 (.b false) (hP hb (hO 8 (.b false) (hP hb1 (hO 13 (.b false) (hP hb2 (hO 18 (.b false) (hP hb3 (hO 23 (.b false) (hP hb4 h0)))))))))) ?_
        exact wJ G hm
  rintro v hm
  refine cd hm (fun hm => ?_) (fun hm => ?_)
  ·refine rg G ?_
   cases hm
   exact rt [] []
  ·refine X_skip (thN (Ok_seq ?_))
   obtain ⟨r10, h10, hm⟩ := obind hm
   refine rs G (hC 1 (i_ParseInt_c h10) h0) ?_
   refine jn hm (fun v1 => ⟨[(0, dV code), (13, dV r7), (14, dV r8.1), (15, dV r8.2), (106, dV v1)], [], 32⟩) (fun v1 hm => ?_) ?_
   ·rcases bf hm with ⟨hb5, hm⟩ | ⟨hb5, hm⟩
    ·rcases bf hm with ⟨hb6, hm⟩ | ⟨hb6, hm⟩
     ·refine re G (hO 1 (.b true) (hP hb5 (hO 4 (.b true) (hP hb6 h0)))) ?_
      exact wJ G hm
     ·refine re G (hO 1 (.b true) (hP hb5 (hO 4 (.b false) (hP hb6 h0)))) ?_
      exact wJ G hm
    ·refine re G (hO 1 (.b false) (hP hb5 h0)) ?_
     exact wJ G hm
   rintro v1 hm
   refine cd hm (fun hm => ?_) (fun hm => ?_)
   ·refine rg G ?_
    cases hm
    exact rt [] []
   ·refine X_skip (thN (Ok_seq (rg G (cd hm (fun hm => ?_) (fun hm => ?_)))))
    ·refine rg G ?_
     cases hm
     exact rt [] []
    ·refine X_skip (thN ?_)
     obtain ⟨r11, h11, hm⟩ := obind hm
     refine rs G (hC 1 (i_VerifyChecksum_c h11) h0) ?_
     obtain ⟨u, h12, hm⟩ := obind hm
     refine rs G (hO 1 (.l (List.map Enc.e r8.1.data.toList)) (hK h12 (hP (bts_m r8.1) h0))) ?_
     obtain ⟨r12, h13, hm⟩ := obind hm
     obtain ⟨u1, h14, hm⟩ := obind hm
     refine rs G (hC 1 (v_vAt_c h13) (hN 3 r8.1.data.toList (hK h14 h0))) ?_
     obtain ⟨e2, h19, hm⟩ := obind hm
     obtain ⟨r14, h20, hm⟩ := obind hm
     obtain ⟨u3, h21, hm⟩ := obind hm
     obtain ⟨e3, h22, hm⟩ := obind hm
     refine ds G [(13, [192])] (hD 4 h19 (hE 5 h19 (hC 7 (v_vAt_c h20) (hK h21 (hO 11 (.n ((mkU8 (IntKind.u8.wrap ((BitVec.ofInt (IntKind.u8).bits (e2.toNat : Int) ^^^ BitVec.ofInt (IntKind.u8).bits (IntKind.u8.wrap ((w64 (1 + (r14.tmod 255)))))).toNat : Int))).toNat : Int)) (hP (u8w_m (((BitVec.ofInt (IntKind.u8).bits (e2.toNat : Int) ^^^ BitVec.ofInt (IntKind.u8).bits (IntKind.u8.wrap ((w64 (1 + (r14.tmod 255)))))).toNat : Nat) : Int)) (hD 12 h22 (hS 13 h22 (mkU8 (IntKind.u8.wrap ((BitVec.ofInt (IntKind.u8).bits (e2.toNat : Int) ^^^ BitVec.ofInt (IntKind.u8).bits (IntKind.u8.wrap ((w64 (1 + (r14.tmod 255)))))).toNat : Int))) h0)))))))) ?_
     obtain ⟨r15, h23, hm⟩ := obind hm
     refine rs G (hO 1 (.s (bytS (r8.1.data.toList.set (r12.tmod (r8.1.data.toList.length : Int)).toNat (mkU8 (IntKind.u8.wrap ((BitVec.ofInt (IntKind.u8).bits (e2.toNat : Int) ^^^ BitVec.ofInt (IntKind.u8).bits (IntKind.u8.wrap ((w64 (1 + (r14.tmod 255)))))).toNat : Int)))))) (hP (byt_p (r8.1.data.toList.set (r12.tmod (r8.1.data.toList.length : Int)).toNat (mkU8 (IntKind.u8.wrap ((BitVec.ofInt (IntKind.u8).bits (e2.toNat : Int) ^^^ BitVec.ofInt (IntKind.u8).bits (IntKind.u8.wrap ((w64 (1 + (r14.tmod 255)))))).toNat : Int))))) (hP (byt_m (r8.1.data.toList.set (r12.tmod (r8.1.data.toList.length : Int)).toNat (mkU8 (IntKind.u8.wrap ((BitVec.ofInt (IntKind.u8).bits (e2.toNat : Int) ^^^ BitVec.ofInt (IntKind.u8).bits (IntKind.u8.wrap ((w64 (1 + (r14.tmod 255)))))).toNat : Int))))) (hC 2 (i_VerifyChecksum_c h23) h0)))) ?_
     refine jn hm (fun n => ⟨[(2, dV n)], [], 32⟩) (fun n hm => ?_) ?_
     ·rcases bf hm with ⟨hb7, hm⟩ | ⟨hb7, hm⟩
      ·rcases bf hm with ⟨hb8, hm⟩ | ⟨hb8, hm⟩
       ·refine re G (hO 1 (.b true) (hP hb7 (hO 6 (.b true) (hP hb8 h0)))) ?_
        exact wJ G hm
       ·refine re G (hO 1 (.b true) (hP hb7 (hO 6 (.b false) (hP hb8 h0)))) ?_
        exact wJ G hm
      ·refine re G (hO 1 (.b false) (hP hb7 h0)) ?_
       exact wJ G hm
     rintro n hm
     cases hm
     exact rt [] []
end Go.Proofs.YtbedhobglodjbaaDoor
