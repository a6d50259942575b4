/- Each function computes what its model says. Made by program (dec.py). -/
import Derived.Test.YtbedhobglodjbaaDoorTy
import Derived.Test.YtbedhobglodjbaaDoorAbC
import Derived.Test.YtbedhobglodjbaaDoorSjM
import Derived.Test.YtbedhobglodjbaaDoorSh
namespace Go.Proofs.YtbedhobglodjbaaDoor
open Go Go.Ab
set_option maxRecDepth 100000
set_option maxHeartbeats 4000000
set_option linter.unusedVariables false
set_option linter.unusedSimpArgs false
theorem tt : TT Tryd.prog ty := ⟨by kernel_rfl, ty_ok⟩
abbrev tJ : Inv := strJ Tryd.prog none
noncomputable def v_vBig_M : MS ((List UInt8)) Bool := ⟨.r, v_vBig, fun y => dV y, fun _ => [], fun _ _ => []⟩
theorem v_vBig_c {code y} (hm : v_vBig code = some y) : v_vBig_M.C code y := v_vBig_M.c code hm
theorem v_vBig_ok : FnOK Tryd.prog tJ 11 v_vBig_M.S := by
 refine fm tt v_vBig_M [] Tryd.call11 Tryd.func11 rfl Tryd.results11 Tryd.ntmps11 ?_
 rintro code y cx G hm
 have hm : v_vBig code = some y := hm
 unfold v_vBig at hm
 refine rg G (rs G (hN 1 code h0) ?_)
 cases hm
 exact rt [] []
noncomputable def s_l1Cur_next_M : MS l1Cur (Int × l1Cur) := ⟨.b 90, s_l1Cur_next, fun y => dV y.1, fun _ => [], fun _ y => [bxO 90 y.2]⟩
theorem s_l1Cur_next_c {c y} (hm : s_l1Cur_next c = some y) : s_l1Cur_next_M.C c y := s_l1Cur_next_M.c c hm
theorem s_l1Cur_next_ok : FnOK Tryd.prog tJ 127 s_l1Cur_next_M.S := by
 refine fm tt s_l1Cur_next_M [] Tryd.call127 Tryd.func127 rfl Tryd.results127 Tryd.ntmps127 ?_
 rintro c y cx G hm
 have hm : s_l1Cur_next c = some y := hm
 unfold s_l1Cur_next at hm
 refine rg G (rg G (jn hm (fun v => ⟨[(0, .ref 0 0), (3, dV v)], [bX 0 90 [dV c.code_, dV c.at_, kV .u64 c.seed_.v]], 48⟩) (fun v hm => ?_) ?_))
 ·refine ds G [] (hN 8 c.code_ h0) ?_
  refine cd hm (fun hm => ?_) (fun hm => ?_)
  ·obtain ⟨e1, h1, hm⟩ := obind hm
   refine de G [] (hD 8 h1 h0) ?_
   exact wJ G hm
  ·exact X_skip (wJ G hm)
 rintro v hm
 refine rg G (rg G (Ok_seq (ds G [] (hN 8 c.code_ h0) ?_)))
 refine cd hm (fun hm => ?_) (fun hm => ?_)
 ·refine rg G ?_
  cases hm
  exact rt [] []
 ·refine X_skip (thN ?_)
  obtain ⟨u, h2, hm⟩ := obind hm
  refine rs G (hK h2 h0) ?_
  cases hm
  exact rt [] []
noncomputable def s_l1Cur_pick_M : MS (l1Cur × Int) (Int × l1Cur) := ⟨.x (.b 90) .r, fun x => s_l1Cur_pick x.1 x.2, fun y => dV y.1, fun _ => [], fun _ y => [bxO 90 y.2]⟩
theorem s_l1Cur_pick_c {c n y} (hm : s_l1Cur_pick c n = some y) : s_l1Cur_pick_M.C (c, n) y := s_l1Cur_pick_M.c (c, n) hm
theorem s_l1Cur_pick_ok : FnOK Tryd.prog tJ 73 s_l1Cur_pick_M.S := by
 refine fm tt s_l1Cur_pick_M [fo s_l1Cur_next_ok] Tryd.call73 Tryd.func73 rfl Tryd.results73 Tryd.ntmps73 ?_
 rintro ⟨c, n⟩ y cx G hm
 have hm : s_l1Cur_pick c n = some y := hm
 unfold s_l1Cur_pick at hm
 refine rg G (Ok_seq (rg G (cd hm (fun hm => ?_) (fun hm => ?_))))
 ·refine rg G ?_
  cases hm
  exact rt [] []
 ·refine X_skip (thN ?_)
  obtain ⟨r, h, hm⟩ := obind hm
  refine rs G (hC 1 (s_l1Cur_next_c h) h0) ?_
  refine jn hm (fun (v, v1, v2, v3) => ⟨[(0, .ref 0 0), (1, dV n), (5, dV v)], [bX 0 90 [dV v1, dV v2, kV .u64 v3]], 48⟩) (fun vv hm => ?_) ?_
  ·refine rg G (cd hm (fun hm => ?_) (fun hm => ?_))
   ·obtain ⟨r1, h1, hm⟩ := obind hm
    refine re G (hC 3 (s_l1Cur_next_c h1) h0) ?_
    exact wJ G hm
   ·exact X_skip (wJ G hm)
  rintro ⟨v, v1, v2, v3⟩ hm
  obtain ⟨u, h2, hm⟩ := obind hm
  refine rs G (hK h2 h0) ?_
  cases hm
  exact rt [] []
noncomputable def s_l1Cur_of_M : MS (l1Cur × (List ByteArray)) (ByteArray × l1Cur) := ⟨.x (.b 90) .r, fun x => s_l1Cur_of x.1 x.2, fun y => dV y.1, fun _ => [], fun _ y => [bxO 90 y.2]⟩
theorem s_l1Cur_of_c {c list y} (hm : s_l1Cur_of c list = some y) : s_l1Cur_of_M.C (c, list) y := s_l1Cur_of_M.c (c, list) hm
theorem s_l1Cur_of_ok : FnOK Tryd.prog tJ 71 s_l1Cur_of_M.S := by
 refine fm tt s_l1Cur_of_M [fo s_l1Cur_pick_ok] Tryd.call71 Tryd.func71 rfl Tryd.results71 Tryd.ntmps71 ?_
 rintro ⟨c, list⟩ y cx G hm
 have hm : s_l1Cur_of c list = some y := hm
 unfold s_l1Cur_of at hm
 refine rg G ?_
 obtain ⟨r, h, hm⟩ := obind hm
 obtain ⟨e, h1, hm⟩ := obind hm
 refine rs G (hN 3 list (hC 4 (s_l1Cur_pick_c h) (hD 5 h1 h0))) ?_
 cases hm
 exact rt [] []
noncomputable def s_l1Cur_any1_M : MS l1Cur (ByteArray × l1Cur) := ⟨.b 90, s_l1Cur_any1, fun y => dV y.1, fun _ => [], fun _ y => [bxO 90 y.2]⟩
theorem s_l1Cur_any1_c {c y} (hm : s_l1Cur_any1 c = some y) : s_l1Cur_any1_M.C c y := s_l1Cur_any1_M.c c hm
theorem s_l1Cur_any1_ok : FnOK Tryd.prog tJ 70 s_l1Cur_any1_M.S := by
 refine fm tt s_l1Cur_any1_M [fo s_l1Cur_of_ok] Tryd.call70 Tryd.func70 rfl Tryd.results70 Tryd.ntmps70 ?_
 rintro c y cx G hm
 have hm : s_l1Cur_any1 c = some y := hm
 unfold s_l1Cur_any1 at hm
 refine rg G ?_
 obtain ⟨r, h, hm⟩ := obind hm
 refine rs G (hO 2 (.fz [48] [] []) (hC 2 (s_l1Cur_of_c h) h0)) ?_
 cases hm
 exact rt [] []
noncomputable def s_DrawSplitString_M : MS ((List UInt8)) (ByteArray × ByteArray) := ⟨.r, s_DrawSplitString, fun y => .tup [dV y.1, dV y.2], fun _ => [], fun _ _ => []⟩
theorem s_DrawSplitString_c {code y} (hm : s_DrawSplitString code = some y) : s_DrawSplitString_M.C code y := s_DrawSplitString_M.c code hm
theorem s_DrawSplitString_ok : FnOK Tryd.prog tJ 12 s_DrawSplitString_M.S := by
 refine fm tt s_DrawSplitString_M [fo s_l1Cur_any1_ok, fo s_l1Cur_of_ok] Tryd.call12 Tryd.func12 rfl Tryd.results12 Tryd.ntmps12 ?_
 rintro code y cx G hm
 have hm : s_DrawSplitString code = some y := hm
 unfold s_DrawSplitString at hm
 refine rg G (rg G ?_)
 obtain ⟨r, h, hm⟩ := obind hm
 refine rs G (hC 1 (s_l1Cur_any1_c h) h0) ?_
 obtain ⟨r1, h1, hm⟩ := obind hm
 refine rs G (hO 3 (.fz [192] [] []) (hC 3 (s_l1Cur_of_c h1) h0)) ?_
 cases hm
 exact rt [] []
noncomputable def strings_Split_M : MS (ByteArray × ByteArray) ((List ByteArray)) := ⟨.x .r .r, fun x => strings_Split x.1 x.2, fun _ => .own 0, fun y => [arO 9 y], fun _ _ => []⟩
theorem strings_Split_c {s sep y} (hm : strings_Split s sep = some y) : strings_Split_M.C (s, sep) y := strings_Split_M.c (s, sep) hm
theorem strings_Split_ok : FnOK Tryd.prog tJ 72 strings_Split_M.S := splitOK Tryd.lays146 (by kernel_rfl) Tryd.call72 (by kernel_rfl)
noncomputable def i_SplitString_M : MS (ByteArray × ByteArray) ((List ByteArray) × Bool) := ⟨.x .r .r, fun x => i_SplitString x.1 x.2, fun y => .tup [dV y.1, dV y.2], fun _ => [], fun _ _ => []⟩
theorem i_SplitString_c {s sep y} (hm : i_SplitString s sep = some y) : i_SplitString_M.C (s, sep) y := i_SplitString_M.c (s, sep) hm
theorem i_SplitString_ok : FnOK Tryd.prog tJ 13 i_SplitString_M.S := by
 refine fm tt i_SplitString_M [fo strings_Split_ok] Tryd.call13 Tryd.func13 rfl Tryd.results13 Tryd.ntmps13 ?_
 rintro ⟨s, sep⟩ y cx G hm
 have hm : i_SplitString s sep = some y := hm
 unfold i_SplitString at hm
 refine rg G (Ok_seq (jn hm (fun v => ⟨[(0, dV s), (1, dV sep), (13, dV v)], [], 32⟩) (fun v hm => ?_) ?_))
 ·rcases bf hm with ⟨hb, hm⟩ | ⟨hb, hm⟩
  ·refine re G (hO 3 (.b true) (hP hb h0)) ?_
   exact wJ G hm
  ·refine re G (hO 3 (.b false) (hP hb h0)) ?_
   exact wJ G hm
 rintro v hm
 refine cd hm (fun hm => ?_) (fun hm => ?_)
 ·refine rg G ?_
  cases hm
  exact rt [] [[.z 1]]
 ·refine X_skip (thN ?_)
  obtain ⟨r, h, hm⟩ := obind hm
  refine rs G (hC 2 (strings_Split_c h) h0) ?_
  cases hm
  exact rt [] []
noncomputable def s_l1Cur_one_M : MS (l1Cur × Int) (Bool × l1Cur) := ⟨.x (.b 90) .r, fun x => s_l1Cur_one x.1 x.2, fun y => dV y.1, fun _ => [], fun _ y => [bxO 90 y.2]⟩
theorem s_l1Cur_one_c {c n y} (hm : s_l1Cur_one c n = some y) : s_l1Cur_one_M.C (c, n) y := s_l1Cur_one_M.c (c, n) hm
theorem s_l1Cur_one_ok : FnOK Tryd.prog tJ 74 s_l1Cur_one_M.S := by
 refine fm tt s_l1Cur_one_M [fo s_l1Cur_pick_ok] Tryd.call74 Tryd.func74 rfl Tryd.results74 Tryd.ntmps74 ?_
 rintro ⟨c, n⟩ y cx G hm
 have hm : s_l1Cur_one c n = some y := hm
 unfold s_l1Cur_one at hm
 refine rg G ?_
 obtain ⟨r, h, hm⟩ := obind hm
 refine rs G (hC 2 (s_l1Cur_pick_c h) h0) ?_
 cases hm
 exact rt [] []
noncomputable def s_DrawJoinStrings_M : MS ((List UInt8)) ((List ByteArray) × ByteArray) := ⟨.r, s_DrawJoinStrings, fun y => .tup [.own 0, dV y.2], fun y => [arO 9 y.1], fun _ _ => []⟩
theorem s_DrawJoinStrings_c {code y} (hm : s_DrawJoinStrings code = some y) : s_DrawJoinStrings_M.C code y := s_DrawJoinStrings_M.c code hm
theorem s_DrawJoinStrings_ok : FnOK Tryd.prog tJ 14 s_DrawJoinStrings_M.S := by
 refine fm tt s_DrawJoinStrings_M [fo s_l1Cur_pick_ok, fo s_l1Cur_any1_ok, fo s_l1Cur_one_ok, fo s_l1Cur_of_ok] Tryd.call14 Tryd.func14 rfl Tryd.results14 Tryd.ntmps14 ?_
 rintro code y cx G hm
 have hm : s_DrawJoinStrings code = some y := hm
 unfold s_DrawJoinStrings at hm
 refine rg G (rg G (rg G ?_))
 obtain ⟨r, h, hm⟩ := obind hm
 refine rs G (hC 1 (s_l1Cur_pick_c h) h0) ?_
 refine Ok_seq (rg G (tl hm (fun (v4, v5, v6, n1) => ⟨[(4, .ref 16 0), (5, .own 32)], [bX 16 90 [dV v4, dV v5, kV .u64 v6], aX 32 9 n1], 64⟩) (fun vv1 hm => ?_) ?_))
 ·refine Ok_block (lp G hm (fun (v, v1, v2, v3, n) => ⟨[(4, .ref 16 0), (5, .own 32), (6, dV r.1), (7, dV v)], [bX 16 90 [dV v1, dV v2, kV .u64 v3], aX 32 9 n], 64⟩) ?_)
  rintro ⟨v, v1, v2, v3, n⟩ r0 hb hm
  rw [s_DrawJoinStrings_L1] at hm
  refine Ok_seq (rg G (cd hm (fun hm => ?_) (fun hm => ?_)))
  ·refine X_skip (thN (Ok_seq (Ok_block ?_)))
   obtain ⟨r1, h1, hm⟩ := obind hm
   obtain ⟨u, h2, hm⟩ := obind hm
   refine re G (hC 2 (s_l1Cur_any1_c h1) (hA 4 16 h2 h0)) ?_
   exact ibN (thN (rh G (wL G hm)))
  ·exact Ok_exit (thE (thE (ibE (wD G hm hb))))
 rintro ⟨v4, v5, v6, n1⟩ hm s hw
 refine thN (Ok_weak hw ?_)
 refine jn hm (fun (v7, v8, v9, n2) => ⟨[(4, .ref 16 0), (5, .own 32)], [bX 16 90 [dV v7, dV v8, kV .u64 v9], aX 32 9 n2], 64⟩) (fun vv hm => ?_) ?_
 ·obtain ⟨r2, h3, hm⟩ := obind hm
  refine rs G (hC 1 (s_l1Cur_one_c h3) h0) ?_
  refine cd hm (fun hm => ?_) (fun hm => ?_)
  ·obtain ⟨r3, h4, hm⟩ := obind hm
   obtain ⟨u1, h5, hm⟩ := obind hm
   obtain ⟨u2, h6, hm⟩ := obind hm
   refine re G (hC 2 (s_l1Cur_pick_c h4) (hO 4 (.l (List.map Enc.e (List.replicate (w64 (3990 + r3.1)).toNat (mkU8 0 : UInt8)))) (hP (mk_p (b := 1) (chk_t h5) rfl) (hP (rep_m Enc.e (w64 (3990 + r3.1)).toNat (mkU8 0 : UInt8)) (hO 5 (.s (bytS (List.replicate (w64 (3990 + r3.1)).toNat (mkU8 0 : UInt8)))) (hP (byt_p (List.replicate (w64 (3990 + r3.1)).toNat (mkU8 0 : UInt8))) (hP (byt_m (List.replicate (w64 (3990 + r3.1)).toNat (mkU8 0 : UInt8))) (hA 7 16 h6 h0)))))))) ?_
   exact wJ G hm
  ·exact X_skip (wJ G hm)
 rintro ⟨v7, v8, v9, n2⟩ hm
 obtain ⟨r4, h7, hm⟩ := obind hm
 refine rs G (hO 3 (.fz [96] [] []) (hC 3 (s_l1Cur_of_c h7) h0)) ?_
 cases hm
 exact rt [32] []
noncomputable def strings_Contains_M : MS (ByteArray × ByteArray) Bool := ⟨.x .r .r, fun x => strings_Contains x.1 x.2, fun y => dV y, fun _ => [], fun _ _ => []⟩
theorem strings_Contains_c {s substr y} (hm : strings_Contains s substr = some y) : strings_Contains_M.C (s, substr) y := strings_Contains_M.c (s, substr) hm
theorem strings_Contains_ok : FnOK Tryd.prog tJ 75 strings_Contains_M.S := containsOK Tryd.lays144 Tryd.call75 (by kernel_rfl)
noncomputable def strings_Join_M : MS ((List ByteArray) × ByteArray) ByteArray := ⟨.x .r .r, fun x => strings_Join x.1 x.2, fun y => dV y, fun _ => [], fun _ _ => []⟩
theorem strings_Join_c {elems sep y} (hm : strings_Join elems sep = some y) : strings_Join_M.C (elems, sep) y := strings_Join_M.c (elems, sep) hm
theorem strings_Join_ok : FnOK Tryd.prog tJ 76 strings_Join_M.S := joinOK Tryd.lays156 Tryd.Builder_Extra_156 Tryd.call76
noncomputable def i_JoinStrings_M : MS ((List ByteArray) × ByteArray) (ByteArray × Bool) := ⟨.x .r .r, fun x => i_JoinStrings x.1 x.2, fun y => .tup [dV y.1, dV y.2], fun _ => [], fun _ _ => []⟩
theorem i_JoinStrings_c {parts sep y} (hm : i_JoinStrings parts sep = some y) : i_JoinStrings_M.C (parts, sep) y := i_JoinStrings_M.c (parts, sep) hm
theorem i_JoinStrings_ok : FnOK Tryd.prog tJ 15 i_JoinStrings_M.S := by
 refine fm tt i_JoinStrings_M [fo strings_Contains_ok, fo strings_Join_ok] Tryd.call15 Tryd.func15 rfl Tryd.results15 Tryd.ntmps15 ?_
 rintro ⟨parts, sep⟩ y cx G hm
 have hm : i_JoinStrings parts sep = some y := hm
 unfold i_JoinStrings at hm
 refine rg G (Ok_seq (jn hm (fun v => ⟨[(0, dV parts), (1, dV sep), (16, dV v)], [], 32⟩) (fun v hm => ?_) ?_))
 ·rcases bf hm with ⟨hb, hm⟩ | ⟨hb, hm⟩
  ·refine re G (hN 1 parts (hO 3 (.b true) (hP hb h0))) ?_
   exact wJ G hm
  ·refine re G (hN 1 parts (hO 3 (.b false) (hP hb h0))) ?_
   exact wJ G hm
 rintro v hm
 refine cd hm (fun hm => ?_) (fun hm => ?_)
 ·refine rg G ?_
  cases hm
  exact rt [] []
 ·refine X_skip (thN (rg G (Ok_seq (rs G (hN 1 parts h0) ?_))))
  refine tF hm (fun _ => ⟨[(0, dV parts), (1, dV sep)], [], 32⟩) (fun v3 hr hm => ?_) ?_
  ·refine Ok_block (lp G hm (fun (p, v1) => ⟨[(0, dV parts), (1, dV sep), (6, dV p), (17, dV parts), (18, dV (parts.length : Int)), (19, dV v1)], [], 32⟩) ?_)
   rintro ⟨p, v1⟩ r0 hb1 hm
   rw [i_JoinStrings_L1] at hm
   refine rg G (Ok_seq (cd hm (fun hm => ?_) (fun hm => ?_)))
   ·refine X_skip (thN (Ok_seq (Ok_block ?_)))
    obtain ⟨e, h, hm⟩ := obind hm
    refine rs G (hD 0 h h0) ?_
    refine rg G (jn hm (fun v2 => ⟨[(0, dV parts), (1, dV sep), (6, dV (w64 (p + (w64 ((e.size : Int) + 1))))), (17, dV parts), (18, dV (parts.length : Int)), (19, dV v1), (34, dV v2)], [], 32⟩) (fun v2 hm => ?_) ?_)
    ·rcases bf hm with ⟨hb2, hm⟩ | ⟨hb2, hm⟩
     ·refine re G (hO 2 (.b true) (hP hb2 h0)) ?_
      exact wJ G hm
     ·obtain ⟨r, h1, hm⟩ := obind hm
      refine re G (hO 2 (.b false) (hP hb2 (hC 5 (strings_Contains_c h1) h0))) ?_
      exact wJ G hm
    rintro v2 hm
    refine cd hm (fun hm => ?_) (fun hm => ?_)
    ·refine rg G ?_
     have hm := eL hm hb1 hr
     cases hm
     exact rt [] []
    ·exact X_skip (ibN (thN (rh G (wL G hm))))
   ·exact Ok_exit (thE (thE (ibE (wE G hm hb1))))
  rintro ⟨⟩ hm s hw
  refine thN (Ok_weak hw ?_)
  obtain ⟨r2, h2, hm⟩ := obind hm
  refine rs G (hC 2 (strings_Join_c h2) h0) ?_
  cases hm
  exact rt [] []
noncomputable def s_l1Stands_M : MS (ByteArray × UInt8) Bool := ⟨.x .r .r, fun x => s_l1Stands x.1 x.2, fun y => dV y, fun _ => [], fun _ _ => []⟩
theorem s_l1Stands_c {s b y} (hm : s_l1Stands s b = some y) : s_l1Stands_M.C (s, b) y := s_l1Stands_M.c (s, b) hm
theorem s_l1Stands_ok : FnOK Tryd.prog tJ 77 s_l1Stands_M.S := by
 refine fm tt s_l1Stands_M [] Tryd.call77 Tryd.func77 rfl Tryd.results77 Tryd.ntmps77 ?_
 rintro ⟨s, b⟩ y cx G hm
 have hm : s_l1Stands s b = some y := hm
 unfold s_l1Stands at hm
 refine rg G (Ok_seq (rg G (tF hm (fun _ => ⟨[], [], 32⟩) (fun v1 hr hm => ?_) ?_)))
 ·refine Ok_block (lp G hm (fun v => ⟨[(0, dV s), (1, dV b), (5, dV v)], [], 32⟩) ?_)
  rintro v r0 hb hm
  rw [s_l1Stands_L1] at hm
  refine Ok_seq (rg G (cd hm (fun hm => ?_) (fun hm => ?_)))
  ·refine X_skip (thN (Ok_seq (Ok_block ?_)))
   obtain ⟨u, h, hm⟩ := obind hm
   refine rs G (hK h h0) ?_
   refine cd hm (fun hm => ?_) (fun hm => ?_)
   ·refine rg G ?_
    have hm := eL hm hb hr
    cases hm
    exact rt [] []
   ·exact X_skip (ibN (thN (rh G (wL G hm))))
  ·exact Ok_exit (thE (thE (ibE (wE G hm hb))))
 rintro ⟨⟩ hm s1 hw
 refine thN (Ok_weak hw ?_)
 refine rg G ?_
 cases hm
 exact rt [] []
noncomputable def s_JoinStrings_M : MS ((List ByteArray) × ByteArray) (ByteArray × Bool) := ⟨.x .r .r, fun x => s_JoinStrings x.1 x.2, fun y => .tup [dV y.1, dV y.2], fun _ => [], fun _ _ => []⟩
theorem s_JoinStrings_c {l sign y} (hm : s_JoinStrings l sign = some y) : s_JoinStrings_M.C (l, sign) y := s_JoinStrings_M.c (l, sign) hm
theorem s_JoinStrings_ok : FnOK Tryd.prog tJ 16 s_JoinStrings_M.S := by
 refine fm tt s_JoinStrings_M [fo s_l1Stands_ok] Tryd.call16 Tryd.func16 rfl Tryd.results16 Tryd.ntmps16 ?_
 rintro ⟨l, sign⟩ y cx G hm
 have hm : s_JoinStrings l sign = some y := hm
 unfold s_JoinStrings at hm
 refine rg G (Ok_seq (jn hm (fun v => ⟨[(0, dV l), (1, dV sign), (15, dV v)], [], 32⟩) (fun v hm => ?_) ?_))
 ·rcases bf hm with ⟨hb, hm⟩ | ⟨hb, hm⟩
  ·refine re G (hO 3 (.b true) (hP hb h0)) ?_
   exact wJ G hm
  ·refine re G (hO 3 (.b false) (hP hb (hN 5 l h0))) ?_
   exact wJ G hm
 rintro v hm
 refine cd hm (fun hm => ?_) (fun hm => ?_)
 ·refine rg G ?_
  cases hm
  exact rt [] []
 ·refine X_skip (thN (rg G (Ok_seq (rg G (tF hm (fun v4 => ⟨[(6, dV v4)], [], 32⟩) (fun v5 hr hm => ?_) ?_)))))
  ·refine Ok_block (lp G hm (fun (v1, v2) => ⟨[(0, dV l), (1, dV sign), (6, dV v1), (7, dV v2)], [], 32⟩) ?_)
   rintro ⟨v1, v2⟩ r0 hb1 hm
   rw [s_JoinStrings_L1] at hm
   refine Ok_seq (rs G (hN 2 l h0) ?_)
   refine cd hm (fun hm => ?_) (fun hm => ?_)
   ·refine X_skip (thN (Ok_seq (Ok_block (Ok_seq ?_))))
    obtain ⟨e1, h3, hm⟩ := obind hm
    obtain ⟨u1, h4, hm⟩ := obind hm
    obtain ⟨r1, h5, hm⟩ := obind hm
    refine ds G [] (hD 2 h3 (hK h4 (hC 6 (s_l1Stands_c h5) h0))) ?_
    refine cd hm (fun hm => ?_) (fun hm => ?_)
    ·refine rg G ?_
     have hm := eL hm hb1 hr
     cases hm
     exact rt [] []
    ·refine X_skip (thN (jn hm (fun v3 => ⟨[(0, dV l), (1, dV sign), (6, dV v3), (7, dV v2)], [], 32⟩) (fun v3 hm => ?_) ?_))
     ·refine rg G (cd hm (fun hm => ?_) (fun hm => ?_))
      ·obtain ⟨u2, h6, hm⟩ := obind hm
       refine re G (hP (cat_p (chk_t h6)) h0) ?_
       exact wJ G hm
      ·exact X_skip (wJ G hm)
     rintro v3 hm
     obtain ⟨e3, h7, hm⟩ := obind hm
     obtain ⟨u3, h8, hm⟩ := obind hm
     refine rs G (hD 3 h7 (hP (cat_p (chk_t h8)) h0)) ?_
     refine rg G (cd hm (fun hm => ?_) (fun hm => ?_))
     ·refine rg G ?_
      have hm := eL hm hb1 hr
      cases hm
      exact rt [] []
     ·exact X_skip (ibN (thN (rh G (wL G hm))))
   ·exact Ok_exit (thE (thE (ibE (wE G hm hb1))))
  rintro v4 hm s hw
  refine thN (Ok_weak hw ?_)
  refine rg G ?_
  cases hm
  exact rt [] []
noncomputable def s_DrawLessString_M : MS ((List UInt8)) (ByteArray × ByteArray) := ⟨.r, s_DrawLessString, fun y => .tup [dV y.1, dV y.2], fun _ => [], fun _ _ => []⟩
theorem s_DrawLessString_c {code y} (hm : s_DrawLessString code = some y) : s_DrawLessString_M.C code y := s_DrawLessString_M.c code hm
theorem s_DrawLessString_ok : FnOK Tryd.prog tJ 17 s_DrawLessString_M.S := by
 refine fm tt s_DrawLessString_M [fo s_l1Cur_any1_ok] Tryd.call17 Tryd.func17 rfl Tryd.results17 Tryd.ntmps17 ?_
 rintro code y cx G hm
 have hm : s_DrawLessString code = some y := hm
 unfold s_DrawLessString at hm
 refine rg G (rg G ?_)
 obtain ⟨r, h, hm⟩ := obind hm
 refine rs G (hC 1 (s_l1Cur_any1_c h) h0) ?_
 obtain ⟨r1, h1, hm⟩ := obind hm
 refine rs G (hC 2 (s_l1Cur_any1_c h1) h0) ?_
 cases hm
 exact rt [] []
noncomputable def i_LessString_M : MS (ByteArray × ByteArray) Bool := ⟨.x .r .r, fun x => i_LessString x.1 x.2, fun y => dV y, fun _ => [], fun _ _ => []⟩
theorem i_LessString_c {a b y} (hm : i_LessString a b = some y) : i_LessString_M.C (a, b) y := i_LessString_M.c (a, b) hm
theorem i_LessString_ok : FnOK Tryd.prog tJ 18 i_LessString_M.S := by
 refine fm tt i_LessString_M [] Tryd.call18 Tryd.func18 rfl Tryd.results18 Tryd.ntmps18 ?_
 rintro ⟨a, b⟩ y cx G hm
 have hm : i_LessString a b = some y := hm
 unfold i_LessString at hm
 refine rg G (rg G ?_)
 cases hm
 exact rt [] []
noncomputable def s_LessString_M : MS (ByteArray × ByteArray) Bool := ⟨.x .r .r, fun x => s_LessString x.1 x.2, fun y => dV y, fun _ => [], fun _ _ => []⟩
theorem s_LessString_c {a b y} (hm : s_LessString a b = some y) : s_LessString_M.C (a, b) y := s_LessString_M.c (a, b) hm
theorem s_LessString_ok : FnOK Tryd.prog tJ 19 s_LessString_M.S := by
 refine fm tt s_LessString_M [] Tryd.call19 Tryd.func19 rfl Tryd.results19 Tryd.ntmps19 ?_
 rintro ⟨a, b⟩ y cx G hm
 have hm : s_LessString a b = some y := hm
 unfold s_LessString at hm
 refine rg G (rg G ?_)
 cases hm
 exact rt [] []
noncomputable def v_FnSplitJoin_M : MS ((List UInt8)) Bool := ⟨.r, v_FnSplitJoin, fun y => dV y, fun _ => [], fun _ _ => []⟩
theorem v_FnSplitJoin_c {code y} (hm : v_FnSplitJoin code = some y) : v_FnSplitJoin_M.C code y := v_FnSplitJoin_M.c code hm
theorem v_FnSplitJoin_ok : FnOK Tryd.prog tJ 3 v_FnSplitJoin_M.S := by
 refine fm tt v_FnSplitJoin_M [fo v_vBig_ok, fo s_DrawSplitString_ok, fo i_SplitString_ok, fo s_DrawJoinStrings_ok, fo i_JoinStrings_ok, fo s_JoinStrings_ok, fo s_DrawLessString_ok, fo i_LessString_ok, fo s_LessString_ok] Tryd.call3 Tryd.func3 rfl Tryd.results3 Tryd.ntmps3 ?_
 rintro code y cx G hm
 have hm : v_FnSplitJoin code = some y := hm
 unfold v_FnSplitJoin at hm
 refine rg G (Ok_seq ?_)
 obtain ⟨r, h, hm⟩ := obind hm
 refine rs G (hC 1 (v_vBig_c h) h0) ?_
 refine cd hm (fun hm => ?_) (fun hm => ?_)
 ·refine rg G ?_
  cases hm
  exact rt [] []
 ·refine X_skip (thN ?_)
  obtain ⟨r1, h1, hm⟩ := obind hm
  refine rs G (hC 1 (s_DrawSplitString_c h1) h0) ?_
  obtain ⟨r2, h2, hm⟩ := obind hm
  refine rs G (hC 2 (i_SplitString_c h2) h0) ?_
  obtain ⟨r3, h3, hm⟩ := obind hm
  refine rs G (hC 1 (s_DrawJoinStrings_c h3) h0) ?_
  obtain ⟨r4, h4, hm⟩ := obind hm
  refine rs G (hC 2 (i_JoinStrings_c h4) h0) ?_
  obtain ⟨r5, h5, hm⟩ := obind hm
  refine rs G (hC 2 (s_JoinStrings_c h5) h0) ?_
  obtain ⟨r6, h6, hm⟩ := obind hm
  refine rs G (hC 1 (s_DrawLessString_c h6) h0) ?_
  refine Ok_seq (jn hm (fun v => ⟨[(3, dV r1.1), (4, dV r1.2), (5, dV r2.1), (6, dV r2.2), (78, dV v)], [], 32⟩) (fun v hm => ?_) ?_)
  ·rcases bf hm with ⟨hb, hm⟩ | ⟨hb, hm⟩
   ·refine re G (hO 3 (.b true) (hP hb h0)) ?_
    exact wJ G hm
   ·rcases bf hm with ⟨hb1, hm⟩ | ⟨hb1, hm⟩
    ·refine re G (hO 3 (.b false) (hP hb (hO 8 (.b true) (hP hb1 h0)))) ?_
     exact wJ G hm
    ·obtain ⟨r7, h7, hm⟩ := obind hm
     obtain ⟨r8, h8, hm⟩ := obind hm
     rcases bf hm with ⟨hb2, hm⟩ | ⟨hb2, hm⟩
     ·refine re G (hO 3 (.b false) (hP hb (hO 8 (.b false) (hP hb1 (hC 11 (i_LessString_c h7) (hC 14 (s_LessString_c h8) (hO 17 (.b true) (hP hb2 h0)))))))) ?_
      exact wJ G hm
     ·obtain ⟨r9, h9, hm⟩ := obind hm
      rcases bf hm with ⟨hb3, hm⟩ | ⟨hb3, hm⟩
      ·obtain ⟨r10, h10, hm⟩ := obind hm
       refine re G (hO 3 (.b false) (hP hb (hO 8 (.b false) (hP hb1 (hC 11 (i_LessString_c h7) (hC 14 (s_LessString_c h8) (hO 17 (.b false) (hP hb2 (hC 20 (i_LessString_c h9) (hO 21 (.b true) (hP hb3 (hC 24 (i_LessString_c h10) h0)))))))))))) ?_
       exact wJ G hm
      ·refine re G (hO 3 (.b false) (hP hb (hO 8 (.b false) (hP hb1 (hC 11 (i_LessString_c h7) (hC 14 (s_LessString_c h8) (hO 17 (.b false) (hP hb2 (hC 20 (i_LessString_c h9) (hO 21 (.b false) (hP hb3 h0))))))))))) ?_
       exact wJ G hm
  rintro v hm
  refine cd hm (fun hm => ?_) (fun hm => ?_)
  ·refine rg G ?_
   cases hm
   exact rt [] []
  ·refine X_skip (thN (Ok_seq (rg G (cd hm (fun hm => ?_) (fun hm => ?_)))))
   ·refine jn hm (fun s => ⟨[(2, dV s)], [], 32⟩) (fun s hm => ?_) ?_
    ·rcases bf hm with ⟨hb4, hm⟩ | ⟨hb4, hm⟩
     ·refine re G (hO 2 (.b true) (hP hb4 (hN 4 r2.1 h0))) ?_
      exact wJ G hm
     ·refine re G (hO 2 (.b false) (hP hb4 h0)) ?_
      exact wJ G hm
    rintro s hm
    cases hm
    exact rt [] []
   ·refine X_skip (thN ?_)
    obtain ⟨r11, h11, hm⟩ := obind hm
    refine rs G (hC 2 (i_JoinStrings_c h11) h0) ?_
    refine jn hm (fun s1 => ⟨[(2, dV s1)], [], 32⟩) (fun s1 hm => ?_) ?_
    ·rcases bf hm with ⟨hb5, hm⟩ | ⟨hb5, hm⟩
     ·rcases bf hm with ⟨hb6, hm⟩ | ⟨hb6, hm⟩
      ·refine re G (hO 1 (.b true) (hP hb5 (hO 4 (.b true) (hP hb6 h0)))) ?_
       exact wJ G hm
      ·refine re G (hO 1 (.b true) (hP hb5 (hO 4 (.b false) (hP hb6 h0)))) ?_
       exact wJ G hm
     ·refine re G (hO 1 (.b false) (hP hb5 h0)) ?_
      exact wJ G hm
    rintro s1 hm
    cases hm
    exact rt [] []
end Go.Proofs.YtbedhobglodjbaaDoor
