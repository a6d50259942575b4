/- Each function computes what its model says. Made by program (dec.py). -/
import Derived.Test.YteieacgaipcnoaaTy
import Derived.Test.YteieacgaipcnoaaAbC
import Derived.Test.YteieacgaipcnoaaNoM
namespace Go.Proofs.Yteieacgaipcnoaa
open Go Go.Ab
set_option maxRecDepth 100000
set_option maxHeartbeats 4000000
set_option linter.unusedVariables false
set_option linter.unusedSimpArgs false
theorem tt : TT Try.prog ty := ⟨by kernel_rfl, ty_ok⟩
abbrev tJ : Inv := .none
noncomputable def v_rBig_M : MS ((List UInt8)) Bool := ⟨.r, v_rBig, fun y => dV y, fun _ => [], fun _ _ => []⟩
theorem v_rBig_c {code y} (hm : v_rBig code = some y) : v_rBig_M.C code y := v_rBig_M.c code hm
theorem v_rBig_ok : FnOK Try.prog tJ 5 v_rBig_M.S := by
 refine fm tt v_rBig_M [] Try.call5 Try.func5 rfl Try.results5 Try.ntmps5 ?_
 rintro code y cx G hm
 have hm : v_rBig code = some y := hm
 unfold v_rBig at hm
 refine rg G (rs G (hN 1 code h0) ?_)
 cases hm
 exact rt [] []
noncomputable def s_l1Cur_next_M : MS l1Cur (Int × l1Cur) := ⟨.b 72, s_l1Cur_next, fun y => dV y.1, fun _ => [], fun _ y => [bxO 72 y.2]⟩
theorem s_l1Cur_next_c {c y} (hm : s_l1Cur_next c = some y) : s_l1Cur_next_M.C c y := s_l1Cur_next_M.c c hm
theorem s_l1Cur_next_ok : FnOK Try.prog tJ 77 s_l1Cur_next_M.S := by
 refine fm tt s_l1Cur_next_M [] Try.call77 Try.func77 rfl Try.results77 Try.ntmps77 ?_
 rintro c y cx G hm
 have hm : s_l1Cur_next c = some y := hm
 unfold s_l1Cur_next at hm
 refine rg G (rg G (jn hm (fun v => ⟨[(0, .ref 0 0), (3, dV v)], [bX 0 72 [dV c.code_, dV c.at_, kV .u64 c.seed_.v]], 48⟩) (fun v hm => ?_) ?_))
 ·refine ds G [] (hN 8 c.code_ h0) ?_
  refine cd hm (fun hm => ?_) (fun hm => ?_)
  ·obtain ⟨e1, h1, hm⟩ := obind hm
   refine de G [] (hD 8 h1 h0) ?_
   exact wJ G hm
  ·exact X_skip (wJ G hm)
 rintro v hm
 refine rg G (rg G (Ok_seq (ds G [] (hN 8 c.code_ h0) ?_)))
 refine cd hm (fun hm => ?_) (fun hm => ?_)
 ·refine rg G ?_
  cases hm
  exact rt [] []
 ·refine X_skip (thN ?_)
  obtain ⟨u, h2, hm⟩ := obind hm
  refine rs G (hK h2 h0) ?_
  cases hm
  exact rt [] []
noncomputable def s_l1Cur_pick_M : MS (l1Cur × Int) (Int × l1Cur) := ⟨.x (.b 72) .r, fun x => s_l1Cur_pick x.1 x.2, fun y => dV y.1, fun _ => [], fun _ y => [bxO 72 y.2]⟩
theorem s_l1Cur_pick_c {c n y} (hm : s_l1Cur_pick c n = some y) : s_l1Cur_pick_M.C (c, n) y := s_l1Cur_pick_M.c (c, n) hm
theorem s_l1Cur_pick_ok : FnOK Try.prog tJ 35 s_l1Cur_pick_M.S := by
 refine fm tt s_l1Cur_pick_M [fo s_l1Cur_next_ok] Try.call35 Try.func35 rfl Try.results35 Try.ntmps35 ?_
 rintro ⟨c, n⟩ y cx G hm
 have hm : s_l1Cur_pick c n = some y := hm
 unfold s_l1Cur_pick at hm
 refine rg G (Ok_seq (rg G (cd hm (fun hm => ?_) (fun hm => ?_))))
 ·refine rg G ?_
  cases hm
  exact rt [] []
 ·refine X_skip (thN ?_)
  obtain ⟨r, h, hm⟩ := obind hm
  refine rs G (hC 1 (s_l1Cur_next_c h) h0) ?_
  refine jn hm (fun (v, v1, v2, v3) => ⟨[(0, .ref 0 0), (1, dV n), (5, dV v)], [bX 0 72 [dV v1, dV v2, kV .u64 v3]], 48⟩) (fun vv hm => ?_) ?_
  ·refine rg G (cd hm (fun hm => ?_) (fun hm => ?_))
   ·obtain ⟨r1, h1, hm⟩ := obind hm
    refine re G (hC 3 (s_l1Cur_next_c h1) h0) ?_
    exact wJ G hm
   ·exact X_skip (wJ G hm)
  rintro ⟨v, v1, v2, v3⟩ hm
  obtain ⟨u, h2, hm⟩ := obind hm
  refine rs G (hK h2 h0) ?_
  cases hm
  exact rt [] []
noncomputable def s_l1Cur_of_M : MS (l1Cur × (List ByteArray)) (ByteArray × l1Cur) := ⟨.x (.b 72) .r, fun x => s_l1Cur_of x.1 x.2, fun y => dV y.1, fun _ => [], fun _ y => [bxO 72 y.2]⟩
theorem s_l1Cur_of_c {c list y} (hm : s_l1Cur_of c list = some y) : s_l1Cur_of_M.C (c, list) y := s_l1Cur_of_M.c (c, list) hm
theorem s_l1Cur_of_ok : FnOK Try.prog tJ 47 s_l1Cur_of_M.S := by
 refine fm tt s_l1Cur_of_M [fo s_l1Cur_pick_ok] Try.call47 Try.func47 rfl Try.results47 Try.ntmps47 ?_
 rintro ⟨c, list⟩ y cx G hm
 have hm : s_l1Cur_of c list = some y := hm
 unfold s_l1Cur_of at hm
 refine rg G ?_
 obtain ⟨r, h, hm⟩ := obind hm
 obtain ⟨e, h1, hm⟩ := obind hm
 refine rs G (hN 3 list (hC 4 (s_l1Cur_pick_c h) (hD 5 h1 h0))) ?_
 cases hm
 exact rt [] []
noncomputable def s_l1Cur_among_M : MS (l1Cur × (List Int)) (Int × l1Cur) := ⟨.x (.b 72) .r, fun x => s_l1Cur_among x.1 x.2, fun y => dV y.1, fun _ => [], fun _ y => [bxO 72 y.2]⟩
theorem s_l1Cur_among_c {c list y} (hm : s_l1Cur_among c list = some y) : s_l1Cur_among_M.C (c, list) y := s_l1Cur_among_M.c (c, list) hm
theorem s_l1Cur_among_ok : FnOK Try.prog tJ 42 s_l1Cur_among_M.S := by
 refine fm tt s_l1Cur_among_M [fo s_l1Cur_pick_ok] Try.call42 Try.func42 rfl Try.results42 Try.ntmps42 ?_
 rintro ⟨c, list⟩ y cx G hm
 have hm : s_l1Cur_among c list = some y := hm
 unfold s_l1Cur_among at hm
 refine rg G ?_
 obtain ⟨r, h, hm⟩ := obind hm
 obtain ⟨e, h1, hm⟩ := obind hm
 refine rs G (hN 3 list (hC 4 (s_l1Cur_pick_c h) (hD 5 h1 h0))) ?_
 cases hm
 exact rt [] []
noncomputable def s_l1Least_M : MS (Int × Int) Int := ⟨.x .r .r, fun x => s_l1Least x.1 x.2, fun y => dV y, fun _ => [], fun _ _ => []⟩
theorem s_l1Least_c {a b y} (hm : s_l1Least a b = some y) : s_l1Least_M.C (a, b) y := s_l1Least_M.c (a, b) hm
theorem s_l1Least_ok : FnOK Try.prog tJ 100 s_l1Least_M.S := by
 refine fm tt s_l1Least_M [] Try.call100 Try.func100 rfl Try.results100 Try.ntmps100 ?_
 rintro ⟨a, b⟩ y cx G hm
 have hm : s_l1Least a b = some y := hm
 unfold s_l1Least at hm
 refine rg G (Ok_seq (rg G (cd hm (fun hm => ?_) (fun hm => ?_))))
 ·refine rg G ?_
  cases hm
  exact rt [] []
 ·refine X_skip (thN (rg G ?_))
  cases hm
  exact rt [] []
noncomputable def s_l1Cur_message_M : MS l1Cur (Message × l1Cur) := ⟨.b 72, s_l1Cur_message, fun y => dV y.1, fun _ => [], fun _ y => [bxO 72 y.2]⟩
theorem s_l1Cur_message_c {c y} (hm : s_l1Cur_message c = some y) : s_l1Cur_message_M.C c y := s_l1Cur_message_M.c c hm
theorem s_l1Cur_message_ok : FnOK Try.prog tJ 76 s_l1Cur_message_M.S := by
 refine fm tt s_l1Cur_message_M [fo s_l1Cur_pick_ok, fo s_l1Cur_of_ok, fo s_l1Cur_among_ok, fo s_l1Least_ok] Try.call76 Try.func76 rfl Try.results76 Try.ntmps76 ?_
 rintro c y cx G hm
 have hm : s_l1Cur_message c = some y := hm
 unfold s_l1Cur_message at hm
 refine rg G ?_
 obtain ⟨r, h, hm⟩ := obind hm
 refine rs G (hC 1 (s_l1Cur_pick_c h) h0) ?_
 obtain ⟨r1, h1, hm⟩ := obind hm
 obtain ⟨r2, h2, hm⟩ := obind hm
 refine rs G (hO 2 (.fz [144] [] []) (hC 2 (s_l1Cur_of_c h1) (hO 5 (.fz [192] [] []) (hC 5 (s_l1Cur_of_c h2) h0)))) ?_
 obtain ⟨r3, h3, hm⟩ := obind hm
 refine rs G (hO 2 (.fz [272] [] []) (hC 2 (s_l1Cur_among_c h3) h0)) ?_
 refine jn hm (fun (v, v1, v2, v3, v4, v5, v6, v7) => ⟨[(0, .ref 0 0), (2, .ref 32 0), (3, .ref 48 0)], [bX 0 72 [dV v, dV v1, kV .u64 v2], bX 32 76 [kV .i64 0, dV ByteArray.empty, dV ByteArray.empty, kV .i64 0, kV .i64 0, kV .i64 0], bX 48 76 [dV (w64 (1 + r.1)), dV v3, dV v4, dV v5, dV v6, dV v7]], 80⟩) (fun vv1 hm => ?_) ?_
 ·refine rg G (Ok_block (rg G (cd hm (fun hm => ?_) (fun hm => ?_))))
  ·refine rg G ?_
   obtain ⟨r4, h4, hm⟩ := obind hm
   refine re G (hO 2 (.fz [448] [] []) (hC 2 (s_l1Cur_among_c h4) h0)) ?_
   exact ibN (wJ G hm)
  ·refine jn hm (fun v8 => ⟨[(0, .ref 0 0), (2, .ref 32 0), (3, .ref 48 0), (4, dV r1.1), (5, dV r2.1), (6, dV r3.1), (21, dV (w64 (1 + r.1))), (43, dV v8)], [bX 0 72 [dV r3.2.code_, dV r3.2.at_, kV .u64 r3.2.seed_.v], bX 32 76 [kV .i64 0, dV ByteArray.empty, dV ByteArray.empty, kV .i64 0, kV .i64 0, kV .i64 0], bX 48 76 [dV (w64 (1 + r.1)), dV ByteArray.empty, dV ByteArray.empty, kV .i64 0, kV .i64 0, kV .i64 0]], 80⟩) (fun v8 hm => ?_) ?_
   ·refine rg G (cd hm (fun hm => ?_) (fun hm => ?_))
    ·exact X_skip (wJ G hm)
    ·exact rh G (wJ G hm)
   rintro v8 hm
   refine cd hm (fun hm => ?_) (fun hm => ?_)
   ·exact rg G (rh G (ibN (wJ G hm)))
   ·refine rg G (cd hm (fun hm => ?_) (fun hm => ?_))
    ·refine rg G (rg G ?_)
     obtain ⟨r5, h5, hm⟩ := obind hm
     obtain ⟨r6, h6, hm⟩ := obind hm
     refine re G (hO 3 (.fz [240] [] []) (hC 3 (s_l1Cur_among_c h5) (hC 5 (s_l1Least_c h6) h0))) ?_
     exact ibN (wJ G hm)
    ·refine rg G (rg G (rg G ?_))
     obtain ⟨r7, h7, hm⟩ := obind hm
     obtain ⟨r8, h8, hm⟩ := obind hm
     refine re G (hO 3 (.fz [288] [] []) (hC 3 (s_l1Cur_among_c h7) (hC 5 (s_l1Least_c h8) h0))) ?_
     exact ibN (wJ G hm)
 rintro ⟨v, v1, v2, v3, v4, v5, v6, v7⟩ hm
 refine jn hm (fun (v9, v10, v11, v12, v13, v14, v15) => ⟨[(0, .ref 0 0), (2, .ref 32 0), (3, .ref 48 0)], [bX 0 72 [dV v9, dV v10, kV .u64 v11], bX 32 76 [kV .i64 0, dV ByteArray.empty, dV ByteArray.empty, kV .i64 0, kV .i64 0, kV .i64 0], bX 48 76 [dV v12, dV v13, dV v4, dV v5, dV v14, dV v15]], 80⟩) (fun vv hm => ?_) ?_
 ·obtain ⟨r9, h9, hm⟩ := obind hm
  refine rs G (hC 1 (s_l1Cur_pick_c h9) h0) ?_
  refine Ok_block (rg G (cd hm (fun hm => ?_) (fun hm => ?_)))
  ·obtain ⟨r10, h10, hm⟩ := obind hm
   refine re G (hO 2 (.fz [160] [] []) (hC 2 (s_l1Cur_among_c h10) h0)) ?_
   exact ibN (wJ G hm)
  ·refine rg G (cd hm (fun hm => ?_) (fun hm => ?_))
   ·obtain ⟨r11, h11, hm⟩ := obind hm
    refine re G (hO 2 (.fz [192] [] []) (hC 2 (s_l1Cur_among_c h11) h0)) ?_
    exact ibN (wJ G hm)
   ·refine rg G (cd hm (fun hm => ?_) (fun hm => ?_))
    ·obtain ⟨r12, h12, hm⟩ := obind hm
     refine re G (hO 2 (.fz [224] [] []) (hC 2 (s_l1Cur_among_c h12) h0)) ?_
     exact ibN (wJ G hm)
    ·refine rg G (cd hm (fun hm => ?_) (fun hm => ?_))
     ·obtain ⟨r13, h13, hm⟩ := obind hm
      refine re G (hO 2 (.fz [256] [] []) (hC 2 (s_l1Cur_of_c h13) h0)) ?_
      exact ibN (wJ G hm)
     ·exact X_skip (ibN (wJ G hm))
 rintro ⟨v9, v10, v11, v12, v13, v14, v15⟩ hm
 refine rg G ?_
 cases hm
 exact rt [] []
noncomputable def s_l1Cur_one_M : MS (l1Cur × Int) (Bool × l1Cur) := ⟨.x (.b 72) .r, fun x => s_l1Cur_one x.1 x.2, fun y => dV y.1, fun _ => [], fun _ y => [bxO 72 y.2]⟩
theorem s_l1Cur_one_c {c n y} (hm : s_l1Cur_one c n = some y) : s_l1Cur_one_M.C (c, n) y := s_l1Cur_one_M.c (c, n) hm
theorem s_l1Cur_one_ok : FnOK Try.prog tJ 34 s_l1Cur_one_M.S := by
 refine fm tt s_l1Cur_one_M [fo s_l1Cur_pick_ok] Try.call34 Try.func34 rfl Try.results34 Try.ntmps34 ?_
 rintro ⟨c, n⟩ y cx G hm
 have hm : s_l1Cur_one c n = some y := hm
 unfold s_l1Cur_one at hm
 refine rg G ?_
 obtain ⟨r, h, hm⟩ := obind hm
 refine rs G (hC 2 (s_l1Cur_pick_c h) h0) ?_
 cases hm
 exact rt [] []
noncomputable def s_l1Cur_notice_M : MS l1Cur ((List Message) × l1Cur) := ⟨.b 72, s_l1Cur_notice, fun _ => .own 0, fun y => [arO 76 y.1], fun _ y => [bxO 72 y.2]⟩
theorem s_l1Cur_notice_c {c y} (hm : s_l1Cur_notice c = some y) : s_l1Cur_notice_M.C c y := s_l1Cur_notice_M.c c hm
theorem s_l1Cur_notice_ok : FnOK Try.prog tJ 33 s_l1Cur_notice_M.S := by
 refine fm tt s_l1Cur_notice_M [fo s_l1Cur_pick_ok, fo s_l1Cur_message_ok, fo s_l1Cur_one_ok] Try.call33 Try.func33 rfl Try.results33 Try.ntmps33 ?_
 rintro c y cx G hm
 have hm : s_l1Cur_notice c = some y := hm
 unfold s_l1Cur_notice at hm
 refine rg G (rg G (Ok_seq ?_))
 obtain ⟨r, h, hm⟩ := obind hm
 refine rs G (hC 1 (s_l1Cur_pick_c h) h0) ?_
 refine tl hm (fun (v4, v5, v6, n1) => ⟨[(0, .ref 0 0), (3, .own 32)], [bX 0 72 [dV v4, dV v5, kV .u64 v6], aX 32 76 n1], 64⟩) (fun vv2 hm => ?_) ?_
 ·refine Ok_block (lp G hm (fun (v, v1, v2, v3, n) => ⟨[(0, .ref 0 0), (3, .own 32), (4, dV v)], [bX 0 72 [dV v1, dV v2, kV .u64 v3], aX 32 76 n], 64⟩) ?_)
  rintro ⟨v, v1, v2, v3, n⟩ r0 hb hm
  rw [s_l1Cur_notice_L1] at hm
  refine Ok_seq (rg G (cd hm (fun hm => ?_) (fun hm => ?_)))
  ·refine X_skip (thN (Ok_seq (Ok_block ?_)))
   obtain ⟨r1, h1, hm⟩ := obind hm
   obtain ⟨u, h2, hm⟩ := obind hm
   refine re G (hC 2 (s_l1Cur_message_c h1) (hA 4 64 h2 h0)) ?_
   exact ibN (thN (rh G (wL G hm)))
  ·exact Ok_exit (thE (thE (ibE (wD G hm hb))))
 rintro ⟨v4, v5, v6, n1⟩ hm s hw
 refine thN (Ok_weak hw ?_)
 refine jn hm (fun (v7, v8, v9, n2) => ⟨[(0, .ref 0 0), (3, .own 32)], [bX 0 72 [dV v7, dV v8, kV .u64 v9], aX 32 76 n2], 64⟩) (fun vv1 hm => ?_) ?_
 ·obtain ⟨r2, h3, hm⟩ := obind hm
  refine rs G (hC 1 (s_l1Cur_one_c h3) h0) ?_
  refine cd hm (fun hm => ?_) (fun hm => ?_)
  ·refine tl hm (fun (v13, v14, v15, n4) => ⟨[(0, .ref 0 0), (3, .own 32)], [bX 0 72 [dV v13, dV v14, kV .u64 v15], aX 32 76 n4], 64⟩) (fun vv hm => ?_) ?_
   ·refine Ok_block (lp G hm (fun (v10, v11, v12, n3) => ⟨[(0, .ref 0 0), (3, .own 32)], [bX 0 72 [dV v10, dV v11, kV .u64 v12], aX 32 76 n3], 64⟩) ?_)
    rintro ⟨v10, v11, v12, n3⟩ r0 hb1 hm
    rw [s_l1Cur_notice_L2] at hm
    refine Ok_seq ?_
    obtain ⟨r3, h4, hm⟩ := obind hm
    refine rs G (hN 1 n3 (hC 3 (s_l1Cur_pick_c h4) h0)) ?_
    refine cd hm (fun hm => ?_) (fun hm => ?_)
    ·refine X_skip (thN (Ok_block ?_))
     obtain ⟨u1, h5, hm⟩ := obind hm
     refine re G (hN 2 n3 (hA 6 64 h5 h0)) ?_
     exact ibN (wL G hm)
    ·exact Ok_exit (thE (thE (ibE (wD G hm hb1))))
   rintro ⟨v13, v14, v15, n4⟩ hm s1 hw1
   exact wJp hm (Wk.trans hw1 (Wk_J G.hL ⟨[(0, []), (3, [])], [(0, 0, []), (32, 32, [])], [], 64⟩ (by kernel_rfl)))
  ·exact X_skip (wJ G hm)
 rintro ⟨v7, v8, v9, n2⟩ hm
 refine rg G ?_
 cases hm
 exact rt [32] []
noncomputable def s_DrawMergeNotices_M : MS ((List UInt8)) ((List Message) × (List Message)) := ⟨.r, s_DrawMergeNotices, fun _ => .tup [.own 0, .own 1], fun y => [arO 76 y.1, arO 76 y.2], fun _ _ => []⟩
theorem s_DrawMergeNotices_c {code y} (hm : s_DrawMergeNotices code = some y) : s_DrawMergeNotices_M.C code y := s_DrawMergeNotices_M.c code hm
theorem s_DrawMergeNotices_ok : FnOK Try.prog tJ 6 s_DrawMergeNotices_M.S := by
 refine fm tt s_DrawMergeNotices_M [fo s_l1Cur_notice_ok, fo s_l1Cur_one_ok, fo s_l1Cur_pick_ok] Try.call6 Try.func6 rfl Try.results6 Try.ntmps6 ?_
 rintro code y cx G hm
 have hm : s_DrawMergeNotices code = some y := hm
 unfold s_DrawMergeNotices at hm
 refine rg G (rg G ?_)
 obtain ⟨r, h, hm⟩ := obind hm
 refine rs G (hC 1 (s_l1Cur_notice_c h) h0) ?_
 obtain ⟨r1, h1, hm⟩ := obind hm
 refine rs G (hC 1 (s_l1Cur_notice_c h1) h0) ?_
 refine jn hm (fun v => ⟨[(5, .own 16), (6, .own 32)], [aX 16 76 r.1, aX 32 76 v], 64⟩) (fun v hm => ?_) ?_
 ·refine jn hm (fun (v1, v2, v3, v4) => ⟨[(4, .ref 16 0), (5, .own 32), (6, .own 48), (20, dV v1)], [bX 16 72 [dV v2, dV v3, kV .u64 v4], aX 32 76 r.1, aX 48 76 r1.1], 80⟩) (fun vv hm => ?_) ?_
  ·rcases bf hm with ⟨hb, hm⟩ | ⟨hb, hm⟩
   ·obtain ⟨r2, h2, hm⟩ := obind hm
    refine re G (hN 1 r.1 (hO 3 (.b true) (hP hb (hC 5 (s_l1Cur_one_c h2) h0)))) ?_
    exact wJ G hm
   ·refine re G (hN 1 r.1 (hO 3 (.b false) (hP hb h0))) ?_
    exact wJ G hm
  rintro ⟨v1, v2, v3, v4⟩ hm
  refine cd hm (fun hm => ?_) (fun hm => ?_)
  ·obtain ⟨r3, h3, hm⟩ := obind hm
   obtain ⟨e, h4, hm⟩ := obind hm
   obtain ⟨u, h5, hm⟩ := obind hm
   refine re G (hN 4 r.1 (hC 5 (s_l1Cur_pick_c h3) (hD 6 h4 (hE 7 h4 (hA 9 64 h5 h0))))) ?_
   exact wJ G hm
  ·exact X_skip (wJ G hm)
 rintro v hm
 refine rg G ?_
 cases hm
 exact rt [16, 32] []
noncomputable def i_isName_M : MS ByteArray Bool := ⟨.r, i_isName, fun y => dV y, fun _ => [], fun _ _ => []⟩
theorem i_isName_c {s y} (hm : i_isName s = some y) : i_isName_M.C s y := i_isName_M.c s hm
theorem i_isName_ok : FnOK Try.prog tJ 48 i_isName_M.S := by
 refine fm tt i_isName_M [] Try.call48 Try.func48 rfl Try.results48 Try.ntmps48 ?_
 rintro s y cx G hm
 have hm : i_isName s = some y := hm
 unfold i_isName at hm
 refine rg G (Ok_seq (jn hm (fun v => ⟨[(0, dV s), (12, dV v)], [], 32⟩) (fun v hm => ?_) ?_))
 ·rcases bf hm with ⟨hb, hm⟩ | ⟨hb, hm⟩
  ·refine re G (hO 3 (.b true) (hP hb h0)) ?_
   exact wJ G hm
  ·refine re G (hO 3 (.b false) (hP hb h0)) ?_
   exact wJ G hm
 rintro v hm
 refine cd hm (fun hm => ?_) (fun hm => ?_)
 ·refine rg G ?_
  cases hm
  exact rt [] []
 ·refine X_skip (thN (Ok_seq (rg G (tF hm (fun _ => ⟨[], [], 32⟩) (fun v4 hr hm => ?_) ?_))))
  ·refine Ok_block (lp G hm (fun v1 => ⟨[(0, dV s), (14, dV (s.size : Int)), (15, dV v1)], [], 32⟩) ?_)
   rintro v1 r0 hb1 hm
   rw [i_isName_L1] at hm
   refine rg G (Ok_seq (cd hm (fun hm => ?_) (fun hm => ?_)))
   ·refine X_skip (thN (Ok_seq (Ok_block (rg G ?_))))
    obtain ⟨u, h, hm⟩ := obind hm
    refine jn hm (fun v2 => ⟨[(0, dV s), (3, dV v1), (4, dV v2), (14, dV (s.size : Int)), (15, dV v1)], [], 32⟩) (fun v2 hm => ?_) ?_
    ·rcases bf hm with ⟨hb2, hm⟩ | ⟨hb2, hm⟩
     ·obtain ⟨u1, h1, hm⟩ := obind hm
      refine re G (hK h (hO 4 (.b true) (hP hb2 (hK h1 h0)))) ?_
      exact wJ G hm
     ·refine re G (hK h (hO 4 (.b false) (hP hb2 h0))) ?_
      exact wJ G hm
    rintro v2 hm
    refine jn hm (fun v3 => ⟨[(0, dV s), (14, dV (s.size : Int)), (15, dV v1), (45, dV v3)], [], 32⟩) (fun v3 hm => ?_) ?_
    ·rcases bf hm with ⟨hb3, hm⟩ | ⟨hb3, hm⟩
     ·rcases bf hm with ⟨hb4, hm⟩ | ⟨hb4, hm⟩
      ·refine re G (hO 2 (.b true) (hP hb3 (hO 5 (.b true) (hP hb4 h0)))) ?_
       exact wJ G hm
      ·obtain ⟨u2, h2, hm⟩ := obind hm
       rcases bf hm with ⟨hb5, hm⟩ | ⟨hb5, hm⟩
       ·refine re G (hO 2 (.b true) (hP hb3 (hO 5 (.b false) (hP hb4 (hK h2 (hO 11 (.b true) (hP hb5 h0))))))) ?_
        exact wJ G hm
       ·obtain ⟨u3, h3, hm⟩ := obind hm
        refine re G (hO 2 (.b true) (hP hb3 (hO 5 (.b false) (hP hb4 (hK h2 (hO 11 (.b false) (hP hb5 (hK h3 h0)))))))) ?_
        exact wJ G hm
     ·refine re G (hO 2 (.b false) (hP hb3 h0)) ?_
      exact wJ G hm
    rintro v3 hm
    refine cd hm (fun hm => ?_) (fun hm => ?_)
    ·refine rg G ?_
     have hm := eL hm hb1 hr
     cases hm
     exact rt [] []
    ·exact X_skip (ibN (thN (rh G (wL G hm))))
   ·exact Ok_exit (thE (thE (ibE (wE G hm hb1))))
  rintro ⟨⟩ hm s1 hw
  refine thN (Ok_weak hw ?_)
  refine rg G ?_
  cases hm
  exact rt [] []
noncomputable def i_within_M : MS (Int × Int × Int) Bool := ⟨.x .r (.x .r .r), fun x => i_within x.1 x.2.1 x.2.2, fun y => dV y, fun _ => [], fun _ _ => []⟩
theorem i_within_c {n lo hi y} (hm : i_within n lo hi = some y) : i_within_M.C (n, lo, hi) y := i_within_M.c (n, lo, hi) hm
theorem i_within_ok : FnOK Try.prog tJ 44 i_within_M.S := by
 refine fm tt i_within_M [] Try.call44 Try.func44 rfl Try.results44 Try.ntmps44 ?_
 rintro ⟨n, lo, hi⟩ y cx G hm
 have hm : i_within n lo hi = some y := hm
 unfold i_within at hm
 refine rg G (jn hm (fun v => ⟨[(6, dV v)], [], 32⟩) (fun v hm => ?_) ?_)
 ·rcases bf hm with ⟨hb, hm⟩ | ⟨hb, hm⟩
  ·refine re G (hO 3 (.b true) (hP hb h0)) ?_
   exact wJ G hm
  ·refine re G (hO 3 (.b false) (hP hb h0)) ?_
   exact wJ G hm
 rintro v hm
 cases hm
 exact rt [] []
noncomputable def i_IsValidTime_M : MS Int Bool := ⟨.r, i_IsValidTime, fun y => dV y, fun _ => [], fun _ _ => []⟩
theorem i_IsValidTime_c {t y} (hm : i_IsValidTime t = some y) : i_IsValidTime_M.C t y := i_IsValidTime_M.c t hm
theorem i_IsValidTime_ok : FnOK Try.prog tJ 43 i_IsValidTime_M.S := by
 refine fm tt i_IsValidTime_M [fo i_within_ok] Try.call43 Try.func43 rfl Try.results43 Try.ntmps43 ?_
 rintro t y cx G hm
 have hm : i_IsValidTime t = some y := hm
 unfold i_IsValidTime at hm
 refine rg G ?_
 obtain ⟨r, h, hm⟩ := obind hm
 refine rs G (hC 1 (i_within_c h) h0) ?_
 cases hm
 exact rt [] []
noncomputable def i_isPeriod_M : MS Message Bool := ⟨.r, i_isPeriod, fun y => dV y, fun _ => [], fun _ _ => []⟩
theorem i_isPeriod_c {m y} (hm : i_isPeriod m = some y) : i_isPeriod_M.C m y := i_isPeriod_M.c m hm
theorem i_isPeriod_ok : FnOK Try.prog tJ 101 i_isPeriod_M.S := by
 refine fm tt i_isPeriod_M [fo i_IsValidTime_ok] Try.call101 Try.func101 rfl Try.results101 Try.ntmps101 ?_
 rintro m y cx G hm
 have hm : i_isPeriod m = some y := hm
 unfold i_isPeriod at hm
 refine rg G ?_
 obtain ⟨r, h, hm⟩ := obind hm
 refine jn hm (fun v => ⟨[(2, dV v)], [], 32⟩) (fun v hm => ?_) ?_
 ·rcases bf hm with ⟨hb, hm⟩ | ⟨hb, hm⟩
  ·obtain ⟨r1, h1, hm⟩ := obind hm
   rcases bf hm with ⟨hb1, hm⟩ | ⟨hb1, hm⟩
   ·refine re G (hC 2 (i_IsValidTime_c h) (hO 3 (.b true) (hP hb (hC 6 (i_IsValidTime_c h1) (hO 8 (.b true) (hP hb1 h0)))))) ?_
    exact wJ G hm
   ·refine re G (hC 2 (i_IsValidTime_c h) (hO 3 (.b true) (hP hb (hC 6 (i_IsValidTime_c h1) (hO 8 (.b false) (hP hb1 h0)))))) ?_
    exact wJ G hm
  ·refine re G (hC 2 (i_IsValidTime_c h) (hO 3 (.b false) (hP hb h0))) ?_
   exact wJ G hm
 rintro v hm
 cases hm
 exact rt [] []
noncomputable def i_IsValidMessage_M : MS Message Bool := ⟨.r, i_IsValidMessage, fun y => dV y, fun _ => [], fun _ _ => []⟩
theorem i_IsValidMessage_c {m y} (hm : i_IsValidMessage m = some y) : i_IsValidMessage_M.C m y := i_IsValidMessage_M.c m hm
theorem i_IsValidMessage_ok : FnOK Try.prog tJ 79 i_IsValidMessage_M.S := by
 refine fm tt i_IsValidMessage_M [fo i_isName_ok, fo i_within_ok, fo i_IsValidTime_ok, fo i_isPeriod_ok] Try.call79 Try.func79 rfl Try.results79 Try.ntmps79 ?_
 rintro m y cx G hm
 have hm : i_IsValidMessage m = some y := hm
 unfold i_IsValidMessage at hm
 refine rg G (rg G (jF hm (fun (v, v1, v2, v3, v4) => ⟨[(1, .ref 16 0), (3, .ref 32 0)], [bX 16 76 [dV m.Kind, dV m.Line, dV m.Stop, dV m.From, dV m.To, dV m.Minutes], bX 32 76 [dV m.Kind, dV v, dV v1, dV v2, dV v3, dV v4]], 64⟩) (fun v10 hr hm => ?_) ?_))
 ·refine rg G (Ok_block (rg G (cd hm (fun hm => ?_) (fun hm => ?_))))
  ·refine rg G ?_
   obtain ⟨r, h, hm⟩ := obind hm
   refine jn hm (fun v5 => ⟨[(1, .ref 16 0), (3, .ref 32 0), (20, dV v5)], [bX 16 76 [dV m.Kind, dV m.Line, dV m.Stop, dV m.From, dV m.To, dV m.Minutes], bX 32 76 [dV m.Kind, dV (str []), dV m.Stop, dV m.From, dV m.To, kV .i64 0]], 64⟩) (fun v5 hm => ?_) ?_
   ·rcases bf hm with ⟨hb, hm⟩ | ⟨hb, hm⟩
    ·refine re G (hC 2 (i_isName_c h) (hO 4 (.b true) (hP hb h0))) ?_
     exact wJ G hm
    ·obtain ⟨r1, h1, hm⟩ := obind hm
     refine re G (hC 2 (i_isName_c h) (hO 4 (.b false) (hP hb (hC 7 (i_within_c h1) h0)))) ?_
     exact wJ G hm
   rintro v5 hm
   refine cd hm (fun hm => ?_) (fun hm => ?_)
   ·refine rg G ?_
    have hm := eR hm hr
    cases hm
    exact rt [] []
   ·exact X_skip (ibN (wF G hm))
  ·refine jn hm (fun v6 => ⟨[(1, .ref 16 0), (3, .ref 32 0), (6, dV m.Kind), (21, dV v6)], [bX 16 76 [dV m.Kind, dV m.Line, dV m.Stop, dV m.From, dV m.To, dV m.Minutes], bX 32 76 [dV m.Kind, dV m.Line, dV m.Stop, dV m.From, dV m.To, dV m.Minutes]], 64⟩) (fun v6 hm => ?_) ?_
   ·refine rg G (cd hm (fun hm => ?_) (fun hm => ?_))
    ·exact X_skip (wJ G hm)
    ·exact rh G (wJ G hm)
   rintro v6 hm
   refine cd hm (fun hm => ?_) (fun hm => ?_)
   ·refine rg G ?_
    obtain ⟨r3, h2, hm⟩ := obind hm
    refine jn hm (fun v7 => ⟨[(1, .ref 16 0), (3, .ref 32 0), (35, dV v7)], [bX 16 76 [dV m.Kind, dV m.Line, dV m.Stop, dV m.From, dV m.To, dV m.Minutes], bX 32 76 [dV m.Kind, dV (str []), dV m.Stop, kV .i64 0, dV m.To, dV m.Minutes]], 64⟩) (fun v7 hm => ?_) ?_
    ·rcases bf hm with ⟨hb1, hm⟩ | ⟨hb1, hm⟩
     ·refine re G (hC 2 (i_isName_c h2) (hO 4 (.b true) (hP hb1 h0))) ?_
      exact wJ G hm
     ·obtain ⟨r4, h3, hm⟩ := obind hm
      refine re G (hC 2 (i_isName_c h2) (hO 4 (.b false) (hP hb1 (hC 7 (i_IsValidTime_c h3) h0)))) ?_
      exact wJ G hm
    rintro v7 hm
    refine cd hm (fun hm => ?_) (fun hm => ?_)
    ·refine rg G ?_
     have hm := eR hm hr
     cases hm
     exact rt [] []
    ·exact X_skip (ibN (wF G hm))
   ·refine rg G (cd hm (fun hm => ?_) (fun hm => ?_))
    ·refine rg G ?_
     obtain ⟨r6, h4, hm⟩ := obind hm
     refine jn hm (fun v8 => ⟨[(1, .ref 16 0), (3, .ref 32 0), (49, dV v8)], [bX 16 76 [dV m.Kind, dV m.Line, dV m.Stop, dV m.From, dV m.To, dV m.Minutes], bX 32 76 [dV m.Kind, dV m.Line, dV (str []), kV .i64 0, kV .i64 0, dV m.Minutes]], 64⟩) (fun v8 hm => ?_) ?_
     ·rcases bf hm with ⟨hb2, hm⟩ | ⟨hb2, hm⟩
      ·refine re G (hC 2 (i_isName_c h4) (hO 4 (.b true) (hP hb2 h0))) ?_
       exact wJ G hm
      ·obtain ⟨r7, h5, hm⟩ := obind hm
       refine re G (hC 2 (i_isName_c h4) (hO 4 (.b false) (hP hb2 (hC 6 (i_isPeriod_c h5) h0)))) ?_
       exact wJ G hm
     rintro v8 hm
     refine cd hm (fun hm => ?_) (fun hm => ?_)
     ·refine rg G ?_
      have hm := eR hm hr
      cases hm
      exact rt [] []
     ·exact X_skip (ibN (wF G hm))
    ·refine rg G (cd hm (fun hm => ?_) (fun hm => ?_))
     ·refine rg G ?_
      obtain ⟨r9, h6, hm⟩ := obind hm
      refine jn hm (fun v9 => ⟨[(1, .ref 16 0), (3, .ref 32 0), (70, dV v9)], [bX 16 76 [dV m.Kind, dV m.Line, dV m.Stop, dV m.From, dV m.To, dV m.Minutes], bX 32 76 [dV m.Kind, dV (str []), dV (str []), kV .i64 0, kV .i64 0, dV m.Minutes]], 64⟩) (fun v9 hm => ?_) ?_
      ·rcases bf hm with ⟨hb3, hm⟩ | ⟨hb3, hm⟩
       ·refine re G (hC 2 (i_isName_c h6) (hO 4 (.b true) (hP hb3 h0))) ?_
        exact wJ G hm
       ·obtain ⟨r10, h7, hm⟩ := obind hm
        rcases bf hm with ⟨hb4, hm⟩ | ⟨hb4, hm⟩
        ·refine re G (hC 2 (i_isName_c h6) (hO 4 (.b false) (hP hb3 (hC 7 (i_isName_c h7) (hO 10 (.b true) (hP hb4 h0)))))) ?_
         exact wJ G hm
        ·obtain ⟨r11, h8, hm⟩ := obind hm
         refine re G (hC 2 (i_isName_c h6) (hO 4 (.b false) (hP hb3 (hC 7 (i_isName_c h7) (hO 10 (.b false) (hP hb4 (hC 12 (i_isPeriod_c h8) h0))))))) ?_
         exact wJ G hm
      rintro v9 hm
      refine cd hm (fun hm => ?_) (fun hm => ?_)
      ·refine rg G ?_
       have hm := eR hm hr
       cases hm
       exact rt [] []
      ·exact X_skip (ibN (wF G hm))
     ·refine rg G ?_
      have hm := eR hm hr
      cases hm
      exact rt [] []
 rintro ⟨v, v1, v2, v3, v4⟩ hm
 refine rg G ?_
 cases hm
 exact rt [] []
noncomputable def i_isNotice_1_M : MS Message Bool := ⟨.r, i_isNotice_1, fun y => dV y, fun _ => [], fun _ _ => []⟩
theorem i_isNotice_1_c {m y} (hm : i_isNotice_1 m = some y) : i_isNotice_1_M.C m y := i_isNotice_1_M.c m hm
theorem i_isNotice_1_ok : FnOK Try.prog tJ 78 i_isNotice_1_M.S := by
 refine fm tt i_isNotice_1_M [fo i_IsValidMessage_ok] Try.call78 Try.func78 rfl Try.results78 Try.ntmps78 ?_
 rintro m y cx G hm
 have hm : i_isNotice_1 m = some y := hm
 unfold i_isNotice_1 at hm
 refine rg G ?_
 obtain ⟨r, h, hm⟩ := obind hm
 refine rs G (hC 1 (i_IsValidMessage_c h) h0) ?_
 cases hm
 exact rt [] []
noncomputable def slices_IndexFunc_Message__i_isNotice_1_M : MS ((List Message)) Int := ⟨⟨[.rd, .fn 78 []], fun x => [Enc.e x, .agg []], fun x => [], 0, 0, fun _ => rfl, fun _ => rfl, rfl, (by
  rintro a0 b0 h hO
  have q0 : a0 = b0 := qI 0 h
  subst q0; rfl)⟩, slices_IndexFunc_Message__i_isNotice_1, fun y => dV y, fun _ => [], fun _ _ => []⟩
theorem slices_IndexFunc_Message__i_isNotice_1_c {s y} (hm : slices_IndexFunc_Message__i_isNotice_1 s = some y) : slices_IndexFunc_Message__i_isNotice_1_M.C s y := slices_IndexFunc_Message__i_isNotice_1_M.c s hm
theorem slices_IndexFunc_Message__i_isNotice_1_ok : FnOK Try.prog tJ 82 slices_IndexFunc_Message__i_isNotice_1_M.S := by
 refine fm tt slices_IndexFunc_Message__i_isNotice_1_M [fo i_isNotice_1_ok] Try.call82 Try.func82 rfl Try.results82 Try.ntmps82 ?_
 rintro s y cx G hm
 have hm : slices_IndexFunc_Message__i_isNotice_1 s = some y := hm
 obtain ⟨f, hf_f⟩ : ∃ q, (fun (z0 : Message) => i_isNotice_1 z0) = q := ⟨_, rfl⟩
 have hm : slices_IndexFunc_Message s f = some y := by rw [← hf_f]; exact hm
 unfold slices_IndexFunc_Message at hm
 refine rg G (Ok_seq (rs G (hN 1 s h0) ?_))
 refine tF hm (fun _ => ⟨[(1, .fn 78 [])], [], 32⟩) (fun v1 hr hm => ?_) ?_
 ·refine Ok_block (lp G hm (fun v => ⟨[(0, dV s), (1, .fn 78 []), (7, dV (s.length : Int)), (8, dV v)], [], 32⟩) ?_)
  rintro v r0 hb hm
  rw [slices_IndexFunc_Message_L1] at hm
  refine rg G (Ok_seq (cd hm (fun hm => ?_) (fun hm => ?_)))
  ·refine X_skip (thN (Ok_seq (Ok_block (rg G ?_))))
   obtain ⟨e, h, hm⟩ := obind hm
   obtain ⟨r, h1, hm⟩ := obind hm
   have h1 : i_isNotice_1 e = some r := by rw [← hf_f] at h1; exact h1
   refine rs G (hD 3 h (hC 5 (i_isNotice_1_c h1) h0)) ?_
   refine cd hm (fun hm => ?_) (fun hm => ?_)
   ·refine rg G ?_
    have hm := eL hm hb hr
    cases hm
    exact rt [] []
   ·exact X_skip (ibN (thN (rh G (wL G hm))))
  ·exact Ok_exit (thE (thE (ibE (wE G hm hb))))
 rintro ⟨⟩ hm s1 hw
 refine thN (Ok_weak hw ?_)
 refine rg G ?_
 cases hm
 exact rt [] []
noncomputable def slices_ContainsFunc_Message__i_isNotice_1_M : MS ((List Message)) Bool := ⟨⟨[.rd, .fn 78 []], fun x => [Enc.e x, .agg []], fun x => [], 0, 0, fun _ => rfl, fun _ => rfl, rfl, (by
  rintro a0 b0 h hO
  have q0 : a0 = b0 := qI 0 h
  subst q0; rfl)⟩, slices_ContainsFunc_Message__i_isNotice_1, fun y => dV y, fun _ => [], fun _ _ => []⟩
theorem slices_ContainsFunc_Message__i_isNotice_1_c {s y} (hm : slices_ContainsFunc_Message__i_isNotice_1 s = some y) : slices_ContainsFunc_Message__i_isNotice_1_M.C s y := slices_ContainsFunc_Message__i_isNotice_1_M.c s hm
theorem slices_ContainsFunc_Message__i_isNotice_1_ok : FnOK Try.prog tJ 39 slices_ContainsFunc_Message__i_isNotice_1_M.S := by
 refine fm tt slices_ContainsFunc_Message__i_isNotice_1_M [fo slices_IndexFunc_Message__i_isNotice_1_ok] Try.call39 Try.func39 rfl Try.results39 Try.ntmps39 ?_
 rintro s y cx G hm
 have hm : slices_ContainsFunc_Message__i_isNotice_1 s = some y := hm
 obtain ⟨f, hf_f⟩ : ∃ q, (fun (z0 : Message) => i_isNotice_1 z0) = q := ⟨_, rfl⟩
 have hm : slices_ContainsFunc_Message s f = some y := by rw [← hf_f]; exact hm
 unfold slices_ContainsFunc_Message at hm
 refine rg G ?_
 obtain ⟨r, h, hm⟩ := obind hm
 have h : slices_IndexFunc_Message__i_isNotice_1 s = some r := by rw [← hf_f] at h; exact h
 refine rs G (hC 2 (slices_IndexFunc_Message__i_isNotice_1_c h) h0) ?_
 cases hm
 exact rt [] []
noncomputable def i_isNotice_M : MS ((List Message)) Bool := ⟨.r, i_isNotice, fun y => dV y, fun _ => [], fun _ _ => []⟩
theorem i_isNotice_c {list y} (hm : i_isNotice list = some y) : i_isNotice_M.C list y := i_isNotice_M.c list hm
theorem i_isNotice_ok : FnOK Try.prog tJ 36 i_isNotice_M.S := by
 refine fm tt i_isNotice_M [fo slices_ContainsFunc_Message__i_isNotice_1_ok] Try.call36 Try.func36 rfl Try.results36 Try.ntmps36 ?_
 rintro list y cx G hm
 have hm : i_isNotice list = some y := hm
 unfold i_isNotice at hm
 refine rg G (jn hm (fun v => ⟨[(2, dV v)], [], 32⟩) (fun v hm => ?_) ?_)
 ·rcases bf hm with ⟨hb, hm⟩ | ⟨hb, hm⟩
  ·obtain ⟨r, h, hm⟩ := obind hm
   refine re G (hN 1 list (hO 3 (.b true) (hP hb (hC 5 (slices_ContainsFunc_Message__i_isNotice_1_c h) h0)))) ?_
   exact wJ G hm
  ·refine re G (hN 1 list (hO 3 (.b false) (hP hb h0))) ?_
   exact wJ G hm
 rintro v hm
 cases hm
 exact rt [] []
noncomputable def slices_Grow_Message_z_M : MS Int ((List Message)) := ⟨.zi, slices_Grow_Message_z, fun _ => .own 0, fun y => [arO 76 y], fun _ _ => []⟩
theorem slices_Grow_Message_z_c {n y} (hm : slices_Grow_Message_z n = some y) : slices_Grow_Message_z_M.C n y := slices_Grow_Message_z_M.c n hm
def slices_Grow_Message_z_R : Go.Shelf.Ren := ⟨fun x => bif Nat.beq x 4 then 80 else x, fun x => bif Nat.beq x 22 then 24 else bif Nat.beq x 25 then 76 else bif Nat.beq x 3 then 3 else bif Nat.beq x 4 then 4 else bif Nat.beq x 9 then 9 else bif Nat.beq x 20 then 20 else x, fun x => x⟩
theorem slices_Grow_Message_z_F : Try.f80 = { Go.Proofs.Body8.n4 slices_Grow_Message_z_R with name := "slices.Grow[[]loop.example/g00900/impl.Message,loop.example/g00900/impl.Message]" } := by kernel_rfl
theorem slices_Grow_Message_z_ok : FnOK Try.prog tJ 80 slices_Grow_Message_z_M.S := groZOK (α := Message) (x := tyE76) tt slices_Grow_Message_z_R (nm := "slices.Grow[[]loop.example/g00900/impl.Message,loop.example/g00900/impl.Message]") (by rfl) Try.call80 (Try.func80.trans (congrArg some slices_Grow_Message_z_F)) (b0 := 0) (e0 := false) (b20 := 16) (e20 := false) ⟨Try.underlying0, Try.t0, Try.type0, rfl, rfl, rfl, fun h => by cases h⟩ ⟨Try.underlying20, Try.t20, Try.type20, rfl, rfl, rfl, fun h => by cases h⟩ (by kernel_rfl) (by kernel_rfl) (by kernel_rfl) (by kernel_rfl) (by kernel_rfl) (by kernel_rfl)
noncomputable def slices_Concat_Message_M : MS ((List (List Message))) ((List Message)) := ⟨.r, slices_Concat_Message, fun _ => .own 0, fun y => [arO 76 y], fun _ _ => []⟩
theorem slices_Concat_Message_c {slices y} (hm : slices_Concat_Message slices = some y) : slices_Concat_Message_M.C slices y := slices_Concat_Message_M.c slices hm
theorem slices_Concat_Message_ok : FnOK Try.prog tJ 37 slices_Concat_Message_M.S := by
 refine fm tt slices_Concat_Message_M [fo slices_Grow_Message_z_ok] Try.call37 Try.func37 rfl Try.results37 Try.ntmps37 ?_
 rintro slices y cx G hm
 have hm : slices_Concat_Message slices = some y := hm
 unfold slices_Concat_Message at hm
 refine rg G (rg G (Ok_seq (rs G (hN 1 slices h0) ?_)))
 refine tl hm (fun v2 => ⟨[(0, dV slices), (3, dV v2)], [], 32⟩) (fun v2 hm => ?_) ?_
 ·refine Ok_block (lp G hm (fun (v, v1) => ⟨[(0, dV slices), (3, dV v), (9, dV slices), (10, dV (slices.length : Int)), (11, dV v1)], [], 32⟩) ?_)
  rintro ⟨v, v1⟩ r0 hb hm
  rw [slices_Concat_Message_L1] at hm
  refine rg G (Ok_seq (cd hm (fun hm => ?_) (fun hm => ?_)))
  ·refine X_skip (thN (Ok_seq (Ok_block ?_)))
   obtain ⟨e, h, hm⟩ := obind hm
   refine rs G (hD 0 h h0) ?_
   refine rs G (hN 2 e h0) ?_
   refine rg G (cd hm (fun hm => ?_) (fun hm => ?_))
   ·cases hm
   ·exact X_skip (ibN (thN (rh G (wL G hm))))
  ·exact Ok_exit (thE (thE (ibE (wD G hm hb))))
 rintro v2 hm s hw
 refine thN (Ok_weak hw ?_)
 obtain ⟨r, h1, hm⟩ := obind hm
 refine rs G (hC 1 (slices_Grow_Message_z_c h1) h0) ?_
 refine Ok_seq (rs G (hN 1 slices h0) ?_)
 refine tl hm (fun v5 => ⟨[(6, .own 16)], [aX 16 76 v5], 48⟩) (fun v5 hm => ?_) ?_
 ·refine Ok_block (lp G hm (fun (v3, v4) => ⟨[(6, .own 16), (25, dV slices), (26, dV (slices.length : Int)), (27, dV v3)], [aX 16 76 v4], 48⟩) ?_)
  rintro ⟨v3, v4⟩ r0 hb1 hm
  rw [slices_Concat_Message_L2] at hm
  refine rg G (Ok_seq (cd hm (fun hm => ?_) (fun hm => ?_)))
  ·refine X_skip (thN (Ok_seq (Ok_block ?_)))
   obtain ⟨e1, h2, hm⟩ := obind hm
   refine rs G (hD 0 h2 h0) ?_
   obtain ⟨u, h3, hm⟩ := obind hm
   refine re G (hA 2 64 h3 h0) ?_
   exact ibN (thN (rh G (wL G hm)))
  ·exact Ok_exit (thE (thE (ibE (wD G hm hb1))))
 rintro v5 hm s1 hw1
 refine thN (Ok_weak hw1 ?_)
 refine rg G ?_
 cases hm
 exact rt [16] []
noncomputable def slices_Index_Message_M : MS ((List Message) × Message) Int := ⟨.x .r .r, fun x => slices_Index_Message x.1 x.2, fun y => dV y, fun _ => [], fun _ _ => []⟩
theorem slices_Index_Message_c {s v y} (hm : slices_Index_Message s v = some y) : slices_Index_Message_M.C (s, v) y := slices_Index_Message_M.c (s, v) hm
theorem slices_Index_Message_ok : FnOK Try.prog tJ 81 slices_Index_Message_M.S := by
 refine fm tt slices_Index_Message_M [] Try.call81 Try.func81 rfl Try.results81 Try.ntmps81 ?_
 rintro ⟨s, v⟩ y cx G hm
 have hm : slices_Index_Message s v = some y := hm
 unfold slices_Index_Message at hm
 refine rg G (Ok_seq (rs G (hN 1 s h0) ?_))
 refine tF hm (fun _ => ⟨[], [], 32⟩) (fun v2 hr hm => ?_) ?_
 ·refine Ok_block (lp G hm (fun v1 => ⟨[(0, dV s), (3, .ref 16 0), (7, dV (s.length : Int)), (8, dV v1)], [bX 16 76 [dV v.Kind, dV v.Line, dV v.Stop, dV v.From, dV v.To, dV v.Minutes]], 48⟩) ?_)
  rintro v1 r0 hb hm
  rw [slices_Index_Message_L1] at hm
  refine rg G (Ok_seq (cd hm (fun hm => ?_) (fun hm => ?_)))
  ·refine X_skip (thN (Ok_seq (Ok_block (rg G ?_))))
   obtain ⟨e1, h1, hm⟩ := obind hm
   refine ds G [] (hD 3 h1 h0) ?_
   refine cd hm (fun hm => ?_) (fun hm => ?_)
   ·refine rg G ?_
    have hm := eL hm hb hr
    cases hm
    exact rt [] []
   ·exact X_skip (ibN (thN (rh G (wL G hm))))
  ·exact Ok_exit (thE (thE (ibE (wE G hm hb))))
 rintro ⟨⟩ hm s1 hw
 refine thN (Ok_weak hw ?_)
 refine rg G ?_
 cases hm
 exact rt [] []
noncomputable def slices_Contains_Message_M : MS ((List Message) × Message) Bool := ⟨.x .r .r, fun x => slices_Contains_Message x.1 x.2, fun y => dV y, fun _ => [], fun _ _ => []⟩
theorem slices_Contains_Message_c {s v y} (hm : slices_Contains_Message s v = some y) : slices_Contains_Message_M.C (s, v) y := slices_Contains_Message_M.c (s, v) hm
theorem slices_Contains_Message_ok : FnOK Try.prog tJ 38 slices_Contains_Message_M.S := by
 refine fm tt slices_Contains_Message_M [fo slices_Index_Message_ok] Try.call38 Try.func38 rfl Try.results38 Try.ntmps38 ?_
 rintro ⟨s, v⟩ y cx G hm
 have hm : slices_Contains_Message s v = some y := hm
 unfold slices_Contains_Message at hm
 refine rg G ?_
 obtain ⟨r, h, hm⟩ := obind hm
 refine rs G (hC 2 (slices_Index_Message_c h) h0) ?_
 cases hm
 exact rt [] []
noncomputable def i_MergeNotices_1_M : MS (Message × Message) Bool := ⟨.x .r (.b 76), fun x => i_MergeNotices_1 x.1 x.2, fun y => dV y, fun _ => [], fun x _ => [bxO 76 x.2]⟩
theorem i_MergeNotices_1_c {n c1 y} (hm : i_MergeNotices_1 n c1 = some y) : i_MergeNotices_1_M.C (n, c1) y := i_MergeNotices_1_M.c (n, c1) hm
theorem i_MergeNotices_1_ok : FnOK Try.prog tJ 40 i_MergeNotices_1_M.S := by
 refine fm tt i_MergeNotices_1_M [] Try.call40 Try.func40 rfl Try.results40 Try.ntmps40 ?_
 rintro ⟨n, c1⟩ y cx G hm
 have hm : i_MergeNotices_1 n c1 = some y := hm
 unfold i_MergeNotices_1 at hm
 refine rg G (jn hm (fun v => ⟨[(1, .ref 0 0), (3, dV v)], [bX 0 76 [dV c1.Kind, dV c1.Line, dV c1.Stop, dV c1.From, dV c1.To, dV c1.Minutes]], 48⟩) (fun v hm => ?_) ?_)
 ·rcases bf hm with ⟨hb, hm⟩ | ⟨hb, hm⟩
  ·refine re G (hO 3 (.b true) (hP hb h0)) ?_
   exact wJ G hm
  ·refine re G (hO 3 (.b false) (hP hb h0)) ?_
   exact wJ G hm
 rintro v hm
 cases hm
 exact rt [] []
noncomputable def slices_IndexFunc_Message__i_MergeNotices_1_M : MS ((List Message) × Message) Int := ⟨⟨[.rd, .fn 40 [.bx]], fun x => [Enc.e x.1, .agg [.sc undef]], fun x => [bxO 76 x.2], 1, 1, fun _ => rfl, fun _ => rfl, rfl, (by
  rintro ⟨a0, a1⟩ ⟨b0, b1⟩ h hO
  have q0 : a0 = b0 := qI 0 h
  have q1 : a1 = b1 := Enc.inj _ _ (congrArg (fun l => D.agg (obD l 0)) hO)
  subst q0; subst q1; rfl)⟩, fun x => slices_IndexFunc_Message__i_MergeNotices_1 x.1 x.2, fun y => dV y, fun _ => [], fun x _ => [bxO 76 x.2]⟩
theorem slices_IndexFunc_Message__i_MergeNotices_1_c {s c1 y} (hm : slices_IndexFunc_Message__i_MergeNotices_1 s c1 = some y) : slices_IndexFunc_Message__i_MergeNotices_1_M.C (s, c1) y := slices_IndexFunc_Message__i_MergeNotices_1_M.c (s, c1) hm
theorem slices_IndexFunc_Message__i_MergeNotices_1_ok : FnOK Try.prog tJ 82 slices_IndexFunc_Message__i_MergeNotices_1_M.S := by
 refine fm tt slices_IndexFunc_Message__i_MergeNotices_1_M [fo i_MergeNotices_1_ok] Try.call82 Try.func82 rfl Try.results82 Try.ntmps82 ?_
 rintro ⟨s, c1⟩ y cx G hm
 have hm : slices_IndexFunc_Message__i_MergeNotices_1 s c1 = some y := hm
 obtain ⟨f, hf_f⟩ : ∃ q, (fun (z0 : Message) => i_MergeNotices_1 z0 c1) = q := ⟨_, rfl⟩
 have hm : slices_IndexFunc_Message s f = some y := by rw [← hf_f]; exact hm
 unfold slices_IndexFunc_Message at hm
 refine rg G (Ok_seq (rs G (hN 1 s h0) ?_))
 refine tF hm (fun _ => ⟨[(1, .fn 40 [.ref 0 0])], [bX 0 76 [dV c1.Kind, dV c1.Line, dV c1.Stop, dV c1.From, dV c1.To, dV c1.Minutes]], 48⟩) (fun v1 hr hm => ?_) ?_
 ·refine Ok_block (lp G hm (fun v => ⟨[(0, dV s), (1, .fn 40 [.ref 0 0]), (7, dV (s.length : Int)), (8, dV v)], [bX 0 76 [dV c1.Kind, dV c1.Line, dV c1.Stop, dV c1.From, dV c1.To, dV c1.Minutes]], 48⟩) ?_)
  rintro v r0 hb hm
  rw [slices_IndexFunc_Message_L1] at hm
  refine rg G (Ok_seq (cd hm (fun hm => ?_) (fun hm => ?_)))
  ·refine X_skip (thN (Ok_seq (Ok_block (rg G ?_))))
   obtain ⟨e, h, hm⟩ := obind hm
   obtain ⟨r, h1, hm⟩ := obind hm
   have h1 : i_MergeNotices_1 e c1 = some r := by rw [← hf_f] at h1; exact h1
   refine rs G (hD 3 h (hC 5 (i_MergeNotices_1_c h1) h0)) ?_
   refine cd hm (fun hm => ?_) (fun hm => ?_)
   ·refine rg G ?_
    have hm := eL hm hb hr
    cases hm
    exact rt [] []
   ·exact X_skip (ibN (thN (rh G (wL G hm))))
  ·exact Ok_exit (thE (thE (ibE (wE G hm hb))))
 rintro ⟨⟩ hm s1 hw
 refine thN (Ok_weak hw ?_)
 refine rg G ?_
 cases hm
 exact rt [] []
noncomputable def slices_ContainsFunc_Message__i_MergeNotices_1_M : MS ((List Message) × Message) Bool := ⟨⟨[.rd, .fn 40 [.bx]], fun x => [Enc.e x.1, .agg [.sc undef]], fun x => [bxO 76 x.2], 1, 1, fun _ => rfl, fun _ => rfl, rfl, (by
  rintro ⟨a0, a1⟩ ⟨b0, b1⟩ h hO
  have q0 : a0 = b0 := qI 0 h
  have q1 : a1 = b1 := Enc.inj _ _ (congrArg (fun l => D.agg (obD l 0)) hO)
  subst q0; subst q1; rfl)⟩, fun x => slices_ContainsFunc_Message__i_MergeNotices_1 x.1 x.2, fun y => dV y, fun _ => [], fun x _ => [bxO 76 x.2]⟩
theorem slices_ContainsFunc_Message__i_MergeNotices_1_c {s c1 y} (hm : slices_ContainsFunc_Message__i_MergeNotices_1 s c1 = some y) : slices_ContainsFunc_Message__i_MergeNotices_1_M.C (s, c1) y := slices_ContainsFunc_Message__i_MergeNotices_1_M.c (s, c1) hm
theorem slices_ContainsFunc_Message__i_MergeNotices_1_ok : FnOK Try.prog tJ 39 slices_ContainsFunc_Message__i_MergeNotices_1_M.S := by
 refine fm tt slices_ContainsFunc_Message__i_MergeNotices_1_M [fo slices_IndexFunc_Message__i_MergeNotices_1_ok] Try.call39 Try.func39 rfl Try.results39 Try.ntmps39 ?_
 rintro ⟨s, c1⟩ y cx G hm
 have hm : slices_ContainsFunc_Message__i_MergeNotices_1 s c1 = some y := hm
 obtain ⟨f, hf_f⟩ : ∃ q, (fun (z0 : Message) => i_MergeNotices_1 z0 c1) = q := ⟨_, rfl⟩
 have hm : slices_ContainsFunc_Message s f = some y := by rw [← hf_f]; exact hm
 unfold slices_ContainsFunc_Message at hm
 refine rg G ?_
 obtain ⟨r, h, hm⟩ := obind hm
 have h : slices_IndexFunc_Message__i_MergeNotices_1 s c1 = some r := by rw [← hf_f] at h; exact h
 refine rs G (hC 2 (slices_IndexFunc_Message__i_MergeNotices_1_c h) h0) ?_
 cases hm
 exact rt [] []
noncomputable def i_MergeNotices_M : MS ((List Message) × (List Message)) ((List Message) × Bool) := ⟨.x .r .r, fun x => i_MergeNotices x.1 x.2, fun y => .tup [dV y.1, dV y.2], fun _ => [], fun _ _ => []⟩
theorem i_MergeNotices_c {a b y} (hm : i_MergeNotices a b = some y) : i_MergeNotices_M.C (a, b) y := i_MergeNotices_M.c (a, b) hm
theorem i_MergeNotices_ok : FnOK Try.prog tJ 7 i_MergeNotices_M.S := by
 refine fm tt i_MergeNotices_M [fo i_isNotice_ok, fo slices_Concat_Message_ok, fo slices_Contains_Message_ok, fo slices_ContainsFunc_Message__i_MergeNotices_1_ok] Try.call7 Try.func7 rfl Try.results7 Try.ntmps7 ?_
 rintro ⟨a, b⟩ y cx G hm
 have hm : i_MergeNotices a b = some y := hm
 unfold i_MergeNotices at hm
 refine rg G (Ok_seq ?_)
 obtain ⟨r, h, hm⟩ := obind hm
 refine jn hm (fun v => ⟨[(0, dV a), (1, dV b), (18, dV v)], [], 32⟩) (fun v hm => ?_) ?_
 ·rcases bf hm with ⟨hb, hm⟩ | ⟨hb, hm⟩
  ·refine re G (hC 1 (i_isNotice_c h) (hO 3 (.b true) (hP hb h0))) ?_
   exact wJ G hm
  ·obtain ⟨r1, h1, hm⟩ := obind hm
   refine re G (hC 1 (i_isNotice_c h) (hO 3 (.b false) (hP hb (hC 5 (i_isNotice_c h1) h0)))) ?_
   exact wJ G hm
 rintro v hm
 refine cd hm (fun hm => ?_) (fun hm => ?_)
 ·refine rg G ?_
  cases hm
  exact rt [] [[.z 6]]
 ·refine X_skip (thN ?_)
  obtain ⟨r2, h2, hm⟩ := obind hm
  refine rs G (hF 3 (slices_Concat_Message_c h2) ⟨(flat_cons flat_arr flat_nil), flat_nil⟩ h0) ?_
  refine rg G (Ok_seq (rs G (hN 1 r2 h0) ?_))
  refine tl hm (fun m2 => ⟨[(7, .own 16)], [aX 16 76 m2], 48⟩) (fun m2 hm => ?_) ?_
  ·refine Ok_block (lpP hm (fun (v1, m) => ⟨[(6, dV r2), (7, .own 16), (23, dV r2), (24, dV (r2.length : Int)), (25, dV v1)], [aX 16 76 m], 48⟩) (Wk_J G.hL ⟨[(6, []), (7, [.o 16]), (23, []), (24, []), (25, [])], [], [(16, 76, 6, [])], 48⟩ (by kernel_rfl)) ?_)
   rintro ⟨v1, m⟩ r0 hb1 hm
   rw [i_MergeNotices_L1] at hm
   refine rg G (Ok_seq (cd hm (fun hm => ?_) (fun hm => ?_)))
   ·refine X_skip (thN (jn hm (fun m1 => ⟨[(6, dV r2), (7, .own 16), (23, dV r2), (24, dV (r2.length : Int)), (25, dV v1)], [aX 16 76 m1], 48⟩) (fun m1 hm => ?_) ?_))
    ·refine Ok_block ?_
     obtain ⟨e, h3, hm⟩ := obind hm
     refine rs G (hD 1 h3 h0) ?_
     obtain ⟨u1, h6, hm⟩ := obind hm
     obtain ⟨r4, h7, hm⟩ := obind hm
     refine ds G [(2, [])] (hU 2 h6 (hC 4 (slices_Contains_Message_c h7) h0)) ?_
     refine jn hm (fun v2 => ⟨[(6, dV r2), (7, .own 16), (9, .ref 32 0), (10, dV v2), (23, dV r2), (24, dV (r2.length : Int)), (25, dV v1)], [aX 16 76 m, bX 32 76 [dV e.Kind, dV e.Line, dV e.Stop, dV e.From, dV e.To, dV e.Minutes]], 64⟩) (fun v2 hm => ?_) ?_
     ·refine rg G (cd hm (fun hm => ?_) (fun hm => ?_))
      ·obtain ⟨u2, h8, hm⟩ := obind hm
       obtain ⟨r5, h9, hm⟩ := obind hm
       refine re G (hV 3 h8 (hC 5 (slices_ContainsFunc_Message__i_MergeNotices_1_c h9) h0)) ?_
       exact wJ G hm
      ·exact X_skip (wJ G hm)
     rintro v2 hm
     refine rg G (cd hm (fun hm => ?_) (fun hm => ?_))
     ·obtain ⟨u3, h10, hm⟩ := obind hm
      refine re G (hA 3 64 h10 h0) ?_
      exact ibN (wJ G hm)
     ·exact X_skip (ibN (wJ G hm))
    rintro m1 hm
    exact rh G (wL G hm)
   ·exact Ok_exit (thE (thE (ibE (wD G hm hb1))))
  rintro m2 hm s hw
  refine thN (Ok_weak hw ?_)
  refine Ok_seq ?_
  obtain ⟨r6, h11, hm⟩ := obind hm
  refine rs G (hC 1 (i_isNotice_c h11) h0) ?_
  refine cd hm (fun hm => ?_) (fun hm => ?_)
  ·refine rg G ?_
   cases hm
   exact rt [] [[.z 6]]
  ·refine X_skip (thN (rg G ?_))
   cases hm
   exact rt [] []
noncomputable def s_l1In_M : MS (Int × Int × Int) Bool := ⟨.x .r (.x .r .r), fun x => s_l1In x.1 x.2.1 x.2.2, fun y => dV y, fun _ => [], fun _ _ => []⟩
theorem s_l1In_c {x a b y} (hm : s_l1In x a b = some y) : s_l1In_M.C (x, a, b) y := s_l1In_M.c (x, a, b) hm
theorem s_l1In_ok : FnOK Try.prog tJ 46 s_l1In_M.S := by
 refine fm tt s_l1In_M [] Try.call46 Try.func46 rfl Try.results46 Try.ntmps46 ?_
 rintro ⟨x, a, b⟩ y cx G hm
 have hm : s_l1In x a b = some y := hm
 unfold s_l1In at hm
 refine rg G (jn hm (fun v => ⟨[(6, dV v)], [], 32⟩) (fun v hm => ?_) ?_)
 ·rcases bf hm with ⟨hb, hm⟩ | ⟨hb, hm⟩
  ·refine re G (hO 3 (.b true) (hP hb h0)) ?_
   exact wJ G hm
  ·refine re G (hO 3 (.b false) (hP hb h0)) ?_
   exact wJ G hm
 rintro v hm
 cases hm
 exact rt [] []
noncomputable def s_l2Name_M : MS ByteArray Bool := ⟨.r, s_l2Name, fun y => dV y, fun _ => [], fun _ _ => []⟩
theorem s_l2Name_c {s y} (hm : s_l2Name s = some y) : s_l2Name_M.C s y := s_l2Name_M.c s hm
theorem s_l2Name_ok : FnOK Try.prog tJ 49 s_l2Name_M.S := by
 refine fm tt s_l2Name_M [fo s_l1In_ok] Try.call49 Try.func49 rfl Try.results49 Try.ntmps49 ?_
 rintro s y cx G hm
 have hm : s_l2Name s = some y := hm
 unfold s_l2Name at hm
 refine rg G (Ok_seq ?_)
 obtain ⟨r, h, hm⟩ := obind hm
 refine jn hm (fun v => ⟨[(0, dV s), (17, dV v)], [], 32⟩) (fun v hm => ?_) ?_
 ·rcases bf hm with ⟨hb, hm⟩ | ⟨hb, hm⟩
  ·refine re G (hC 2 (s_l1In_c h) (hO 4 (.b true) (hP hb h0))) ?_
   exact wJ G hm
  ·obtain ⟨u, h1, hm⟩ := obind hm
   rcases bf hm with ⟨hb1, hm⟩ | ⟨hb1, hm⟩
   ·refine re G (hC 2 (s_l1In_c h) (hO 4 (.b false) (hP hb (hK h1 (hO 9 (.b true) (hP hb1 h0)))))) ?_
    exact wJ G hm
   ·obtain ⟨u1, h2, hm⟩ := obind hm
    refine re G (hC 2 (s_l1In_c h) (hO 4 (.b false) (hP hb (hK h1 (hO 9 (.b false) (hP hb1 (hK h2 h0))))))) ?_
    exact wJ G hm
 rintro v hm
 refine cd hm (fun hm => ?_) (fun hm => ?_)
 ·refine rg G ?_
  cases hm
  exact rt [] []
 ·refine X_skip (thN (Ok_seq (rg G (tF hm (fun _ => ⟨[], [], 32⟩) (fun v3 hr hm => ?_) ?_))))
  ·refine Ok_block (lp G hm (fun v1 => ⟨[(0, dV s), (3, dV v1)], [], 32⟩) ?_)
   rintro v1 r0 hb2 hm
   rw [s_l2Name_L1] at hm
   refine Ok_seq (rg G (cd hm (fun hm => ?_) (fun hm => ?_)))
   ·refine X_skip (thN (Ok_seq (Ok_block ?_)))
    obtain ⟨u2, h3, hm⟩ := obind hm
    refine jn hm (fun v2 => ⟨[(0, dV s), (3, dV v1), (45, dV v2)], [], 32⟩) (fun v2 hm => ?_) ?_
    ·rcases bf hm with ⟨hb3, hm⟩ | ⟨hb3, hm⟩
     ·obtain ⟨u3, h4, hm⟩ := obind hm
      rcases bf hm with ⟨hb4, hm⟩ | ⟨hb4, hm⟩
      ·refine re G (hK h3 (hO 4 (.b true) (hP hb3 (hK h4 (hO 15 (.b true) (hP hb4 h0)))))) ?_
       exact wJ G hm
      ·obtain ⟨u4, h5, hm⟩ := obind hm
       refine re G (hK h3 (hO 4 (.b true) (hP hb3 (hK h4 (hO 15 (.b false) (hP hb4 (hK h5 h0))))))) ?_
       exact wJ G hm
     ·obtain ⟨u5, h6, hm⟩ := obind hm
      rcases bf hm with ⟨hb5, hm⟩ | ⟨hb5, hm⟩
      ·obtain ⟨u6, h7, hm⟩ := obind hm
       rcases bf hm with ⟨hb6, hm⟩ | ⟨hb6, hm⟩
       ·refine re G (hK h3 (hO 4 (.b false) (hP hb3 (hK h6 (hO 10 (.b true) (hP hb5 (hK h7 (hO 15 (.b true) (hP hb6 h0))))))))) ?_
        exact wJ G hm
       ·obtain ⟨u7, h8, hm⟩ := obind hm
        refine re G (hK h3 (hO 4 (.b false) (hP hb3 (hK h6 (hO 10 (.b true) (hP hb5 (hK h7 (hO 15 (.b false) (hP hb6 (hK h8 h0)))))))))) ?_
        exact wJ G hm
      ·refine re G (hK h3 (hO 4 (.b false) (hP hb3 (hK h6 (hO 10 (.b false) (hP hb5 h0)))))) ?_
       exact wJ G hm
    rintro v2 hm
    refine cd hm (fun hm => ?_) (fun hm => ?_)
    ·refine rg G ?_
     have hm := eL hm hb2 hr
     cases hm
     exact rt [] []
    ·exact X_skip (ibN (thN (rh G (wL G hm))))
   ·exact Ok_exit (thE (thE (ibE (wE G hm hb2))))
  rintro ⟨⟩ hm s1 hw
  refine thN (Ok_weak hw ?_)
  refine rg G ?_
  cases hm
  exact rt [] []
noncomputable def s_l4Time_M : MS Int Bool := ⟨.r, s_l4Time, fun y => dV y, fun _ => [], fun _ _ => []⟩
theorem s_l4Time_c {t y} (hm : s_l4Time t = some y) : s_l4Time_M.C t y := s_l4Time_M.c t hm
theorem s_l4Time_ok : FnOK Try.prog tJ 45 s_l4Time_M.S := by
 refine fm tt s_l4Time_M [fo s_l1In_ok] Try.call45 Try.func45 rfl Try.results45 Try.ntmps45 ?_
 rintro t y cx G hm
 have hm : s_l4Time t = some y := hm
 unfold s_l4Time at hm
 refine rg G ?_
 obtain ⟨r, h, hm⟩ := obind hm
 refine rs G (hC 1 (s_l1In_c h) h0) ?_
 cases hm
 exact rt [] []
noncomputable def s_l24Good_M : MS Message Bool := ⟨.r, s_l24Good, fun y => dV y, fun _ => [], fun _ _ => []⟩
theorem s_l24Good_c {m y} (hm : s_l24Good m = some y) : s_l24Good_M.C m y := s_l24Good_M.c m hm
theorem s_l24Good_ok : FnOK Try.prog tJ 83 s_l24Good_M.S := by
 refine fm tt s_l24Good_M [fo s_l2Name_ok, fo s_l1In_ok, fo s_l4Time_ok] Try.call83 Try.func83 rfl Try.results83 Try.ntmps83 ?_
 rintro m y cx G hm
 have hm : s_l24Good m = some y := hm
 unfold s_l24Good at hm
 refine rg G (rg G (Ok_seq (rg G (Ok_block (rg G (cd hm (fun hm => ?_) (fun hm => ?_)))))))
 ·refine rg G (jn hm (fun x => ⟨[(2, dV x)], [], 32⟩) (fun x hm => ?_) ?_)
  ·rcases bf hm with ⟨hb, hm⟩ | ⟨hb, hm⟩
   ·obtain ⟨r, h, hm⟩ := obind hm
    rcases bf hm with ⟨hb1, hm⟩ | ⟨hb1, hm⟩
    ·obtain ⟨r1, h1, hm⟩ := obind hm
     refine re G (hO 3 (.b true) (hP hb (hC 6 (s_l2Name_c h) (hO 8 (.b true) (hP hb1 (hC 11 (s_l1In_c h1) h0)))))) ?_
     exact wJ G hm
    ·refine re G (hO 3 (.b true) (hP hb (hC 6 (s_l2Name_c h) (hO 8 (.b false) (hP hb1 h0))))) ?_
     exact wJ G hm
   ·refine re G (hO 3 (.b false) (hP hb h0)) ?_
    exact wJ G hm
  rintro x hm
  cases hm
  exact rt [] []
 ·refine jn hm (fun v => ⟨[(1, .ref 16 0), (3, .ref 32 0), (10, dV m.Kind), (29, dV v)], [bX 16 76 [dV m.Kind, dV m.Line, dV m.Stop, dV m.From, dV m.To, dV m.Minutes], bX 32 76 [dV m.Kind, dV m.Line, dV ByteArray.empty, kV .i64 0, kV .i64 0, kV .i64 0]], 64⟩) (fun v hm => ?_) ?_
  ·refine rg G (cd hm (fun hm => ?_) (fun hm => ?_))
   ·exact X_skip (wJ G hm)
   ·exact rh G (wJ G hm)
  rintro v hm
  refine cd hm (fun hm => ?_) (fun hm => ?_)
  ·refine rg G (jn hm (fun x1 => ⟨[(2, dV x1)], [], 32⟩) (fun x1 hm => ?_) ?_)
   ·rcases bf hm with ⟨hb2, hm⟩ | ⟨hb2, hm⟩
    ·obtain ⟨r2, h2, hm⟩ := obind hm
     rcases bf hm with ⟨hb3, hm⟩ | ⟨hb3, hm⟩
     ·obtain ⟨r3, h3, hm⟩ := obind hm
      refine re G (hO 3 (.b true) (hP hb2 (hC 6 (s_l2Name_c h2) (hO 8 (.b true) (hP hb3 (hC 11 (s_l4Time_c h3) h0)))))) ?_
      exact wJ G hm
     ·refine re G (hO 3 (.b true) (hP hb2 (hC 6 (s_l2Name_c h2) (hO 8 (.b false) (hP hb3 h0))))) ?_
      exact wJ G hm
    ·refine re G (hO 3 (.b false) (hP hb2 h0)) ?_
     exact wJ G hm
   rintro x1 hm
   cases hm
   exact rt [] []
  ·refine rg G (cd hm (fun hm => ?_) (fun hm => ?_))
   ·refine jn hm (fun x2 => ⟨[(2, dV x2)], [], 32⟩) (fun x2 hm => ?_) ?_
    ·rcases bf hm with ⟨hb4, hm⟩ | ⟨hb4, hm⟩
     ·rcases bf hm with ⟨hb5, hm⟩ | ⟨hb5, hm⟩
      ·obtain ⟨r4, h4, hm⟩ := obind hm
       rcases bf hm with ⟨hb6, hm⟩ | ⟨hb6, hm⟩
       ·obtain ⟨r5, h5, hm⟩ := obind hm
        rcases bf hm with ⟨hb7, hm⟩ | ⟨hb7, hm⟩
        ·obtain ⟨r6, h6, hm⟩ := obind hm
         rcases bf hm with ⟨hb8, hm⟩ | ⟨hb8, hm⟩
         ·refine re G (hO 3 (.b true) (hP hb4 (hO 8 (.b true) (hP hb5 (hC 11 (s_l2Name_c h4) (hO 13 (.b true) (hP hb6 (hC 16 (s_l4Time_c h5) (hO 18 (.b true) (hP hb7 (hC 21 (s_l4Time_c h6) (hO 23 (.b true) (hP hb8 h0))))))))))))) ?_
          exact wJ G hm
         ·refine re G (hO 3 (.b true) (hP hb4 (hO 8 (.b true) (hP hb5 (hC 11 (s_l2Name_c h4) (hO 13 (.b true) (hP hb6 (hC 16 (s_l4Time_c h5) (hO 18 (.b true) (hP hb7 (hC 21 (s_l4Time_c h6) (hO 23 (.b false) (hP hb8 h0))))))))))))) ?_
          exact wJ G hm
        ·refine re G (hO 3 (.b true) (hP hb4 (hO 8 (.b true) (hP hb5 (hC 11 (s_l2Name_c h4) (hO 13 (.b true) (hP hb6 (hC 16 (s_l4Time_c h5) (hO 18 (.b false) (hP hb7 h0)))))))))) ?_
         exact wJ G hm
       ·refine re G (hO 3 (.b true) (hP hb4 (hO 8 (.b true) (hP hb5 (hC 11 (s_l2Name_c h4) (hO 13 (.b false) (hP hb6 h0))))))) ?_
        exact wJ G hm
      ·refine re G (hO 3 (.b true) (hP hb4 (hO 8 (.b false) (hP hb5 h0)))) ?_
       exact wJ G hm
     ·refine re G (hO 3 (.b false) (hP hb4 h0)) ?_
      exact wJ G hm
    rintro x2 hm
    cases hm
    exact rt [] []
   ·refine rg G (cd hm (fun hm => ?_) (fun hm => ?_))
    ·refine jn hm (fun x3 => ⟨[(2, dV x3)], [], 32⟩) (fun x3 hm => ?_) ?_
     ·rcases bf hm with ⟨hb9, hm⟩ | ⟨hb9, hm⟩
      ·obtain ⟨r7, h7, hm⟩ := obind hm
       rcases bf hm with ⟨hb10, hm⟩ | ⟨hb10, hm⟩
       ·obtain ⟨r8, h8, hm⟩ := obind hm
        rcases bf hm with ⟨hb11, hm⟩ | ⟨hb11, hm⟩
        ·obtain ⟨r9, h9, hm⟩ := obind hm
         rcases bf hm with ⟨hb12, hm⟩ | ⟨hb12, hm⟩
         ·obtain ⟨r10, h10, hm⟩ := obind hm
          rcases bf hm with ⟨hb13, hm⟩ | ⟨hb13, hm⟩
          ·refine re G (hO 3 (.b true) (hP hb9 (hC 6 (s_l2Name_c h7) (hO 8 (.b true) (hP hb10 (hC 11 (s_l2Name_c h8) (hO 13 (.b true) (hP hb11 (hC 16 (s_l4Time_c h9) (hO 18 (.b true) (hP hb12 (hC 21 (s_l4Time_c h10) (hO 23 (.b true) (hP hb13 h0)))))))))))))) ?_
           exact wJ G hm
          ·refine re G (hO 3 (.b true) (hP hb9 (hC 6 (s_l2Name_c h7) (hO 8 (.b true) (hP hb10 (hC 11 (s_l2Name_c h8) (hO 13 (.b true) (hP hb11 (hC 16 (s_l4Time_c h9) (hO 18 (.b true) (hP hb12 (hC 21 (s_l4Time_c h10) (hO 23 (.b false) (hP hb13 h0)))))))))))))) ?_
           exact wJ G hm
         ·refine re G (hO 3 (.b true) (hP hb9 (hC 6 (s_l2Name_c h7) (hO 8 (.b true) (hP hb10 (hC 11 (s_l2Name_c h8) (hO 13 (.b true) (hP hb11 (hC 16 (s_l4Time_c h9) (hO 18 (.b false) (hP hb12 h0))))))))))) ?_
          exact wJ G hm
        ·refine re G (hO 3 (.b true) (hP hb9 (hC 6 (s_l2Name_c h7) (hO 8 (.b true) (hP hb10 (hC 11 (s_l2Name_c h8) (hO 13 (.b false) (hP hb11 h0)))))))) ?_
         exact wJ G hm
       ·refine re G (hO 3 (.b true) (hP hb9 (hC 6 (s_l2Name_c h7) (hO 8 (.b false) (hP hb10 h0))))) ?_
        exact wJ G hm
      ·refine re G (hO 3 (.b false) (hP hb9 h0)) ?_
       exact wJ G hm
     rintro x3 hm
     cases hm
     exact rt [] []
    ·refine X_skip (ibN (thN (rg G ?_)))
     cases hm
     exact rt [] []
noncomputable def s_l24Notice_M : MS ((List Message)) Bool := ⟨.r, s_l24Notice, fun y => dV y, fun _ => [], fun _ _ => []⟩
theorem s_l24Notice_c {list y} (hm : s_l24Notice list = some y) : s_l24Notice_M.C list y := s_l24Notice_M.c list hm
theorem s_l24Notice_ok : FnOK Try.prog tJ 41 s_l24Notice_M.S := by
 refine fm tt s_l24Notice_M [fo s_l24Good_ok] Try.call41 Try.func41 rfl Try.results41 Try.ntmps41 ?_
 rintro list y cx G hm
 have hm : s_l24Notice list = some y := hm
 unfold s_l24Notice at hm
 refine rg G (Ok_seq (rg G (tF hm (fun _ => ⟨[(0, dV list)], [], 32⟩) (fun v1 hr hm => ?_) ?_)))
 ·refine Ok_block (lp G hm (fun v => ⟨[(0, dV list), (3, dV v)], [], 32⟩) ?_)
  rintro v r0 hb hm
  rw [s_l24Notice_L1] at hm
  refine Ok_seq (rs G (hN 2 list h0) ?_)
  refine cd hm (fun hm => ?_) (fun hm => ?_)
  ·refine X_skip (thN (Ok_seq (Ok_block ?_)))
   obtain ⟨e, h, hm⟩ := obind hm
   obtain ⟨r, h1, hm⟩ := obind hm
   refine rs G (hD 2 h (hC 4 (s_l24Good_c h1) h0)) ?_
   refine cd hm (fun hm => ?_) (fun hm => ?_)
   ·refine rg G ?_
    have hm := eL hm hb hr
    cases hm
    exact rt [] []
   ·exact X_skip (ibN (thN (rh G (wL G hm))))
  ·exact Ok_exit (thE (thE (ibE (wE G hm hb))))
 rintro ⟨⟩ hm s hw
 refine thN (Ok_weak hw ?_)
 refine rs G (hN 1 list h0) ?_
 cases hm
 exact rt [] []
noncomputable def s_MergeNotices_M : MS ((List Message) × (List Message)) ((List Message) × Bool) := ⟨.x .r .r, fun x => s_MergeNotices x.1 x.2, fun y => .tup [.own 0, dV y.2], fun y => [arO 76 y.1], fun _ _ => []⟩
theorem s_MergeNotices_c {a b y} (hm : s_MergeNotices a b = some y) : s_MergeNotices_M.C (a, b) y := s_MergeNotices_M.c (a, b) hm
theorem s_MergeNotices_ok : FnOK Try.prog tJ 8 s_MergeNotices_M.S := by
 refine fm tt s_MergeNotices_M [fo s_l24Notice_ok] Try.call8 Try.func8 rfl Try.results8 Try.ntmps8 ?_
 rintro ⟨a, b⟩ y cx G hm
 have hm : s_MergeNotices a b = some y := hm
 unfold s_MergeNotices at hm
 refine rg G (Ok_seq ?_)
 obtain ⟨r, h, hm⟩ := obind hm
 refine jn hm (fun v => ⟨[(0, dV a), (1, dV b), (18, dV v)], [], 32⟩) (fun v hm => ?_) ?_
 ·rcases bf hm with ⟨hb, hm⟩ | ⟨hb, hm⟩
  ·refine re G (hC 1 (s_l24Notice_c h) (hO 3 (.b true) (hP hb h0))) ?_
   exact wJ G hm
  ·obtain ⟨r1, h1, hm⟩ := obind hm
   refine re G (hC 1 (s_l24Notice_c h) (hO 3 (.b false) (hP hb (hC 5 (s_l24Notice_c h1) h0)))) ?_
   exact wJ G hm
 rintro v hm
 refine cd hm (fun hm => ?_) (fun hm => ?_)
 ·refine rg G ?_
  cases hm
  exact rt [32] []
 ·refine X_skip (thN ?_)
  obtain ⟨u, h2, hm⟩ := obind hm
  obtain ⟨u1, h3, hm⟩ := obind hm
  refine rs G (hA 2 64 h2 (hA 4 64 h3 h0)) ?_
  refine rg G (Ok_seq (rg G (tl hm (fun keep2 => ⟨[(7, .own 16)], [aX 16 76 keep2], 48⟩) (fun keep2 hm => ?_) ?_)))
  ·refine Ok_block (lp G hm (fun (k, keep) => ⟨[(6, .own 16), (7, .own 32), (8, dV k)], [aX 16 76 ((([] : List Message) ++ a) ++ b), aX 32 76 keep], 64⟩) ?_)
   rintro ⟨k, keep⟩ r0 hb1 hm
   rw [s_MergeNotices_L2] at hm
   refine Ok_seq (rs G (hN 2 ((([] : List Message) ++ a) ++ b) h0) ?_)
   refine cd hm (fun hm => ?_) (fun hm => ?_)
   ·refine X_skip (thN (jn hm (fun keep1 => ⟨[(6, .own 16), (7, .own 32), (8, dV k)], [aX 16 76 ((([] : List Message) ++ a) ++ b), aX 32 76 keep1], 64⟩) (fun keep1 hm => ?_) ?_))
    ·refine Ok_block (rg G (Ok_seq (rg G (tl hm (fun v4 => ⟨[(6, .own 16), (7, .own 32), (8, dV k), (9, dV v4)], [aX 16 76 ((([] : List Message) ++ a) ++ b), aX 32 76 keep], 64⟩) (fun v4 hm => ?_) ?_))))
     ·refine Ok_block (lp G hm (fun (v1, v2) => ⟨[(6, .own 16), (7, .own 32), (8, dV k), (9, dV v1), (10, dV v2)], [aX 16 76 ((([] : List Message) ++ a) ++ b), aX 32 76 keep], 64⟩) ?_)
      rintro ⟨v1, v2⟩ r0 hb2 hm
      rw [s_MergeNotices_L1] at hm
      refine Ok_seq (rs G (hN 2 ((([] : List Message) ++ a) ++ b) h0) ?_)
      refine cd hm (fun hm => ?_) (fun hm => ?_)
      ·refine X_skip (thN (jn hm (fun v3 => ⟨[(6, .own 16), (7, .own 32), (8, dV k), (9, dV v3), (10, dV v2)], [aX 16 76 ((([] : List Message) ++ a) ++ b), aX 32 76 keep], 64⟩) (fun v3 hm => ?_) ?_))
       ·refine Ok_block ?_
        obtain ⟨e, h4, hm⟩ := obind hm
        refine rs G (hD 2 h4 (hE 4 h4 h0)) ?_
        refine cd hm (fun hm => ?_) (fun hm => ?_)
        ·rcases bf hm with ⟨hb3, hm⟩ | ⟨hb3, hm⟩
         ·rcases bf hm with ⟨hb4, hm⟩ | ⟨hb4, hm⟩
          ·obtain ⟨e4, h8, hm⟩ := obind hm
           rcases bf hm with ⟨hb5, hm⟩ | ⟨hb5, hm⟩
           ·obtain ⟨e5, h9, hm⟩ := obind hm
            obtain ⟨e6, h10, hm⟩ := obind hm
            refine de G [] (hO 1 (.b true) (hP hb3 (hO 5 (.b true) (hP hb4 (hD 8 h8 (hE 10 h8 (hO 13 (.b true) (hP hb5 (hD 16 h9 (hE 18 h9 (hD 21 h10 (hE 23 h10 h0)))))))))))) ?_
            exact ibN (wJ G hm)
           ·refine de G [] (hO 1 (.b true) (hP hb3 (hO 5 (.b true) (hP hb4 (hD 8 h8 (hE 10 h8 (hO 13 (.b false) (hP hb5 h0)))))))) ?_
            exact ibN (wJ G hm)
          ·refine de G [] (hO 1 (.b true) (hP hb3 (hO 5 (.b false) (hP hb4 h0)))) ?_
           exact ibN (wJ G hm)
         ·refine de G [] (hO 1 (.b false) (hP hb3 h0)) ?_
          exact ibN (wJ G hm)
        ·rcases bf hm with ⟨hb6, hm⟩ | ⟨hb6, hm⟩
         ·rcases bf hm with ⟨hb7, hm⟩ | ⟨hb7, hm⟩
          ·obtain ⟨e9, h13, hm⟩ := obind hm
           obtain ⟨e10, h14, hm⟩ := obind hm
           refine de G [] (hO 1 (.b true) (hP hb6 (hO 5 (.b true) (hP hb7 (hD 8 h13 (hE 9 h13 (hD 12 h14 (hE 13 h14 h0)))))))) ?_
           exact ibN (wJ G hm)
          ·refine de G [] (hO 1 (.b true) (hP hb6 (hO 5 (.b false) (hP hb7 h0)))) ?_
           exact ibN (wJ G hm)
         ·refine de G [] (hO 1 (.b false) (hP hb6 h0)) ?_
          exact ibN (wJ G hm)
       rintro v3 hm
       exact rh G (wL G hm)
      ·exact Ok_exit (thE (thE (ibE (wD G hm hb2))))
     rintro v4 hm s hw
     refine thN (Ok_weak hw ?_)
     refine rg G (cd hm (fun hm => ?_) (fun hm => ?_))
     ·obtain ⟨e11, h15, hm⟩ := obind hm
      obtain ⟨u2, h16, hm⟩ := obind hm
      refine re G (hD 3 h15 (hE 4 h15 (hA 6 64 h16 h0))) ?_
      exact ibN (wJ G hm)
     ·exact X_skip (ibN (wJ G hm))
    rintro keep1 hm
    exact rh G (wL G hm)
   ·exact Ok_exit (thE (thE (ibE (wD G hm hb1))))
  rintro keep2 hm s1 hw1
  refine thN (Ok_weak hw1 ?_)
  refine Ok_seq ?_
  obtain ⟨r2, h17, hm⟩ := obind hm
  refine rs G (hC 1 (s_l24Notice_c h17) h0) ?_
  refine cd hm (fun hm => ?_) (fun hm => ?_)
  ·refine rg G ?_
   cases hm
   exact rt [96] []
  ·refine X_skip (thN (rg G ?_))
   cases hm
   exact rt [16] []
noncomputable def v_rMessages_M : MS ((List Message) × (List Message)) Bool := ⟨.x .r .r, fun x => v_rMessages x.1 x.2, fun y => dV y, fun _ => [], fun _ _ => []⟩
theorem v_rMessages_c {a b y} (hm : v_rMessages a b = some y) : v_rMessages_M.C (a, b) y := v_rMessages_M.c (a, b) hm
theorem v_rMessages_ok : FnOK Try.prog tJ 9 v_rMessages_M.S := by
 refine fm tt v_rMessages_M [] Try.call9 Try.func9 rfl Try.results9 Try.ntmps9 ?_
 rintro ⟨a, b⟩ y cx G hm
 have hm : v_rMessages a b = some y := hm
 unfold v_rMessages at hm
 refine rg G (Ok_seq (rs G (hN 1 a (hN 3 b h0)) ?_))
 refine cd hm (fun hm => ?_) (fun hm => ?_)
 ·refine rg G ?_
  cases hm
  exact rt [] []
 ·refine X_skip (thN (Ok_seq (rg G (tF hm (fun _ => ⟨[], [], 32⟩) (fun v1 hr hm => ?_) ?_))))
  ·refine Ok_block (lp G hm (fun v => ⟨[(0, dV a), (1, dV b), (5, dV v)], [], 32⟩) ?_)
   rintro v r0 hb hm
   rw [v_rMessages_L1] at hm
   refine Ok_seq (rs G (hN 2 a h0) ?_)
   refine cd hm (fun hm => ?_) (fun hm => ?_)
   ·refine X_skip (thN (Ok_seq (Ok_block ?_)))
    obtain ⟨e2, h2, hm⟩ := obind hm
    obtain ⟨e3, h3, hm⟩ := obind hm
    refine ds G [] (hD 2 h2 (hD 6 h3 h0)) ?_
    refine cd hm (fun hm => ?_) (fun hm => ?_)
    ·refine rg G ?_
     have hm := eL hm hb hr
     cases hm
     exact rt [] []
    ·exact X_skip (ibN (thN (rh G (wL G hm))))
   ·exact Ok_exit (thE (thE (ibE (wE G hm hb))))
  rintro ⟨⟩ hm s hw
  refine thN (Ok_weak hw ?_)
  refine rg G ?_
  cases hm
  exact rt [] []
noncomputable def s_DrawActiveMessages_M : MS ((List UInt8)) ((List Message) × Int) := ⟨.r, s_DrawActiveMessages, fun y => .tup [.own 0, dV y.2], fun y => [arO 76 y.1], fun _ _ => []⟩
theorem s_DrawActiveMessages_c {code y} (hm : s_DrawActiveMessages code = some y) : s_DrawActiveMessages_M.C code y := s_DrawActiveMessages_M.c code hm
theorem s_DrawActiveMessages_ok : FnOK Try.prog tJ 10 s_DrawActiveMessages_M.S := by
 refine fm tt s_DrawActiveMessages_M [fo s_l1Cur_notice_ok, fo s_l1Cur_among_ok] Try.call10 Try.func10 rfl Try.results10 Try.ntmps10 ?_
 rintro code y cx G hm
 have hm : s_DrawActiveMessages code = some y := hm
 unfold s_DrawActiveMessages at hm
 refine rg G (rg G ?_)
 obtain ⟨r, h, hm⟩ := obind hm
 refine rs G (hC 1 (s_l1Cur_notice_c h) h0) ?_
 obtain ⟨r1, h1, hm⟩ := obind hm
 refine rs G (hO 3 (.fz [192] [] []) (hC 3 (s_l1Cur_among_c h1) h0)) ?_
 cases hm
 exact rt [128] []
noncomputable def i_ActiveMessages_M : MS ((List Message) × Int) ((List Int) × Bool) := ⟨.x .r .r, fun x => i_ActiveMessages x.1 x.2, fun y => .tup [dV y.1, dV y.2], fun _ => [], fun _ _ => []⟩
theorem i_ActiveMessages_c {list now y} (hm : i_ActiveMessages list now = some y) : i_ActiveMessages_M.C (list, now) y := i_ActiveMessages_M.c (list, now) hm
theorem i_ActiveMessages_ok : FnOK Try.prog tJ 11 i_ActiveMessages_M.S := by
 refine fm tt i_ActiveMessages_M [fo i_isNotice_ok, fo i_IsValidTime_ok, fo i_within_ok] Try.call11 Try.func11 rfl Try.results11 Try.ntmps11 ?_
 rintro ⟨list, now⟩ y cx G hm
 have hm : i_ActiveMessages list now = some y := hm
 unfold i_ActiveMessages at hm
 refine rg G (Ok_seq ?_)
 obtain ⟨r, h, hm⟩ := obind hm
 refine jn hm (fun v => ⟨[(0, dV list), (1, dV now), (17, dV v)], [], 32⟩) (fun v hm => ?_) ?_
 ·rcases bf hm with ⟨hb, hm⟩ | ⟨hb, hm⟩
  ·refine re G (hC 1 (i_isNotice_c h) (hO 3 (.b true) (hP hb h0))) ?_
   exact wJ G hm
  ·obtain ⟨r1, h1, hm⟩ := obind hm
   refine re G (hC 1 (i_isNotice_c h) (hO 3 (.b false) (hP hb (hC 5 (i_IsValidTime_c h1) h0)))) ?_
   exact wJ G hm
 rintro v hm
 refine cd hm (fun hm => ?_) (fun hm => ?_)
 ·refine rg G ?_
  cases hm
  exact rt [] [[.z 1]]
 ·refine X_skip (thN (rg G (Ok_seq (rs G (hN 1 list h0) ?_))))
  refine tl hm (fun m2 => ⟨[(6, .own 16)], [aX 16 3 m2], 48⟩) (fun m2 hm => ?_) ?_
  ·refine Ok_block (lpP hm (fun (v1, m) => ⟨[(1, dV now), (6, .own 16), (18, dV list), (19, dV (list.length : Int)), (20, dV v1)], [aX 16 3 m], 48⟩) (Wk_J G.hL ⟨[(1, []), (6, [.o 16]), (18, []), (19, []), (20, [])], [], [(16, 3, 1, [])], 48⟩ (by kernel_rfl)) ?_)
   rintro ⟨v1, m⟩ r0 hb1 hm
   rw [i_ActiveMessages_L1] at hm
   refine rg G (Ok_seq (cd hm (fun hm => ?_) (fun hm => ?_)))
   ·refine X_skip (thN (jn hm (fun m1 => ⟨[(1, dV now), (6, .own 16), (18, dV list), (19, dV (list.length : Int)), (20, dV v1)], [aX 16 3 m1], 48⟩) (fun m1 hm => ?_) ?_))
    ·refine Ok_block ?_
     obtain ⟨e, h2, hm⟩ := obind hm
     refine rs G (hD 1 h2 h0) ?_
     refine rg G (jn hm (fun v2 => ⟨[(1, dV now), (6, .own 16), (7, dV v1), (9, dV v2), (18, dV list), (19, dV (list.length : Int)), (20, dV v1)], [aX 16 3 m], 48⟩) (fun v2 hm => ?_) ?_)
     ·refine rg G (Ok_block (jn hm (fun v3 => ⟨[(1, dV now), (6, .own 16), (7, dV v1), (8, .ref 32 0), (9, dV true), (18, dV list), (19, dV (list.length : Int)), (20, dV v1), (26, dV e.Kind), (27, dV v3)], [aX 16 3 m, bX 32 76 [dV e.Kind, dV e.Line, dV e.Stop, dV e.From, dV e.To, dV e.Minutes]], 64⟩) (fun v3 hm => ?_) ?_))
      ·refine rg G (cd hm (fun hm => ?_) (fun hm => ?_))
       ·exact X_skip (wJ G hm)
       ·exact rh G (wJ G hm)
      rintro v3 hm
      refine cd hm (fun hm => ?_) (fun hm => ?_)
      ·exact rh G (ibN (wJ G hm))
      ·refine jn hm (fun v4 => ⟨[(1, dV now), (6, .own 16), (7, dV v1), (8, .ref 32 0), (9, dV true), (18, dV list), (19, dV (list.length : Int)), (20, dV v1), (34, dV v4)], [aX 16 3 m, bX 32 76 [dV e.Kind, dV e.Line, dV e.Stop, dV e.From, dV e.To, dV e.Minutes]], 64⟩) (fun v4 hm => ?_) ?_
       ·refine rg G (cd hm (fun hm => ?_) (fun hm => ?_))
        ·exact X_skip (wJ G hm)
        ·exact rh G (wJ G hm)
       rintro v4 hm
       refine cd hm (fun hm => ?_) (fun hm => ?_)
       ·obtain ⟨r2, h3, hm⟩ := obind hm
        refine re G (hC 5 (i_within_c h3) h0) ?_
        exact ibN (wJ G hm)
       ·exact X_skip (ibN (wJ G hm))
     rintro v2 hm
     refine rg G (cd hm (fun hm => ?_) (fun hm => ?_))
     ·obtain ⟨u, h4, hm⟩ := obind hm
      refine re G (hA 3 8 h4 h0) ?_
      exact ibN (wJ G hm)
     ·exact X_skip (ibN (wJ G hm))
    rintro m1 hm
    exact rh G (wL G hm)
   ·exact Ok_exit (thE (thE (ibE (wD G hm hb1))))
  rintro m2 hm s hw
  refine thN (Ok_weak hw ?_)
  refine rg G ?_
  cases hm
  exact rt [] []
noncomputable def s_ActiveMessages_M : MS ((List Message) × Int) ((List Int) × Bool) := ⟨.x .r .r, fun x => s_ActiveMessages x.1 x.2, fun y => .tup [.own 0, dV y.2], fun y => [arO 3 y.1], fun _ _ => []⟩
theorem s_ActiveMessages_c {list now y} (hm : s_ActiveMessages list now = some y) : s_ActiveMessages_M.C (list, now) y := s_ActiveMessages_M.c (list, now) hm
theorem s_ActiveMessages_ok : FnOK Try.prog tJ 12 s_ActiveMessages_M.S := by
 refine fm tt s_ActiveMessages_M [fo s_l24Notice_ok, fo s_l4Time_ok, fo s_l1In_ok] Try.call12 Try.func12 rfl Try.results12 Try.ntmps12 ?_
 rintro ⟨list, now⟩ y cx G hm
 have hm : s_ActiveMessages list now = some y := hm
 unfold s_ActiveMessages at hm
 refine rg G (rg G (Ok_seq ?_))
 obtain ⟨r, h, hm⟩ := obind hm
 refine jn hm (fun v => ⟨[(0, dV list), (1, dV now), (6, .own 16), (18, dV v)], [aX 16 3 ([] : List Int)], 48⟩) (fun v hm => ?_) ?_
 ·rcases bf hm with ⟨hb, hm⟩ | ⟨hb, hm⟩
  ·refine re G (hC 1 (s_l24Notice_c h) (hO 3 (.b true) (hP hb h0))) ?_
   exact wJ G hm
  ·obtain ⟨r1, h1, hm⟩ := obind hm
   refine re G (hC 1 (s_l24Notice_c h) (hO 3 (.b false) (hP hb (hC 5 (s_l4Time_c h1) h0)))) ?_
   exact wJ G hm
 rintro v hm
 refine cd hm (fun hm => ?_) (fun hm => ?_)
 ·refine rg G ?_
  cases hm
  exact rt [16] []
 ·refine X_skip (thN (Ok_seq (rg G (tl hm (fun m2 => ⟨[(6, .own 16)], [aX 16 3 m2], 48⟩) (fun m2 hm => ?_) ?_))))
  ·refine Ok_block (lp G hm (fun (active, m) => ⟨[(0, dV list), (1, dV now), (6, .own 16), (7, dV active)], [aX 16 3 m], 48⟩) ?_)
   rintro ⟨active, m⟩ r0 hb1 hm
   rw [s_ActiveMessages_L1] at hm
   refine Ok_seq (rs G (hN 2 list h0) ?_)
   refine cd hm (fun hm => ?_) (fun hm => ?_)
   ·refine X_skip (thN (jn hm (fun m1 => ⟨[(0, dV list), (1, dV now), (6, .own 16), (7, dV active)], [aX 16 3 m1], 48⟩) (fun m1 hm => ?_) ?_))
    ·refine Ok_block ?_
     obtain ⟨e, h2, hm⟩ := obind hm
     refine rs G (hD 2 h2 h0) ?_
     refine rg G (jn hm (fun v1 => ⟨[(0, dV list), (1, dV now), (6, .own 16), (7, dV active), (9, dV v1)], [aX 16 3 m], 48⟩) (fun v1 hm => ?_) ?_)
     ·refine rg G (Ok_block (jn hm (fun v2 => ⟨[(0, dV list), (1, dV now), (6, .own 16), (7, dV active), (8, .ref 32 0), (9, dV true), (31, dV e.Kind), (32, dV v2)], [aX 16 3 m, bX 32 76 [dV e.Kind, dV e.Line, dV e.Stop, dV e.From, dV e.To, dV e.Minutes]], 64⟩) (fun v2 hm => ?_) ?_))
      ·refine rg G (cd hm (fun hm => ?_) (fun hm => ?_))
       ·exact X_skip (wJ G hm)
       ·exact rh G (wJ G hm)
      rintro v2 hm
      refine cd hm (fun hm => ?_) (fun hm => ?_)
      ·exact rh G (ibN (wJ G hm))
      ·refine jn hm (fun v3 => ⟨[(0, dV list), (1, dV now), (6, .own 16), (7, dV active), (8, .ref 32 0), (9, dV true), (39, dV v3)], [aX 16 3 m, bX 32 76 [dV e.Kind, dV e.Line, dV e.Stop, dV e.From, dV e.To, dV e.Minutes]], 64⟩) (fun v3 hm => ?_) ?_
       ·refine rg G (cd hm (fun hm => ?_) (fun hm => ?_))
        ·exact X_skip (wJ G hm)
        ·exact rh G (wJ G hm)
       rintro v3 hm
       refine cd hm (fun hm => ?_) (fun hm => ?_)
       ·obtain ⟨r2, h3, hm⟩ := obind hm
        refine re G (hC 5 (s_l1In_c h3) h0) ?_
        exact ibN (wJ G hm)
       ·exact X_skip (ibN (wJ G hm))
     rintro v1 hm
     refine rg G (cd hm (fun hm => ?_) (fun hm => ?_))
     ·obtain ⟨u, h4, hm⟩ := obind hm
      refine re G (hA 3 8 h4 h0) ?_
      exact ibN (wJ G hm)
     ·exact X_skip (ibN (wJ G hm))
    rintro m1 hm
    exact rh G (wL G hm)
   ·exact Ok_exit (thE (thE (ibE (wD G hm hb1))))
  rintro m2 hm s hw
  refine thN (Ok_weak hw ?_)
  refine rg G ?_
  cases hm
  exact rt [16] []
noncomputable def v_rInts_M : MS ((List Int) × (List Int)) Bool := ⟨.x .r .r, fun x => v_rInts x.1 x.2, fun y => dV y, fun _ => [], fun _ _ => []⟩
theorem v_rInts_c {a b y} (hm : v_rInts a b = some y) : v_rInts_M.C (a, b) y := v_rInts_M.c (a, b) hm
theorem v_rInts_ok : FnOK Try.prog tJ 13 v_rInts_M.S := by
 refine fm tt v_rInts_M [] Try.call13 Try.func13 rfl Try.results13 Try.ntmps13 ?_
 rintro ⟨a, b⟩ y cx G hm
 have hm : v_rInts a b = some y := hm
 unfold v_rInts at hm
 refine rg G (Ok_seq (rs G (hN 1 a (hN 3 b h0)) ?_))
 refine cd hm (fun hm => ?_) (fun hm => ?_)
 ·refine rg G ?_
  cases hm
  exact rt [] []
 ·refine X_skip (thN (Ok_seq (rg G (tF hm (fun _ => ⟨[], [], 32⟩) (fun v1 hr hm => ?_) ?_))))
  ·refine Ok_block (lp G hm (fun v => ⟨[(0, dV a), (1, dV b), (5, dV v)], [], 32⟩) ?_)
   rintro v r0 hb hm
   rw [v_rInts_L1] at hm
   refine Ok_seq (rs G (hN 2 a h0) ?_)
   refine cd hm (fun hm => ?_) (fun hm => ?_)
   ·refine X_skip (thN (Ok_seq (Ok_block ?_)))
    obtain ⟨e2, h2, hm⟩ := obind hm
    obtain ⟨e3, h3, hm⟩ := obind hm
    refine ds G [] (hD 2 h2 (hD 6 h3 h0)) ?_
    refine cd hm (fun hm => ?_) (fun hm => ?_)
    ·refine rg G ?_
     have hm := eL hm hb hr
     cases hm
     exact rt [] []
    ·exact X_skip (ibN (thN (rh G (wL G hm))))
   ·exact Ok_exit (thE (thE (ibE (wE G hm hb))))
  rintro ⟨⟩ hm s hw
  refine thN (Ok_weak hw ?_)
  refine rg G ?_
  cases hm
  exact rt [] []
noncomputable def s_DrawMessagesFor_M : MS ((List UInt8)) ((List Message) × ByteArray × ByteArray) := ⟨.r, s_DrawMessagesFor, fun y => .tup [.own 0, dV y.2.1, dV y.2.2], fun y => [arO 76 y.1], fun _ _ => []⟩
theorem s_DrawMessagesFor_c {code y} (hm : s_DrawMessagesFor code = some y) : s_DrawMessagesFor_M.C code y := s_DrawMessagesFor_M.c code hm
theorem s_DrawMessagesFor_ok : FnOK Try.prog tJ 14 s_DrawMessagesFor_M.S := by
 refine fm tt s_DrawMessagesFor_M [fo s_l1Cur_notice_ok, fo s_l1Cur_of_ok] Try.call14 Try.func14 rfl Try.results14 Try.ntmps14 ?_
 rintro code y cx G hm
 have hm : s_DrawMessagesFor code = some y := hm
 unfold s_DrawMessagesFor at hm
 refine rg G (rg G ?_)
 obtain ⟨r, h, hm⟩ := obind hm
 refine rs G (hC 1 (s_l1Cur_notice_c h) h0) ?_
 obtain ⟨r1, h1, hm⟩ := obind hm
 obtain ⟨r2, h2, hm⟩ := obind hm
 refine rs G (hO 3 (.fz [208] [] []) (hC 3 (s_l1Cur_of_c h1) (hO 6 (.fz [256] [] []) (hC 6 (s_l1Cur_of_c h2) h0)))) ?_
 cases hm
 exact rt [144] []
noncomputable def i_MessagesFor_M : MS ((List Message) × ByteArray × ByteArray) ((List Int) × Bool) := ⟨.x .r (.x .r .r), fun x => i_MessagesFor x.1 x.2.1 x.2.2, fun y => .tup [dV y.1, dV y.2], fun _ => [], fun _ _ => []⟩
theorem i_MessagesFor_c {list line stop y} (hm : i_MessagesFor list line stop = some y) : i_MessagesFor_M.C (list, line, stop) y := i_MessagesFor_M.c (list, line, stop) hm
theorem i_MessagesFor_ok : FnOK Try.prog tJ 15 i_MessagesFor_M.S := by
 refine fm tt i_MessagesFor_M [fo i_isNotice_ok, fo i_isName_ok] Try.call15 Try.func15 rfl Try.results15 Try.ntmps15 ?_
 rintro ⟨list, line, stop⟩ y cx G hm
 have hm : i_MessagesFor list line stop = some y := hm
 unfold i_MessagesFor at hm
 refine rg G (Ok_seq ?_)
 obtain ⟨r, h, hm⟩ := obind hm
 refine jn hm (fun v => ⟨[(0, dV list), (1, dV line), (2, dV stop), (23, dV v)], [], 32⟩) (fun v hm => ?_) ?_
 ·rcases bf hm with ⟨hb, hm⟩ | ⟨hb, hm⟩
  ·refine re G (hC 1 (i_isNotice_c h) (hO 3 (.b true) (hP hb h0))) ?_
   exact wJ G hm
  ·obtain ⟨r1, h1, hm⟩ := obind hm
   rcases bf hm with ⟨hb1, hm⟩ | ⟨hb1, hm⟩
   ·refine re G (hC 1 (i_isNotice_c h) (hO 3 (.b false) (hP hb (hC 5 (i_isName_c h1) (hO 8 (.b true) (hP hb1 h0)))))) ?_
    exact wJ G hm
   ·obtain ⟨r2, h2, hm⟩ := obind hm
    refine re G (hC 1 (i_isNotice_c h) (hO 3 (.b false) (hP hb (hC 5 (i_isName_c h1) (hO 8 (.b false) (hP hb1 (hC 10 (i_isName_c h2) h0))))))) ?_
    exact wJ G hm
 rintro v hm
 refine cd hm (fun hm => ?_) (fun hm => ?_)
 ·refine rg G ?_
  cases hm
  exact rt [] [[.z 1]]
 ·refine X_skip (thN (rg G (Ok_seq (rs G (hN 1 list h0) ?_))))
  refine tl hm (fun v5 => ⟨[(8, .own 16)], [aX 16 3 v5], 48⟩) (fun v5 hm => ?_) ?_
  ·refine Ok_block (lpP hm (fun (v1, v2) => ⟨[(1, dV line), (2, dV stop), (8, .own 16), (24, dV list), (25, dV (list.length : Int)), (26, dV v1)], [aX 16 3 v2], 48⟩) (Wk_J G.hL ⟨[(1, []), (2, []), (8, [.o 16]), (24, []), (25, []), (26, [])], [], [(16, 3, 1, [])], 48⟩ (by kernel_rfl)) ?_)
   rintro ⟨v1, v2⟩ r0 hb2 hm
   rw [i_MessagesFor_L1] at hm
   refine rg G (Ok_seq (cd hm (fun hm => ?_) (fun hm => ?_)))
   ·refine X_skip (thN (jn hm (fun v3 => ⟨[(1, dV line), (2, dV stop), (8, .own 16), (24, dV list), (25, dV (list.length : Int)), (26, dV v1)], [aX 16 3 v3], 48⟩) (fun v3 hm => ?_) ?_))
    ·refine Ok_block ?_
     obtain ⟨e, h3, hm⟩ := obind hm
     refine rs G (hD 1 h3 h0) ?_
     refine jn hm (fun v4 => ⟨[(1, dV line), (2, dV stop), (8, .own 16), (9, dV v1), (24, dV list), (25, dV (list.length : Int)), (26, dV v1), (40, dV v4)], [aX 16 3 v2], 48⟩) (fun v4 hm => ?_) ?_
     ·rcases bf hm with ⟨hb3, hm⟩ | ⟨hb3, hm⟩
      ·refine re G (hO 4 (.b true) (hP hb3 h0)) ?_
       exact wJ G hm
      ·refine re G (hO 4 (.b false) (hP hb3 h0)) ?_
       exact wJ G hm
     rintro v4 hm
     refine cd hm (fun hm => ?_) (fun hm => ?_)
     ·obtain ⟨u, h4, hm⟩ := obind hm
      refine re G (hA 3 8 h4 h0) ?_
      exact ibN (wJ G hm)
     ·exact X_skip (ibN (wJ G hm))
    rintro v3 hm
    exact rh G (wL G hm)
   ·exact Ok_exit (thE (thE (ibE (wD G hm hb2))))
  rintro v5 hm s hw
  refine thN (Ok_weak hw ?_)
  refine rg G ?_
  cases hm
  exact rt [] []
noncomputable def s_MessagesFor_M : MS ((List Message) × ByteArray × ByteArray) ((List Int) × Bool) := ⟨.x .r (.x .r .r), fun x => s_MessagesFor x.1 x.2.1 x.2.2, fun y => .tup [.own 0, dV y.2], fun y => [arO 3 y.1], fun _ _ => []⟩
theorem s_MessagesFor_c {list line stop y} (hm : s_MessagesFor list line stop = some y) : s_MessagesFor_M.C (list, line, stop) y := s_MessagesFor_M.c (list, line, stop) hm
theorem s_MessagesFor_ok : FnOK Try.prog tJ 16 s_MessagesFor_M.S := by
 refine fm tt s_MessagesFor_M [fo s_l24Notice_ok, fo s_l2Name_ok] Try.call16 Try.func16 rfl Try.results16 Try.ntmps16 ?_
 rintro ⟨list, line, stop⟩ y cx G hm
 have hm : s_MessagesFor list line stop = some y := hm
 unfold s_MessagesFor at hm
 refine rg G (rg G (Ok_seq ?_))
 obtain ⟨r, h, hm⟩ := obind hm
 refine jn hm (fun v => ⟨[(0, dV list), (1, dV line), (2, dV stop), (8, .own 16), (23, dV v)], [aX 16 3 ([] : List Int)], 48⟩) (fun v hm => ?_) ?_
 ·rcases bf hm with ⟨hb, hm⟩ | ⟨hb, hm⟩
  ·refine re G (hC 1 (s_l24Notice_c h) (hO 3 (.b true) (hP hb h0))) ?_
   exact wJ G hm
  ·obtain ⟨r1, h1, hm⟩ := obind hm
   rcases bf hm with ⟨hb1, hm⟩ | ⟨hb1, hm⟩
   ·refine re G (hC 1 (s_l24Notice_c h) (hO 3 (.b false) (hP hb (hC 5 (s_l2Name_c h1) (hO 8 (.b true) (hP hb1 h0)))))) ?_
    exact wJ G hm
   ·obtain ⟨r2, h2, hm⟩ := obind hm
    refine re G (hC 1 (s_l24Notice_c h) (hO 3 (.b false) (hP hb (hC 5 (s_l2Name_c h1) (hO 8 (.b false) (hP hb1 (hC 10 (s_l2Name_c h2) h0))))))) ?_
    exact wJ G hm
 rintro v hm
 refine cd hm (fun hm => ?_) (fun hm => ?_)
 ·refine rg G ?_
  cases hm
  exact rt [16] []
 ·refine X_skip (thN (Ok_seq (rg G (tl hm (fun v5 => ⟨[(8, .own 16)], [aX 16 3 v5], 48⟩) (fun v5 hm => ?_) ?_))))
  ·refine Ok_block (lp G hm (fun (v1, v2) => ⟨[(0, dV list), (1, dV line), (2, dV stop), (8, .own 16), (9, dV v1)], [aX 16 3 v2], 48⟩) ?_)
   rintro ⟨v1, v2⟩ r0 hb2 hm
   rw [s_MessagesFor_L1] at hm
   refine Ok_seq (rs G (hN 2 list h0) ?_)
   refine cd hm (fun hm => ?_) (fun hm => ?_)
   ·refine X_skip (thN (jn hm (fun v3 => ⟨[(0, dV list), (1, dV line), (2, dV stop), (8, .own 16), (9, dV v1)], [aX 16 3 v3], 48⟩) (fun v3 hm => ?_) ?_))
    ·refine Ok_block ?_
     obtain ⟨e, h3, hm⟩ := obind hm
     refine jn hm (fun v4 => ⟨[(0, dV list), (1, dV line), (2, dV stop), (8, .own 16), (9, dV v1), (46, dV v4)], [aX 16 3 v2], 48⟩) (fun v4 hm => ?_) ?_
     ·rcases bf hm with ⟨hb3, hm⟩ | ⟨hb3, hm⟩
      ·refine re G (hD 2 h3 (hO 7 (.b true) (hP hb3 h0))) ?_
       exact wJ G hm
      ·obtain ⟨e1, h4, hm⟩ := obind hm
       refine re G (hD 2 h3 (hO 7 (.b false) (hP hb3 (hD 10 h4 h0)))) ?_
       exact wJ G hm
     rintro v4 hm
     refine cd hm (fun hm => ?_) (fun hm => ?_)
     ·obtain ⟨u, h5, hm⟩ := obind hm
      refine re G (hA 3 8 h5 h0) ?_
      exact ibN (wJ G hm)
     ·exact X_skip (ibN (wJ G hm))
    rintro v3 hm
    exact rh G (wL G hm)
   ·exact Ok_exit (thE (thE (ibE (wD G hm hb2))))
  rintro v5 hm s hw
  refine thN (Ok_weak hw ?_)
  refine rg G ?_
  cases hm
  exact rt [16] []
noncomputable def s_l1Num_MR (rec_ : Int → Option (ByteArray)) : MS Int ByteArray := ⟨.r, rec_, fun y => dV y, fun _ => [], fun _ _ => []⟩
noncomputable def s_l1Num_M : MS Int ByteArray := s_l1Num_MR s_l1Num
theorem s_l1Num_c {n y} (hm : s_l1Num n = some y) : s_l1Num_M.C n y := s_l1Num_M.c n hm
theorem s_l1Num_cR {rec_ : Int → Option (ByteArray)} {n y} (hm : rec_ n = some y) : (s_l1Num_MR rec_).C n y := (s_l1Num_MR rec_).c n hm
theorem s_l1Num_okF {rec_ : Int → Option (ByteArray)} (hrec : FnOK Try.prog tJ 104 (s_l1Num_MR rec_).S) : FnOK Try.prog tJ 104 (s_l1Num_MR (s_l1Num_F rec_)).S := by
 refine fm tt (s_l1Num_MR (s_l1Num_F rec_)) [fo hrec] Try.call104 Try.func104 rfl Try.results104 Try.ntmps104 ?_
 rintro n y cx G hm
 have hm : s_l1Num_F rec_ n = some y := hm
 unfold s_l1Num_F at hm
 refine rg G (Ok_seq (rg G (cd hm (fun hm => ?_) (fun hm => ?_))))
 ·obtain ⟨r, h, hm⟩ := obind hm
  obtain ⟨u, h1, hm⟩ := obind hm
  refine rs G (hC 2 (s_l1Num_cR h) (hP (cat_p (chk_t h1)) h0)) ?_
  cases hm
  exact rt [] []
 ·refine X_skip (thN (Ok_seq (rg G (cd hm (fun hm => ?_) (fun hm => ?_)))))
  ·obtain ⟨u1, h2, hm⟩ := obind hm
   refine rs G (hK h2 h0) ?_
   cases hm
   exact rt [] []
  ·refine X_skip (thN ?_)
   obtain ⟨u7, h9, hm⟩ := obind hm
   obtain ⟨r2, h10, hm⟩ := obind hm
   obtain ⟨u8, h11, hm⟩ := obind hm
   obtain ⟨u9, h12, hm⟩ := obind hm
   obtain ⟨u10, h13, hm⟩ := obind hm
   obtain ⟨u11, h14, hm⟩ := obind hm
   refine ds G [] (hK h9 (hC 2 (s_l1Num_cR h10) (hK h11 (hK h12 (hK h13 (hP (cat_p (chk_t h14)) h0)))))) ?_
   cases hm
   exact rt [] []
theorem s_l1Num_okn : ∀ k, FnOK Try.prog tJ 104 (s_l1Num_MR (s_l1Num_k k)).S
 | 0 => ⟨fun args w => Try.call104 args w, fun vs w F ds obs κ hp => by obtain ⟨x, y, _, _, h⟩ := hp; cases h⟩
 | k + 1 => s_l1Num_okF (s_l1Num_okn k)
theorem s_l1Num_ok : FnOK Try.prog tJ 104 s_l1Num_M.S := s_l1Num_okn 4294967296
noncomputable def s_l2Place_M : MS (Line × Int) Int := ⟨.x .r .r, fun x => s_l2Place x.1 x.2, fun y => dV y, fun _ => [], fun _ _ => []⟩
theorem s_l2Place_c {x stop y} (hm : s_l2Place x stop = some y) : s_l2Place_M.C (x, stop) y := s_l2Place_M.c (x, stop) hm
theorem s_l2Place_ok : FnOK Try.prog tJ 71 s_l2Place_M.S := by
 refine fm tt s_l2Place_M [] Try.call71 Try.func71 rfl Try.results71 Try.ntmps71 ?_
 rintro ⟨x, stop⟩ y cx G hm
 have hm : s_l2Place x stop = some y := hm
 unfold s_l2Place at hm
 refine rg G (Ok_seq (rg G (tF hm (fun _ => ⟨[], [], 32⟩) (fun v1 hr hm => ?_) ?_)))
 ·refine Ok_block (lp G hm (fun v => ⟨[(1, dV stop), (2, .ref 16 0), (5, dV v)], [bX 16 91 [dV x.Name, dV x.Stops, dV x.Runs]], 48⟩) ?_)
  rintro v r0 hb hm
  rw [s_l2Place_L1] at hm
  refine Ok_seq (rs G (hN 3 x.Stops h0) ?_)
  refine cd hm (fun hm => ?_) (fun hm => ?_)
  ·refine X_skip (thN (Ok_seq (Ok_block ?_)))
   obtain ⟨e, h, hm⟩ := obind hm
   refine rs G (hD 3 h h0) ?_
   refine cd hm (fun hm => ?_) (fun hm => ?_)
   ·refine rg G ?_
    have hm := eL hm hb hr
    cases hm
    exact rt [] []
   ·exact X_skip (ibN (thN (rh G (wL G hm))))
  ·exact Ok_exit (thE (thE (ibE (wE G hm hb))))
 rintro ⟨⟩ hm s hw
 refine thN (Ok_weak hw ?_)
 refine rg G ?_
 cases hm
 exact rt [] []
noncomputable def s_l1Cur_line_M : MS (l1Cur × ByteArray × Int) (Line × l1Cur) := ⟨.x (.b 72) (.x .r .r), fun x => s_l1Cur_line x.1 x.2.1 x.2.2, fun y => .aggv [dV y.1.Name, .own 0, .own 1], fun y => [arO 3 y.1.Stops, arO 3 y.1.Runs], fun _ y => [bxO 72 y.2]⟩
theorem s_l1Cur_line_c {c name stops y} (hm : s_l1Cur_line c name stops = some y) : s_l1Cur_line_M.C (c, name, stops) y := s_l1Cur_line_M.c (c, name, stops) hm
theorem s_l1Cur_line_ok : FnOK Try.prog tJ 103 s_l1Cur_line_M.S := by
 refine fm tt s_l1Cur_line_M [fo s_l1Cur_pick_ok, fo s_l2Place_ok] Try.call103 Try.func103 rfl Try.results103 Try.ntmps103 ?_
 rintro ⟨c, name, stops⟩ y cx G hm
 have hm : s_l1Cur_line c name stops = some y := hm
 unfold s_l1Cur_line at hm
 refine rg G (rg G ?_)
 obtain ⟨r, h, hm⟩ := obind hm
 refine rs G (hC 2 (s_l1Cur_pick_c h) h0) ?_
 refine Ok_seq ?_
 obtain ⟨r1, h1, hm⟩ := obind hm
 refine rs G (hC 1 (s_l1Cur_pick_c h1) h0) ?_
 refine tl hm (fun (v7, v8, v9, v10) => ⟨[(0, .ref 0 0), (2, dV stops), (6, .ref 32 0), (7, .ref 48 0)], [bX 0 72 [dV v7, dV v8, kV .u64 v9], bX 32 91 [dV ByteArray.empty, .dat (.sc (.slice none 0 0)), .dat (.sc (.slice none 0 0))], bX 48 91 [dV name, .own 64, .dat (.sc (.slice none 0 0))], aX 64 3 v10], 96⟩) (fun vv1 hm => ?_) ?_
 ·refine Ok_block (lpP hm (fun (v, v1, v2, v3, v4, v5) => ⟨[(0, .ref 0 0), (2, dV stops), (6, .ref 32 0), (7, .ref 48 0), (8, dV v), (9, dV v1)], [bX 0 72 [dV v2, dV v3, kV .u64 v4], bX 32 91 [dV ByteArray.empty, .dat (.sc (.slice none 0 0)), .dat (.sc (.slice none 0 0))], bX 48 91 [dV name, .own 64, .dat (.sc (.slice none 0 0))], aX 64 3 v5], 96⟩) (Wk_J G.hL ⟨[(0, []), (2, []), (6, []), (7, []), (8, []), (9, [])], [(0, 0, []), (32, 16, []), (48, 64, [.k, .o 64])], [(64, 3, 1, [])], 96⟩ (by kernel_rfl)) ?_)
  rintro ⟨v, v1, v2, v3, v4, v5⟩ r0 hb hm
  rw [s_l1Cur_line_L1] at hm
  refine Ok_seq (rg G (cd hm (fun hm => ?_) (fun hm => ?_)))
  ·refine X_skip (thN (Ok_seq (Ok_block (jn hm (fun v6 => ⟨[(0, .ref 0 0), (2, dV stops), (6, .ref 32 0), (7, .ref 48 0), (8, dV v), (9, dV v1)], [bX 0 72 [dV v2, dV v3, kV .u64 v4], bX 32 91 [dV ByteArray.empty, .dat (.sc (.slice none 0 0)), .dat (.sc (.slice none 0 0))], bX 48 91 [dV name, .own 64, .dat (.sc (.slice none 0 0))], aX 64 3 v6], 96⟩) (fun v6 hm => ?_) ?_))))
   ·obtain ⟨r2, h2, hm⟩ := obind hm
    refine rs G (hC 2 (s_l2Place_c h2) h0) ?_
    refine cd hm (fun hm => ?_) (fun hm => ?_)
    ·obtain ⟨u, h3, hm⟩ := obind hm
     refine re G (hA 4 8 h3 h0) ?_
     exact wJ G hm
    ·exact X_skip (wJ G hm)
   rintro v6 hm
   obtain ⟨r3, h4, hm⟩ := obind hm
   obtain ⟨u1, h5, hm⟩ := obind hm
   refine re G (hC 3 (s_l1Cur_pick_c h4) (hK h5 h0)) ?_
   exact ibN (thN (rh G (wL G hm)))
  ·exact Ok_exit (thE (thE (ibE (wD G hm hb))))
 rintro ⟨v7, v8, v9, v10⟩ hm s hw
 refine thN (Ok_weak hw ?_)
 refine jn hm (fun v11 => ⟨[(0, .ref 0 0), (6, .ref 32 0), (7, .ref 48 0)], [bX 0 72 [dV v7, dV v8, kV .u64 v9], bX 32 91 [dV ByteArray.empty, .dat (.sc (.slice none 0 0)), .dat (.sc (.slice none 0 0))], bX 48 91 [dV name, .own 64, .dat (.sc (.slice none 0 0))], aX 64 3 v11], 96⟩) (fun v11 hm => ?_) ?_
 ·refine rs G (hN 2 v10 h0) ?_
  refine cd hm (fun hm => ?_) (fun hm => ?_)
  ·obtain ⟨e1, h9, hm⟩ := obind hm
   obtain ⟨u4, h10, hm⟩ := obind hm
   obtain ⟨u5, h11, hm⟩ := obind hm
   refine de G [(10, [64, 304]), (12, [48, 320])] (hD 4 h9 (hE 5 h9 (hK h10 (hA 10 8 h11 h0)))) ?_
   exact wJ G hm
  ·exact X_skip (wJ G hm)
 rintro v11 hm
 refine Ok_seq (rg G (tl hm (fun (v17, v18, v19, v20) => ⟨[(0, .ref 0 0), (6, .ref 32 0), (7, .ref 48 0)], [bX 0 72 [dV v17, dV v18, kV .u64 v19], bX 32 91 [dV ByteArray.empty, .dat (.sc (.slice none 0 0)), .dat (.sc (.slice none 0 0))], bX 48 91 [dV name, .own 64, .own 80], aX 64 3 v11, aX 80 3 v20], 112⟩) (fun vv hm => ?_) ?_))
 ·refine Ok_block (lpP hm (fun (v12, v13, v14, v15, v16) => ⟨[(0, .ref 0 0), (6, .ref 32 0), (7, .ref 48 0), (10, dV v12)], [bX 0 72 [dV v13, dV v14, kV .u64 v15], bX 32 91 [dV ByteArray.empty, .dat (.sc (.slice none 0 0)), .dat (.sc (.slice none 0 0))], bX 48 91 [dV name, .own 64, .own 80], aX 64 3 v11, aX 80 3 v16], 112⟩) (Wk_J G.hL ⟨[(0, []), (6, []), (7, []), (10, [])], [(0, 0, []), (32, 32, []), (48, 48, [.k, .k, .o 80]), (64, 64, [])], [(80, 3, 1, [])], 112⟩ (by kernel_rfl)) ?_)
  rintro ⟨v12, v13, v14, v15, v16⟩ r0 hb1 hm
  rw [s_l1Cur_line_L2] at hm
  refine Ok_seq (rs G (hN 3 v11 h0) ?_)
  refine cd hm (fun hm => ?_) (fun hm => ?_)
  ·refine X_skip (thN (Ok_seq (Ok_block ?_)))
   obtain ⟨r5, h14, hm⟩ := obind hm
   obtain ⟨u7, h15, hm⟩ := obind hm
   refine de G [(3, [0]), (6, [80, 272]), (8, [48, 288])] (hC 3 (s_l1Cur_pick_c h14) (hA 6 8 h15 h0)) ?_
   exact ibN (thN (rh G (wL G hm)))
  ·exact Ok_exit (thE (thE (ibE (wD G hm hb1))))
 rintro ⟨v17, v18, v19, v20⟩ hm s1 hw1
 refine thN (Ok_weak hw1 ?_)
 refine rg G ?_
 cases hm
 exact rt [64, 80] []
noncomputable def s_l1Cur_line_f_M : MS (l1Cur × ByteArray × Int) (Line × l1Cur) := ⟨.x (.b 72) (.x .r .r), fun x => s_l1Cur_line_f x.1 x.2.1 x.2.2, fun y => dV y.1, fun _ => [], fun _ y => [bxO 72 y.2]⟩
theorem s_l1Cur_line_f_c {c name stops y} (hm : s_l1Cur_line_f c name stops = some y) : s_l1Cur_line_f_M.C (c, name, stops) y := s_l1Cur_line_f_M.c (c, name, stops) hm
theorem s_l1Cur_line_f_ok : FnOK Try.prog tJ 103 s_l1Cur_line_f_M.S := by
 refine fm tt s_l1Cur_line_f_M [fo s_l1Cur_pick_ok, fo s_l2Place_ok] Try.call103 Try.func103 rfl Try.results103 Try.ntmps103 ?_
 rintro ⟨c, name, stops⟩ y cx G hm
 have hm : s_l1Cur_line_f c name stops = some y := hm
 unfold s_l1Cur_line_f at hm
 refine rg G (rg G ?_)
 obtain ⟨r, h, hm⟩ := obind hm
 refine rs G (hC 2 (s_l1Cur_pick_c h) h0) ?_
 refine Ok_seq ?_
 obtain ⟨r1, h1, hm⟩ := obind hm
 refine rs G (hC 1 (s_l1Cur_pick_c h1) h0) ?_
 refine tl hm (fun (v7, v8, v9, v10) => ⟨[(0, .ref 0 0), (2, dV stops), (6, .ref 32 0), (7, .ref 48 0)], [bX 0 72 [dV v7, dV v8, kV .u64 v9], bX 32 91 [dV ByteArray.empty, .dat (.sc (.slice none 0 0)), .dat (.sc (.slice none 0 0))], bX 48 91 [dV name, .own 64, .dat (.sc (.slice none 0 0))], aX 64 3 v10], 96⟩) (fun vv1 hm => ?_) ?_
 ·refine Ok_block (lpP hm (fun (v, v1, v2, v3, v4, v5) => ⟨[(0, .ref 0 0), (2, dV stops), (6, .ref 32 0), (7, .ref 48 0), (8, dV v), (9, dV v1)], [bX 0 72 [dV v2, dV v3, kV .u64 v4], bX 32 91 [dV ByteArray.empty, .dat (.sc (.slice none 0 0)), .dat (.sc (.slice none 0 0))], bX 48 91 [dV name, .own 64, .dat (.sc (.slice none 0 0))], aX 64 3 v5], 96⟩) (Wk_J G.hL ⟨[(0, []), (2, []), (6, []), (7, []), (8, []), (9, [])], [(0, 0, []), (32, 16, []), (48, 64, [.k, .o 64])], [(64, 3, 1, [])], 96⟩ (by kernel_rfl)) ?_)
  rintro ⟨v, v1, v2, v3, v4, v5⟩ r0 hb hm
  rw [s_l1Cur_line_f_L1] at hm
  refine Ok_seq (rg G (cd hm (fun hm => ?_) (fun hm => ?_)))
  ·refine X_skip (thN (Ok_seq (Ok_block (jn hm (fun v6 => ⟨[(0, .ref 0 0), (2, dV stops), (6, .ref 32 0), (7, .ref 48 0), (8, dV v), (9, dV v1)], [bX 0 72 [dV v2, dV v3, kV .u64 v4], bX 32 91 [dV ByteArray.empty, .dat (.sc (.slice none 0 0)), .dat (.sc (.slice none 0 0))], bX 48 91 [dV name, .own 64, .dat (.sc (.slice none 0 0))], aX 64 3 v6], 96⟩) (fun v6 hm => ?_) ?_))))
   ·obtain ⟨r2, h2, hm⟩ := obind hm
    refine rs G (hC 2 (s_l2Place_c h2) h0) ?_
    refine cd hm (fun hm => ?_) (fun hm => ?_)
    ·obtain ⟨u, h3, hm⟩ := obind hm
     refine re G (hA 4 8 h3 h0) ?_
     exact wJ G hm
    ·exact X_skip (wJ G hm)
   rintro v6 hm
   obtain ⟨r3, h4, hm⟩ := obind hm
   obtain ⟨u1, h5, hm⟩ := obind hm
   refine re G (hC 3 (s_l1Cur_pick_c h4) (hK h5 h0)) ?_
   exact ibN (thN (rh G (wL G hm)))
  ·exact Ok_exit (thE (thE (ibE (wD G hm hb))))
 rintro ⟨v7, v8, v9, v10⟩ hm s hw
 refine thN (Ok_weak hw ?_)
 refine jn hm (fun v11 => ⟨[(0, .ref 0 0), (6, .ref 32 0), (7, .ref 48 0)], [bX 0 72 [dV v7, dV v8, kV .u64 v9], bX 32 91 [dV ByteArray.empty, .dat (.sc (.slice none 0 0)), .dat (.sc (.slice none 0 0))], bX 48 91 [dV name, .own 64, .dat (.sc (.slice none 0 0))], aX 64 3 v11], 96⟩) (fun v11 hm => ?_) ?_
 ·refine rs G (hN 2 v10 h0) ?_
  refine cd hm (fun hm => ?_) (fun hm => ?_)
  ·obtain ⟨e1, h9, hm⟩ := obind hm
   obtain ⟨u4, h10, hm⟩ := obind hm
   obtain ⟨u5, h11, hm⟩ := obind hm
   refine de G [(10, [64, 304]), (12, [48, 320])] (hD 4 h9 (hE 5 h9 (hK h10 (hA 10 8 h11 h0)))) ?_
   exact wJ G hm
  ·exact X_skip (wJ G hm)
 rintro v11 hm
 refine Ok_seq (rg G (tl hm (fun (v17, v18, v19, v20) => ⟨[(0, .ref 0 0), (6, .ref 32 0), (7, .ref 48 0)], [bX 0 72 [dV v17, dV v18, kV .u64 v19], bX 32 91 [dV ByteArray.empty, .dat (.sc (.slice none 0 0)), .dat (.sc (.slice none 0 0))], bX 48 91 [dV name, .own 64, .own 80], aX 64 3 v11, aX 80 3 v20], 112⟩) (fun vv hm => ?_) ?_))
 ·refine Ok_block (lpP hm (fun (v12, v13, v14, v15, v16) => ⟨[(0, .ref 0 0), (6, .ref 32 0), (7, .ref 48 0), (10, dV v12)], [bX 0 72 [dV v13, dV v14, kV .u64 v15], bX 32 91 [dV ByteArray.empty, .dat (.sc (.slice none 0 0)), .dat (.sc (.slice none 0 0))], bX 48 91 [dV name, .own 64, .own 80], aX 64 3 v11, aX 80 3 v16], 112⟩) (Wk_J G.hL ⟨[(0, []), (6, []), (7, []), (10, [])], [(0, 0, []), (32, 32, []), (48, 48, [.k, .k, .o 80]), (64, 64, [])], [(80, 3, 1, [])], 112⟩ (by kernel_rfl)) ?_)
  rintro ⟨v12, v13, v14, v15, v16⟩ r0 hb1 hm
  rw [s_l1Cur_line_f_L2] at hm
  refine Ok_seq (rs G (hN 3 v11 h0) ?_)
  refine cd hm (fun hm => ?_) (fun hm => ?_)
  ·refine X_skip (thN (Ok_seq (Ok_block ?_)))
   obtain ⟨r5, h14, hm⟩ := obind hm
   obtain ⟨u7, h15, hm⟩ := obind hm
   refine de G [(3, [0]), (6, [80, 272]), (8, [48, 288])] (hC 3 (s_l1Cur_pick_c h14) (hA 6 8 h15 h0)) ?_
   exact ibN (thN (rh G (wL G hm)))
  ·exact Ok_exit (thE (thE (ibE (wD G hm hb1))))
 rintro ⟨v17, v18, v19, v20⟩ hm s1 hw1
 refine thN (Ok_weak hw1 ?_)
 refine rg G ?_
 cases hm
 exact rt [] []
noncomputable def s_l2Back_f_M : MS ((List Int)) ((List Int)) := ⟨.r, s_l2Back_f, fun y => dV y, fun _ => [], fun _ _ => []⟩
theorem s_l2Back_f_c {list y} (hm : s_l2Back_f list = some y) : s_l2Back_f_M.C list y := s_l2Back_f_M.c list hm
theorem s_l2Back_f_ok : FnOK Try.prog tJ 116 s_l2Back_f_M.S := by
 refine fm tt s_l2Back_f_M [] Try.call116 Try.func116 rfl Try.results116 Try.ntmps116 ?_
 rintro list y cx G hm
 have hm : s_l2Back_f list = some y := hm
 unfold s_l2Back_f at hm
 refine rg G (rg G (Ok_seq (rs G (hN 1 list h0) ?_)))
 refine tl hm (fun i1 => ⟨[(3, .own 16)], [aX 16 3 i1], 48⟩) (fun i1 hm => ?_) ?_
 ·refine Ok_block (lp G hm (fun (v, i) => ⟨[(0, dV list), (3, .own 16), (4, dV v)], [aX 16 3 i], 48⟩) ?_)
  rintro ⟨v, i⟩ r0 hb hm
  rw [s_l2Back_f_L1] at hm
  refine Ok_seq (rg G (cd hm (fun hm => ?_) (fun hm => ?_)))
  ·refine X_skip (thN (Ok_seq (Ok_block ?_)))
   obtain ⟨e, h, hm⟩ := obind hm
   obtain ⟨u, h1, hm⟩ := obind hm
   refine re G (hD 3 h (hA 6 8 h1 h0)) ?_
   exact ibN (thN (rh G (wL G hm)))
  ·exact Ok_exit (thE (thE (ibE (wD G hm hb))))
 rintro i1 hm s hw
 refine thN (Ok_weak hw ?_)
 refine rg G ?_
 cases hm
 exact rt [] []
noncomputable def s_l1Own_M : MS ((List Int)) ((List Int)) := ⟨.r, s_l1Own, fun _ => .own 0, fun y => [arO 3 y], fun _ _ => []⟩
theorem s_l1Own_c {l y} (hm : s_l1Own l = some y) : s_l1Own_M.C l y := s_l1Own_M.c l hm
theorem s_l1Own_ok : FnOK Try.prog tJ 135 s_l1Own_M.S := by
 refine fm tt s_l1Own_M [] Try.call135 Try.func135 rfl Try.results135 Try.ntmps135 ?_
 rintro l y cx G hm
 have hm : s_l1Own l = some y := hm
 unfold s_l1Own at hm
 refine rg G ?_
 obtain ⟨u, h, hm⟩ := obind hm
 refine rs G (hA 2 8 h h0) ?_
 cases hm
 exact rt [64] []
noncomputable def s_l1Own_f_M : MS ((List Int)) ((List Int)) := ⟨.r, s_l1Own_f, fun y => dV y, fun _ => [], fun _ _ => []⟩
theorem s_l1Own_f_c {l y} (hm : s_l1Own_f l = some y) : s_l1Own_f_M.C l y := s_l1Own_f_M.c l hm
theorem s_l1Own_f_ok : FnOK Try.prog tJ 135 s_l1Own_f_M.S := by
 refine fm tt s_l1Own_f_M [] Try.call135 Try.func135 rfl Try.results135 Try.ntmps135 ?_
 rintro l y cx G hm
 have hm : s_l1Own_f l = some y := hm
 unfold s_l1Own_f at hm
 refine rg G ?_
 obtain ⟨u, h, hm⟩ := obind hm
 refine rs G (hA 2 8 h h0) ?_
 cases hm
 exact rt [] []
noncomputable def s_l2Own_M : MS Network Network := ⟨.r, s_l2Own, fun _ => .aggv [.own 0, .own 1], fun y => [arO 9 y.Stops, arO 91 y.Lines], fun _ _ => []⟩
theorem s_l2Own_c {n y} (hm : s_l2Own n = some y) : s_l2Own_M.C n y := s_l2Own_M.c n hm
theorem s_l2Own_ok : FnOK Try.prog tJ 117 s_l2Own_M.S := by
 refine fm tt s_l2Own_M [fo s_l1Own_f_ok] Try.call117 Try.func117 rfl Try.results117 Try.ntmps117 ?_
 rintro n y cx G hm
 have hm : s_l2Own n = some y := hm
 unfold s_l2Own at hm
 refine rg G ?_
 obtain ⟨u, h, hm⟩ := obind hm
 refine rs G (hA 3 16 h h0) ?_
 refine Ok_seq (rg G (tl hm (fun v2 => ⟨[(2, .ref 16 0), (3, .ref 32 0)], [bX 16 42 [.dat (.sc (.slice none 0 0)), .dat (.sc (.slice none 0 0))], bX 32 42 [.own 48, .own 64], aX 48 9 (([] : List ByteArray) ++ n.Stops), aX 64 91 v2], 96⟩) (fun v2 hm => ?_) ?_))
 ·refine Ok_block (lpP hm (fun (v, v1) => ⟨[(1, .ref 16 0), (2, .ref 32 0), (3, .ref 48 0), (4, dV v)], [bX 16 42 [dV n.Stops, dV n.Lines], bX 32 42 [.dat (.sc (.slice none 0 0)), .dat (.sc (.slice none 0 0))], bX 48 42 [.own 64, .own 80], aX 64 9 (([] : List ByteArray) ++ n.Stops), aX 80 91 v1], 112⟩) (Wk_J G.hL ⟨[(1, []), (2, []), (3, []), (4, [])], [(16, 16, []), (32, 32, []), (48, 128, [.k, .o 80]), (64, 96, [])], [(80, 91, 3, [])], 112⟩ (by kernel_rfl)) ?_)
  rintro ⟨v, v1⟩ r0 hb hm
  rw [s_l2Own_L1] at hm
  refine Ok_seq (rs G (hN 3 n.Lines h0) ?_)
  refine cd hm (fun hm => ?_) (fun hm => ?_)
  ·refine X_skip (thN (Ok_seq (Ok_block ?_)))
   obtain ⟨e3, h7, hm⟩ := obind hm
   obtain ⟨e4, h8, hm⟩ := obind hm
   obtain ⟨r2, h9, hm⟩ := obind hm
   obtain ⟨e5, h10, hm⟩ := obind hm
   obtain ⟨r3, h11, hm⟩ := obind hm
   obtain ⟨u2, h12, hm⟩ := obind hm
   refine de G [(23, []), (24, [80, 560]), (26, [48, 576])] (hD 5 h7 (hD 11 h8 (hC 14 (s_l1Own_f_c h9) (hD 18 h10 (hC 21 (s_l1Own_f_c h11) (hA 24 64 h12 h0)))))) ?_
   exact ibN (thN (rh G (wL G hm)))
  ·exact Ok_exit (thE (thE (ibE (wD G hm hb))))
 rintro v2 hm s hw
 refine thN (Ok_weak hw ?_)
 refine rg G ?_
 cases hm
 exact rt [48, 64] []
noncomputable def s_l1Cur_network_M : MS l1Cur (Network × l1Cur) := ⟨.b 72, s_l1Cur_network, fun _ => .aggv [.own 0, .own 1], fun y => [arO 9 y.1.Stops, arO 91 y.1.Lines], fun _ y => [bxO 72 y.2]⟩
theorem s_l1Cur_network_c {c y} (hm : s_l1Cur_network c = some y) : s_l1Cur_network_M.C c y := s_l1Cur_network_M.c c hm
theorem s_l1Cur_network_ok : FnOK Try.prog tJ 102 s_l1Cur_network_M.S := by
 refine fm tt s_l1Cur_network_M [fo s_l1Cur_pick_ok, fo s_l1Num_ok, fo s_l1Cur_line_f_ok, fo s_l1Cur_one_ok, fo s_l2Back_f_ok, fo s_l2Own_ok] Try.call102 Try.func102 rfl Try.results102 Try.ntmps102 ?_
 rintro c y cx G hm
 have hm : s_l1Cur_network c = some y := hm
 unfold s_l1Cur_network at hm
 refine rg G ?_
 obtain ⟨r, h, hm⟩ := obind hm
 refine rs G (hC 1 (s_l1Cur_pick_c h) h0) ?_
 obtain ⟨u, h1, hm⟩ := obind hm
 refine rs G (hO 2 (.fz [96] [] []) (hU 2 h1 h0)) ?_
 refine Ok_seq ?_
 obtain ⟨r1, h2, hm⟩ := obind hm
 refine rs G (hC 1 (s_l1Cur_pick_c h2) h0) ?_
 refine tl hm (fun (v4, v5, v6, v7) => ⟨[(0, .ref 0 0), (2, .ref 32 0), (4, .ref 48 0)], [bX 0 72 [dV v4, dV v5, kV .u64 v6], bX 32 42 [.dat (.sc (.slice none 0 0)), .dat (.sc (.slice none 0 0))], bX 48 42 [dV ((([(str [112, 111, 114, 116]), (str [109, 105, 108, 108]), (str [112, 97, 114, 107]), (str [104, 97, 108, 108]), (str [100, 111, 99, 107]), (str [102, 97, 105, 114])] : List ByteArray).take (w64 (2 + r.1)).toNat).drop (0 : Int).toNat), .own 64], aX 64 91 v7], 96⟩) (fun vv1 hm => ?_) ?_
 ·refine Ok_block (lpP hm (fun (x, v, v1, v2, v3) => ⟨[(0, .ref 0 0), (2, .ref 32 0), (3, dV (w64 (2 + r.1))), (4, .ref 48 0), (5, dV x)], [bX 0 72 [dV v, dV v1, kV .u64 v2], bX 32 42 [.dat (.sc (.slice none 0 0)), .dat (.sc (.slice none 0 0))], bX 48 42 [dV ((([(str [112, 111, 114, 116]), (str [109, 105, 108, 108]), (str [112, 97, 114, 107]), (str [104, 97, 108, 108]), (str [100, 111, 99, 107]), (str [102, 97, 105, 114])] : List ByteArray).take (w64 (2 + r.1)).toNat).drop (0 : Int).toNat), .own 64], aX 64 91 v3], 96⟩) (Wk_J G.hL ⟨[(0, []), (2, []), (3, []), (4, []), (5, [])], [(0, 0, []), (32, 16, []), (48, 160, [.k, .o 64])], [(64, 91, 3, [])], 96⟩ (by kernel_rfl)) ?_)
  rintro ⟨x, v, v1, v2, v3⟩ r0 hb hm
  rw [s_l1Cur_network_L1] at hm
  refine Ok_seq (rg G (cd hm (fun hm => ?_) (fun hm => ?_)))
  ·refine X_skip (thN (Ok_seq (Ok_block ?_)))
   obtain ⟨r4, h7, hm⟩ := obind hm
   obtain ⟨u3, h8, hm⟩ := obind hm
   obtain ⟨r5, h9, hm⟩ := obind hm
   obtain ⟨u4, h10, hm⟩ := obind hm
   refine de G [(7, [0]), (8, []), (9, [64, 256]), (11, [48, 272])] (hC 4 (s_l1Num_c h7) (hP (cat_p (chk_t h8)) (hC 7 (s_l1Cur_line_f_c h9) (hA 9 64 h10 h0)))) ?_
   exact ibN (thN (rh G (wL G hm)))
  ·exact Ok_exit (thE (thE (ibE (wD G hm hb))))
 rintro ⟨v4, v5, v6, v7⟩ hm s hw
 refine thN (Ok_weak hw ?_)
 refine jn hm (fun (v8, v9, v10, v11) => ⟨[(0, .ref 0 0), (2, .ref 32 0), (4, .ref 48 0)], [bX 0 72 [dV v8, dV v9, kV .u64 v10], bX 32 42 [.dat (.sc (.slice none 0 0)), .dat (.sc (.slice none 0 0))], bX 48 42 [dV ((([(str [112, 111, 114, 116]), (str [109, 105, 108, 108]), (str [112, 97, 114, 107]), (str [104, 97, 108, 108]), (str [100, 111, 99, 107]), (str [102, 97, 105, 114])] : List ByteArray).take (w64 (2 + r.1)).toNat).drop (0 : Int).toNat), .own 64], aX 64 91 v11], 96⟩) (fun vv hm => ?_) ?_
 ·obtain ⟨r6, h11, hm⟩ := obind hm
  refine rs G (hC 1 (s_l1Cur_one_c h11) h0) ?_
  refine cd hm (fun hm => ?_) (fun hm => ?_)
  ·obtain ⟨e, h12, hm⟩ := obind hm
   refine rs G (hD 2 h12 (hE 3 h12 h0)) ?_
   obtain ⟨r9, h16, hm⟩ := obind hm
   obtain ⟨r10, h17, hm⟩ := obind hm
   obtain ⟨u6, h18, hm⟩ := obind hm
   refine de G [(9, []), (10, [64, 368]), (12, [48, 384])] (hC 4 (s_l2Back_f_c h16) (hC 7 (s_l2Back_f_c h17) (hA 10 64 h18 h0))) ?_
   exact wJ G hm
  ·exact X_skip (wJ G hm)
 rintro ⟨v8, v9, v10, v11⟩ hm
 obtain ⟨r11, h19, hm⟩ := obind hm
 refine rs G (hO 1 (.fz [64] [] []) (hC 1 (s_l2Own_c h19) h0)) ?_
 cases hm
 exact rt [112, 113] []
noncomputable def s_l1Cur_timetable_M : MS l1Cur (Timetable × l1Cur) := ⟨.b 72, s_l1Cur_timetable, fun _ => .aggv [.own 0, .own 1, .own 2], fun y => [arO 9 y.1.Network.Stops, arO 91 y.1.Network.Lines, arO 93 y.1.Trips], fun _ y => [bxO 72 y.2]⟩
theorem s_l1Cur_timetable_c {c y} (hm : s_l1Cur_timetable c = some y) : s_l1Cur_timetable_M.C c y := s_l1Cur_timetable_M.c c hm
theorem s_l1Cur_timetable_ok : FnOK Try.prog tJ 84 s_l1Cur_timetable_M.S := by
 refine fm tt s_l1Cur_timetable_M [fo s_l1Cur_network_ok, fo s_l1Cur_pick_ok] Try.call84 Try.func84 rfl Try.results84 Try.ntmps84 ?_
 rintro c y cx G hm
 have hm : s_l1Cur_timetable c = some y := hm
 unfold s_l1Cur_timetable at hm
 refine rg G ?_
 obtain ⟨r, h, hm⟩ := obind hm
 refine rs G (hC 1 (s_l1Cur_network_c h) h0) ?_
 refine rg G (Ok_seq ?_)
 obtain ⟨r1, h1, hm⟩ := obind hm
 refine rs G (hC 1 (s_l1Cur_pick_c h1) h0) ?_
 refine tl hm (fun (v5, v6, v7, v8) => ⟨[(0, .ref 0 0), (2, .ref 32 0), (3, .ref 48 0)], [bX 0 72 [dV v5, dV v6, kV .u64 v7], bX 32 45 [.dat (.sc (.slice none 0 0)), .dat (.sc (.slice none 0 0)), .dat (.sc (.slice none 0 0))], bX 48 45 [.own 64, .own 80, .own 96], aX 64 9 r.1.Stops, aX 80 91 r.1.Lines, aX 96 93 v8], 128⟩) (fun vv hm => ?_) ?_
 ·refine Ok_block (lpP hm (fun (n, v, v1, v2, v3, v4) => ⟨[(0, .ref 0 0), (2, .ref 32 0), (3, .ref 48 0), (4, dV n), (5, dV v)], [bX 0 72 [dV v1, dV v2, kV .u64 v3], bX 32 45 [.dat (.sc (.slice none 0 0)), .dat (.sc (.slice none 0 0)), .dat (.sc (.slice none 0 0))], bX 48 45 [.own 64, .own 80, .own 96], aX 64 9 r.1.Stops, aX 80 91 r.1.Lines, aX 96 93 v4], 128⟩) (Wk_J G.hL ⟨[(0, []), (2, []), (3, []), (4, []), (5, [])], [(0, 0, []), (32, 16, []), (48, 80, [.k, .k, .o 96]), (64, 48, []), (80, 49, [])], [(96, 93, 3, [])], 128⟩ (by kernel_rfl)) ?_)
  rintro ⟨n, v, v1, v2, v3, v4⟩ r0 hb hm
  rw [s_l1Cur_timetable_L1] at hm
  refine Ok_seq (rg G (cd hm (fun hm => ?_) (fun hm => ?_)))
  ·refine X_skip (thN (Ok_seq (Ok_block ?_)))
   obtain ⟨r2, h2, hm⟩ := obind hm
   refine rs G (hC 3 (s_l1Cur_pick_c h2) h0) ?_
   obtain ⟨r5, h6, hm⟩ := obind hm
   obtain ⟨r6, h7, hm⟩ := obind hm
   obtain ⟨u1, h8, hm⟩ := obind hm
   refine de G [(8, [0]), (10, [0]), (15, [96, 480]), (17, [48, 496])] (hN 7 r.1.Lines (hC 8 (s_l1Cur_pick_c h6) (hC 10 (s_l1Cur_pick_c h7) (hA 15 24 h8 h0)))) ?_
   exact ibN (thN (rh G (wL G hm)))
  ·exact Ok_exit (thE (thE (ibE (wD G hm hb))))
 rintro ⟨v5, v6, v7, v8⟩ hm s hw
 refine thN (Ok_weak hw ?_)
 refine rg G ?_
 cases hm
 exact rt [64, 80, 96] []
noncomputable def s_l1Cur_of_w_M : MS (l1Cur × (List ByteArray)) (ByteArray × l1Cur) := ⟨.x (.b 72) (.s 9), fun x => s_l1Cur_of_w x.1 x.2, fun y => dV y.1, fun _ => [], fun x y => [bxO 72 y.2, arO 9 x.2]⟩
theorem s_l1Cur_of_w_c {c list y} (hm : s_l1Cur_of_w c list = some y) : s_l1Cur_of_w_M.C (c, list) y := s_l1Cur_of_w_M.c (c, list) hm
theorem s_l1Cur_of_w_ok : FnOK Try.prog tJ 47 s_l1Cur_of_w_M.S := by
 refine fm tt s_l1Cur_of_w_M [fo s_l1Cur_pick_ok] Try.call47 Try.func47 rfl Try.results47 Try.ntmps47 ?_
 rintro ⟨c, list⟩ y cx G hm
 have hm : s_l1Cur_of_w c list = some y := hm
 unfold s_l1Cur_of_w at hm
 refine rg G ?_
 obtain ⟨r, h, hm⟩ := obind hm
 obtain ⟨e, h1, hm⟩ := obind hm
 refine rs G (hN 3 list (hC 4 (s_l1Cur_pick_c h) (hD 5 h1 (hE 6 h1 h0)))) ?_
 cases hm
 exact rt [] []
noncomputable def s_l2Own_t_M : MS Network Network := ⟨.r, s_l2Own_t, fun _ => .aggv [.own 0, .own 1], fun y => [arO 9 y.Stops, taO 91 [none, some 3, some 3] y.Lines], fun _ _ => []⟩
theorem s_l2Own_t_c {n y} (hm : s_l2Own_t n = some y) : s_l2Own_t_M.C n y := s_l2Own_t_M.c n hm
theorem s_l2Own_t_ok : FnOK Try.prog tJ 117 s_l2Own_t_M.S := by
 refine fm tt s_l2Own_t_M [fo s_l1Own_ok] Try.call117 Try.func117 rfl Try.results117 Try.ntmps117 ?_
 rintro n y cx G hm
 have hm : s_l2Own_t n = some y := hm
 unfold s_l2Own_t at hm
 refine rg G ?_
 obtain ⟨u, h, hm⟩ := obind hm
 refine rs G (hA 3 16 h h0) ?_
 refine Ok_seq (rg G (tl hm (fun v2 => ⟨[(2, .ref 16 0), (3, .ref 32 0)], [bX 16 42 [.dat (.sc (.slice none 0 0)), .dat (.sc (.slice none 0 0))], bX 32 42 [.own 48, .own 64], aX 48 9 (([] : List ByteArray) ++ n.Stops), tX 64 91 [none, some 3, some 3] v2 64 none], 96⟩) (fun v2 hm => ?_) ?_))
 ·refine Ok_block (lpP hm (fun (v, v1) => ⟨[(1, .ref 16 0), (2, .ref 32 0), (3, .ref 48 0), (4, dV v)], [bX 16 42 [dV n.Stops, dV n.Lines], bX 32 42 [.dat (.sc (.slice none 0 0)), .dat (.sc (.slice none 0 0))], bX 48 42 [.own 64, .own 80], aX 64 9 (([] : List ByteArray) ++ n.Stops), tX 80 91 [none, some 3, some 3] v1 80 none], 112⟩) (Wk_J G.hL ⟨[(1, []), (2, []), (3, []), (4, [])], [(16, 16, []), (32, 32, []), (48, 128, [.k, .o 80]), (64, 96, [])], [(80, 91, 3, [none, some 3, some 3])], 112⟩ (by kernel_rfl)) ?_)
  rintro ⟨v, v1⟩ r0 hb hm
  rw [s_l2Own_t_L1] at hm
  refine Ok_seq (rs G (hN 3 n.Lines h0) ?_)
  refine cd hm (fun hm => ?_) (fun hm => ?_)
  ·refine X_skip (thN (Ok_seq (Ok_block ?_)))
   obtain ⟨e3, h7, hm⟩ := obind hm
   obtain ⟨e4, h8, hm⟩ := obind hm
   obtain ⟨r2, h9, hm⟩ := obind hm
   obtain ⟨e5, h10, hm⟩ := obind hm
   obtain ⟨r3, h11, hm⟩ := obind hm
   obtain ⟨u2, h12, hm⟩ := obind hm
   refine de G [(23, [416, 528]), (24, [80, 560]), (26, [48, 576])] (hD 5 h7 (hD 11 h8 (hC 14 (s_l1Own_c h9) (hD 18 h10 (hC 21 (s_l1Own_c h11) (hP (nodupB_ok (l := [416, 528]) rfl) (hA 24 64 h12 h0))))))) ?_
   exact ibN (thN (rh G (wL G hm)))
  ·exact Ok_exit (thE (thE (ibE (wD G hm hb))))
 rintro v2 hm s hw
 refine thN (Ok_weak hw ?_)
 refine rg G ?_
 cases hm
 exact rt [48, 64] []
noncomputable def s_l1Cur_network_t_M : MS l1Cur (Network × l1Cur) := ⟨.b 72, s_l1Cur_network_t, fun _ => .aggv [.own 0, .own 1], fun y => [arO 9 y.1.Stops, taO 91 [none, some 3, some 3] y.1.Lines], fun _ y => [bxO 72 y.2]⟩
theorem s_l1Cur_network_t_c {c y} (hm : s_l1Cur_network_t c = some y) : s_l1Cur_network_t_M.C c y := s_l1Cur_network_t_M.c c hm
theorem s_l1Cur_network_t_ok : FnOK Try.prog tJ 102 s_l1Cur_network_t_M.S := by
 refine fm tt s_l1Cur_network_t_M [fo s_l1Cur_pick_ok, fo s_l1Num_ok, fo s_l1Cur_line_f_ok, fo s_l1Cur_one_ok, fo s_l2Back_f_ok, fo s_l2Own_t_ok] Try.call102 Try.func102 rfl Try.results102 Try.ntmps102 ?_
 rintro c y cx G hm
 have hm : s_l1Cur_network_t c = some y := hm
 unfold s_l1Cur_network_t at hm
 refine rg G ?_
 obtain ⟨r, h, hm⟩ := obind hm
 refine rs G (hC 1 (s_l1Cur_pick_c h) h0) ?_
 obtain ⟨u, h1, hm⟩ := obind hm
 refine rs G (hO 2 (.fz [96] [] []) (hU 2 h1 h0)) ?_
 refine Ok_seq ?_
 obtain ⟨r1, h2, hm⟩ := obind hm
 refine rs G (hC 1 (s_l1Cur_pick_c h2) h0) ?_
 refine tl hm (fun (v4, v5, v6, v7) => ⟨[(0, .ref 0 0), (2, .ref 32 0), (4, .ref 48 0)], [bX 0 72 [dV v4, dV v5, kV .u64 v6], bX 32 42 [.dat (.sc (.slice none 0 0)), .dat (.sc (.slice none 0 0))], bX 48 42 [dV ((([(str [112, 111, 114, 116]), (str [109, 105, 108, 108]), (str [112, 97, 114, 107]), (str [104, 97, 108, 108]), (str [100, 111, 99, 107]), (str [102, 97, 105, 114])] : List ByteArray).take (w64 (2 + r.1)).toNat).drop (0 : Int).toNat), .own 64], aX 64 91 v7], 96⟩) (fun vv1 hm => ?_) ?_
 ·refine Ok_block (lpP hm (fun (x, v, v1, v2, v3) => ⟨[(0, .ref 0 0), (2, .ref 32 0), (3, dV (w64 (2 + r.1))), (4, .ref 48 0), (5, dV x)], [bX 0 72 [dV v, dV v1, kV .u64 v2], bX 32 42 [.dat (.sc (.slice none 0 0)), .dat (.sc (.slice none 0 0))], bX 48 42 [dV ((([(str [112, 111, 114, 116]), (str [109, 105, 108, 108]), (str [112, 97, 114, 107]), (str [104, 97, 108, 108]), (str [100, 111, 99, 107]), (str [102, 97, 105, 114])] : List ByteArray).take (w64 (2 + r.1)).toNat).drop (0 : Int).toNat), .own 64], aX 64 91 v3], 96⟩) (Wk_J G.hL ⟨[(0, []), (2, []), (3, []), (4, []), (5, [])], [(0, 0, []), (32, 16, []), (48, 160, [.k, .o 64])], [(64, 91, 3, [])], 96⟩ (by kernel_rfl)) ?_)
  rintro ⟨x, v, v1, v2, v3⟩ r0 hb hm
  rw [s_l1Cur_network_t_L1] at hm
  refine Ok_seq (rg G (cd hm (fun hm => ?_) (fun hm => ?_)))
  ·refine X_skip (thN (Ok_seq (Ok_block ?_)))
   obtain ⟨r4, h7, hm⟩ := obind hm
   obtain ⟨u3, h8, hm⟩ := obind hm
   obtain ⟨r5, h9, hm⟩ := obind hm
   obtain ⟨u4, h10, hm⟩ := obind hm
   refine de G [(7, [0]), (8, []), (9, [64, 256]), (11, [48, 272])] (hC 4 (s_l1Num_c h7) (hP (cat_p (chk_t h8)) (hC 7 (s_l1Cur_line_f_c h9) (hA 9 64 h10 h0)))) ?_
   exact ibN (thN (rh G (wL G hm)))
  ·exact Ok_exit (thE (thE (ibE (wD G hm hb))))
 rintro ⟨v4, v5, v6, v7⟩ hm s hw
 refine thN (Ok_weak hw ?_)
 refine jn hm (fun (v8, v9, v10, v11) => ⟨[(0, .ref 0 0), (2, .ref 32 0), (4, .ref 48 0)], [bX 0 72 [dV v8, dV v9, kV .u64 v10], bX 32 42 [.dat (.sc (.slice none 0 0)), .dat (.sc (.slice none 0 0))], bX 48 42 [dV ((([(str [112, 111, 114, 116]), (str [109, 105, 108, 108]), (str [112, 97, 114, 107]), (str [104, 97, 108, 108]), (str [100, 111, 99, 107]), (str [102, 97, 105, 114])] : List ByteArray).take (w64 (2 + r.1)).toNat).drop (0 : Int).toNat), .own 64], aX 64 91 v11], 96⟩) (fun vv hm => ?_) ?_
 ·obtain ⟨r6, h11, hm⟩ := obind hm
  refine rs G (hC 1 (s_l1Cur_one_c h11) h0) ?_
  refine cd hm (fun hm => ?_) (fun hm => ?_)
  ·obtain ⟨e, h12, hm⟩ := obind hm
   refine rs G (hD 2 h12 (hE 3 h12 h0)) ?_
   obtain ⟨r9, h16, hm⟩ := obind hm
   obtain ⟨r10, h17, hm⟩ := obind hm
   obtain ⟨u6, h18, hm⟩ := obind hm
   refine de G [(9, []), (10, [64, 368]), (12, [48, 384])] (hC 4 (s_l2Back_f_c h16) (hC 7 (s_l2Back_f_c h17) (hA 10 64 h18 h0))) ?_
   exact wJ G hm
  ·exact X_skip (wJ G hm)
 rintro ⟨v8, v9, v10, v11⟩ hm
 obtain ⟨r11, h19, hm⟩ := obind hm
 refine rs G (hO 1 (.fz [64] [] []) (hC 1 (s_l2Own_t_c h19) h0)) ?_
 cases hm
 exact rt [112, 113] []
noncomputable def s_l1Cur_among_w_M : MS (l1Cur × (List Int)) (Int × l1Cur) := ⟨.x (.b 72) (.s 3), fun x => s_l1Cur_among_w x.1 x.2, fun y => dV y.1, fun _ => [], fun x y => [bxO 72 y.2, arO 3 x.2]⟩
theorem s_l1Cur_among_w_c {c list y} (hm : s_l1Cur_among_w c list = some y) : s_l1Cur_among_w_M.C (c, list) y := s_l1Cur_among_w_M.c (c, list) hm
theorem s_l1Cur_among_w_ok : FnOK Try.prog tJ 42 s_l1Cur_among_w_M.S := by
 refine fm tt s_l1Cur_among_w_M [fo s_l1Cur_pick_ok] Try.call42 Try.func42 rfl Try.results42 Try.ntmps42 ?_
 rintro ⟨c, list⟩ y cx G hm
 have hm : s_l1Cur_among_w c list = some y := hm
 unfold s_l1Cur_among_w at hm
 refine rg G ?_
 obtain ⟨r, h, hm⟩ := obind hm
 obtain ⟨e, h1, hm⟩ := obind hm
 refine rs G (hN 3 list (hC 4 (s_l1Cur_pick_c h) (hD 5 h1 (hE 6 h1 h0)))) ?_
 cases hm
 exact rt [] []
noncomputable def s_l1Cur_anyNetwork_M : MS l1Cur (Network × l1Cur) := ⟨.b 72, s_l1Cur_anyNetwork, fun y => .aggv [.own 0, dV y.1.Lines], fun y => [arO 9 y.1.Stops], fun _ y => [bxO 72 y.2]⟩
theorem s_l1Cur_anyNetwork_c {c y} (hm : s_l1Cur_anyNetwork c = some y) : s_l1Cur_anyNetwork_M.C c y := s_l1Cur_anyNetwork_M.c c hm
theorem s_l1Cur_anyNetwork_ok : FnOK Try.prog tJ 85 s_l1Cur_anyNetwork_M.S := by
 refine fm tt s_l1Cur_anyNetwork_M [fo s_l1Cur_network_t_ok, fo s_l1Cur_pick_ok, fo s_l1Cur_of_w_ok, fo s_l1Cur_among_w_ok, fo s_l1Num_ok, fo s_l1Cur_line_ok] Try.call85 Try.func85 rfl Try.results85 Try.ntmps85 ?_
 rintro c y cx G hm
 have hm : s_l1Cur_anyNetwork c = some y := hm
 unfold s_l1Cur_anyNetwork at hm
 refine rg G ?_
 obtain ⟨r, h, hm⟩ := obind hm
 refine rs G (hC 1 (s_l1Cur_network_t_c h) h0) ?_
 obtain ⟨r1, h1, hm⟩ := obind hm
 refine rs G (hN 3 r.1.Lines (hC 4 (s_l1Cur_pick_c h1) h0)) ?_
 obtain ⟨e, h2, hm⟩ := obind hm
 refine rs G (hD 3 h2 (hE 4 h2 h0)) ?_
 refine jF hm (fun (v, v1, v2, v3, v4, v5, v6) => ⟨[(0, .ref 0 0), (2, .ref 32 0), (3, .ref 48 0), (4, dV r1.1), (5, .ref 64 0)], [bX 0 72 [dV v, dV v1, kV .u64 v2], bX 32 42 [.dat (.sc (.slice none 0 0)), .dat (.sc (.slice none 0 0))], bX 48 42 [.own 80, .own 96], bX 64 91 [dV v3, .row 96 96 r1.1.toNat 1, .own 112], aX 80 9 v4, tX 96 91 [none, some 3, some 3] v5 96 (some (r1.1.toNat, 2)), aX 112 3 v6], 144⟩) (fun v17 hr hm => ?_) ?_
 ·obtain ⟨r2, h3, hm⟩ := obind hm
  refine rs G (hC 1 (s_l1Cur_pick_c h3) h0) ?_
  refine Ok_block (rg G (cd hm (fun hm => ?_) (fun hm => ?_)))
  ·obtain ⟨r4, h6, hm⟩ := obind hm
   obtain ⟨e2, h7, hm⟩ := obind hm
   refine de G [(4, [0, 416]), (6, [48])] (hC 4 (s_l1Cur_of_w_c h6) (hD 5 h7 (hS 6 h7 r4.1 h0))) ?_
   exact ibN (wFp hm (Wk.trans (Wk_S (.c 272 2) (Enc.e e) (.cons (idx_m2 (f := Enc.e) (l := r.1.Lines) (i := r1.1) h2) .nil) (by kernel_rfl)) (Wk_J G.hL ⟨[(0, []), (2, []), (3, []), (4, []), (5, [])], [(0, 0, []), (32, 16, []), (48, 64, []), (64, 272, []), (80, 48, []), (96, 49, []), (112, 480, [])], [], 144⟩ (by kernel_rfl))))
  ·refine rg G (cd hm (fun hm => ?_) (fun hm => ?_))
   ·obtain ⟨r5, h8, hm⟩ := obind hm
    refine re G (hC 2 (s_l1Cur_of_w_c h8) h0) ?_
    exact ibN (wFp hm (Wk.trans (Wk_S (.c 272 2) (Enc.e e) (.cons (idx_m2 (f := Enc.e) (l := r.1.Lines) (i := r1.1) h2) .nil) (by kernel_rfl)) (Wk_J G.hL ⟨[(0, []), (2, []), (3, []), (4, []), (5, [])], [(0, 0, []), (32, 16, []), (48, 64, []), (64, 272, []), (80, 48, []), (96, 49, []), (112, 480, [])], [], 144⟩ (by kernel_rfl))))
   ·refine rg G (cd hm (fun hm => ?_) (fun hm => ?_))
    ·obtain ⟨r8, h12, hm⟩ := obind hm
     obtain ⟨r9, h13, hm⟩ := obind hm
     obtain ⟨e4, h14, hm⟩ := obind hm
     refine de G [(6, [0]), (8, [0]), (11, [49])] (hO 5 (.dn (Enc.e e) (e.Stops.length : Int)) (hP (idx_m2 (f := Enc.e) h2) (hP (len_m Enc.e e.Stops) (hC 6 (s_l1Cur_pick_c h12) (hC 8 (s_l1Cur_pick_c h13) (hE 10 h2 (hP (idx_b (f := Enc.e) h14) (hO 11 (.sd2 (Enc.e e) (Enc.e e4) (List.map Enc.e (e.Stops.set r8.1.toNat (w64 (r9.1 - 1)))) (List.map Enc.e (r.1.Lines.set r1.1.toNat (⟨e.Name, (e.Stops.set r8.1.toNat (w64 (r9.1 - 1))), e.Runs⟩ : Line)))) (hP (idx_m2 (f := Enc.e) h2) (hP (idx_m2 (f := Enc.e) h14) (hP (set_m Enc.e e.Stops r8.1.toNat (w64 (r9.1 - 1))) (hP (set_m Enc.e r.1.Lines r1.1.toNat (⟨e.Name, (e.Stops.set r8.1.toNat (w64 (r9.1 - 1))), e.Runs⟩ : Line)) h0)))))))))))) ?_
     exact ibN (wFp hm (Wk.trans (Wk_S (.c 272 2) (Enc.e (⟨e.Name, (e.Stops.set r8.1.toNat (w64 (r9.1 - 1))), e.Runs⟩ : Line)) (.cons (idx_m2 (f := Enc.e) (l := (r.1.Lines.set r1.1.toNat (⟨e.Name, (e.Stops.set r8.1.toNat (w64 (r9.1 - 1))), e.Runs⟩ : Line))) (i := r1.1) (idx_set (y := (⟨e.Name, (e.Stops.set r8.1.toNat (w64 (r9.1 - 1))), e.Runs⟩ : Line)) h2)) .nil) (by kernel_rfl)) (Wk_J G.hL ⟨[(0, []), (2, []), (3, []), (4, []), (5, [])], [(0, 0, []), (32, 16, []), (48, 64, []), (64, 272, []), (80, 48, []), (96, 49, []), (112, 624, [])], [], 144⟩ (by kernel_rfl))))
    ·refine rg G (cd hm (fun hm => ?_) (fun hm => ?_))
     ·obtain ⟨r12, h18, hm⟩ := obind hm
      obtain ⟨r13, h19, hm⟩ := obind hm
      obtain ⟨e6, h20, hm⟩ := obind hm
      refine de G [(6, [0]), (9, [0, 592]), (11, [49])] (hO 5 (.dn (Enc.e e) (e.Runs.length : Int)) (hP (idx_m2 (f := Enc.e) h2) (hP (len_m Enc.e e.Runs) (hC 6 (s_l1Cur_pick_c h18) (hC 9 (s_l1Cur_among_w_c h19) (hE 10 h2 (hP (idx_b (f := Enc.e) h20) (hO 11 (.sd2 (Enc.e e) (Enc.e e6) (List.map Enc.e (e.Runs.set r12.1.toNat r13.1)) (List.map Enc.e (r.1.Lines.set r1.1.toNat (⟨e.Name, e.Stops, (e.Runs.set r12.1.toNat r13.1)⟩ : Line)))) (hP (idx_m2 (f := Enc.e) h2) (hP (idx_m2 (f := Enc.e) h20) (hP (set_m Enc.e e.Runs r12.1.toNat r13.1) (hP (set_m Enc.e r.1.Lines r1.1.toNat (⟨e.Name, e.Stops, (e.Runs.set r12.1.toNat r13.1)⟩ : Line)) h0)))))))))))) ?_
      exact ibN (wFp hm (Wk.trans (Wk_S (.c 272 2) (Enc.e (⟨e.Name, e.Stops, (e.Runs.set r12.1.toNat r13.1)⟩ : Line)) (.cons (idx_m2 (f := Enc.e) (l := (r.1.Lines.set r1.1.toNat (⟨e.Name, e.Stops, (e.Runs.set r12.1.toNat r13.1)⟩ : Line))) (i := r1.1) (idx_set (y := (⟨e.Name, e.Stops, (e.Runs.set r12.1.toNat r13.1)⟩ : Line)) h2)) .nil) (by kernel_rfl)) (Wk_J G.hL ⟨[(0, []), (2, []), (3, []), (4, []), (5, [])], [(0, 0, []), (32, 16, []), (48, 64, []), (64, 272, []), (80, 48, []), (96, 49, []), (112, 656, [])], [], 144⟩ (by kernel_rfl))))
     ·refine rg G (cd hm (fun hm => ?_) (fun hm => ?_))
      ·obtain ⟨u, h21, hm⟩ := obind hm
       refine re G (hO 3 (.sd (Enc.e e) (List.map Enc.e (e.Runs ++ ([3] : List Int)))) (hP (idx_m2 (f := Enc.e) h2) (hP (app_p (f := Enc.e) (g := Enc.e) (l := e.Runs) (r := ([3] : List Int)) (b := 8) (chk_t h21) rfl) (hP (app_m Enc.e e.Runs ([3] : List Int)) h0)))) ?_
       exact ibN (wF G hm)
      ·refine rg G (cd hm (fun hm => ?_) (fun hm => ?_))
       ·refine rg G (rg G ?_)
        have hm := eR hm hr
        cases hm
        exact rt [48] []
       ·refine rg G (cd hm (fun hm => ?_) (fun hm => ?_))
        ·refine Ok_seq (rg G (tl hm (fun (v13, v14, v15, v16) => ⟨[(0, .ref 0 0), (2, .ref 32 0), (3, .ref 48 0)], [bX 0 72 [dV v13, dV v14, kV .u64 v15], bX 32 42 [.dat (.sc (.slice none 0 0)), .dat (.sc (.slice none 0 0))], bX 48 42 [.own 64, .own 80], aX 64 9 r.1.Stops, tX 80 91 [none, some 3, some 3] v16 80 none], 112⟩) (fun vv hm => ?_) ?_))
         ·refine Ok_block (lp G hm (fun (v7, v8, v9, v10, v11) => ⟨[(0, .ref 0 0), (2, .ref 32 0), (3, .ref 48 0), (6, dV v7)], [bX 0 72 [dV v8, dV v9, kV .u64 v10], bX 32 42 [.dat (.sc (.slice none 0 0)), .dat (.sc (.slice none 0 0))], bX 48 42 [.own 64, .own 80], aX 64 9 r.1.Stops, tX 80 91 [none, some 3, some 3] v11 80 none], 112⟩) ?_)
          rintro ⟨v7, v8, v9, v10, v11⟩ r0 hb hm
          rw [s_l1Cur_anyNetwork_L1] at hm
          refine Ok_seq ?_
          obtain ⟨r16, h23, hm⟩ := obind hm
          refine jn hm (fun v12 => ⟨[(0, .ref 0 0), (2, .ref 32 0), (3, .ref 48 0), (6, dV v7), (85, dV v12)], [bX 0 72 [dV r16.2.code_, dV r16.2.at_, kV .u64 r16.2.seed_.v], bX 32 42 [.dat (.sc (.slice none 0 0)), .dat (.sc (.slice none 0 0))], bX 48 42 [.own 64, .own 80], aX 64 9 r.1.Stops, tX 80 91 [none, some 3, some 3] v11 80 none], 112⟩) (fun v12 hm => ?_) ?_
          ·rcases bf hm with ⟨hb1, hm⟩ | ⟨hb1, hm⟩
           ·refine de G [(4, [0])] (hN 2 v11 (hC 4 (s_l1Cur_pick_c h23) (hO 7 (.b true) (hP hb1 h0)))) ?_
            exact wJ G hm
           ·refine de G [(4, [0])] (hN 2 v11 (hC 4 (s_l1Cur_pick_c h23) (hO 7 (.b false) (hP hb1 h0)))) ?_
            exact wJ G hm
          rintro v12 hm
          refine cd hm (fun hm => ?_) (fun hm => ?_)
          ·refine X_skip (thN (Ok_seq (Ok_block ?_)))
           obtain ⟨r19, h28, hm⟩ := obind hm
           obtain ⟨u3, h29, hm⟩ := obind hm
           obtain ⟨r20, h30, hm⟩ := obind hm
           obtain ⟨u4, h31, hm⟩ := obind hm
           refine de G [(9, [0]), (10, [256, 257]), (11, [80, 272]), (13, [48, 288])] (hC 4 (s_l1Num_c h28) (hP (cat_p (chk_t h29)) (hN 8 r.1.Stops (hC 9 (s_l1Cur_line_c h30) (hP (nodupB_ok (l := [256, 257]) rfl) (hA 11 64 h31 h0)))))) ?_
           exact ibN (thN (rh G (wL G hm)))
          ·exact Ok_exit (thE (thE (ibE (wD G hm hb))))
         rintro ⟨v13, v14, v15, v16⟩ hm s hw
         refine thN (Ok_weak hw ?_)
         refine rg G ?_
         have hm := eR hm hr
         cases hm
         exact rt [64] []
        ·exact X_skip (ibN (wFp hm (Wk.trans (Wk_S (.c 272 2) (Enc.e e) (.cons (idx_m2 (f := Enc.e) (l := r.1.Lines) (i := r1.1) h2) .nil) (by kernel_rfl)) (Wk_J G.hL ⟨[(0, []), (2, []), (3, []), (4, []), (5, [])], [(0, 0, []), (32, 16, []), (48, 64, []), (64, 272, []), (80, 48, []), (96, 49, []), (112, 560, [])], [], 144⟩ (by kernel_rfl)))))
 rintro ⟨v, v1, v2, v3, v4, v5, v6⟩ hm
 obtain ⟨e9, h32, hm⟩ := obind hm
 refine rs G (hD 4 h32 (hS 5 h32 (⟨v3, e9.Stops, v6⟩ : Line) (hP (Eq.refl r1.1.toNat) (hP (Eq.refl r1.1.toNat) h0)))) ?_
 refine rg G ?_
 cases hm
 exact rt [80] []
noncomputable def s_l1Cur_anyTimetable_M : MS l1Cur (Timetable × l1Cur) := ⟨.b 72, s_l1Cur_anyTimetable, fun y => .aggv [.own 0, dV y.1.Network.Lines, .own 1], fun y => [arO 9 y.1.Network.Stops, arO 93 y.1.Trips], fun _ y => [bxO 72 y.2]⟩
theorem s_l1Cur_anyTimetable_c {c y} (hm : s_l1Cur_anyTimetable c = some y) : s_l1Cur_anyTimetable_M.C c y := s_l1Cur_anyTimetable_M.c c hm
theorem s_l1Cur_anyTimetable_ok : FnOK Try.prog tJ 50 s_l1Cur_anyTimetable_M.S := by
 refine fm tt s_l1Cur_anyTimetable_M [fo s_l1Cur_timetable_ok, fo s_l1Cur_pick_ok, fo s_l1Cur_among_ok, fo s_l1Cur_anyNetwork_ok] Try.call50 Try.func50 rfl Try.results50 Try.ntmps50 ?_
 rintro c y cx G hm
 have hm : s_l1Cur_anyTimetable c = some y := hm
 unfold s_l1Cur_anyTimetable at hm
 refine rg G ?_
 obtain ⟨r, h, hm⟩ := obind hm
 refine rs G (hC 1 (s_l1Cur_timetable_c h) h0) ?_
 refine Ok_seq (rs G (hN 2 r.1.Trips h0) ?_)
 refine cd hm (fun hm => ?_) (fun hm => ?_)
 ·refine rg G ?_
  cases hm
  exact rt [48, 50] []
 ·refine X_skip (thN ?_)
  obtain ⟨r1, h1, hm⟩ := obind hm
  refine rs G (hN 3 r.1.Trips (hC 4 (s_l1Cur_pick_c h1) h0)) ?_
  obtain ⟨e, h2, hm⟩ := obind hm
  refine rs G (hD 3 h2 (hE 4 h2 h0)) ?_
  refine jF hm (fun (v, v1, v2, v3, v4, v5, v6, v7) => ⟨[(0, .ref 0 0), (2, .ref 32 0), (3, .ref 48 0), (4, dV r1.1), (5, .ref 64 0)], [bX 0 72 [dV v, dV v1, kV .u64 v2], bX 32 45 [.dat (.sc (.slice none 0 0)), .dat (.sc (.slice none 0 0)), .dat (.sc (.slice none 0 0))], bX 48 45 [.own 80, dV v3, .own 96], bX 64 93 [dV v4, dV v5, dV v6], aX 80 9 v7, aX 96 93 r.1.Trips], 128⟩) (fun v18 hr hm => ?_) ?_
  ·obtain ⟨r2, h3, hm⟩ := obind hm
   refine rs G (hC 1 (s_l1Cur_pick_c h3) h0) ?_
   refine Ok_block (rg G (cd hm (fun hm => ?_) (fun hm => ?_)))
   ·obtain ⟨r3, h4, hm⟩ := obind hm
    refine re G (hO 2 (.fz [448] [] []) (hC 2 (s_l1Cur_among_c h4) h0)) ?_
    exact ibN (wF G hm)
   ·refine rg G (cd hm (fun hm => ?_) (fun hm => ?_))
    ·obtain ⟨r4, h5, hm⟩ := obind hm
     refine re G (hC 1 (s_l1Cur_pick_c h5) h0) ?_
     exact ibN (wF G hm)
    ·refine rg G (cd hm (fun hm => ?_) (fun hm => ?_))
     ·obtain ⟨r5, h6, hm⟩ := obind hm
      refine re G (hO 2 (.fz [512] [] []) (hC 2 (s_l1Cur_among_c h6) h0)) ?_
      exact ibN (wF G hm)
     ·refine rg G (cd hm (fun hm => ?_) (fun hm => ?_))
      ·obtain ⟨r6, h7, hm⟩ := obind hm
       refine re G (hC 1 (s_l1Cur_anyNetwork_c h7) h0) ?_
       exact ibN (wF G hm)
      ·refine rg G (cd hm (fun hm => ?_) (fun hm => ?_))
       ·refine Ok_seq (rg G (tl hm (fun (v14, v15, v16, v17) => ⟨[(0, .ref 0 0), (2, .ref 32 0), (3, .ref 48 0)], [bX 0 72 [dV v14, dV v15, kV .u64 v16], bX 32 45 [.dat (.sc (.slice none 0 0)), .dat (.sc (.slice none 0 0)), .dat (.sc (.slice none 0 0))], bX 48 45 [.own 64, .own 80, .own 96], aX 64 9 r.1.Network.Stops, aX 80 91 r.1.Network.Lines, aX 96 93 v17], 128⟩) (fun vv hm => ?_) ?_))
        ·refine Ok_block (lp G hm (fun (v8, v9, v10, v11, v12) => ⟨[(0, .ref 0 0), (2, .ref 32 0), (3, .ref 48 0), (6, dV v8)], [bX 0 72 [dV v9, dV v10, kV .u64 v11], bX 32 45 [.dat (.sc (.slice none 0 0)), .dat (.sc (.slice none 0 0)), .dat (.sc (.slice none 0 0))], bX 48 45 [.own 64, .own 80, .own 96], aX 64 9 r.1.Network.Stops, aX 80 91 r.1.Network.Lines, aX 96 93 v12], 128⟩) ?_)
         rintro ⟨v8, v9, v10, v11, v12⟩ r0 hb hm
         rw [s_l1Cur_anyTimetable_L1] at hm
         refine Ok_seq ?_
         obtain ⟨r8, h9, hm⟩ := obind hm
         refine jn hm (fun v13 => ⟨[(0, .ref 0 0), (2, .ref 32 0), (3, .ref 48 0), (6, dV v8), (61, dV v13)], [bX 0 72 [dV r8.2.code_, dV r8.2.at_, kV .u64 r8.2.seed_.v], bX 32 45 [.dat (.sc (.slice none 0 0)), .dat (.sc (.slice none 0 0)), .dat (.sc (.slice none 0 0))], bX 48 45 [.own 64, .own 80, .own 96], aX 64 9 r.1.Network.Stops, aX 80 91 r.1.Network.Lines, aX 96 93 v12], 128⟩) (fun v13 hm => ?_) ?_
         ·rcases bf hm with ⟨hb1, hm⟩ | ⟨hb1, hm⟩
          ·refine de G [(4, [0])] (hN 2 v12 (hC 4 (s_l1Cur_pick_c h9) (hO 7 (.b true) (hP hb1 h0)))) ?_
           exact wJ G hm
          ·refine de G [(4, [0])] (hN 2 v12 (hC 4 (s_l1Cur_pick_c h9) (hO 7 (.b false) (hP hb1 h0)))) ?_
           exact wJ G hm
         rintro v13 hm
         refine cd hm (fun hm => ?_) (fun hm => ?_)
         ·refine X_skip (thN (Ok_seq (Ok_block ?_)))
          obtain ⟨u, h10, hm⟩ := obind hm
          refine re G (hA 8 24 h10 h0) ?_
          exact ibN (thN (rh G (wL G hm)))
         ·exact Ok_exit (thE (thE (ibE (wD G hm hb))))
        rintro ⟨v14, v15, v16, v17⟩ hm s hw
        refine thN (Ok_weak hw ?_)
        refine rg G ?_
        have hm := eR hm hr
        cases hm
        exact rt [64, 96] []
       ·exact X_skip (ibN (wF G hm))
  rintro ⟨v, v1, v2, v3, v4, v5, v6, v7⟩ hm
  obtain ⟨e2, h11, hm⟩ := obind hm
  refine rs G (hD 4 h11 (hS 5 h11 (⟨v4, v5, v6⟩ : Trip) h0)) ?_
  refine rg G ?_
  cases hm
  exact rt [80, 96] []
noncomputable def s_l1Cur_delays23_M : MS (l1Cur × Timetable) ((List TripDelay) × l1Cur) := ⟨.x (.b 72) .r, fun x => s_l1Cur_delays23 x.1 x.2, fun _ => .own 0, fun y => [arO 119 y.1], fun _ y => [bxO 72 y.2]⟩
theorem s_l1Cur_delays23_c {c t y} (hm : s_l1Cur_delays23 c t = some y) : s_l1Cur_delays23_M.C (c, t) y := s_l1Cur_delays23_M.c (c, t) hm
theorem s_l1Cur_delays23_ok : FnOK Try.prog tJ 51 s_l1Cur_delays23_M.S := by
 refine fm tt s_l1Cur_delays23_M [fo s_l1Cur_one_ok, fo s_l1Cur_among_w_ok, fo s_l1Cur_pick_ok] Try.call51 Try.func51 rfl Try.results51 Try.ntmps51 ?_
 rintro ⟨c, t⟩ y cx G hm
 have hm : s_l1Cur_delays23 c t = some y := hm
 unfold s_l1Cur_delays23 at hm
 refine rg G (rg G (Ok_seq (rg G (tl hm (fun (v9, v10, v11, v12) => ⟨[(0, .ref 0 0), (5, .own 32)], [bX 0 72 [dV v9, dV v10, kV .u64 v11], aX 32 119 v12], 64⟩) (fun vv2 hm => ?_) ?_))))
 ·refine Ok_block (lp G hm (fun (v, v1, v2, v3, v4) => ⟨[(0, .ref 0 0), (3, .ref 32 0), (5, .own 48), (6, dV v)], [bX 0 72 [dV v1, dV v2, kV .u64 v3], bX 32 45 [dV t.Network.Stops, dV t.Network.Lines, dV t.Trips], aX 48 119 v4], 80⟩) ?_)
  rintro ⟨v, v1, v2, v3, v4⟩ r0 hb hm
  rw [s_l1Cur_delays23_L1] at hm
  refine Ok_seq (rs G (hN 3 t.Trips h0) ?_)
  refine cd hm (fun hm => ?_) (fun hm => ?_)
  ·refine X_skip (thN (jn hm (fun (v5, v6, v7, v8) => ⟨[(0, .ref 0 0), (3, .ref 32 0), (5, .own 48), (6, dV v)], [bX 0 72 [dV v5, dV v6, kV .u64 v7], bX 32 45 [dV t.Network.Stops, dV t.Network.Lines, dV t.Trips], aX 48 119 v8], 80⟩) (fun vv hm => ?_) ?_))
   ·refine Ok_block ?_
    obtain ⟨r, h, hm⟩ := obind hm
    refine rs G (hC 1 (s_l1Cur_one_c h) h0) ?_
    refine cd hm (fun hm => ?_) (fun hm => ?_)
    ·obtain ⟨e1, h4, hm⟩ := obind hm
     obtain ⟨r2, h5, hm⟩ := obind hm
     obtain ⟨u1, h6, hm⟩ := obind hm
     refine de G [(9, [0, 320]), (12, [48, 368])] (hD 4 h4 (hC 9 (s_l1Cur_among_w_c h5) (hA 12 16 h6 h0))) ?_
     exact ibN (wJ G hm)
    ·exact X_skip (ibN (wJ G hm))
   rintro ⟨v5, v6, v7, v8⟩ hm
   exact rh G (wL G hm)
  ·exact Ok_exit (thE (thE (ibE (wD G hm hb))))
 rintro ⟨v9, v10, v11, v12⟩ hm s hw
 refine thN (Ok_weak hw ?_)
 refine jn hm (fun (v13, v14, v15, v16) => ⟨[(0, .ref 0 0), (5, .own 32)], [bX 0 72 [dV v13, dV v14, kV .u64 v15], aX 32 119 v16], 64⟩) (fun vv1 hm => ?_) ?_
 ·obtain ⟨r3, h7, hm⟩ := obind hm
  refine rs G (hC 1 (s_l1Cur_pick_c h7) h0) ?_
  refine Ok_block (rg G (cd hm (fun hm => ?_) (fun hm => ?_)))
  ·obtain ⟨r4, h8, hm⟩ := obind hm
   obtain ⟨u2, h9, hm⟩ := obind hm
   refine re G (hC 3 (s_l1Cur_among_w_c h8) (hA 6 16 h9 h0)) ?_
   exact ibN (wJ G hm)
  ·refine rg G (cd hm (fun hm => ?_) (fun hm => ?_))
   ·refine rs G (hN 1 v12 h0) ?_
    refine cd hm (fun hm => ?_) (fun hm => ?_)
    ·obtain ⟨e4, h13, hm⟩ := obind hm
     obtain ⟨r6, h14, hm⟩ := obind hm
     obtain ⟨e5, h15, hm⟩ := obind hm
     refine de G [(13, [0, 400]), (16, [32])] (hN 2 v12 (hN 6 v12 (hD 8 h13 (hE 10 h13 (hC 13 (s_l1Cur_among_w_c h14) (hD 15 h15 (hS 16 h15 (⟨e4.Id, r6.1⟩ : TripDelay) h0))))))) ?_
     exact ibN (wJ G hm)
    ·exact X_skip (ibN (wJ G hm))
   ·exact X_skip (ibN (wJ G hm))
 rintro ⟨v13, v14, v15, v16⟩ hm
 refine rg G ?_
 cases hm
 exact rt [32] []
noncomputable def s_DrawDelayMessages_M : MS ((List UInt8)) (Timetable × (List TripDelay) × Int) := ⟨.r, s_DrawDelayMessages, fun y => .tup [dV y.1, .own 0, dV y.2.2], fun y => [arO 119 y.2.1], fun _ _ => []⟩
theorem s_DrawDelayMessages_c {code y} (hm : s_DrawDelayMessages code = some y) : s_DrawDelayMessages_M.C code y := s_DrawDelayMessages_M.c code hm
theorem s_DrawDelayMessages_ok : FnOK Try.prog tJ 17 s_DrawDelayMessages_M.S := by
 refine fm tt s_DrawDelayMessages_M [fo s_l1Cur_anyTimetable_ok, fo s_l1Cur_delays23_ok, fo s_l1Cur_pick_ok, fo s_l1Cur_among_w_ok] Try.call17 Try.func17 rfl Try.results17 Try.ntmps17 ?_
 rintro code y cx G hm
 have hm : s_DrawDelayMessages code = some y := hm
 unfold s_DrawDelayMessages at hm
 refine rg G (rg G ?_)
 obtain ⟨r, h, hm⟩ := obind hm
 refine rs G (hC 1 (s_l1Cur_anyTimetable_c h) h0) ?_
 obtain ⟨r1, h1, hm⟩ := obind hm
 refine rs G (hO 2 (.fz [144, 145] [] []) (hC 2 (s_l1Cur_delays23_c h1) h0)) ?_
 obtain ⟨r4, h6, hm⟩ := obind hm
 obtain ⟨u2, h7, hm⟩ := obind hm
 obtain ⟨u3, h8, hm⟩ := obind hm
 obtain ⟨r5, h9, hm⟩ := obind hm
 refine ds G [(5, [96]), (8, [304]), (9, [96, 384]), (10, [16])] (hC 5 (s_l1Cur_pick_c h6) (hK h7 (hU 8 h8 (hC 9 (s_l1Cur_among_w_c h9) h0)))) ?_
 cases hm
 exact rt [224] []
noncomputable def slices_Index_string_M : MS ((List ByteArray) × ByteArray) Int := ⟨.x .r .r, fun x => slices_Index_string x.1 x.2, fun y => dV y, fun _ => [], fun _ _ => []⟩
theorem slices_Index_string_c {s v y} (hm : slices_Index_string s v = some y) : slices_Index_string_M.C (s, v) y := slices_Index_string_M.c (s, v) hm
theorem slices_Index_string_ok : FnOK Try.prog tJ 134 slices_Index_string_M.S := by
 refine fm tt slices_Index_string_M [] Try.call134 Try.func134 rfl Try.results134 Try.ntmps134 ?_
 rintro ⟨s, v⟩ y cx G hm
 have hm : slices_Index_string s v = some y := hm
 unfold slices_Index_string at hm
 refine rg G (Ok_seq (rs G (hN 1 s h0) ?_))
 refine tF hm (fun _ => ⟨[], [], 32⟩) (fun v2 hr hm => ?_) ?_
 ·refine Ok_block (lp G hm (fun v1 => ⟨[(0, dV s), (1, dV v), (7, dV (s.length : Int)), (8, dV v1)], [], 32⟩) ?_)
  rintro v1 r0 hb hm
  rw [slices_Index_string_L1] at hm
  refine rg G (Ok_seq (cd hm (fun hm => ?_) (fun hm => ?_)))
  ·refine X_skip (thN (Ok_seq (Ok_block (rg G ?_))))
   obtain ⟨e, h, hm⟩ := obind hm
   refine rs G (hD 3 h h0) ?_
   refine cd hm (fun hm => ?_) (fun hm => ?_)
   ·refine rg G ?_
    have hm := eL hm hb hr
    cases hm
    exact rt [] []
   ·exact X_skip (ibN (thN (rh G (wL G hm))))
  ·exact Ok_exit (thE (thE (ibE (wE G hm hb))))
 rintro ⟨⟩ hm s1 hw
 refine thN (Ok_weak hw ?_)
 refine rg G ?_
 cases hm
 exact rt [] []
noncomputable def i_areNames_M : MS ((List ByteArray)) Bool := ⟨.r, i_areNames, fun y => dV y, fun _ => [], fun _ _ => []⟩
theorem i_areNames_c {names y} (hm : i_areNames names = some y) : i_areNames_M.C names y := i_areNames_M.c names hm
theorem i_areNames_ok : FnOK Try.prog tJ 113 i_areNames_M.S := by
 refine fm tt i_areNames_M [fo i_isName_ok, fo slices_Index_string_ok] Try.call113 Try.func113 rfl Try.results113 Try.ntmps113 ?_
 rintro names y cx G hm
 have hm : i_areNames names = some y := hm
 unfold i_areNames at hm
 refine rg G (Ok_seq (rs G (hN 1 names h0) ?_))
 refine tF hm (fun _ => ⟨[], [], 32⟩) (fun v2 hr hm => ?_) ?_
 ·refine Ok_block (lp G hm (fun v => ⟨[(0, dV names), (5, dV names), (6, dV (names.length : Int)), (7, dV v)], [], 32⟩) ?_)
  rintro v r0 hb hm
  rw [i_areNames_L1] at hm
  refine rg G (Ok_seq (cd hm (fun hm => ?_) (fun hm => ?_)))
  ·refine X_skip (thN (Ok_seq (Ok_block ?_)))
   obtain ⟨e, h, hm⟩ := obind hm
   refine rs G (hD 1 h h0) ?_
   obtain ⟨r, h1, hm⟩ := obind hm
   refine jn hm (fun v1 => ⟨[(0, dV names), (5, dV names), (6, dV (names.length : Int)), (7, dV v), (21, dV v1)], [], 32⟩) (fun v1 hm => ?_) ?_
   ·rcases bf hm with ⟨hb1, hm⟩ | ⟨hb1, hm⟩
    ·refine re G (hC 1 (i_isName_c h1) (hO 3 (.b true) (hP hb1 h0))) ?_
     exact wJ G hm
    ·obtain ⟨r1, h2, hm⟩ := obind hm
     refine re G (hC 1 (i_isName_c h1) (hO 3 (.b false) (hP hb1 (hC 6 (slices_Index_string_c h2) h0)))) ?_
     exact wJ G hm
   rintro v1 hm
   refine cd hm (fun hm => ?_) (fun hm => ?_)
   ·refine rg G ?_
    have hm := eL hm hb hr
    cases hm
    exact rt [] []
   ·exact X_skip (ibN (thN (rh G (wL G hm))))
  ·exact Ok_exit (thE (thE (ibE (wE G hm hb))))
 rintro ⟨⟩ hm s hw
 refine thN (Ok_weak hw ?_)
 refine rg G ?_
 cases hm
 exact rt [] []
noncomputable def i_lineNames_M : MS Network ((List ByteArray)) := ⟨.r, i_lineNames, fun _ => .own 0, fun y => [arO 9 y], fun _ _ => []⟩
theorem i_lineNames_c {n y} (hm : i_lineNames n = some y) : i_lineNames_M.C n y := i_lineNames_M.c n hm
theorem i_lineNames_ok : FnOK Try.prog tJ 114 i_lineNames_M.S := by
 refine fm tt i_lineNames_M [] Try.call114 Try.func114 rfl Try.results114 Try.ntmps114 ?_
 rintro n y cx G hm
 have hm : i_lineNames n = some y := hm
 unfold i_lineNames at hm
 refine rg G ?_
 obtain ⟨u, h, hm⟩ := obind hm
 refine rs G (hN 2 n.Lines (hO 3 (.l (List.map Enc.e (List.replicate (n.Lines.length : Int).toNat (ByteArray.empty : ByteArray)))) (hP (mk_p (b := 16) (chk_t h) rfl) (hP (rep_m Enc.e (n.Lines.length : Int).toNat (ByteArray.empty : ByteArray)) h0)))) ?_
 refine Ok_seq (rs G (hN 2 n.Lines h0) ?_)
 refine tl hm (fun i1 => ⟨[(3, .own 16)], [aX 16 9 i1], 48⟩) (fun i1 hm => ?_) ?_
 ·refine Ok_block (lp G hm (fun (v, i) => ⟨[(3, .own 16), (11, dV n.Lines), (12, dV (n.Lines.length : Int)), (13, dV v)], [aX 16 9 i], 48⟩) ?_)
  rintro ⟨v, i⟩ r0 hb hm
  rw [i_lineNames_L1] at hm
  refine rg G (Ok_seq (cd hm (fun hm => ?_) (fun hm => ?_)))
  ·refine X_skip (thN (Ok_seq (Ok_block ?_)))
   obtain ⟨e, h1, hm⟩ := obind hm
   refine rs G (hD 1 h1 h0) ?_
   obtain ⟨e1, h2, hm⟩ := obind hm
   refine re G (hD 4 h2 (hS 5 h2 e.Name h0)) ?_
   exact ibN (thN (rh G (wL G hm)))
  ·exact Ok_exit (thE (thE (ibE (wD G hm hb))))
 rintro i1 hm s hw
 refine thN (Ok_weak hw ?_)
 refine rg G ?_
 cases hm
 exact rt [16] []
noncomputable def i_isStop_M : MS (Network × Int) Bool := ⟨.x .r .r, fun x => i_isStop x.1 x.2, fun y => dV y, fun _ => [], fun _ _ => []⟩
theorem i_isStop_c {n stop y} (hm : i_isStop n stop = some y) : i_isStop_M.C (n, stop) y := i_isStop_M.c (n, stop) hm
theorem i_isStop_ok : FnOK Try.prog tJ 91 i_isStop_M.S := by
 refine fm tt i_isStop_M [] Try.call91 Try.func91 rfl Try.results91 Try.ntmps91 ?_
 rintro ⟨n, stop⟩ y cx G hm
 have hm : i_isStop n stop = some y := hm
 unfold i_isStop at hm
 refine rg G (jn hm (fun v => ⟨[(4, dV v)], [], 32⟩) (fun v hm => ?_) ?_)
 ·rcases bf hm with ⟨hb, hm⟩ | ⟨hb, hm⟩
  ·refine re G (hO 2 (.b true) (hP hb (hN 6 n.Stops h0))) ?_
   exact wJ G hm
  ·refine re G (hO 2 (.b false) (hP hb h0)) ?_
   exact wJ G hm
 rintro v hm
 cases hm
 exact rt [] []
noncomputable def slices_Index_int_M : MS ((List Int) × Int) Int := ⟨.x .r .r, fun x => slices_Index_int x.1 x.2, fun y => dV y, fun _ => [], fun _ _ => []⟩
theorem slices_Index_int_c {s v y} (hm : slices_Index_int s v = some y) : slices_Index_int_M.C (s, v) y := slices_Index_int_M.c (s, v) hm
theorem slices_Index_int_ok : FnOK Try.prog tJ 95 slices_Index_int_M.S := by
 refine fm tt slices_Index_int_M [] Try.call95 Try.func95 rfl Try.results95 Try.ntmps95 ?_
 rintro ⟨s, v⟩ y cx G hm
 have hm : slices_Index_int s v = some y := hm
 unfold slices_Index_int at hm
 refine rg G (Ok_seq (rs G (hN 1 s h0) ?_))
 refine tF hm (fun _ => ⟨[], [], 32⟩) (fun v2 hr hm => ?_) ?_
 ·refine Ok_block (lp G hm (fun v1 => ⟨[(0, dV s), (1, dV v), (7, dV (s.length : Int)), (8, dV v1)], [], 32⟩) ?_)
  rintro v1 r0 hb hm
  rw [slices_Index_int_L1] at hm
  refine rg G (Ok_seq (cd hm (fun hm => ?_) (fun hm => ?_)))
  ·refine X_skip (thN (Ok_seq (Ok_block (rg G ?_))))
   obtain ⟨e, h, hm⟩ := obind hm
   refine rs G (hD 3 h h0) ?_
   refine cd hm (fun hm => ?_) (fun hm => ?_)
   ·refine rg G ?_
    have hm := eL hm hb hr
    cases hm
    exact rt [] []
   ·exact X_skip (ibN (thN (rh G (wL G hm))))
  ·exact Ok_exit (thE (thE (ibE (wE G hm hb))))
 rintro ⟨⟩ hm s1 hw
 refine thN (Ok_weak hw ?_)
 refine rg G ?_
 cases hm
 exact rt [] []
noncomputable def i_isValidLine_M : MS (Network × Line) Bool := ⟨.x .r .r, fun x => i_isValidLine x.1 x.2, fun y => dV y, fun _ => [], fun _ _ => []⟩
theorem i_isValidLine_c {n l y} (hm : i_isValidLine n l = some y) : i_isValidLine_M.C (n, l) y := i_isValidLine_M.c (n, l) hm
theorem i_isValidLine_ok : FnOK Try.prog tJ 115 i_isValidLine_M.S := by
 refine fm tt i_isValidLine_M [fo i_within_ok, fo i_isStop_ok, fo slices_Index_int_ok] Try.call115 Try.func115 rfl Try.results115 Try.ntmps115 ?_
 rintro ⟨n, l⟩ y cx G hm
 have hm : i_isValidLine n l = some y := hm
 unfold i_isValidLine at hm
 refine rg G (Ok_seq ?_)
 obtain ⟨r, h, hm⟩ := obind hm
 refine jn hm (fun v => ⟨[(2, .ref 16 0), (3, .ref 32 0), (23, dV v)], [bX 16 42 [dV n.Stops, dV n.Lines], bX 32 91 [dV l.Name, dV l.Stops, dV l.Runs]], 64⟩) (fun v hm => ?_) ?_
 ·rcases bf hm with ⟨hb, hm⟩ | ⟨hb, hm⟩
  ·refine re G (hN 2 l.Stops (hC 3 (i_within_c h) (hO 5 (.b true) (hP hb h0)))) ?_
   exact wJ G hm
  ·refine re G (hN 2 l.Stops (hC 3 (i_within_c h) (hO 5 (.b false) (hP hb (hN 8 l.Runs (hN 11 l.Stops h0)))))) ?_
   exact wJ G hm
 rintro v hm
 refine cd hm (fun hm => ?_) (fun hm => ?_)
 ·refine rg G ?_
  cases hm
  exact rt [] []
 ·refine X_skip (thN (Ok_seq (rs G (hN 2 l.Stops h0) ?_)))
  refine tF hm (fun _ => ⟨[(3, .ref 16 0)], [bX 16 91 [dV l.Name, dV l.Stops, dV l.Runs]], 48⟩) (fun v5 hr hm => ?_) ?_
  ·refine Ok_block (lp G hm (fun v1 => ⟨[(2, .ref 16 0), (3, .ref 32 0), (25, dV l.Stops), (26, dV (l.Stops.length : Int)), (27, dV v1)], [bX 16 42 [dV n.Stops, dV n.Lines], bX 32 91 [dV l.Name, dV l.Stops, dV l.Runs]], 64⟩) ?_)
   rintro v1 r0 hb1 hm
   rw [i_isValidLine_L1] at hm
   refine rg G (Ok_seq (cd hm (fun hm => ?_) (fun hm => ?_)))
   ·refine X_skip (thN (Ok_seq (Ok_block ?_)))
    obtain ⟨e, h1, hm⟩ := obind hm
    refine rs G (hD 1 h1 h0) ?_
    obtain ⟨r1, h2, hm⟩ := obind hm
    refine jn hm (fun v2 => ⟨[(2, .ref 16 0), (3, .ref 32 0), (25, dV l.Stops), (26, dV (l.Stops.length : Int)), (27, dV v1), (43, dV v2)], [bX 16 42 [dV n.Stops, dV n.Lines], bX 32 91 [dV l.Name, dV l.Stops, dV l.Runs]], 64⟩) (fun v2 hm => ?_) ?_
    ·rcases bf hm with ⟨hb2, hm⟩ | ⟨hb2, hm⟩
     ·refine re G (hC 2 (i_isStop_c h2) (hO 4 (.b true) (hP hb2 h0))) ?_
      exact wJ G hm
     ·obtain ⟨r2, h3, hm⟩ := obind hm
      refine re G (hC 2 (i_isStop_c h2) (hO 4 (.b false) (hP hb2 (hC 8 (slices_Index_int_c h3) h0)))) ?_
      exact wJ G hm
    rintro v2 hm
    refine cd hm (fun hm => ?_) (fun hm => ?_)
    ·refine rg G ?_
     have hm := eL hm hb1 hr
     cases hm
     exact rt [] []
    ·exact X_skip (ibN (thN (rh G (wL G hm))))
   ·exact Ok_exit (thE (thE (ibE (wE G hm hb1))))
  rintro ⟨⟩ hm s hw
  refine thN (Ok_weak hw ?_)
  refine Ok_seq (rs G (hN 2 l.Runs h0) ?_)
  refine tF hm (fun _ => ⟨[], [], 32⟩) (fun v4 hr1 hm => ?_) ?_
  ·refine Ok_block (lp G hm (fun v3 => ⟨[(46, dV l.Runs), (47, dV (l.Runs.length : Int)), (48, dV v3)], [], 32⟩) ?_)
   rintro v3 r0 hb3 hm
   rw [i_isValidLine_L2] at hm
   refine rg G (Ok_seq (cd hm (fun hm => ?_) (fun hm => ?_)))
   ·refine X_skip (thN (Ok_seq (Ok_block ?_)))
    obtain ⟨e2, h4, hm⟩ := obind hm
    refine rs G (hD 0 h4 h0) ?_
    obtain ⟨r4, h5, hm⟩ := obind hm
    refine rs G (hC 1 (i_within_c h5) h0) ?_
    refine cd hm (fun hm => ?_) (fun hm => ?_)
    ·refine rg G ?_
     have hm := eL hm hb3 hr1
     cases hm
     exact rt [] []
    ·exact X_skip (ibN (thN (rh G (wL G hm))))
   ·exact Ok_exit (thE (thE (ibE (wE G hm hb3))))
  rintro ⟨⟩ hm s1 hw1
  refine thN (Ok_weak hw1 ?_)
  refine rg G ?_
  cases hm
  exact rt [] []
noncomputable def i_IsValidNetwork_M : MS Network Bool := ⟨.r, i_IsValidNetwork, fun y => dV y, fun _ => [], fun _ _ => []⟩
theorem i_IsValidNetwork_c {n y} (hm : i_IsValidNetwork n = some y) : i_IsValidNetwork_M.C n y := i_IsValidNetwork_M.c n hm
theorem i_IsValidNetwork_ok : FnOK Try.prog tJ 98 i_IsValidNetwork_M.S := by
 refine fm tt i_IsValidNetwork_M [fo i_within_ok, fo i_areNames_ok, fo i_lineNames_ok, fo i_isValidLine_ok] Try.call98 Try.func98 rfl Try.results98 Try.ntmps98 ?_
 rintro n y cx G hm
 have hm : i_IsValidNetwork n = some y := hm
 unfold i_IsValidNetwork at hm
 refine rg G (Ok_seq ?_)
 obtain ⟨r, h, hm⟩ := obind hm
 refine jn hm (fun v => ⟨[(1, .ref 16 0), (28, dV v)], [bX 16 42 [dV n.Stops, dV n.Lines]], 48⟩) (fun v hm => ?_) ?_
 ·rcases bf hm with ⟨hb, hm⟩ | ⟨hb, hm⟩
  ·refine re G (hN 2 n.Stops (hC 3 (i_within_c h) (hO 5 (.b true) (hP hb h0)))) ?_
   exact wJ G hm
  ·obtain ⟨r1, h1, hm⟩ := obind hm
   rcases bf hm with ⟨hb1, hm⟩ | ⟨hb1, hm⟩
   ·refine re G (hN 2 n.Stops (hC 3 (i_within_c h) (hO 5 (.b false) (hP hb (hN 8 n.Lines (hC 9 (i_within_c h1) (hO 12 (.b true) (hP hb1 h0)))))))) ?_
    exact wJ G hm
   ·obtain ⟨r2, h2, hm⟩ := obind hm
    rcases bf hm with ⟨hb2, hm⟩ | ⟨hb2, hm⟩
    ·refine re G (hN 2 n.Stops (hC 3 (i_within_c h) (hO 5 (.b false) (hP hb (hN 8 n.Lines (hC 9 (i_within_c h1) (hO 12 (.b false) (hP hb1 (hC 15 (i_areNames_c h2) (hO 18 (.b true) (hP hb2 h0))))))))))) ?_
     exact wJ G hm
    ·obtain ⟨r3, h3, hm⟩ := obind hm
     obtain ⟨r4, h4, hm⟩ := obind hm
     refine re G (hN 2 n.Stops (hC 3 (i_within_c h) (hO 5 (.b false) (hP hb (hN 8 n.Lines (hC 9 (i_within_c h1) (hO 12 (.b false) (hP hb1 (hC 15 (i_areNames_c h2) (hO 18 (.b false) (hP hb2 (hC 20 (i_lineNames_c h3) (hC 21 (i_areNames_c h4) h0))))))))))))) ?_
     exact wJ G hm
 rintro v hm
 refine cd hm (fun hm => ?_) (fun hm => ?_)
 ·refine rg G ?_
  cases hm
  exact rt [] []
 ·refine X_skip (thN (Ok_seq (rs G (hN 2 n.Lines h0) ?_)))
  refine tF hm (fun _ => ⟨[], [], 32⟩) (fun v2 hr hm => ?_) ?_
  ·refine Ok_block (lp G hm (fun v1 => ⟨[(1, .ref 16 0), (30, dV n.Lines), (31, dV (n.Lines.length : Int)), (32, dV v1)], [bX 16 42 [dV n.Stops, dV n.Lines]], 48⟩) ?_)
   rintro v1 r0 hb3 hm
   rw [i_IsValidNetwork_L1] at hm
   refine rg G (Ok_seq (cd hm (fun hm => ?_) (fun hm => ?_)))
   ·refine X_skip (thN (Ok_seq (Ok_block ?_)))
    obtain ⟨e, h5, hm⟩ := obind hm
    refine rs G (hD 0 h5 h0) ?_
    obtain ⟨r5, h6, hm⟩ := obind hm
    refine rs G (hC 2 (i_isValidLine_c h6) h0) ?_
    refine cd hm (fun hm => ?_) (fun hm => ?_)
    ·refine rg G ?_
     have hm := eL hm hb3 hr
     cases hm
     exact rt [] []
    ·exact X_skip (ibN (thN (rh G (wL G hm))))
   ·exact Ok_exit (thE (thE (ibE (wE G hm hb3))))
  rintro ⟨⟩ hm s hw
  refine thN (Ok_weak hw ?_)
  refine rg G ?_
  cases hm
  exact rt [] []
noncomputable def i_isLine_M : MS (Network × Int) Bool := ⟨.x .r .r, fun x => i_isLine x.1 x.2, fun y => dV y, fun _ => [], fun _ _ => []⟩
theorem i_isLine_c {n line y} (hm : i_isLine n line = some y) : i_isLine_M.C (n, line) y := i_isLine_M.c (n, line) hm
theorem i_isLine_ok : FnOK Try.prog tJ 99 i_isLine_M.S := by
 refine fm tt i_isLine_M [] Try.call99 Try.func99 rfl Try.results99 Try.ntmps99 ?_
 rintro ⟨n, line⟩ y cx G hm
 have hm : i_isLine n line = some y := hm
 unfold i_isLine at hm
 refine rg G (jn hm (fun v => ⟨[(4, dV v)], [], 32⟩) (fun v hm => ?_) ?_)
 ·rcases bf hm with ⟨hb, hm⟩ | ⟨hb, hm⟩
  ·refine re G (hO 2 (.b true) (hP hb (hN 6 n.Lines h0))) ?_
   exact wJ G hm
  ·refine re G (hO 2 (.b false) (hP hb h0)) ?_
   exact wJ G hm
 rintro v hm
 cases hm
 exact rt [] []
noncomputable def i_total_M : MS ((List Int)) Int := ⟨.r, i_total, fun y => dV y, fun _ => [], fun _ _ => []⟩
theorem i_total_c {list y} (hm : i_total list = some y) : i_total_M.C list y := i_total_M.c list hm
theorem i_total_ok : FnOK Try.prog tJ 96 i_total_M.S := by
 refine fm tt i_total_M [] Try.call96 Try.func96 rfl Try.results96 Try.ntmps96 ?_
 rintro list y cx G hm
 have hm : i_total list = some y := hm
 unfold i_total at hm
 refine rg G (rg G (Ok_seq (rs G (hN 1 list h0) ?_)))
 refine tl hm (fun v2 => ⟨[(3, dV v2)], [], 32⟩) (fun v2 hm => ?_) ?_
 ·refine Ok_block (lp G hm (fun (v, v1) => ⟨[(3, dV v), (6, dV list), (7, dV (list.length : Int)), (8, dV v1)], [], 32⟩) ?_)
  rintro ⟨v, v1⟩ r0 hb hm
  rw [i_total_L1] at hm
  refine rg G (Ok_seq (cd hm (fun hm => ?_) (fun hm => ?_)))
  ·refine X_skip (thN (Ok_seq (Ok_block ?_)))
   obtain ⟨e, h, hm⟩ := obind hm
   refine rs G (hD 0 h h0) ?_
   exact rh G (ibN (thN (rh G (wL G hm))))
  ·exact Ok_exit (thE (thE (ibE (wD G hm hb))))
 rintro v2 hm s hw
 refine thN (Ok_weak hw ?_)
 refine rg G ?_
 cases hm
 exact rt [] []
noncomputable def i_endOf_M : MS (Timetable × Trip) Int := ⟨.x .r .r, fun x => i_endOf x.1 x.2, fun y => dV y, fun _ => [], fun _ _ => []⟩
theorem i_endOf_c {t x y} (hm : i_endOf t x = some y) : i_endOf_M.C (t, x) y := i_endOf_M.c (t, x) hm
theorem i_endOf_ok : FnOK Try.prog tJ 118 i_endOf_M.S := by
 refine fm tt i_endOf_M [fo i_total_ok] Try.call118 Try.func118 rfl Try.results118 Try.ntmps118 ?_
 rintro ⟨t, x⟩ y cx G hm
 have hm : i_endOf t x = some y := hm
 unfold i_endOf at hm
 refine rg G ?_
 obtain ⟨e1, h2, hm⟩ := obind hm
 obtain ⟨r1, h3, hm⟩ := obind hm
 refine ds G [] (hD 7 h2 (hC 10 (i_total_c h3) h0)) ?_
 cases hm
 exact rt [] []
noncomputable def i_areTrips_M : MS Timetable Bool := ⟨.r, i_areTrips, fun y => dV y, fun _ => [], fun _ _ => []⟩
theorem i_areTrips_c {t y} (hm : i_areTrips t = some y) : i_areTrips_M.C t y := i_areTrips_M.c t hm
theorem i_areTrips_ok : FnOK Try.prog tJ 105 i_areTrips_M.S := by
 refine fm tt i_areTrips_M [fo i_isLine_ok, fo i_IsValidTime_ok, fo i_endOf_ok] Try.call105 Try.func105 rfl Try.results105 Try.ntmps105 ?_
 rintro t y cx G hm
 have hm : i_areTrips t = some y := hm
 unfold i_areTrips at hm
 refine rg G (Ok_seq (rs G (hN 2 t.Trips h0) ?_))
 refine cd hm (fun hm => ?_) (fun hm => ?_)
 ·refine rg G ?_
  cases hm
  exact rt [] []
 ·refine X_skip (thN (rg G (Ok_seq (rs G (hN 2 t.Trips h0) ?_))))
  refine tF hm (fun _ => ⟨[], [], 32⟩) (fun v3 hr hm => ?_) ?_
  ·refine Ok_block (lp G hm (fun (v, v1) => ⟨[(1, .ref 16 0), (3, dV v), (11, dV t.Trips), (12, dV (t.Trips.length : Int)), (13, dV v1)], [bX 16 45 [dV t.Network.Stops, dV t.Network.Lines, dV t.Trips]], 48⟩) ?_)
   rintro ⟨v, v1⟩ r0 hb hm
   rw [i_areTrips_L1] at hm
   refine rg G (Ok_seq (cd hm (fun hm => ?_) (fun hm => ?_)))
   ·refine X_skip (thN (Ok_seq (Ok_block ?_)))
    obtain ⟨e, h, hm⟩ := obind hm
    refine rs G (hD 0 h h0) ?_
    refine Ok_seq (jn hm (fun v2 => ⟨[(1, .ref 16 0), (5, .ref 32 0), (11, dV t.Trips), (12, dV (t.Trips.length : Int)), (13, dV v1), (46, dV v2)], [bX 16 45 [dV t.Network.Stops, dV t.Network.Lines, dV t.Trips], bX 32 93 [dV e.Id, dV e.Line, dV e.Start]], 64⟩) (fun v2 hm => ?_) ?_)
    ·rcases bf hm with ⟨hb1, hm⟩ | ⟨hb1, hm⟩
     ·refine re G (hO 4 (.b true) (hP hb1 h0)) ?_
      exact wJ G hm
     ·rcases bf hm with ⟨hb2, hm⟩ | ⟨hb2, hm⟩
      ·refine re G (hO 4 (.b false) (hP hb1 (hO 9 (.b true) (hP hb2 h0)))) ?_
       exact wJ G hm
      ·obtain ⟨r, h1, hm⟩ := obind hm
       rcases bf hm with ⟨hb3, hm⟩ | ⟨hb3, hm⟩
       ·refine re G (hO 4 (.b false) (hP hb1 (hO 9 (.b false) (hP hb2 (hC 14 (i_isLine_c h1) (hO 17 (.b true) (hP hb3 h0))))))) ?_
        exact wJ G hm
       ·obtain ⟨r1, h2, hm⟩ := obind hm
        rcases bf hm with ⟨hb4, hm⟩ | ⟨hb4, hm⟩
        ·refine re G (hO 4 (.b false) (hP hb1 (hO 9 (.b false) (hP hb2 (hC 14 (i_isLine_c h1) (hO 17 (.b false) (hP hb3 (hC 20 (i_IsValidTime_c h2) (hO 23 (.b true) (hP hb4 h0)))))))))) ?_
         exact wJ G hm
        ·obtain ⟨r2, h3, hm⟩ := obind hm
         obtain ⟨r3, h4, hm⟩ := obind hm
         refine re G (hO 4 (.b false) (hP hb1 (hO 9 (.b false) (hP hb2 (hC 14 (i_isLine_c h1) (hO 17 (.b false) (hP hb3 (hC 20 (i_IsValidTime_c h2) (hO 23 (.b false) (hP hb4 (hC 26 (i_endOf_c h3) (hC 27 (i_IsValidTime_c h4) h0)))))))))))) ?_
         exact wJ G hm
    rintro v2 hm
    refine cd hm (fun hm => ?_) (fun hm => ?_)
    ·refine rg G ?_
     have hm := eL hm hb hr
     cases hm
     exact rt [] []
    ·exact X_skip (thN (rh G (ibN (thN (rh G (wL G hm))))))
   ·exact Ok_exit (thE (thE (ibE (wE G hm hb))))
  rintro ⟨⟩ hm s hw
  refine thN (Ok_weak hw ?_)
  refine rg G ?_
  cases hm
  exact rt [] []
noncomputable def i_IsValidTimetable_M : MS Timetable Bool := ⟨.r, i_IsValidTimetable, fun y => dV y, fun _ => [], fun _ _ => []⟩
theorem i_IsValidTimetable_c {t y} (hm : i_IsValidTimetable t = some y) : i_IsValidTimetable_M.C t y := i_IsValidTimetable_M.c t hm
theorem i_IsValidTimetable_ok : FnOK Try.prog tJ 86 i_IsValidTimetable_M.S := by
 refine fm tt i_IsValidTimetable_M [fo i_IsValidNetwork_ok, fo i_areTrips_ok] Try.call86 Try.func86 rfl Try.results86 Try.ntmps86 ?_
 rintro t y cx G hm
 have hm : i_IsValidTimetable t = some y := hm
 unfold i_IsValidTimetable at hm
 refine rg G ?_
 obtain ⟨r, h, hm⟩ := obind hm
 refine jn hm (fun v => ⟨[(2, dV v)], [], 32⟩) (fun v hm => ?_) ?_
 ·rcases bf hm with ⟨hb, hm⟩ | ⟨hb, hm⟩
  ·obtain ⟨r1, h1, hm⟩ := obind hm
   refine re G (hC 2 (i_IsValidNetwork_c h) (hO 3 (.b true) (hP hb (hC 5 (i_areTrips_c h1) h0)))) ?_
   exact wJ G hm
  ·refine re G (hC 2 (i_IsValidNetwork_c h) (hO 3 (.b false) (hP hb h0))) ?_
   exact wJ G hm
 rintro v hm
 cases hm
 exact rt [] []
noncomputable def i_tripIndex_1_M : MS (Trip × Int) Bool := ⟨.x .r (.b 3), fun x => i_tripIndex_1 x.1 x.2, fun y => dV y, fun _ => [], fun x _ => [bxO 3 x.2]⟩
theorem i_tripIndex_1_c {x c1 y} (hm : i_tripIndex_1 x c1 = some y) : i_tripIndex_1_M.C (x, c1) y := i_tripIndex_1_M.c (x, c1) hm
theorem i_tripIndex_1_ok : FnOK Try.prog tJ 120 i_tripIndex_1_M.S := by
 refine fm tt i_tripIndex_1_M [] Try.call120 Try.func120 rfl Try.results120 Try.ntmps120 ?_
 rintro ⟨x, c1⟩ y cx G hm
 have hm : i_tripIndex_1 x c1 = some y := hm
 unfold i_tripIndex_1 at hm
 refine rg G (rg G ?_)
 cases hm
 exact rt [] []
noncomputable def slices_IndexFunc_Trip__i_tripIndex_1_M : MS ((List Trip) × Int) Int := ⟨⟨[.rd, .fn 120 [.bx]], fun x => [Enc.e x.1, .agg [.sc undef]], fun x => [bxO 3 x.2], 1, 1, fun _ => rfl, fun _ => rfl, rfl, (by
  rintro ⟨a0, a1⟩ ⟨b0, b1⟩ h hO
  have q0 : a0 = b0 := qI 0 h
  have q1 : a1 = b1 := Enc.inj _ _ (congrArg (fun l => (obD l 0).getD 0 (.sc undef)) hO)
  subst q0; subst q1; rfl)⟩, fun x => slices_IndexFunc_Trip__i_tripIndex_1 x.1 x.2, fun y => dV y, fun _ => [], fun x _ => [bxO 3 x.2]⟩
theorem slices_IndexFunc_Trip__i_tripIndex_1_c {s c1 y} (hm : slices_IndexFunc_Trip__i_tripIndex_1 s c1 = some y) : slices_IndexFunc_Trip__i_tripIndex_1_M.C (s, c1) y := slices_IndexFunc_Trip__i_tripIndex_1_M.c (s, c1) hm
theorem slices_IndexFunc_Trip__i_tripIndex_1_ok : FnOK Try.prog tJ 119 slices_IndexFunc_Trip__i_tripIndex_1_M.S := by
 refine fm tt slices_IndexFunc_Trip__i_tripIndex_1_M [fo i_tripIndex_1_ok] Try.call119 Try.func119 rfl Try.results119 Try.ntmps119 ?_
 rintro ⟨s, c1⟩ y cx G hm
 have hm : slices_IndexFunc_Trip__i_tripIndex_1 s c1 = some y := hm
 obtain ⟨f, hf_f⟩ : ∃ q, (fun (z0 : Trip) => i_tripIndex_1 z0 c1) = q := ⟨_, rfl⟩
 have hm : slices_IndexFunc_Trip s f = some y := by rw [← hf_f]; exact hm
 unfold slices_IndexFunc_Trip at hm
 refine rg G (Ok_seq (rs G (hN 1 s h0) ?_))
 refine tF hm (fun _ => ⟨[(1, .fn 120 [.ref 0 0])], [bX 0 3 [dV c1]], 48⟩) (fun v1 hr hm => ?_) ?_
 ·refine Ok_block (lp G hm (fun v => ⟨[(0, dV s), (1, .fn 120 [.ref 0 0]), (7, dV (s.length : Int)), (8, dV v)], [bX 0 3 [dV c1]], 48⟩) ?_)
  rintro v r0 hb hm
  rw [slices_IndexFunc_Trip_L1] at hm
  refine rg G (Ok_seq (cd hm (fun hm => ?_) (fun hm => ?_)))
  ·refine X_skip (thN (Ok_seq (Ok_block (rg G ?_))))
   obtain ⟨e, h, hm⟩ := obind hm
   obtain ⟨r, h1, hm⟩ := obind hm
   have h1 : i_tripIndex_1 e c1 = some r := by rw [← hf_f] at h1; exact h1
   refine rs G (hD 3 h (hC 5 (i_tripIndex_1_c h1) h0)) ?_
   refine cd hm (fun hm => ?_) (fun hm => ?_)
   ·refine rg G ?_
    have hm := eL hm hb hr
    cases hm
    exact rt [] []
   ·exact X_skip (ibN (thN (rh G (wL G hm))))
  ·exact Ok_exit (thE (thE (ibE (wE G hm hb))))
 rintro ⟨⟩ hm s1 hw
 refine thN (Ok_weak hw ?_)
 refine rg G ?_
 cases hm
 exact rt [] []
noncomputable def i_tripIndex_M : MS (Timetable × Int) Int := ⟨.x .r .r, fun x => i_tripIndex x.1 x.2, fun y => dV y, fun _ => [], fun _ _ => []⟩
theorem i_tripIndex_c {t id y} (hm : i_tripIndex t id = some y) : i_tripIndex_M.C (t, id) y := i_tripIndex_M.c (t, id) hm
theorem i_tripIndex_ok : FnOK Try.prog tJ 106 i_tripIndex_M.S := by
 refine fm tt i_tripIndex_M [fo slices_IndexFunc_Trip__i_tripIndex_1_ok] Try.call106 Try.func106 rfl Try.results106 Try.ntmps106 ?_
 rintro ⟨t, id⟩ y cx G hm
 have hm : i_tripIndex t id = some y := hm
 unfold i_tripIndex at hm
 refine rg G ?_
 obtain ⟨r, h, hm⟩ := obind hm
 refine rs G (hC 3 (slices_IndexFunc_Trip__i_tripIndex_1_c h) h0) ?_
 cases hm
 exact rt [] []
noncomputable def i_areTripDelays_M : MS (Timetable × (List TripDelay)) Bool := ⟨.x .r .r, fun x => i_areTripDelays x.1 x.2, fun y => dV y, fun _ => [], fun _ _ => []⟩
theorem i_areTripDelays_c {t delays y} (hm : i_areTripDelays t delays = some y) : i_areTripDelays_M.C (t, delays) y := i_areTripDelays_M.c (t, delays) hm
theorem i_areTripDelays_ok : FnOK Try.prog tJ 87 i_areTripDelays_M.S := by
 refine fm tt i_areTripDelays_M [fo i_tripIndex_ok, fo i_within_ok] Try.call87 Try.func87 rfl Try.results87 Try.ntmps87 ?_
 rintro ⟨t, delays⟩ y cx G hm
 have hm : i_areTripDelays t delays = some y := hm
 unfold i_areTripDelays at hm
 refine rg G (rg G (Ok_seq (rs G (hN 1 delays h0) ?_)))
 refine tF hm (fun _ => ⟨[], [], 32⟩) (fun v2 hr hm => ?_) ?_
 ·refine Ok_block (lp G hm (fun (d, v) => ⟨[(2, .ref 16 0), (5, dV d), (8, dV delays), (9, dV (delays.length : Int)), (10, dV v)], [bX 16 45 [dV t.Network.Stops, dV t.Network.Lines, dV t.Trips]], 48⟩) ?_)
  rintro ⟨d, v⟩ r0 hb hm
  rw [i_areTripDelays_L1] at hm
  refine rg G (Ok_seq (cd hm (fun hm => ?_) (fun hm => ?_)))
  ·refine X_skip (thN (Ok_seq (Ok_block ?_)))
   obtain ⟨e, h, hm⟩ := obind hm
   refine rs G (hD 0 h h0) ?_
   refine Ok_seq (jn hm (fun v1 => ⟨[(2, .ref 16 0), (7, .ref 32 0), (8, dV delays), (9, dV (delays.length : Int)), (10, dV v), (30, dV v1)], [bX 16 45 [dV t.Network.Stops, dV t.Network.Lines, dV t.Trips], bX 32 119 [dV e.Id, dV e.Minutes]], 64⟩) (fun v1 hm => ?_) ?_)
   ·rcases bf hm with ⟨hb1, hm⟩ | ⟨hb1, hm⟩
    ·refine re G (hO 4 (.b true) (hP hb1 h0)) ?_
     exact wJ G hm
    ·obtain ⟨r, h1, hm⟩ := obind hm
     rcases bf hm with ⟨hb2, hm⟩ | ⟨hb2, hm⟩
     ·refine re G (hO 4 (.b false) (hP hb1 (hC 8 (i_tripIndex_c h1) (hO 11 (.b true) (hP hb2 h0))))) ?_
      exact wJ G hm
     ·obtain ⟨r1, h2, hm⟩ := obind hm
      refine re G (hO 4 (.b false) (hP hb1 (hC 8 (i_tripIndex_c h1) (hO 11 (.b false) (hP hb2 (hC 14 (i_within_c h2) h0)))))) ?_
      exact wJ G hm
   rintro v1 hm
   refine cd hm (fun hm => ?_) (fun hm => ?_)
   ·refine rg G ?_
    have hm := eL hm hb hr
    cases hm
    exact rt [] []
   ·exact X_skip (thN (rh G (ibN (thN (rh G (wL G hm))))))
  ·exact Ok_exit (thE (thE (ibE (wE G hm hb))))
 rintro ⟨⟩ hm s hw
 refine thN (Ok_weak hw ?_)
 refine rg G ?_
 cases hm
 exact rt [] []
noncomputable def i_IsValidTripDelays_M : MS (Timetable × (List TripDelay)) Bool := ⟨.x .r .r, fun x => i_IsValidTripDelays x.1 x.2, fun y => dV y, fun _ => [], fun _ _ => []⟩
theorem i_IsValidTripDelays_c {t delays y} (hm : i_IsValidTripDelays t delays = some y) : i_IsValidTripDelays_M.C (t, delays) y := i_IsValidTripDelays_M.c (t, delays) hm
theorem i_IsValidTripDelays_ok : FnOK Try.prog tJ 52 i_IsValidTripDelays_M.S := by
 refine fm tt i_IsValidTripDelays_M [fo i_IsValidTimetable_ok, fo i_areTripDelays_ok] Try.call52 Try.func52 rfl Try.results52 Try.ntmps52 ?_
 rintro ⟨t, delays⟩ y cx G hm
 have hm : i_IsValidTripDelays t delays = some y := hm
 unfold i_IsValidTripDelays at hm
 refine rg G ?_
 obtain ⟨r, h, hm⟩ := obind hm
 refine jn hm (fun v => ⟨[(4, dV v)], [], 32⟩) (fun v hm => ?_) ?_
 ·rcases bf hm with ⟨hb, hm⟩ | ⟨hb, hm⟩
  ·obtain ⟨r1, h1, hm⟩ := obind hm
   refine re G (hC 1 (i_IsValidTimetable_c h) (hO 2 (.b true) (hP hb (hC 5 (i_areTripDelays_c h1) h0)))) ?_
   exact wJ G hm
  ·refine re G (hC 1 (i_IsValidTimetable_c h) (hO 2 (.b false) (hP hb h0))) ?_
   exact wJ G hm
 rintro v hm
 cases hm
 exact rt [] []
noncomputable def i_delayOf_M : MS ((List TripDelay) × Int) Int := ⟨.x .r .r, fun x => i_delayOf x.1 x.2, fun y => dV y, fun _ => [], fun _ _ => []⟩
theorem i_delayOf_c {delays id y} (hm : i_delayOf delays id = some y) : i_delayOf_M.C (delays, id) y := i_delayOf_M.c (delays, id) hm
theorem i_delayOf_ok : FnOK Try.prog tJ 53 i_delayOf_M.S := by
 refine fm tt i_delayOf_M [] Try.call53 Try.func53 rfl Try.results53 Try.ntmps53 ?_
 rintro ⟨delays, id⟩ y cx G hm
 have hm : i_delayOf delays id = some y := hm
 unfold i_delayOf at hm
 refine rg G (Ok_seq (rs G (hN 1 delays h0) ?_))
 refine tF hm (fun _ => ⟨[], [], 32⟩) (fun v1 hr hm => ?_) ?_
 ·refine Ok_block (lp G hm (fun v => ⟨[(1, dV id), (7, dV delays), (8, dV (delays.length : Int)), (9, dV v)], [], 32⟩) ?_)
  rintro v r0 hb hm
  rw [i_delayOf_L1] at hm
  refine rg G (Ok_seq (cd hm (fun hm => ?_) (fun hm => ?_)))
  ·refine X_skip (thN (Ok_seq (Ok_block ?_)))
   obtain ⟨e, h, hm⟩ := obind hm
   refine rs G (hD 0 h h0) ?_
   refine rg G (cd hm (fun hm => ?_) (fun hm => ?_))
   ·refine rg G ?_
    have hm := eL hm hb hr
    cases hm
    exact rt [] []
   ·exact X_skip (ibN (thN (rh G (wL G hm))))
  ·exact Ok_exit (thE (thE (ibE (wE G hm hb))))
 rintro ⟨⟩ hm s hw
 refine thN (Ok_weak hw ?_)
 refine rg G ?_
 cases hm
 exact rt [] []
noncomputable def i_DelayMessages_M : MS (Timetable × (List TripDelay) × Int) ((List Message) × Bool) := ⟨.x .r (.x .r .r), fun x => i_DelayMessages x.1 x.2.1 x.2.2, fun y => .tup [dV y.1, dV y.2], fun _ => [], fun _ _ => []⟩
theorem i_DelayMessages_c {t delays limit y} (hm : i_DelayMessages t delays limit = some y) : i_DelayMessages_M.C (t, delays, limit) y := i_DelayMessages_M.c (t, delays, limit) hm
theorem i_DelayMessages_ok : FnOK Try.prog tJ 18 i_DelayMessages_M.S := by
 refine fm tt i_DelayMessages_M [fo i_IsValidTripDelays_ok, fo i_within_ok, fo i_delayOf_ok] Try.call18 Try.func18 rfl Try.results18 Try.ntmps18 ?_
 rintro ⟨t, delays, limit⟩ y cx G hm
 have hm : i_DelayMessages t delays limit = some y := hm
 unfold i_DelayMessages at hm
 refine rg G (Ok_seq ?_)
 obtain ⟨r, h, hm⟩ := obind hm
 refine jn hm (fun v => ⟨[(1, dV delays), (2, dV limit), (3, .ref 16 0), (22, dV v)], [bX 16 45 [dV t.Network.Stops, dV t.Network.Lines, dV t.Trips]], 48⟩) (fun v hm => ?_) ?_
 ·rcases bf hm with ⟨hb, hm⟩ | ⟨hb, hm⟩
  ·refine re G (hC 2 (i_IsValidTripDelays_c h) (hO 4 (.b true) (hP hb h0))) ?_
   exact wJ G hm
  ·obtain ⟨r1, h1, hm⟩ := obind hm
   refine re G (hC 2 (i_IsValidTripDelays_c h) (hO 4 (.b false) (hP hb (hC 6 (i_within_c h1) h0)))) ?_
   exact wJ G hm
 rintro v hm
 refine cd hm (fun hm => ?_) (fun hm => ?_)
 ·refine rg G ?_
  cases hm
  exact rt [] [[.z 6]]
 ·refine X_skip (thN (rg G (Ok_seq (rs G (hN 3 t.Network.Lines h0) ?_))))
  refine tl hm (fun most2 => ⟨[(8, .own 16)], [aX 16 76 most2], 48⟩) (fun most2 hm => ?_) ?_
  ·refine Ok_block (lpP hm (fun (v1, most) => ⟨[(1, dV delays), (2, dV limit), (3, .ref 16 0), (8, .own 32), (25, dV t.Network.Lines), (26, dV (t.Network.Lines.length : Int)), (27, dV v1)], [bX 16 45 [dV t.Network.Stops, dV t.Network.Lines, dV t.Trips], aX 32 76 most], 64⟩) (Wk_J G.hL ⟨[(1, []), (2, []), (3, []), (8, [.o 32]), (25, []), (26, []), (27, [])], [(16, 16, [])], [(32, 76, 6, [])], 64⟩ (by kernel_rfl)) ?_)
   rintro ⟨v1, most⟩ r0 hb1 hm
   rw [i_DelayMessages_L2] at hm
   refine rg G (Ok_seq (cd hm (fun hm => ?_) (fun hm => ?_)))
   ·refine X_skip (thN (jn hm (fun most1 => ⟨[(1, dV delays), (2, dV limit), (3, .ref 16 0), (8, .own 32), (25, dV t.Network.Lines), (26, dV (t.Network.Lines.length : Int)), (27, dV v1)], [bX 16 45 [dV t.Network.Stops, dV t.Network.Lines, dV t.Trips], aX 32 76 most1], 64⟩) (fun most1 hm => ?_) ?_))
    ·refine Ok_block ?_
     obtain ⟨e, h2, hm⟩ := obind hm
     refine rs G (hD 1 h2 h0) ?_
     refine rg G (Ok_seq (rs G (hN 2 t.Trips h0) ?_))
     refine tl hm (fun v5 => ⟨[(1, dV delays), (2, dV limit), (3, .ref 16 0), (8, .own 32), (10, .ref 48 0), (11, dV v5), (25, dV t.Network.Lines), (26, dV (t.Network.Lines.length : Int)), (27, dV v1)], [bX 16 45 [dV t.Network.Stops, dV t.Network.Lines, dV t.Trips], aX 32 76 most, bX 48 91 [dV e.Name, dV e.Stops, dV e.Runs]], 80⟩) (fun v5 hm => ?_) ?_
     ·refine Ok_block (lp G hm (fun (v2, v3) => ⟨[(1, dV delays), (2, dV limit), (3, .ref 16 0), (8, .own 32), (9, dV v1), (10, .ref 48 0), (11, dV v2), (25, dV t.Network.Lines), (26, dV (t.Network.Lines.length : Int)), (27, dV v1), (33, dV t.Trips), (34, dV (t.Trips.length : Int)), (35, dV v3)], [bX 16 45 [dV t.Network.Stops, dV t.Network.Lines, dV t.Trips], aX 32 76 most, bX 48 91 [dV e.Name, dV e.Stops, dV e.Runs]], 80⟩) ?_)
      rintro ⟨v2, v3⟩ r0 hb2 hm
      rw [i_DelayMessages_L1] at hm
      refine rg G (Ok_seq (cd hm (fun hm => ?_) (fun hm => ?_)))
      ·refine X_skip (thN (jn hm (fun v4 => ⟨[(1, dV delays), (2, dV limit), (3, .ref 16 0), (8, .own 32), (9, dV v1), (10, .ref 48 0), (11, dV v4), (25, dV t.Network.Lines), (26, dV (t.Network.Lines.length : Int)), (27, dV v1), (33, dV t.Trips), (34, dV (t.Trips.length : Int)), (35, dV v3)], [bX 16 45 [dV t.Network.Stops, dV t.Network.Lines, dV t.Trips], aX 32 76 most, bX 48 91 [dV e.Name, dV e.Stops, dV e.Runs]], 80⟩) (fun v4 hm => ?_) ?_))
       ·refine Ok_block ?_
        obtain ⟨e1, h3, hm⟩ := obind hm
        refine rs G (hD 0 h3 h0) ?_
        refine rg G (cd hm (fun hm => ?_) (fun hm => ?_))
        ·obtain ⟨r2, h4, hm⟩ := obind hm
         refine re G (hC 4 (i_delayOf_c h4) h0) ?_
         exact ibN (wJ G hm)
        ·exact X_skip (ibN (wJ G hm))
       rintro v4 hm
       exact rh G (wL G hm)
      ·exact Ok_exit (thE (thE (ibE (wD G hm hb2))))
     rintro v5 hm s hw
     refine thN (Ok_weak hw ?_)
     refine rg G (cd hm (fun hm => ?_) (fun hm => ?_))
     ·obtain ⟨u, h5, hm⟩ := obind hm
      refine re G (hA 6 64 h5 h0) ?_
      exact ibN (wJ G hm)
     ·exact X_skip (ibN (wJ G hm))
    rintro most1 hm
    exact rh G (wL G hm)
   ·exact Ok_exit (thE (thE (ibE (wD G hm hb1))))
  rintro most2 hm s1 hw1
  refine thN (Ok_weak hw1 ?_)
  refine rg G ?_
  cases hm
  exact rt [] []
noncomputable def s_l2Find_M : MS ((List ByteArray) × ByteArray) Int := ⟨.x .r .r, fun x => s_l2Find x.1 x.2, fun y => dV y, fun _ => [], fun _ _ => []⟩
theorem s_l2Find_c {list name y} (hm : s_l2Find list name = some y) : s_l2Find_M.C (list, name) y := s_l2Find_M.c (list, name) hm
theorem s_l2Find_ok : FnOK Try.prog tJ 108 s_l2Find_M.S := by
 refine fm tt s_l2Find_M [] Try.call108 Try.func108 rfl Try.results108 Try.ntmps108 ?_
 rintro ⟨list, name⟩ y cx G hm
 have hm : s_l2Find list name = some y := hm
 unfold s_l2Find at hm
 refine rg G (Ok_seq (rg G (tF hm (fun _ => ⟨[], [], 32⟩) (fun v1 hr hm => ?_) ?_)))
 ·refine Ok_block (lp G hm (fun v => ⟨[(0, dV list), (1, dV name), (5, dV v)], [], 32⟩) ?_)
  rintro v r0 hb hm
  rw [s_l2Find_L1] at hm
  refine Ok_seq (rs G (hN 2 list h0) ?_)
  refine cd hm (fun hm => ?_) (fun hm => ?_)
  ·refine X_skip (thN (Ok_seq (Ok_block ?_)))
   obtain ⟨e, h, hm⟩ := obind hm
   refine rs G (hD 2 h h0) ?_
   refine cd hm (fun hm => ?_) (fun hm => ?_)
   ·refine rg G ?_
    have hm := eL hm hb hr
    cases hm
    exact rt [] []
   ·exact X_skip (ibN (thN (rh G (wL G hm))))
  ·exact Ok_exit (thE (thE (ibE (wE G hm hb))))
 rintro ⟨⟩ hm s hw
 refine thN (Ok_weak hw ?_)
 refine rg G ?_
 cases hm
 exact rt [] []
noncomputable def s_l2Line_M : MS (Line × Int) Bool := ⟨.x .r .r, fun x => s_l2Line x.1 x.2, fun y => dV y, fun _ => [], fun _ _ => []⟩
theorem s_l2Line_c {x stops y} (hm : s_l2Line x stops = some y) : s_l2Line_M.C (x, stops) y := s_l2Line_M.c (x, stops) hm
theorem s_l2Line_ok : FnOK Try.prog tJ 109 s_l2Line_M.S := by
 refine fm tt s_l2Line_M [fo s_l2Name_ok, fo s_l1In_ok, fo s_l2Place_ok] Try.call109 Try.func109 rfl Try.results109 Try.ntmps109 ?_
 rintro ⟨x, stops⟩ y cx G hm
 have hm : s_l2Line x stops = some y := hm
 unfold s_l2Line at hm
 refine rg G (Ok_seq ?_)
 obtain ⟨r, h, hm⟩ := obind hm
 refine jn hm (fun v => ⟨[(1, dV stops), (2, .ref 16 0), (27, dV v)], [bX 16 91 [dV x.Name, dV x.Stops, dV x.Runs]], 48⟩) (fun v hm => ?_) ?_
 ·rcases bf hm with ⟨hb, hm⟩ | ⟨hb, hm⟩
  ·refine re G (hC 2 (s_l2Name_c h) (hO 4 (.b true) (hP hb h0))) ?_
   exact wJ G hm
  ·obtain ⟨r1, h1, hm⟩ := obind hm
   rcases bf hm with ⟨hb1, hm⟩ | ⟨hb1, hm⟩
   ·refine re G (hC 2 (s_l2Name_c h) (hO 4 (.b false) (hP hb (hN 7 x.Stops (hC 8 (s_l1In_c h1) (hO 11 (.b true) (hP hb1 h0))))))) ?_
    exact wJ G hm
   ·refine re G (hC 2 (s_l2Name_c h) (hO 4 (.b false) (hP hb (hN 7 x.Stops (hC 8 (s_l1In_c h1) (hO 11 (.b false) (hP hb1 (hN 14 x.Runs (hN 17 x.Stops h0))))))))) ?_
    exact wJ G hm
 rintro v hm
 refine cd hm (fun hm => ?_) (fun hm => ?_)
 ·refine rg G ?_
  cases hm
  exact rt [] []
 ·refine X_skip (thN (Ok_seq (rg G (tF hm (fun _ => ⟨[(2, .ref 16 0)], [bX 16 91 [dV x.Name, dV x.Stops, dV x.Runs]], 48⟩) (fun v5 hr hm => ?_) ?_))))
  ·refine Ok_block (lp G hm (fun v1 => ⟨[(1, dV stops), (2, .ref 16 0), (5, dV v1)], [bX 16 91 [dV x.Name, dV x.Stops, dV x.Runs]], 48⟩) ?_)
   rintro v1 r0 hb2 hm
   rw [s_l2Line_L1] at hm
   refine Ok_seq (rs G (hN 3 x.Stops h0) ?_)
   refine cd hm (fun hm => ?_) (fun hm => ?_)
   ·refine X_skip (thN (Ok_seq (Ok_block ?_)))
    obtain ⟨e2, h6, hm⟩ := obind hm
    obtain ⟨r4, h7, hm⟩ := obind hm
    refine jn hm (fun v2 => ⟨[(1, dV stops), (2, .ref 16 0), (5, dV v1), (54, dV v2)], [bX 16 91 [dV x.Name, dV x.Stops, dV x.Runs]], 48⟩) (fun v2 hm => ?_) ?_
    ·rcases bf hm with ⟨hb3, hm⟩ | ⟨hb3, hm⟩
     ·refine de G [] (hD 3 h6 (hC 7 (s_l1In_c h7) (hO 9 (.b true) (hP hb3 h0)))) ?_
      exact wJ G hm
     ·obtain ⟨e3, h8, hm⟩ := obind hm
      obtain ⟨r5, h9, hm⟩ := obind hm
      refine de G [] (hD 3 h6 (hC 7 (s_l1In_c h7) (hO 9 (.b false) (hP hb3 (hD 14 h8 (hC 16 (s_l2Place_c h9) h0)))))) ?_
      exact wJ G hm
    rintro v2 hm
    refine cd hm (fun hm => ?_) (fun hm => ?_)
    ·refine rg G ?_
     have hm := eL hm hb2 hr
     cases hm
     exact rt [] []
    ·exact X_skip (ibN (thN (rh G (wL G hm))))
   ·exact Ok_exit (thE (thE (ibE (wE G hm hb2))))
  rintro ⟨⟩ hm s hw
  refine thN (Ok_weak hw ?_)
  refine Ok_seq (rg G (tF hm (fun _ => ⟨[], [], 32⟩) (fun v4 hr1 hm => ?_) ?_))
  ·refine Ok_block (lp G hm (fun v3 => ⟨[(2, .ref 16 0), (6, dV v3)], [bX 16 91 [dV x.Name, dV x.Stops, dV x.Runs]], 48⟩) ?_)
   rintro v3 r0 hb4 hm
   rw [s_l2Line_L2] at hm
   refine Ok_seq (rs G (hN 3 x.Runs h0) ?_)
   refine cd hm (fun hm => ?_) (fun hm => ?_)
   ·refine X_skip (thN (Ok_seq (Ok_block ?_)))
    obtain ⟨e5, h10, hm⟩ := obind hm
    obtain ⟨r7, h11, hm⟩ := obind hm
    refine rs G (hD 3 h10 (hC 5 (s_l1In_c h11) h0)) ?_
    refine cd hm (fun hm => ?_) (fun hm => ?_)
    ·refine rg G ?_
     have hm := eL hm hb4 hr1
     cases hm
     exact rt [] []
    ·exact X_skip (ibN (thN (rh G (wL G hm))))
   ·exact Ok_exit (thE (thE (ibE (wE G hm hb4))))
  rintro ⟨⟩ hm s1 hw1
  refine thN (Ok_weak hw1 ?_)
  refine rg G ?_
  cases hm
  exact rt [] []
noncomputable def s_l2LineNamed_M : MS (Network × ByteArray) Int := ⟨.x .r .r, fun x => s_l2LineNamed x.1 x.2, fun y => dV y, fun _ => [], fun _ _ => []⟩
theorem s_l2LineNamed_c {n name y} (hm : s_l2LineNamed n name = some y) : s_l2LineNamed_M.C (n, name) y := s_l2LineNamed_M.c (n, name) hm
theorem s_l2LineNamed_ok : FnOK Try.prog tJ 110 s_l2LineNamed_M.S := by
 refine fm tt s_l2LineNamed_M [] Try.call110 Try.func110 rfl Try.results110 Try.ntmps110 ?_
 rintro ⟨n, name⟩ y cx G hm
 have hm : s_l2LineNamed n name = some y := hm
 unfold s_l2LineNamed at hm
 refine rg G (Ok_seq (rg G (tF hm (fun _ => ⟨[], [], 32⟩) (fun v1 hr hm => ?_) ?_)))
 ·refine Ok_block (lp G hm (fun v => ⟨[(1, dV name), (2, .ref 16 0), (5, dV v)], [bX 16 42 [dV n.Stops, dV n.Lines]], 48⟩) ?_)
  rintro v r0 hb hm
  rw [s_l2LineNamed_L1] at hm
  refine Ok_seq (rs G (hN 3 n.Lines h0) ?_)
  refine cd hm (fun hm => ?_) (fun hm => ?_)
  ·refine X_skip (thN (Ok_seq (Ok_block ?_)))
   obtain ⟨e, h, hm⟩ := obind hm
   refine rs G (hD 3 h h0) ?_
   refine cd hm (fun hm => ?_) (fun hm => ?_)
   ·refine rg G ?_
    have hm := eL hm hb hr
    cases hm
    exact rt [] []
   ·exact X_skip (ibN (thN (rh G (wL G hm))))
  ·exact Ok_exit (thE (thE (ibE (wE G hm hb))))
 rintro ⟨⟩ hm s hw
 refine thN (Ok_weak hw ?_)
 refine rg G ?_
 cases hm
 exact rt [] []
noncomputable def s_l2Good_M : MS Network Bool := ⟨.r, s_l2Good, fun y => dV y, fun _ => [], fun _ _ => []⟩
theorem s_l2Good_c {n y} (hm : s_l2Good n = some y) : s_l2Good_M.C n y := s_l2Good_M.c n hm
theorem s_l2Good_ok : FnOK Try.prog tJ 90 s_l2Good_M.S := by
 refine fm tt s_l2Good_M [fo s_l1In_ok, fo s_l2Name_ok, fo s_l2Find_ok, fo s_l2Line_ok, fo s_l2LineNamed_ok] Try.call90 Try.func90 rfl Try.results90 Try.ntmps90 ?_
 rintro n y cx G hm
 have hm : s_l2Good n = some y := hm
 unfold s_l2Good at hm
 refine rg G (Ok_seq ?_)
 obtain ⟨r, h, hm⟩ := obind hm
 refine jn hm (fun v => ⟨[(1, .ref 16 0), (16, dV v)], [bX 16 42 [dV n.Stops, dV n.Lines]], 48⟩) (fun v hm => ?_) ?_
 ·rcases bf hm with ⟨hb, hm⟩ | ⟨hb, hm⟩
  ·refine re G (hN 2 n.Stops (hC 3 (s_l1In_c h) (hO 5 (.b true) (hP hb h0)))) ?_
   exact wJ G hm
  ·obtain ⟨r1, h1, hm⟩ := obind hm
   refine re G (hN 2 n.Stops (hC 3 (s_l1In_c h) (hO 5 (.b false) (hP hb (hN 8 n.Lines (hC 9 (s_l1In_c h1) h0)))))) ?_
   exact wJ G hm
 rintro v hm
 refine cd hm (fun hm => ?_) (fun hm => ?_)
 ·refine rg G ?_
  cases hm
  exact rt [] []
 ·refine X_skip (thN (Ok_seq (rg G (tF hm (fun _ => ⟨[(1, .ref 16 0)], [bX 16 42 [dV n.Stops, dV n.Lines]], 48⟩) (fun v5 hr hm => ?_) ?_))))
  ·refine Ok_block (lp G hm (fun i => ⟨[(1, .ref 16 0), (3, dV i)], [bX 16 42 [dV n.Stops, dV n.Lines]], 48⟩) ?_)
   rintro i r0 hb1 hm
   rw [s_l2Good_L1] at hm
   refine Ok_seq (rs G (hN 3 n.Stops h0) ?_)
   refine cd hm (fun hm => ?_) (fun hm => ?_)
   ·refine X_skip (thN (Ok_seq (Ok_block ?_)))
    obtain ⟨e2, h6, hm⟩ := obind hm
    obtain ⟨r4, h7, hm⟩ := obind hm
    refine jn hm (fun v1 => ⟨[(1, .ref 16 0), (3, dV i), (42, dV v1)], [bX 16 42 [dV n.Stops, dV n.Lines]], 48⟩) (fun v1 hm => ?_) ?_
    ·rcases bf hm with ⟨hb2, hm⟩ | ⟨hb2, hm⟩
     ·refine de G [] (hD 3 h6 (hC 5 (s_l2Name_c h7) (hO 7 (.b true) (hP hb2 h0)))) ?_
      exact wJ G hm
     ·obtain ⟨e3, h8, hm⟩ := obind hm
      obtain ⟨r5, h9, hm⟩ := obind hm
      refine de G [] (hD 3 h6 (hC 5 (s_l2Name_c h7) (hO 7 (.b false) (hP hb2 (hD 13 h8 (hC 15 (s_l2Find_c h9) h0)))))) ?_
      exact wJ G hm
    rintro v1 hm
    refine cd hm (fun hm => ?_) (fun hm => ?_)
    ·refine rg G ?_
     have hm := eL hm hb1 hr
     cases hm
     exact rt [] []
    ·exact X_skip (ibN (thN (rh G (wL G hm))))
   ·exact Ok_exit (thE (thE (ibE (wE G hm hb1))))
  rintro ⟨⟩ hm s hw
  refine thN (Ok_weak hw ?_)
  refine Ok_seq (rg G (tF hm (fun _ => ⟨[], [], 32⟩) (fun v4 hr1 hm => ?_) ?_))
  ·refine Ok_block (lp G hm (fun v2 => ⟨[(1, .ref 16 0), (4, dV v2)], [bX 16 42 [dV n.Stops, dV n.Lines]], 48⟩) ?_)
   rintro v2 r0 hb3 hm
   rw [s_l2Good_L2] at hm
   refine Ok_seq (rs G (hN 3 n.Lines h0) ?_)
   refine cd hm (fun hm => ?_) (fun hm => ?_)
   ·refine X_skip (thN (Ok_seq (Ok_block ?_)))
    obtain ⟨e7, h14, hm⟩ := obind hm
    obtain ⟨r9, h15, hm⟩ := obind hm
    refine jn hm (fun v3 => ⟨[(1, .ref 16 0), (4, dV v2), (71, dV v3)], [bX 16 42 [dV n.Stops, dV n.Lines]], 48⟩) (fun v3 hm => ?_) ?_
    ·rcases bf hm with ⟨hb4, hm⟩ | ⟨hb4, hm⟩
     ·refine de G [] (hD 3 h14 (hN 7 n.Stops (hC 8 (s_l2Line_c h15) (hO 10 (.b true) (hP hb4 h0))))) ?_
      exact wJ G hm
     ·obtain ⟨e8, h16, hm⟩ := obind hm
      obtain ⟨r10, h17, hm⟩ := obind hm
      refine de G [] (hD 3 h14 (hN 7 n.Stops (hC 8 (s_l2Line_c h15) (hO 10 (.b false) (hP hb4 (hD 15 h16 (hC 18 (s_l2LineNamed_c h17) h0))))))) ?_
      exact wJ G hm
    rintro v3 hm
    refine cd hm (fun hm => ?_) (fun hm => ?_)
    ·refine rg G ?_
     have hm := eL hm hb3 hr1
     cases hm
     exact rt [] []
    ·exact X_skip (ibN (thN (rh G (wL G hm))))
   ·exact Ok_exit (thE (thE (ibE (wE G hm hb3))))
  rintro ⟨⟩ hm s1 hw1
  refine thN (Ok_weak hw1 ?_)
  refine rg G ?_
  cases hm
  exact rt [] []
noncomputable def s_l5Line_M : MS (Timetable × Int) Line := ⟨.x .r .r, fun x => s_l5Line x.1 x.2, fun y => dV y, fun _ => [], fun _ _ => []⟩
theorem s_l5Line_c {t i y} (hm : s_l5Line t i = some y) : s_l5Line_M.C (t, i) y := s_l5Line_M.c (t, i) hm
theorem s_l5Line_ok : FnOK Try.prog tJ 136 s_l5Line_M.S := by
 refine fm tt s_l5Line_M [] Try.call136 Try.func136 rfl Try.results136 Try.ntmps136 ?_
 rintro ⟨t, i⟩ y cx G hm
 have hm : s_l5Line t i = some y := hm
 unfold s_l5Line at hm
 refine rg G ?_
 obtain ⟨e2, h2, hm⟩ := obind hm
 obtain ⟨e3, h3, hm⟩ := obind hm
 refine ds G [(11, [32])] (hD 6 h2 (hD 9 h3 h0)) ?_
 cases hm
 exact rt [] []
noncomputable def s_l5Stops_M : MS (Timetable × Int) ((List Int)) := ⟨.x .r .r, fun x => s_l5Stops x.1 x.2, fun y => dV y, fun _ => [], fun _ _ => []⟩
theorem s_l5Stops_c {t i y} (hm : s_l5Stops t i = some y) : s_l5Stops_M.C (t, i) y := s_l5Stops_M.c (t, i) hm
theorem s_l5Stops_ok : FnOK Try.prog tJ 122 s_l5Stops_M.S := by
 refine fm tt s_l5Stops_M [fo s_l5Line_ok] Try.call122 Try.func122 rfl Try.results122 Try.ntmps122 ?_
 rintro ⟨t, i⟩ y cx G hm
 have hm : s_l5Stops t i = some y := hm
 unfold s_l5Stops at hm
 refine rg G ?_
 obtain ⟨r, h, hm⟩ := obind hm
 refine rs G (hC 2 (s_l5Line_c h) h0) ?_
 cases hm
 exact rt [] []
noncomputable def s_l2Run_M : MS (Line × Int × Int) Int := ⟨.x .r (.x .r .r), fun x => s_l2Run x.1 x.2.1 x.2.2, fun y => dV y, fun _ => [], fun _ _ => []⟩
theorem s_l2Run_c {x from_ to_ y} (hm : s_l2Run x from_ to_ = some y) : s_l2Run_M.C (x, from_, to_) y := s_l2Run_M.c (x, from_, to_) hm
theorem s_l2Run_ok : FnOK Try.prog tJ 97 s_l2Run_M.S := by
 refine fm tt s_l2Run_M [] Try.call97 Try.func97 rfl Try.results97 Try.ntmps97 ?_
 rintro ⟨x, from_, to_⟩ y cx G hm
 have hm : s_l2Run x from_ to_ = some y := hm
 unfold s_l2Run at hm
 refine rg G (rg G (Ok_seq (rg G (tl hm (fun v2 => ⟨[(7, dV v2)], [], 32⟩) (fun v2 hm => ?_) ?_))))
 ·refine Ok_block (lp G hm (fun (v, v1) => ⟨[(2, dV to_), (3, .ref 16 0), (7, dV v), (8, dV v1)], [bX 16 91 [dV x.Name, dV x.Stops, dV x.Runs]], 48⟩) ?_)
  rintro ⟨v, v1⟩ r0 hb hm
  rw [s_l2Run_L1] at hm
  refine Ok_seq (rg G (cd hm (fun hm => ?_) (fun hm => ?_)))
  ·refine X_skip (thN (Ok_seq (Ok_block ?_)))
   obtain ⟨e, h, hm⟩ := obind hm
   refine re G (hD 4 h h0) ?_
   exact ibN (thN (rh G (wL G hm)))
  ·exact Ok_exit (thE (thE (ibE (wD G hm hb))))
 rintro v2 hm s hw
 refine thN (Ok_weak hw ?_)
 refine rg G ?_
 cases hm
 exact rt [] []
noncomputable def s_l5At_M : MS (Timetable × Int × Int) Int := ⟨.x .r (.x .r .r), fun x => s_l5At x.1 x.2.1 x.2.2, fun y => dV y, fun _ => [], fun _ _ => []⟩
theorem s_l5At_c {t i k y} (hm : s_l5At t i k = some y) : s_l5At_M.C (t, i, k) y := s_l5At_M.c (t, i, k) hm
theorem s_l5At_ok : FnOK Try.prog tJ 121 s_l5At_M.S := by
 refine fm tt s_l5At_M [fo s_l5Line_ok, fo s_l2Run_ok] Try.call121 Try.func121 rfl Try.results121 Try.ntmps121 ?_
 rintro ⟨t, i, k⟩ y cx G hm
 have hm : s_l5At t i k = some y := hm
 unfold s_l5At at hm
 refine rg G ?_
 obtain ⟨e1, h3, hm⟩ := obind hm
 obtain ⟨r2, h4, hm⟩ := obind hm
 obtain ⟨r3, h5, hm⟩ := obind hm
 refine ds G [] (hD 3 h3 (hC 8 (s_l5Line_c h4) (hC 10 (s_l2Run_c h5) h0))) ?_
 cases hm
 exact rt [] []
noncomputable def s_l5End_M : MS (Timetable × Int) Int := ⟨.x .r .r, fun x => s_l5End x.1 x.2, fun y => dV y, fun _ => [], fun _ _ => []⟩
theorem s_l5End_c {t i y} (hm : s_l5End t i = some y) : s_l5End_M.C (t, i) y := s_l5End_M.c (t, i) hm
theorem s_l5End_ok : FnOK Try.prog tJ 107 s_l5End_M.S := by
 refine fm tt s_l5End_M [fo s_l5Stops_ok, fo s_l5At_ok] Try.call107 Try.func107 rfl Try.results107 Try.ntmps107 ?_
 rintro ⟨t, i⟩ y cx G hm
 have hm : s_l5End t i = some y := hm
 unfold s_l5End at hm
 refine rg G ?_
 obtain ⟨r2, h2, hm⟩ := obind hm
 obtain ⟨r3, h3, hm⟩ := obind hm
 refine ds G [] (hC 4 (s_l5Stops_c h2) (hN 5 r2 (hC 7 (s_l5At_c h3) h0))) ?_
 cases hm
 exact rt [] []
noncomputable def s_l5Good_M : MS Timetable Bool := ⟨.r, s_l5Good, fun y => dV y, fun _ => [], fun _ _ => []⟩
theorem s_l5Good_c {t y} (hm : s_l5Good t = some y) : s_l5Good_M.C t y := s_l5Good_M.c t hm
theorem s_l5Good_ok : FnOK Try.prog tJ 88 s_l5Good_M.S := by
 refine fm tt s_l5Good_M [fo s_l2Good_ok, fo s_l1In_ok, fo s_l4Time_ok, fo s_l5End_ok] Try.call88 Try.func88 rfl Try.results88 Try.ntmps88 ?_
 rintro t y cx G hm
 have hm : s_l5Good t = some y := hm
 unfold s_l5Good at hm
 refine rg G (Ok_seq ?_)
 obtain ⟨r, h, hm⟩ := obind hm
 refine jn hm (fun v => ⟨[(1, .ref 16 0), (14, dV v)], [bX 16 45 [dV t.Network.Stops, dV t.Network.Lines, dV t.Trips]], 48⟩) (fun v hm => ?_) ?_
 ·rcases bf hm with ⟨hb, hm⟩ | ⟨hb, hm⟩
  ·refine re G (hC 2 (s_l2Good_c h) (hO 4 (.b true) (hP hb h0))) ?_
   exact wJ G hm
  ·refine re G (hC 2 (s_l2Good_c h) (hO 4 (.b false) (hP hb (hN 7 t.Trips h0)))) ?_
   exact wJ G hm
 rintro v hm
 refine cd hm (fun hm => ?_) (fun hm => ?_)
 ·refine rg G ?_
  cases hm
  exact rt [] []
 ·refine X_skip (thN (Ok_seq (rg G (tF hm (fun _ => ⟨[], [], 32⟩) (fun v2 hr hm => ?_) ?_))))
  ·refine Ok_block (lp G hm (fun x => ⟨[(1, .ref 16 0), (3, dV x)], [bX 16 45 [dV t.Network.Stops, dV t.Network.Lines, dV t.Trips]], 48⟩) ?_)
   rintro x r0 hb1 hm
   rw [s_l5Good_L1] at hm
   refine Ok_seq (rs G (hN 3 t.Trips h0) ?_)
   refine cd hm (fun hm => ?_) (fun hm => ?_)
   ·refine X_skip (thN (Ok_seq (Ok_block ?_)))
    obtain ⟨e, h1, hm⟩ := obind hm
    refine rs G (hD 3 h1 h0) ?_
    obtain ⟨r6, h8, hm⟩ := obind hm
    refine jn hm (fun v1 => ⟨[(1, .ref 16 0), (3, dV x), (70, dV v1)], [bX 16 45 [dV t.Network.Stops, dV t.Network.Lines, dV t.Trips]], 48⟩) (fun v1 hm => ?_) ?_
    ·rcases bf hm with ⟨hb2, hm⟩ | ⟨hb2, hm⟩
     ·refine de G [] (hC 2 (s_l1In_c h8) (hO 4 (.b true) (hP hb2 h0))) ?_
      exact wJ G hm
     ·obtain ⟨r7, h9, hm⟩ := obind hm
      rcases bf hm with ⟨hb3, hm⟩ | ⟨hb3, hm⟩
      ·refine de G [] (hC 2 (s_l1In_c h8) (hO 4 (.b false) (hP hb2 (hN 10 t.Network.Lines (hC 12 (s_l1In_c h9) (hO 15 (.b true) (hP hb3 h0))))))) ?_
       exact wJ G hm
      ·obtain ⟨r8, h10, hm⟩ := obind hm
       rcases bf hm with ⟨hb4, hm⟩ | ⟨hb4, hm⟩
       ·refine de G [] (hC 2 (s_l1In_c h8) (hO 4 (.b false) (hP hb2 (hN 10 t.Network.Lines (hC 12 (s_l1In_c h9) (hO 15 (.b false) (hP hb3 (hC 18 (s_l4Time_c h10) (hO 21 (.b true) (hP hb4 h0)))))))))) ?_
        exact wJ G hm
       ·obtain ⟨r9, h11, hm⟩ := obind hm
        obtain ⟨r10, h12, hm⟩ := obind hm
        rcases bf hm with ⟨hb5, hm⟩ | ⟨hb5, hm⟩
        ·refine de G [] (hC 2 (s_l1In_c h8) (hO 4 (.b false) (hP hb2 (hN 10 t.Network.Lines (hC 12 (s_l1In_c h9) (hO 15 (.b false) (hP hb3 (hC 18 (s_l4Time_c h10) (hO 21 (.b false) (hP hb4 (hC 24 (s_l5End_c h11) (hC 25 (s_l4Time_c h12) (hO 28 (.b true) (hP hb5 h0)))))))))))))) ?_
         exact wJ G hm
        ·rcases bf hm with ⟨hb6, hm⟩ | ⟨hb6, hm⟩
         ·obtain ⟨e2, h13, hm⟩ := obind hm
          refine de G [] (hC 2 (s_l1In_c h8) (hO 4 (.b false) (hP hb2 (hN 10 t.Network.Lines (hC 12 (s_l1In_c h9) (hO 15 (.b false) (hP hb3 (hC 18 (s_l4Time_c h10) (hO 21 (.b false) (hP hb4 (hC 24 (s_l5End_c h11) (hC 25 (s_l4Time_c h12) (hO 28 (.b false) (hP hb5 (hO 31 (.b true) (hP hb6 (hD 36 h13 h0))))))))))))))))) ?_
          exact wJ G hm
         ·refine de G [] (hC 2 (s_l1In_c h8) (hO 4 (.b false) (hP hb2 (hN 10 t.Network.Lines (hC 12 (s_l1In_c h9) (hO 15 (.b false) (hP hb3 (hC 18 (s_l4Time_c h10) (hO 21 (.b false) (hP hb4 (hC 24 (s_l5End_c h11) (hC 25 (s_l4Time_c h12) (hO 28 (.b false) (hP hb5 (hO 31 (.b false) (hP hb6 h0)))))))))))))))) ?_
          exact wJ G hm
    rintro v1 hm
    refine cd hm (fun hm => ?_) (fun hm => ?_)
    ·refine rg G ?_
     have hm := eL hm hb1 hr
     cases hm
     exact rt [] []
    ·exact X_skip (ibN (thN (rh G (wL G hm))))
   ·exact Ok_exit (thE (thE (ibE (wE G hm hb1))))
  rintro ⟨⟩ hm s hw
  refine thN (Ok_weak hw ?_)
  refine rg G ?_
  cases hm
  exact rt [] []
noncomputable def s_l5Find_M : MS (Timetable × Int) Int := ⟨.x .r .r, fun x => s_l5Find x.1 x.2, fun y => dV y, fun _ => [], fun _ _ => []⟩
theorem s_l5Find_c {t id y} (hm : s_l5Find t id = some y) : s_l5Find_M.C (t, id) y := s_l5Find_M.c (t, id) hm
theorem s_l5Find_ok : FnOK Try.prog tJ 89 s_l5Find_M.S := by
 refine fm tt s_l5Find_M [] Try.call89 Try.func89 rfl Try.results89 Try.ntmps89 ?_
 rintro ⟨t, id⟩ y cx G hm
 have hm : s_l5Find t id = some y := hm
 unfold s_l5Find at hm
 refine rg G (Ok_seq (rg G (tF hm (fun _ => ⟨[], [], 32⟩) (fun v1 hr hm => ?_) ?_)))
 ·refine Ok_block (lp G hm (fun v => ⟨[(1, dV id), (2, .ref 16 0), (5, dV v)], [bX 16 45 [dV t.Network.Stops, dV t.Network.Lines, dV t.Trips]], 48⟩) ?_)
  rintro v r0 hb hm
  rw [s_l5Find_L1] at hm
  refine Ok_seq (rs G (hN 3 t.Trips h0) ?_)
  refine cd hm (fun hm => ?_) (fun hm => ?_)
  ·refine X_skip (thN (Ok_seq (Ok_block ?_)))
   obtain ⟨e, h, hm⟩ := obind hm
   refine rs G (hD 3 h h0) ?_
   refine cd hm (fun hm => ?_) (fun hm => ?_)
   ·refine rg G ?_
    have hm := eL hm hb hr
    cases hm
    exact rt [] []
   ·exact X_skip (ibN (thN (rh G (wL G hm))))
  ·exact Ok_exit (thE (thE (ibE (wE G hm hb))))
 rintro ⟨⟩ hm s hw
 refine thN (Ok_weak hw ?_)
 refine rg G ?_
 cases hm
 exact rt [] []
noncomputable def s_l23Good_M : MS (Timetable × (List TripDelay)) Bool := ⟨.x .r .r, fun x => s_l23Good x.1 x.2, fun y => dV y, fun _ => [], fun _ _ => []⟩
theorem s_l23Good_c {t delays y} (hm : s_l23Good t delays = some y) : s_l23Good_M.C (t, delays) y := s_l23Good_M.c (t, delays) hm
theorem s_l23Good_ok : FnOK Try.prog tJ 54 s_l23Good_M.S := by
 refine fm tt s_l23Good_M [fo s_l5Good_ok, fo s_l5Find_ok, fo s_l1In_ok] Try.call54 Try.func54 rfl Try.results54 Try.ntmps54 ?_
 rintro ⟨t, delays⟩ y cx G hm
 have hm : s_l23Good t delays = some y := hm
 unfold s_l23Good at hm
 refine rg G (Ok_seq ?_)
 obtain ⟨r, h, hm⟩ := obind hm
 refine rs G (hC 1 (s_l5Good_c h) h0) ?_
 refine cd hm (fun hm => ?_) (fun hm => ?_)
 ·refine rg G ?_
  cases hm
  exact rt [] []
 ·refine X_skip (thN (Ok_seq (rg G (tF hm (fun _ => ⟨[], [], 32⟩) (fun v2 hr hm => ?_) ?_))))
  ·refine Ok_block (lp G hm (fun v => ⟨[(1, dV delays), (2, .ref 16 0), (5, dV v)], [bX 16 45 [dV t.Network.Stops, dV t.Network.Lines, dV t.Trips]], 48⟩) ?_)
   rintro v r0 hb hm
   rw [s_l23Good_L1] at hm
   refine Ok_seq (rs G (hN 2 delays h0) ?_)
   refine cd hm (fun hm => ?_) (fun hm => ?_)
   ·refine X_skip (thN (Ok_seq (Ok_block ?_)))
    obtain ⟨e4, h7, hm⟩ := obind hm
    obtain ⟨r3, h8, hm⟩ := obind hm
    refine jn hm (fun v1 => ⟨[(1, dV delays), (2, .ref 16 0), (5, dV v), (49, dV v1)], [bX 16 45 [dV t.Network.Stops, dV t.Network.Lines, dV t.Trips]], 48⟩) (fun v1 hm => ?_) ?_
    ·rcases bf hm with ⟨hb1, hm⟩ | ⟨hb1, hm⟩
     ·refine de G [] (hD 3 h7 (hC 6 (s_l5Find_c h8) (hO 8 (.b true) (hP hb1 h0)))) ?_
      exact wJ G hm
     ·obtain ⟨e5, h9, hm⟩ := obind hm
      obtain ⟨r4, h10, hm⟩ := obind hm
      rcases bf hm with ⟨hb2, hm⟩ | ⟨hb2, hm⟩
      ·refine de G [] (hD 3 h7 (hC 6 (s_l5Find_c h8) (hO 8 (.b false) (hP hb1 (hD 11 h9 (hC 14 (s_l1In_c h10) (hO 17 (.b true) (hP hb2 h0)))))))) ?_
       exact wJ G hm
      ·rcases bf hm with ⟨hb3, hm⟩ | ⟨hb3, hm⟩
       ·obtain ⟨e6, h11, hm⟩ := obind hm
        obtain ⟨e7, h12, hm⟩ := obind hm
        refine de G [] (hD 3 h7 (hC 6 (s_l5Find_c h8) (hO 8 (.b false) (hP hb1 (hD 11 h9 (hC 14 (s_l1In_c h10) (hO 17 (.b false) (hP hb2 (hO 20 (.b true) (hP hb3 (hD 24 h11 (hD 29 h12 h0)))))))))))) ?_
        exact wJ G hm
       ·refine de G [] (hD 3 h7 (hC 6 (s_l5Find_c h8) (hO 8 (.b false) (hP hb1 (hD 11 h9 (hC 14 (s_l1In_c h10) (hO 17 (.b false) (hP hb2 (hO 20 (.b false) (hP hb3 h0)))))))))) ?_
        exact wJ G hm
    rintro v1 hm
    refine cd hm (fun hm => ?_) (fun hm => ?_)
    ·refine rg G ?_
     have hm := eL hm hb hr
     cases hm
     exact rt [] []
    ·exact X_skip (ibN (thN (rh G (wL G hm))))
   ·exact Ok_exit (thE (thE (ibE (wE G hm hb))))
  rintro ⟨⟩ hm s hw
  refine thN (Ok_weak hw ?_)
  refine rg G ?_
  cases hm
  exact rt [] []
noncomputable def s_l23Delay_M : MS ((List TripDelay) × Int) Int := ⟨.x .r .r, fun x => s_l23Delay x.1 x.2, fun y => dV y, fun _ => [], fun _ _ => []⟩
theorem s_l23Delay_c {delays id y} (hm : s_l23Delay delays id = some y) : s_l23Delay_M.C (delays, id) y := s_l23Delay_M.c (delays, id) hm
theorem s_l23Delay_ok : FnOK Try.prog tJ 56 s_l23Delay_M.S := by
 refine fm tt s_l23Delay_M [] Try.call56 Try.func56 rfl Try.results56 Try.ntmps56 ?_
 rintro ⟨delays, id⟩ y cx G hm
 have hm : s_l23Delay delays id = some y := hm
 unfold s_l23Delay at hm
 refine rg G (Ok_seq (rg G (tF hm (fun _ => ⟨[], [], 32⟩) (fun v1 hr hm => ?_) ?_)))
 ·refine Ok_block (lp G hm (fun v => ⟨[(0, dV delays), (1, dV id), (5, dV v)], [], 32⟩) ?_)
  rintro v r0 hb hm
  rw [s_l23Delay_L1] at hm
  refine Ok_seq (rs G (hN 2 delays h0) ?_)
  refine cd hm (fun hm => ?_) (fun hm => ?_)
  ·refine X_skip (thN (Ok_seq (Ok_block ?_)))
   obtain ⟨e, h, hm⟩ := obind hm
   refine rs G (hD 2 h h0) ?_
   refine cd hm (fun hm => ?_) (fun hm => ?_)
   ·obtain ⟨e1, h1, hm⟩ := obind hm
    refine rs G (hD 2 h1 h0) ?_
    have hm := eL hm hb hr
    cases hm
    exact rt [] []
   ·exact X_skip (ibN (thN (rh G (wL G hm))))
  ·exact Ok_exit (thE (thE (ibE (wE G hm hb))))
 rintro ⟨⟩ hm s hw
 refine thN (Ok_weak hw ?_)
 refine rg G ?_
 cases hm
 exact rt [] []
noncomputable def s_l1Most_M : MS (Int × Int) Int := ⟨.x .r .r, fun x => s_l1Most x.1 x.2, fun y => dV y, fun _ => [], fun _ _ => []⟩
theorem s_l1Most_c {a b y} (hm : s_l1Most a b = some y) : s_l1Most_M.C (a, b) y := s_l1Most_M.c (a, b) hm
theorem s_l1Most_ok : FnOK Try.prog tJ 55 s_l1Most_M.S := by
 refine fm tt s_l1Most_M [] Try.call55 Try.func55 rfl Try.results55 Try.ntmps55 ?_
 rintro ⟨a, b⟩ y cx G hm
 have hm : s_l1Most a b = some y := hm
 unfold s_l1Most at hm
 refine rg G (Ok_seq (rg G (cd hm (fun hm => ?_) (fun hm => ?_))))
 ·refine rg G ?_
  cases hm
  exact rt [] []
 ·refine X_skip (thN (rg G ?_))
  cases hm
  exact rt [] []
end Go.Proofs.Yteieacgaipcnoaa
