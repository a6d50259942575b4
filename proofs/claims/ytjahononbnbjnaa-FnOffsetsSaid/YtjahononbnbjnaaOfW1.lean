/- Each function computes what its model says. Made by program (dec.py). -/
import Derived.Test.YtjahononbnbjnaaTy
import Derived.Test.YtjahononbnbjnaaAbC
import Derived.Test.YtjahononbnbjnaaOfM
namespace Go.Proofs.Ytjahononbnbjnaa
open Go Go.Ab Try
set_option maxRecDepth 100000
set_option maxHeartbeats 4000000
set_option linter.unusedVariables false
set_option linter.unusedSimpArgs false
theorem tt : TT Try.prog ty := ⟨by kernel_rfl, ty_ok⟩
abbrev tJ : Inv := .none
noncomputable def zq92_M : MS ((List UInt8)) Bool := ⟨.r, zq92, fun y => dV y, fun _ => [], fun _ _ => []⟩
theorem zq92_ok : FnOK Try.prog tJ 8 zq92_M.S := by
 refine fm tt zq92_M [] call8 func8 rfl results8 ntmps8 ?_
 rintro code y cx G (q : zq92 code = some y)
 unfold zq92 at q
 refine rg G (rs G (hN 1 code h0) ?_)
 cases q
 exact rt [] []
noncomputable def zq49_M : MS l1Cur (Int × l1Cur) := ⟨.b 118, zq49, fun y => dV y.1, fun _ => [], fun _ y => [bxO 118 y.2]⟩
theorem zq49_ok : FnOK Try.prog tJ 154 zq49_M.S := by
 refine fm tt zq49_M [] call154 func154 rfl results154 ntmps154 ?_
 rintro c y cx G (q : zq49 c = some y)
 unfold zq49 at q
 refine rg G (rg G (jn q (fun v => ⟨[(0, .ref 0 0), (3, dV v)], [bX 0 118 [dV c.code_, dV c.at_, kV .u64 c.seed_.v]], 48⟩) (fun v q => ?_) ?_))
 ·refine ds G [] (hN 8 c.code_ h0) ?_
  refine cd q ?_ ?_ <;> intro q
  ·obtain ⟨e1, h1, q⟩ := obind q
   refine de G [] (hD 8 h1 h0) ?_
   exact wJ G q
  ·exact X_skip (wJ G q)
 rintro v q
 refine rg G (rg G (Ok_seq (ds G [] (hN 8 c.code_ h0) ?_)))
 refine cd q ?_ ?_ <;> intro q
 ·refine rg G ?_
  cases q
  exact rt [] []
 ·refine X_skip (thN ?_)
  obtain ⟨u, h2, q⟩ := obind q
  refine rs G (hK h2 h0) ?_
  cases q
  exact rt [] []
noncomputable def zq54_M : MS (l1Cur × Int) (Int × l1Cur) := ⟨.x (.b 118) .r, fun x => zq54 x.1 x.2, fun y => dV y.1, fun _ => [], fun _ y => [bxO 118 y.2]⟩
theorem zq54_c {c n y} (q : zq54 c n = some y) : zq54_M.C (c, n) y := zq54_M.c (c, n) q
theorem zq54_ok : FnOK Try.prog tJ 81 zq54_M.S := by
 refine fm tt zq54_M [fo zq49_ok] call81 func81 rfl results81 ntmps81 ?_
 rintro ⟨c, n⟩ y cx G (q : zq54 c n = some y)
 unfold zq54 at q
 refine rg G (Ok_seq (rg G (cd q ?_ ?_))) <;> intro q
 ·refine rg G ?_
  cases q
  exact rt [] []
 ·refine X_skip (thN ?_)
  obtain ⟨r, h, q⟩ := obind q
  refine rs G (hC 1 (zq49_M.c _ h) h0) ?_
  refine jn q (fun (v, v1, v2, v3) => ⟨[(0, .ref 0 0), (1, dV n), (5, dV v)], [bX 0 118 [dV v1, dV v2, kV .u64 v3]], 48⟩) (fun vv q => ?_) ?_
  ·refine rg G (cd q ?_ ?_) <;> intro q
   ·obtain ⟨r1, h1, q⟩ := obind q
    refine re G (hC 3 (zq49_M.c _ h1) h0) ?_
    exact wJ G q
   ·exact X_skip (wJ G q)
  rintro ⟨v, v1, v2, v3⟩ q
  obtain ⟨u, h2, q⟩ := obind q
  refine rs G (hK h2 h0) ?_
  cases q
  exact rt [] []
noncomputable def zq59_MR (rec_ : Int → Option (ByteArray)) : MS Int ByteArray := ⟨.r, rec_, fun y => dV y, fun _ => [], fun _ _ => []⟩
noncomputable def zq59_M : MS Int ByteArray := zq59_MR zq59
theorem zq59_cR {rec_ : Int → Option (ByteArray)} {n y} (q : rec_ n = some y) : (zq59_MR rec_).C n y := (zq59_MR rec_).c n q
theorem zq59_okF {rec_ : Int → Option (ByteArray)} (hrec : FnOK Try.prog tJ 222 (zq59_MR rec_).S) : FnOK Try.prog tJ 222 (zq59_MR (zq59_F rec_)).S := by
 refine fm tt (zq59_MR (zq59_F rec_)) [fo hrec] call222 func222 rfl results222 ntmps222 ?_
 rintro n y cx G (q : zq59_F rec_ n = some y)
 unfold zq59_F at q
 refine rg G (Ok_seq (rg G (cd q ?_ ?_))) <;> intro q
 ·obtain ⟨r, h, u, h1, q⟩ := ob2 q
  refine rs G (hC 2 (zq59_cR h) (hP (cat_p (chk_t h1)) h0)) ?_
  cases q
  exact rt [] []
 ·refine X_skip (thN (Ok_seq (rg G (cd q ?_ ?_)))) <;> intro q
  ·obtain ⟨u1, h2, q⟩ := obind q
   refine rs G (hK h2 h0) ?_
   cases q
   exact rt [] []
  ·refine X_skip (thN ?_)
   obtain ⟨u7, h9, r2, h10, u8, h11, q⟩ := ob3 q
   obtain ⟨u9, h12, u10, h13, u11, h14, q⟩ := ob3 q
   refine ds G [] (hK h9 (hC 2 (zq59_cR h10) (hK h11 (hK h12 (hK h13 (hP (cat_p (chk_t h14)) h0)))))) ?_
   cases q
   exact rt [] []
theorem zq59_okn : ∀ k, FnOK Try.prog tJ 222 (zq59_MR (zq59_k k)).S
 | 0 => ⟨fun args w => call222 args w, fun vs w F ds obs κ hp => by obtain ⟨x, y, _, _, h⟩ := hp; cases h⟩
 | k + 1 => zq59_okF (zq59_okn k)
theorem zq59_ok : FnOK Try.prog tJ 222 zq59_M.S := zq59_okn 4294967296
noncomputable def zq71_M : MS (Line × Int) Int := ⟨.x .r .r, fun x => zq71 x.1 x.2, fun y => dV y, fun _ => [], fun _ _ => []⟩
theorem zq71_ok : FnOK Try.prog tJ 147 zq71_M.S := by
 refine fm tt zq71_M [] call147 func147 rfl results147 ntmps147 ?_
 rintro ⟨x, stop⟩ y cx G (q : zq71 x stop = some y)
 unfold zq71 at q
 refine rg G (Ok_seq (rg G (tF q (fun _ => ⟨[], [], 32⟩) (fun v1 hr q => ?_) ?_)))
 ·refine Ok_block (lp G q (fun v => ⟨[(1, dV stop), (2, .ref 16 0), (5, dV v)], [bX 16 194 [dV x.Name, dV x.Stops, dV x.Runs]], 48⟩) ?_)
  rintro v r0 hb q
  rw [zq71_L1] at q
  refine Ok_seq (rs G (hN 3 x.Stops h0) ?_)
  refine cd q ?_ ?_ <;> intro q
  ·refine X_skip (thN (Ok_seq (Ok_block ?_)))
   obtain ⟨e, h, q⟩ := obind q
   refine rs G (hD 3 h h0) ?_
   refine cd q ?_ ?_ <;> intro q
   ·refine rg G ?_
    have q := eL q hb hr
    cases q
    exact rt [] []
   ·exact X_skip (ibN (thN (rh G (wL G q))))
  ·exact Ok_exit (thE (thE (ibE (wE G q hb))))
 rintro ⟨⟩ q s hw
 refine thN (Ok_weak hw ?_)
 refine rg G ?_
 cases q
 exact rt [] []
noncomputable def zq46_M : MS (l1Cur × ByteArray × Int) (Line × l1Cur) := ⟨.x (.b 118) (.x .r .r), fun x => zq46 x.1 x.2.1 x.2.2, fun y => .aggv [dV y.1.Name, .own 0, .own 1], fun y => [arO 3 y.1.Stops, arO 3 y.1.Runs], fun _ y => [bxO 118 y.2]⟩
theorem zq46_ok : FnOK Try.prog tJ 221 zq46_M.S := by
 refine fm tt zq46_M [fo zq54_ok, fo zq71_ok] call221 func221 rfl results221 ntmps221 ?_
 rintro ⟨c, name, stops⟩ y cx G (q : zq46 c name stops = some y)
 unfold zq46 at q
 refine rg G (rg G ?_)
 obtain ⟨r, h, q⟩ := obind q
 refine rs G (hC 2 (zq54_c h) h0) ?_
 refine Ok_seq ?_
 obtain ⟨r1, h1, q⟩ := obind q
 refine rs G (hC 1 (zq54_c h1) h0) ?_
 refine tl q (fun (v7, v8, v9, v10) => ⟨[(0, .ref 0 0), (2, dV stops), (6, .ref 32 0), (7, .ref 48 0)], [bX 0 118 [dV v7, dV v8, kV .u64 v9], bX 32 194 [dV ByteArray.empty, .dat (.sc (.slice none 0 0)), .dat (.sc (.slice none 0 0))], bX 48 194 [dV name, .own 64, .dat (.sc (.slice none 0 0))], aX 64 3 v10], 96⟩) (fun vv1 q => ?_) ?_
 ·refine Ok_block (lpP q (fun (v, v1, v2, v3, v4, v5) => ⟨[(0, .ref 0 0), (2, dV stops), (6, .ref 32 0), (7, .ref 48 0), (8, dV v), (9, dV v1)], [bX 0 118 [dV v2, dV v3, kV .u64 v4], bX 32 194 [dV ByteArray.empty, .dat (.sc (.slice none 0 0)), .dat (.sc (.slice none 0 0))], bX 48 194 [dV name, .own 64, .dat (.sc (.slice none 0 0))], aX 64 3 v5], 96⟩) (Wk_J G.hL ⟨[(0, []), (2, []), (6, []), (7, []), (8, []), (9, [])], [(0, 0, []), (32, 16, []), (48, 64, [.k, .o 64])], [(64, 3, 1, [])], 96⟩ (by kernel_rfl)) ?_)
  rintro ⟨v, v1, v2, v3, v4, v5⟩ r0 hb q
  rw [zq46_L1] at q
  refine Ok_seq (rg G (cd q ?_ ?_)) <;> intro q
  ·refine X_skip (thN (Ok_seq (Ok_block (jn q (fun v6 => ⟨[(0, .ref 0 0), (2, dV stops), (6, .ref 32 0), (7, .ref 48 0), (8, dV v), (9, dV v1)], [bX 0 118 [dV v2, dV v3, kV .u64 v4], bX 32 194 [dV ByteArray.empty, .dat (.sc (.slice none 0 0)), .dat (.sc (.slice none 0 0))], bX 48 194 [dV name, .own 64, .dat (.sc (.slice none 0 0))], aX 64 3 v6], 96⟩) (fun v6 q => ?_) ?_))))
   ·obtain ⟨r2, h2, q⟩ := obind q
    refine rs G (hC 2 (zq71_M.c (_, _) h2) h0) ?_
    refine cd q ?_ ?_ <;> intro q
    ·obtain ⟨u, h3, q⟩ := obind q
     refine re G (hA 4 8 h3 h0) ?_
     exact wJ G q
    ·exact X_skip (wJ G q)
   rintro v6 q
   obtain ⟨r3, h4, u1, h5, q⟩ := ob2 q
   refine re G (hC 3 (zq54_c h4) (hK h5 h0)) ?_
   exact ibN (thN (rh G (wL G q)))
  ·exact Ok_exit (thE (thE (ibE (wD G q hb))))
 rintro ⟨v7, v8, v9, v10⟩ q s hw
 refine thN (Ok_weak hw ?_)
 refine jn q (fun v11 => ⟨[(0, .ref 0 0), (6, .ref 32 0), (7, .ref 48 0)], [bX 0 118 [dV v7, dV v8, kV .u64 v9], bX 32 194 [dV ByteArray.empty, .dat (.sc (.slice none 0 0)), .dat (.sc (.slice none 0 0))], bX 48 194 [dV name, .own 64, .dat (.sc (.slice none 0 0))], aX 64 3 v11], 96⟩) (fun v11 q => ?_) ?_
 ·refine rs G (hN 2 v10 h0) ?_
  refine cd q ?_ ?_ <;> intro q
  ·obtain ⟨e1, h9, u4, h10, u5, h11, q⟩ := ob3 q
   refine de G [(10, [64, 304]), (12, [48, 320])] (hD 4 h9 (hE 5 h9 (hK h10 (hA 10 8 h11 h0)))) ?_
   exact wJ G q
  ·exact X_skip (wJ G q)
 rintro v11 q
 refine Ok_seq (rg G (tl q (fun (v17, v18, v19, v20) => ⟨[(0, .ref 0 0), (6, .ref 32 0), (7, .ref 48 0)], [bX 0 118 [dV v17, dV v18, kV .u64 v19], bX 32 194 [dV ByteArray.empty, .dat (.sc (.slice none 0 0)), .dat (.sc (.slice none 0 0))], bX 48 194 [dV name, .own 64, .own 80], aX 64 3 v11, aX 80 3 v20], 112⟩) (fun vv q => ?_) ?_))
 ·refine Ok_block (lpP q (fun (v12, v13, v14, v15, v16) => ⟨[(0, .ref 0 0), (6, .ref 32 0), (7, .ref 48 0), (10, dV v12)], [bX 0 118 [dV v13, dV v14, kV .u64 v15], bX 32 194 [dV ByteArray.empty, .dat (.sc (.slice none 0 0)), .dat (.sc (.slice none 0 0))], bX 48 194 [dV name, .own 64, .own 80], aX 64 3 v11, aX 80 3 v16], 112⟩) (Wk_J G.hL ⟨[(0, []), (6, []), (7, []), (10, [])], [(0, 0, []), (32, 32, []), (48, 48, [.k, .k, .o 80]), (64, 64, [])], [(80, 3, 1, [])], 112⟩ (by kernel_rfl)) ?_)
  rintro ⟨v12, v13, v14, v15, v16⟩ r0 hb1 q
  rw [zq46_L2] at q
  refine Ok_seq (rs G (hN 3 v11 h0) ?_)
  refine cd q ?_ ?_ <;> intro q
  ·refine X_skip (thN (Ok_seq (Ok_block ?_)))
   obtain ⟨r5, h14, u7, h15, q⟩ := ob2 q
   refine de G [(3, [0]), (6, [80, 272]), (8, [48, 288])] (hC 3 (zq54_c h14) (hA 6 8 h15 h0)) ?_
   exact ibN (thN (rh G (wL G q)))
  ·exact Ok_exit (thE (thE (ibE (wD G q hb1))))
 rintro ⟨v17, v18, v19, v20⟩ q s1 hw1
 refine thN (Ok_weak hw1 ?_)
 refine rg G ?_
 cases q
 exact rt [64, 80] []
noncomputable def zq47_M : MS (l1Cur × ByteArray × Int) (Line × l1Cur) := ⟨.x (.b 118) (.x .r .r), fun x => zq47 x.1 x.2.1 x.2.2, fun y => dV y.1, fun _ => [], fun _ y => [bxO 118 y.2]⟩
theorem zq47_ok : FnOK Try.prog tJ 221 zq47_M.S := by
 refine fm tt zq47_M [fo zq54_ok, fo zq71_ok] call221 func221 rfl results221 ntmps221 ?_
 rintro ⟨c, name, stops⟩ y cx G (q : zq47 c name stops = some y)
 unfold zq47 at q
 refine rg G (rg G ?_)
 obtain ⟨r, h, q⟩ := obind q
 refine rs G (hC 2 (zq54_c h) h0) ?_
 refine Ok_seq ?_
 obtain ⟨r1, h1, q⟩ := obind q
 refine rs G (hC 1 (zq54_c h1) h0) ?_
 refine tl q (fun (v7, v8, v9, v10) => ⟨[(0, .ref 0 0), (2, dV stops), (6, .ref 32 0), (7, .ref 48 0)], [bX 0 118 [dV v7, dV v8, kV .u64 v9], bX 32 194 [dV ByteArray.empty, .dat (.sc (.slice none 0 0)), .dat (.sc (.slice none 0 0))], bX 48 194 [dV name, .own 64, .dat (.sc (.slice none 0 0))], aX 64 3 v10], 96⟩) (fun vv1 q => ?_) ?_
 ·refine Ok_block (lpP q (fun (v, v1, v2, v3, v4, v5) => ⟨[(0, .ref 0 0), (2, dV stops), (6, .ref 32 0), (7, .ref 48 0), (8, dV v), (9, dV v1)], [bX 0 118 [dV v2, dV v3, kV .u64 v4], bX 32 194 [dV ByteArray.empty, .dat (.sc (.slice none 0 0)), .dat (.sc (.slice none 0 0))], bX 48 194 [dV name, .own 64, .dat (.sc (.slice none 0 0))], aX 64 3 v5], 96⟩) (Wk_J G.hL ⟨[(0, []), (2, []), (6, []), (7, []), (8, []), (9, [])], [(0, 0, []), (32, 16, []), (48, 64, [.k, .o 64])], [(64, 3, 1, [])], 96⟩ (by kernel_rfl)) ?_)
  rintro ⟨v, v1, v2, v3, v4, v5⟩ r0 hb q
  rw [zq47_L1] at q
  refine Ok_seq (rg G (cd q ?_ ?_)) <;> intro q
  ·refine X_skip (thN (Ok_seq (Ok_block (jn q (fun v6 => ⟨[(0, .ref 0 0), (2, dV stops), (6, .ref 32 0), (7, .ref 48 0), (8, dV v), (9, dV v1)], [bX 0 118 [dV v2, dV v3, kV .u64 v4], bX 32 194 [dV ByteArray.empty, .dat (.sc (.slice none 0 0)), .dat (.sc (.slice none 0 0))], bX 48 194 [dV name, .own 64, .dat (.sc (.slice none 0 0))], aX 64 3 v6], 96⟩) (fun v6 q => ?_) ?_))))
   ·obtain ⟨r2, h2, q⟩ := obind q
    refine rs G (hC 2 (zq71_M.c (_, _) h2) h0) ?_
    refine cd q ?_ ?_ <;> intro q
    ·obtain ⟨u, h3, q⟩ := obind q
     refine re G (hA 4 8 h3 h0) ?_
     exact wJ G q
    ·exact X_skip (wJ G q)
   rintro v6 q
   obtain ⟨r3, h4, u1, h5, q⟩ := ob2 q
   refine re G (hC 3 (zq54_c h4) (hK h5 h0)) ?_
   exact ibN (thN (rh G (wL G q)))
  ·exact Ok_exit (thE (thE (ibE (wD G q hb))))
 rintro ⟨v7, v8, v9, v10⟩ q s hw
 refine thN (Ok_weak hw ?_)
 refine jn q (fun v11 => ⟨[(0, .ref 0 0), (6, .ref 32 0), (7, .ref 48 0)], [bX 0 118 [dV v7, dV v8, kV .u64 v9], bX 32 194 [dV ByteArray.empty, .dat (.sc (.slice none 0 0)), .dat (.sc (.slice none 0 0))], bX 48 194 [dV name, .own 64, .dat (.sc (.slice none 0 0))], aX 64 3 v11], 96⟩) (fun v11 q => ?_) ?_
 ·refine rs G (hN 2 v10 h0) ?_
  refine cd q ?_ ?_ <;> intro q
  ·obtain ⟨e1, h9, u4, h10, u5, h11, q⟩ := ob3 q
   refine de G [(10, [64, 304]), (12, [48, 320])] (hD 4 h9 (hE 5 h9 (hK h10 (hA 10 8 h11 h0)))) ?_
   exact wJ G q
  ·exact X_skip (wJ G q)
 rintro v11 q
 refine Ok_seq (rg G (tl q (fun (v17, v18, v19, v20) => ⟨[(0, .ref 0 0), (6, .ref 32 0), (7, .ref 48 0)], [bX 0 118 [dV v17, dV v18, kV .u64 v19], bX 32 194 [dV ByteArray.empty, .dat (.sc (.slice none 0 0)), .dat (.sc (.slice none 0 0))], bX 48 194 [dV name, .own 64, .own 80], aX 64 3 v11, aX 80 3 v20], 112⟩) (fun vv q => ?_) ?_))
 ·refine Ok_block (lpP q (fun (v12, v13, v14, v15, v16) => ⟨[(0, .ref 0 0), (6, .ref 32 0), (7, .ref 48 0), (10, dV v12)], [bX 0 118 [dV v13, dV v14, kV .u64 v15], bX 32 194 [dV ByteArray.empty, .dat (.sc (.slice none 0 0)), .dat (.sc (.slice none 0 0))], bX 48 194 [dV name, .own 64, .own 80], aX 64 3 v11, aX 80 3 v16], 112⟩) (Wk_J G.hL ⟨[(0, []), (6, []), (7, []), (10, [])], [(0, 0, []), (32, 32, []), (48, 48, [.k, .k, .o 80]), (64, 64, [])], [(80, 3, 1, [])], 112⟩ (by kernel_rfl)) ?_)
  rintro ⟨v12, v13, v14, v15, v16⟩ r0 hb1 q
  rw [zq47_L2] at q
  refine Ok_seq (rs G (hN 3 v11 h0) ?_)
  refine cd q ?_ ?_ <;> intro q
  ·refine X_skip (thN (Ok_seq (Ok_block ?_)))
   obtain ⟨r5, h14, u7, h15, q⟩ := ob2 q
   refine de G [(3, [0]), (6, [80, 272]), (8, [48, 288])] (hC 3 (zq54_c h14) (hA 6 8 h15 h0)) ?_
   exact ibN (thN (rh G (wL G q)))
  ·exact Ok_exit (thE (thE (ibE (wD G q hb1))))
 rintro ⟨v17, v18, v19, v20⟩ q s1 hw1
 refine thN (Ok_weak hw1 ?_)
 refine rg G ?_
 cases q
 exact rt [] []
noncomputable def zq52_M : MS (l1Cur × Int) (Bool × l1Cur) := ⟨.x (.b 118) .r, fun x => zq52 x.1 x.2, fun y => dV y.1, fun _ => [], fun _ y => [bxO 118 y.2]⟩
theorem zq52_c {c n y} (q : zq52 c n = some y) : zq52_M.C (c, n) y := zq52_M.c (c, n) q
theorem zq52_ok : FnOK Try.prog tJ 79 zq52_M.S := by
 refine fm tt zq52_M [fo zq54_ok] call79 func79 rfl results79 ntmps79 ?_
 rintro ⟨c, n⟩ y cx G (q : zq52 c n = some y)
 unfold zq52 at q
 refine rg G ?_
 obtain ⟨r, h, q⟩ := obind q
 refine rs G (hC 2 (zq54_c h) h0) ?_
 cases q
 exact rt [] []
noncomputable def zq63_M : MS ((List Int)) ((List Int)) := ⟨.r, zq63, fun y => dV y, fun _ => [], fun _ _ => []⟩
theorem zq63_c {list y} (q : zq63 list = some y) : zq63_M.C list y := zq63_M.c list q
theorem zq63_ok : FnOK Try.prog tJ 223 zq63_M.S := by
 refine fm tt zq63_M [] call223 func223 rfl results223 ntmps223 ?_
 rintro list y cx G (q : zq63 list = some y)
 unfold zq63 at q
 refine rg G (rg G (Ok_seq (rs G (hN 1 list h0) ?_)))
 refine tl q (fun i1 => ⟨[(3, .own 16)], [aX 16 3 i1], 48⟩) (fun i1 q => ?_) ?_
 ·refine Ok_block (lp G q (fun (v, i) => ⟨[(0, dV list), (3, .own 16), (4, dV v)], [aX 16 3 i], 48⟩) ?_)
  rintro ⟨v, i⟩ r0 hb q
  rw [zq63_L1] at q
  refine Ok_seq (rg G (cd q ?_ ?_)) <;> intro q
  ·refine X_skip (thN (Ok_seq (Ok_block ?_)))
   obtain ⟨e, h, u, h1, q⟩ := ob2 q
   refine re G (hD 3 h (hA 6 8 h1 h0)) ?_
   exact ibN (thN (rh G (wL G q)))
  ·exact Ok_exit (thE (thE (ibE (wD G q hb))))
 rintro i1 q s hw
 refine thN (Ok_weak hw ?_)
 refine rg G ?_
 cases q
 exact rt [] []
noncomputable def zq60_M : MS ((List Int)) ((List Int)) := ⟨.r, zq60, fun _ => .own 0, fun y => [arO 3 y], fun _ _ => []⟩
theorem zq60_c {l y} (q : zq60 l = some y) : zq60_M.C l y := zq60_M.c l q
theorem zq60_ok : FnOK Try.prog tJ 128 zq60_M.S := by
 refine fm tt zq60_M [] call128 func128 rfl results128 ntmps128 ?_
 rintro l y cx G (q : zq60 l = some y)
 unfold zq60 at q
 refine rg G ?_
 obtain ⟨u, h, q⟩ := obind q
 refine rs G (hA 2 8 h h0) ?_
 cases q
 exact rt [64] []
noncomputable def zq51_M : MS (l1Cur × (List ByteArray)) (ByteArray × l1Cur) := ⟨.x (.b 118) (.s 9), fun x => zq51 x.1 x.2, fun y => dV y.1, fun _ => [], fun x y => [bxO 118 y.2, arO 9 x.2]⟩
theorem zq51_ok : FnOK Try.prog tJ 228 zq51_M.S := by
 refine fm tt zq51_M [fo zq54_ok] call228 func228 rfl results228 ntmps228 ?_
 rintro ⟨c, list⟩ y cx G (q : zq51 c list = some y)
 unfold zq51 at q
 refine rg G ?_
 obtain ⟨r, h, e, h1, q⟩ := ob2 q
 refine rs G (hN 3 list (hC 4 (zq54_c h) (hD 5 h1 (hE 6 h1 h0)))) ?_
 cases q
 exact rt [] []
noncomputable def zq70_M : MS Network Network := ⟨.r, zq70, fun _ => .aggv [.own 0, .own 1], fun y => [arO 9 y.Stops, taO 194 [none, some 3, some 3] y.Lines], fun _ _ => []⟩
theorem zq70_ok : FnOK Try.prog tJ 161 zq70_M.S := by
 refine fm tt zq70_M [fo zq60_ok] call161 func161 rfl results161 ntmps161 ?_
 rintro n y cx G (q : zq70 n = some y)
 unfold zq70 at q
 refine rg G ?_
 obtain ⟨u, h, q⟩ := obind q
 refine rs G (hA 3 16 h h0) ?_
 refine Ok_seq (rg G (tl q (fun v2 => ⟨[(2, .ref 16 0), (3, .ref 32 0)], [bX 16 60 [.dat (.sc (.slice none 0 0)), .dat (.sc (.slice none 0 0))], bX 32 60 [.own 48, .own 64], aX 48 9 (([] : List ByteArray) ++ n.Stops), tX 64 194 [none, some 3, some 3] v2 64 none], 96⟩) (fun v2 q => ?_) ?_))
 ·refine Ok_block (lpP q (fun (v, v1) => ⟨[(1, .ref 16 0), (2, .ref 32 0), (3, .ref 48 0), (4, dV v)], [bX 16 60 [dV n.Stops, dV n.Lines], bX 32 60 [.dat (.sc (.slice none 0 0)), .dat (.sc (.slice none 0 0))], bX 48 60 [.own 64, .own 80], aX 64 9 (([] : List ByteArray) ++ n.Stops), tX 80 194 [none, some 3, some 3] v1 80 none], 112⟩) (Wk_J G.hL ⟨[(1, []), (2, []), (3, []), (4, [])], [(16, 16, []), (32, 32, []), (48, 128, [.k, .o 80]), (64, 96, [])], [(80, 194, 3, [none, some 3, some 3])], 112⟩ (by kernel_rfl)) ?_)
  rintro ⟨v, v1⟩ r0 hb q
  rw [zq70_L1] at q
  refine Ok_seq (rs G (hN 3 n.Lines h0) ?_)
  refine cd q ?_ ?_ <;> intro q
  ·refine X_skip (thN (Ok_seq (Ok_block ?_)))
   obtain ⟨e3, h7, e4, h8, r2, h9, q⟩ := ob3 q
   obtain ⟨e5, h10, r3, h11, u2, h12, q⟩ := ob3 q
   refine de G [(23, [416, 528]), (24, [80, 560]), (26, [48, 576])] (hD 5 h7 (hD 11 h8 (hC 14 (zq60_c h9) (hD 18 h10 (hC 21 (zq60_c h11) (hP (nodupB_ok (l := [416, 528]) rfl) (hA 24 64 h12 h0))))))) ?_
   exact ibN (thN (rh G (wL G q)))
  ·exact Ok_exit (thE (thE (ibE (wD G q hb))))
 rintro v2 q s hw
 refine thN (Ok_weak hw ?_)
 refine rg G ?_
 cases q
 exact rt [48, 64] []
noncomputable def zq48_M : MS l1Cur (Network × l1Cur) := ⟨.b 118, zq48, fun _ => .aggv [.own 0, .own 1], fun y => [arO 9 y.1.Stops, taO 194 [none, some 3, some 3] y.1.Lines], fun _ y => [bxO 118 y.2]⟩
theorem zq48_ok : FnOK Try.prog tJ 177 zq48_M.S := by
 refine fm tt zq48_M [fo zq54_ok, fo zq59_ok, fo zq47_ok, fo zq52_ok, fo zq63_ok, fo zq70_ok] call177 func177 rfl results177 ntmps177 ?_
 rintro c y cx G (q : zq48 c = some y)
 unfold zq48 at q
 refine rg G ?_
 obtain ⟨r, h, q⟩ := obind q
 refine rs G (hC 1 (zq54_c h) h0) ?_
 obtain ⟨u, h1, q⟩ := obind q
 refine rs G (hO 2 (.fz [96] [] []) (hU 2 h1 h0)) ?_
 refine Ok_seq ?_
 obtain ⟨r1, h2, q⟩ := obind q
 refine rs G (hC 1 (zq54_c h2) h0) ?_
 refine tl q (fun (v4, v5, v6, v7) => ⟨[(0, .ref 0 0), (2, .ref 32 0), (4, .ref 48 0)], [bX 0 118 [dV v4, dV v5, kV .u64 v6], bX 32 60 [.dat (.sc (.slice none 0 0)), .dat (.sc (.slice none 0 0))], bX 48 60 [dV ((([(str [112, 111, 114, 116]), (str [109, 105, 108, 108]), (str [112, 97, 114, 107]), (str [104, 97, 108, 108]), (str [100, 111, 99, 107]), (str [102, 97, 105, 114])] : List ByteArray).take (w64 (2 + r.1)).toNat).drop (0 : Int).toNat), .own 64], aX 64 194 v7], 96⟩) (fun vv1 q => ?_) ?_
 ·refine Ok_block (lpP q (fun (x, v, v1, v2, v3) => ⟨[(0, .ref 0 0), (2, .ref 32 0), (3, dV (w64 (2 + r.1))), (4, .ref 48 0), (5, dV x)], [bX 0 118 [dV v, dV v1, kV .u64 v2], bX 32 60 [.dat (.sc (.slice none 0 0)), .dat (.sc (.slice none 0 0))], bX 48 60 [dV ((([(str [112, 111, 114, 116]), (str [109, 105, 108, 108]), (str [112, 97, 114, 107]), (str [104, 97, 108, 108]), (str [100, 111, 99, 107]), (str [102, 97, 105, 114])] : List ByteArray).take (w64 (2 + r.1)).toNat).drop (0 : Int).toNat), .own 64], aX 64 194 v3], 96⟩) (Wk_J G.hL ⟨[(0, []), (2, []), (3, []), (4, []), (5, [])], [(0, 0, []), (32, 16, []), (48, 160, [.k, .o 64])], [(64, 194, 3, [])], 96⟩ (by kernel_rfl)) ?_)
  rintro ⟨x, v, v1, v2, v3⟩ r0 hb q
  rw [zq48_L1] at q
  refine Ok_seq (rg G (cd q ?_ ?_)) <;> intro q
  ·refine X_skip (thN (Ok_seq (Ok_block ?_)))
   obtain ⟨r4, h7, u3, h8, r5, h9, q⟩ := ob3 q
   obtain ⟨u4, h10, q⟩ := obind q
   refine de G [(7, [0]), (8, []), (9, [64, 256]), (11, [48, 272])] (hC 4 (zq59_M.c _ h7) (hP (cat_p (chk_t h8)) (hC 7 (zq47_M.c (_, _, _) h9) (hA 9 64 h10 h0)))) ?_
   exact ibN (thN (rh G (wL G q)))
  ·exact Ok_exit (thE (thE (ibE (wD G q hb))))
 rintro ⟨v4, v5, v6, v7⟩ q s hw
 refine thN (Ok_weak hw ?_)
 refine jn q (fun (v8, v9, v10, v11) => ⟨[(0, .ref 0 0), (2, .ref 32 0), (4, .ref 48 0)], [bX 0 118 [dV v8, dV v9, kV .u64 v10], bX 32 60 [.dat (.sc (.slice none 0 0)), .dat (.sc (.slice none 0 0))], bX 48 60 [dV ((([(str [112, 111, 114, 116]), (str [109, 105, 108, 108]), (str [112, 97, 114, 107]), (str [104, 97, 108, 108]), (str [100, 111, 99, 107]), (str [102, 97, 105, 114])] : List ByteArray).take (w64 (2 + r.1)).toNat).drop (0 : Int).toNat), .own 64], aX 64 194 v11], 96⟩) (fun vv q => ?_) ?_
 ·obtain ⟨r6, h11, q⟩ := obind q
  refine rs G (hC 1 (zq52_c h11) h0) ?_
  refine cd q ?_ ?_ <;> intro q
  ·obtain ⟨e, h12, q⟩ := obind q
   refine rs G (hD 2 h12 (hE 3 h12 h0)) ?_
   obtain ⟨r9, h16, r10, h17, u6, h18, q⟩ := ob3 q
   refine de G [(9, []), (10, [64, 368]), (12, [48, 384])] (hC 4 (zq63_c h16) (hC 7 (zq63_c h17) (hA 10 64 h18 h0))) ?_
   exact wJ G q
  ·exact X_skip (wJ G q)
 rintro ⟨v8, v9, v10, v11⟩ q
 obtain ⟨r11, h19, q⟩ := obind q
 refine rs G (hO 1 (.fz [64] [] []) (hC 1 (zq70_M.c _ h19) h0)) ?_
 cases q
 exact rt [112, 113] []
noncomputable def zq43_M : MS (l1Cur × (List Int)) (Int × l1Cur) := ⟨.x (.b 118) .r, fun x => zq43 x.1 x.2, fun y => dV y.1, fun _ => [], fun _ y => [bxO 118 y.2]⟩
theorem zq43_ok : FnOK Try.prog tJ 141 zq43_M.S := by
 refine fm tt zq43_M [fo zq54_ok] call141 func141 rfl results141 ntmps141 ?_
 rintro ⟨c, list⟩ y cx G (q : zq43 c list = some y)
 unfold zq43 at q
 refine rg G ?_
 obtain ⟨r, h, e, h1, q⟩ := ob2 q
 refine rs G (hN 3 list (hC 4 (zq54_c h) (hD 5 h1 h0))) ?_
 cases q
 exact rt [] []
noncomputable def zq44_M : MS (l1Cur × (List Int)) (Int × l1Cur) := ⟨.x (.b 118) (.s 3), fun x => zq44 x.1 x.2, fun y => dV y.1, fun _ => [], fun x y => [bxO 118 y.2, arO 3 x.2]⟩
theorem zq44_ok : FnOK Try.prog tJ 141 zq44_M.S := by
 refine fm tt zq44_M [fo zq54_ok] call141 func141 rfl results141 ntmps141 ?_
 rintro ⟨c, list⟩ y cx G (q : zq44 c list = some y)
 unfold zq44 at q
 refine rg G ?_
 obtain ⟨r, h, e, h1, q⟩ := ob2 q
 refine rs G (hN 3 list (hC 4 (zq54_c h) (hD 5 h1 (hE 6 h1 h0)))) ?_
 cases q
 exact rt [] []
noncomputable def zq45_M : MS l1Cur (Network × l1Cur) := ⟨.b 118, zq45, fun y => .aggv [.own 0, dV y.1.Lines], fun y => [arO 9 y.1.Stops], fun _ y => [bxO 118 y.2]⟩
theorem zq45_ok : FnOK Try.prog tJ 193 zq45_M.S := by
 refine fm tt zq45_M [fo zq48_ok, fo zq54_ok, fo zq51_ok, fo zq44_ok, fo zq59_ok, fo zq46_ok] call193 func193 rfl results193 ntmps193 ?_
 rintro c y cx G (q : zq45 c = some y)
 unfold zq45 at q
 refine rg G ?_
 obtain ⟨r, h, q⟩ := obind q
 refine rs G (hC 1 (zq48_M.c _ h) h0) ?_
 obtain ⟨r1, h1, q⟩ := obind q
 refine rs G (hN 3 r.1.Lines (hC 4 (zq54_c h1) h0)) ?_
 obtain ⟨e, h2, q⟩ := obind q
 refine rs G (hD 3 h2 (hE 4 h2 h0)) ?_
 refine jF q (fun (v, v1, v2, v3, v4, v5, v6) => ⟨[(0, .ref 0 0), (2, .ref 32 0), (3, .ref 48 0), (4, dV r1.1), (5, .ref 64 0)], [bX 0 118 [dV v, dV v1, kV .u64 v2], bX 32 60 [.dat (.sc (.slice none 0 0)), .dat (.sc (.slice none 0 0))], bX 48 60 [.own 80, .own 96], bX 64 194 [dV v3, .row 96 96 r1.1.toNat 1, .own 112], aX 80 9 v4, tX 96 194 [none, some 3, some 3] v5 96 (some (r1.1.toNat, 2)), aX 112 3 v6], 144⟩) (fun v17 hr q => ?_) ?_
 ·obtain ⟨r2, h3, q⟩ := obind q
  refine rs G (hC 1 (zq54_c h3) h0) ?_
  refine Ok_block (rg G (cd q ?_ ?_)) <;> intro q
  ·obtain ⟨r4, h6, e2, h7, q⟩ := ob2 q
   refine de G [(4, [0, 416]), (6, [48])] (hC 4 (zq51_M.c (_, _) h6) (hD 5 h7 (hS 6 h7 r4.1 h0))) ?_
   exact ibN (wFp q (Wk.trans (Wk_S (.c 272 2) (Enc.e e) (.cons (idx_m2 (f := Enc.e) (l := r.1.Lines) (i := r1.1) h2) .nil) (by kernel_rfl)) (Wk_J G.hL ⟨[(0, []), (2, []), (3, []), (4, []), (5, [])], [(0, 0, []), (32, 16, []), (48, 64, []), (64, 272, []), (80, 48, []), (96, 49, []), (112, 480, [])], [], 144⟩ (by kernel_rfl))))
  ·refine rg G (cd q ?_ ?_) <;> intro q
   ·obtain ⟨r5, h8, q⟩ := obind q
    refine re G (hC 2 (zq51_M.c (_, _) h8) h0) ?_
    exact ibN (wFp q (Wk.trans (Wk_S (.c 272 2) (Enc.e e) (.cons (idx_m2 (f := Enc.e) (l := r.1.Lines) (i := r1.1) h2) .nil) (by kernel_rfl)) (Wk_J G.hL ⟨[(0, []), (2, []), (3, []), (4, []), (5, [])], [(0, 0, []), (32, 16, []), (48, 64, []), (64, 272, []), (80, 48, []), (96, 49, []), (112, 480, [])], [], 144⟩ (by kernel_rfl))))
   ·refine rg G (cd q ?_ ?_) <;> intro q
    ·obtain ⟨r8, h12, r9, h13, e4, h14, q⟩ := ob3 q
     refine de G [(6, [0]), (8, [0]), (11, [49])] (hO 5 (.dn (Enc.e e) (e.Stops.length : Int)) (hP (idx_m2 (f := Enc.e) h2) (hP (len_m Enc.e e.Stops) (hC 6 (zq54_c h12) (hC 8 (zq54_c h13) (hE 10 h2 (hP (idx_b (f := Enc.e) h14) (hO 11 (.sd2 (Enc.e e) (Enc.e e4) (List.map Enc.e (e.Stops.set r8.1.toNat (w64 (r9.1 - 1)))) (List.map Enc.e (r.1.Lines.set r1.1.toNat (⟨e.Name, (e.Stops.set r8.1.toNat (w64 (r9.1 - 1))), e.Runs⟩ : Line)))) (hP (idx_m2 (f := Enc.e) h2) (hP (idx_m2 (f := Enc.e) h14) (hP (set_m Enc.e e.Stops r8.1.toNat (w64 (r9.1 - 1))) (hP (set_m Enc.e r.1.Lines r1.1.toNat (⟨e.Name, (e.Stops.set r8.1.toNat (w64 (r9.1 - 1))), e.Runs⟩ : Line)) h0)))))))))))) ?_
     exact ibN (wFp q (Wk.trans (Wk_S (.c 272 2) (Enc.e (⟨e.Name, (e.Stops.set r8.1.toNat (w64 (r9.1 - 1))), e.Runs⟩ : Line)) (.cons (idx_m2 (f := Enc.e) (l := (r.1.Lines.set r1.1.toNat (⟨e.Name, (e.Stops.set r8.1.toNat (w64 (r9.1 - 1))), e.Runs⟩ : Line))) (i := r1.1) (idx_set (y := (⟨e.Name, (e.Stops.set r8.1.toNat (w64 (r9.1 - 1))), e.Runs⟩ : Line)) h2)) .nil) (by kernel_rfl)) (Wk_J G.hL ⟨[(0, []), (2, []), (3, []), (4, []), (5, [])], [(0, 0, []), (32, 16, []), (48, 64, []), (64, 272, []), (80, 48, []), (96, 49, []), (112, 624, [])], [], 144⟩ (by kernel_rfl))))
    ·refine rg G (cd q ?_ ?_) <;> intro q
     ·obtain ⟨r12, h18, r13, h19, e6, h20, q⟩ := ob3 q
      refine de G [(6, [0]), (9, [0, 592]), (11, [49])] (hO 5 (.dn (Enc.e e) (e.Runs.length : Int)) (hP (idx_m2 (f := Enc.e) h2) (hP (len_m Enc.e e.Runs) (hC 6 (zq54_c h18) (hC 9 (zq44_M.c (_, _) h19) (hE 10 h2 (hP (idx_b (f := Enc.e) h20) (hO 11 (.sd2 (Enc.e e) (Enc.e e6) (List.map Enc.e (e.Runs.set r12.1.toNat r13.1)) (List.map Enc.e (r.1.Lines.set r1.1.toNat (⟨e.Name, e.Stops, (e.Runs.set r12.1.toNat r13.1)⟩ : Line)))) (hP (idx_m2 (f := Enc.e) h2) (hP (idx_m2 (f := Enc.e) h20) (hP (set_m Enc.e e.Runs r12.1.toNat r13.1) (hP (set_m Enc.e r.1.Lines r1.1.toNat (⟨e.Name, e.Stops, (e.Runs.set r12.1.toNat r13.1)⟩ : Line)) h0)))))))))))) ?_
      exact ibN (wFp q (Wk.trans (Wk_S (.c 272 2) (Enc.e (⟨e.Name, e.Stops, (e.Runs.set r12.1.toNat r13.1)⟩ : Line)) (.cons (idx_m2 (f := Enc.e) (l := (r.1.Lines.set r1.1.toNat (⟨e.Name, e.Stops, (e.Runs.set r12.1.toNat r13.1)⟩ : Line))) (i := r1.1) (idx_set (y := (⟨e.Name, e.Stops, (e.Runs.set r12.1.toNat r13.1)⟩ : Line)) h2)) .nil) (by kernel_rfl)) (Wk_J G.hL ⟨[(0, []), (2, []), (3, []), (4, []), (5, [])], [(0, 0, []), (32, 16, []), (48, 64, []), (64, 272, []), (80, 48, []), (96, 49, []), (112, 656, [])], [], 144⟩ (by kernel_rfl))))
     ·refine rg G (cd q ?_ ?_) <;> intro q
      ·obtain ⟨u, h21, q⟩ := obind q
       refine re G (hO 3 (.sd (Enc.e e) (List.map Enc.e (e.Runs ++ ([3] : List Int)))) (hP (idx_m2 (f := Enc.e) h2) (hP (app_p (f := Enc.e) (g := Enc.e) (l := e.Runs) (r := ([3] : List Int)) (b := 8) (chk_t h21) rfl) (hP (app_m Enc.e e.Runs ([3] : List Int)) h0)))) ?_
       exact ibN (wF G q)
      ·refine rg G (cd q ?_ ?_) <;> intro q
       ·refine rg G (rg G ?_)
        have q := eR q hr
        cases q
        exact rt [48] []
       ·refine rg G (cd q ?_ ?_) <;> intro q
        ·refine Ok_seq (rg G (tl q (fun (v13, v14, v15, v16) => ⟨[(0, .ref 0 0), (2, .ref 32 0), (3, .ref 48 0)], [bX 0 118 [dV v13, dV v14, kV .u64 v15], bX 32 60 [.dat (.sc (.slice none 0 0)), .dat (.sc (.slice none 0 0))], bX 48 60 [.own 64, .own 80], aX 64 9 r.1.Stops, tX 80 194 [none, some 3, some 3] v16 80 none], 112⟩) (fun vv q => ?_) ?_))
         ·refine Ok_block (lp G q (fun (v7, v8, v9, v10, v11) => ⟨[(0, .ref 0 0), (2, .ref 32 0), (3, .ref 48 0), (6, dV v7)], [bX 0 118 [dV v8, dV v9, kV .u64 v10], bX 32 60 [.dat (.sc (.slice none 0 0)), .dat (.sc (.slice none 0 0))], bX 48 60 [.own 64, .own 80], aX 64 9 r.1.Stops, tX 80 194 [none, some 3, some 3] v11 80 none], 112⟩) ?_)
          rintro ⟨v7, v8, v9, v10, v11⟩ r0 hb q
          rw [zq45_L1] at q
          refine Ok_seq ?_
          obtain ⟨r16, h23, q⟩ := obind q
          refine jn q (fun v12 => ⟨[(0, .ref 0 0), (2, .ref 32 0), (3, .ref 48 0), (6, dV v7), (85, dV v12)], [bX 0 118 [dV r16.2.code_, dV r16.2.at_, kV .u64 r16.2.seed_.v], bX 32 60 [.dat (.sc (.slice none 0 0)), .dat (.sc (.slice none 0 0))], bX 48 60 [.own 64, .own 80], aX 64 9 r.1.Stops, tX 80 194 [none, some 3, some 3] v11 80 none], 112⟩) (fun v12 q => ?_) ?_
          ·rcases bf q with ⟨hb1, q⟩ | ⟨hb1, q⟩
           ·refine de G [(4, [0])] (hN 2 v11 (hC 4 (zq54_c h23) (hO 7 (.b true) (hP hb1 h0)))) ?_
            exact wJ G q
           ·refine de G [(4, [0])] (hN 2 v11 (hC 4 (zq54_c h23) (hO 7 (.b false) (hP hb1 h0)))) ?_
            exact wJ G q
          rintro v12 q
          refine cd q ?_ ?_ <;> intro q
          ·refine X_skip (thN (Ok_seq (Ok_block ?_)))
           obtain ⟨r19, h28, u3, h29, r20, h30, q⟩ := ob3 q
           obtain ⟨u4, h31, q⟩ := obind q
           refine de G [(9, [0]), (10, [256, 257]), (11, [80, 272]), (13, [48, 288])] (hC 4 (zq59_M.c _ h28) (hP (cat_p (chk_t h29)) (hN 8 r.1.Stops (hC 9 (zq46_M.c (_, _, _) h30) (hP (nodupB_ok (l := [256, 257]) rfl) (hA 11 64 h31 h0)))))) ?_
           exact ibN (thN (rh G (wL G q)))
          ·exact Ok_exit (thE (thE (ibE (wD G q hb))))
         rintro ⟨v13, v14, v15, v16⟩ q s hw
         refine thN (Ok_weak hw ?_)
         refine rg G ?_
         have q := eR q hr
         cases q
         exact rt [64] []
        ·exact X_skip (ibN (wFp q (Wk.trans (Wk_S (.c 272 2) (Enc.e e) (.cons (idx_m2 (f := Enc.e) (l := r.1.Lines) (i := r1.1) h2) .nil) (by kernel_rfl)) (Wk_J G.hL ⟨[(0, []), (2, []), (3, []), (4, []), (5, [])], [(0, 0, []), (32, 16, []), (48, 64, []), (64, 272, []), (80, 48, []), (96, 49, []), (112, 560, [])], [], 144⟩ (by kernel_rfl)))))
 rintro ⟨v, v1, v2, v3, v4, v5, v6⟩ q
 obtain ⟨e9, h32, q⟩ := obind q
 refine rs G (hD 4 h32 (hS 5 h32 (⟨v3, e9.Stops, v6⟩ : Line) (hP (Eq.refl r1.1.toNat) (hP (Eq.refl r1.1.toNat) h0)))) ?_
 refine rg G ?_
 cases q
 exact rt [80] []
noncomputable def zq53_M : MS (l1Cur × Int) (Network × Int × (List Pattern) × l1Cur) := ⟨.x (.b 118) .r, fun x => zq53 x.1 x.2, fun y => .tup [.aggv [.own 0, dV y.1.Lines], dV y.2.1, .own 1], fun y => [arO 9 y.1.Stops, arO 104 y.2.2.1], fun _ y => [bxO 118 y.2.2.2]⟩
theorem zq53_ok : FnOK Try.prog tJ 129 zq53_M.S := by
 refine fm tt zq53_M [fo zq45_ok, fo zq43_ok, fo zq54_ok] call129 func129 rfl results129 ntmps129 ?_
 rintro ⟨c, most⟩ y cx G (q : zq53 c most = some y)
 unfold zq53 at q
 refine rg G ?_
 obtain ⟨r, h, q⟩ := obind q
 refine rs G (hC 1 (zq45_M.c _ h) h0) ?_
 obtain ⟨u, h1, r1, h2, q⟩ := ob2 q
 refine rs G (hO 3 (.fz [144] [] []) (hU 3 h1 (hC 4 (zq43_M.c (_, _) h2) h0))) ?_
 refine rg G (Ok_seq ?_)
 obtain ⟨r2, h3, q⟩ := obind q
 refine rs G (hC 1 (zq54_c h3) h0) ?_
 refine tl q (fun (v4, v5, v6, k1) => ⟨[(0, .ref 0 0), (4, .ref 32 0), (7, .ref 48 0), (8, dV r1.1), (9, .own 64)], [bX 0 118 [dV v4, dV v5, kV .u64 v6], bX 32 60 [.dat (.sc (.slice none 0 0)), .dat (.sc (.slice none 0 0))], bX 48 60 [.own 80, dV r.1.Lines], aX 64 104 k1, aX 80 9 r.1.Stops], 112⟩) (fun vv2 q => ?_) ?_
 ·refine Ok_block (lp G q (fun (x, v, v1, v2, k) => ⟨[(0, .ref 0 0), (4, .ref 32 0), (7, .ref 48 0), (8, dV r1.1), (9, .own 64), (10, dV x)], [bX 0 118 [dV v, dV v1, kV .u64 v2], bX 32 60 [.dat (.sc (.slice none 0 0)), .dat (.sc (.slice none 0 0))], bX 48 60 [.own 80, dV r.1.Lines], aX 64 104 k, aX 80 9 r.1.Stops], 112⟩) ?_)
  rintro ⟨x, v, v1, v2, k⟩ r0 hb q
  rw [zq53_L1] at q
  refine Ok_seq (jn q (fun v3 => ⟨[(0, .ref 0 0), (4, .ref 32 0), (7, .ref 48 0), (8, dV r1.1), (9, .own 64), (10, dV x), (31, dV v3)], [bX 0 118 [dV v, dV v1, kV .u64 v2], bX 32 60 [.dat (.sc (.slice none 0 0)), .dat (.sc (.slice none 0 0))], bX 48 60 [.own 80, dV r.1.Lines], aX 64 104 k, aX 80 9 r.1.Stops], 112⟩) (fun v3 q => ?_) ?_)
  ·rcases bf q with ⟨hb1, q⟩ | ⟨hb1, q⟩
   ·refine re G (hO 2 (.b true) (hP hb1 (hN 5 r.1.Lines h0))) ?_
    exact wJ G q
   ·refine re G (hO 2 (.b false) (hP hb1 h0)) ?_
    exact wJ G q
  rintro v3 q
  refine cd q ?_ ?_ <;> intro q
  ·refine X_skip (thN (Ok_seq (Ok_block ?_)))
   obtain ⟨r3, h4, r4, h5, u1, h6, q⟩ := ob3 q
   refine re G (hN 4 r.1.Lines (hC 5 (zq54_c h4) (hC 8 (zq54_c h5) (hA 11 16 h6 h0)))) ?_
   exact ibN (thN (rh G (wL G q)))
  ·exact Ok_exit (thE (thE (ibE (wD G q hb))))
 rintro ⟨v4, v5, v6, k1⟩ q s hw
 refine thN (Ok_weak hw ?_)
 refine Ok_seq (rs G (hN 1 k1 h0) ?_)
 refine cd q ?_ ?_ <;> intro q
 ·refine rg G ?_
  cases q
  exact rt [80, 64] []
 ·refine X_skip (thN ?_)
  obtain ⟨r5, h7, q⟩ := obind q
  refine rs G (hN 2 k1 (hC 3 (zq54_c h7) h0)) ?_
  obtain ⟨e, h8, q⟩ := obind q
  refine rs G (hD 2 h8 (hE 3 h8 h0)) ?_
  refine jn q (fun (k2, v7, v8, v9, k3, v10, v11) => ⟨[(0, .ref 0 0), (4, .ref 32 0), (7, .ref 48 0), (8, dV k2), (9, .own 64), (11, dV r5.1), (12, .ref 80 0)], [bX 0 118 [dV v7, dV v8, kV .u64 v9], bX 32 60 [.dat (.sc (.slice none 0 0)), .dat (.sc (.slice none 0 0))], bX 48 60 [.own 96, dV r.1.Lines], aX 64 104 k3, bX 80 104 [dV v10, dV v11], aX 96 9 r.1.Stops], 128⟩) (fun vv1 q => ?_) ?_
  ·obtain ⟨r6, h9, q⟩ := obind q
   refine rs G (hC 1 (zq54_c h9) h0) ?_
   refine Ok_block (rg G (cd q ?_ ?_)) <;> intro q
   ·obtain ⟨r7, h10, q⟩ := obind q
    refine re G (hO 2 (.fz [416] [] []) (hC 2 (zq43_M.c (_, _) h10) h0)) ?_
    exact ibN (wJ G q)
   ·refine rg G (cd q ?_ ?_) <;> intro q
    ·obtain ⟨r8, h11, q⟩ := obind q
     refine re G (hO 3 (.fz [464] [] []) (hC 3 (zq43_M.c (_, _) h11) h0)) ?_
     exact ibN (wJ G q)
    ·refine rg G (cd q ?_ ?_) <;> intro q
     ·obtain ⟨r9, h12, q⟩ := obind q
      refine re G (hO 2 (.fz [480] [] []) (hC 2 (zq43_M.c (_, _) h12) h0)) ?_
      exact ibN (wJ G q)
     ·refine rg G (cd q ?_ ?_) <;> intro q
      ·refine tl q (fun (v15, v16, v17, k5) => ⟨[(0, .ref 0 0), (4, .ref 32 0), (7, .ref 48 0), (8, dV r1.1), (9, .own 64), (11, dV r5.1), (12, .ref 80 0)], [bX 0 118 [dV v15, dV v16, kV .u64 v17], bX 32 60 [.dat (.sc (.slice none 0 0)), .dat (.sc (.slice none 0 0))], bX 48 60 [.own 96, dV r.1.Lines], aX 64 104 k5, bX 80 104 [dV e.Line, dV e.Offset], aX 96 9 r.1.Stops], 128⟩) (fun vv q => ?_) ?_
       ·refine Ok_block (lp G q (fun (v12, v13, v14, k4) => ⟨[(0, .ref 0 0), (4, .ref 32 0), (7, .ref 48 0), (8, dV r1.1), (9, .own 64), (11, dV r5.1), (12, .ref 80 0)], [bX 0 118 [dV v12, dV v13, kV .u64 v14], bX 32 60 [.dat (.sc (.slice none 0 0)), .dat (.sc (.slice none 0 0))], bX 48 60 [.own 96, dV r.1.Lines], aX 64 104 k4, bX 80 104 [dV e.Line, dV e.Offset], aX 96 9 r.1.Stops], 128⟩) ?_)
        rintro ⟨v12, v13, v14, k4⟩ r0 hb2 q
        rw [zq53_L2] at q
        refine Ok_seq ?_
        obtain ⟨r10, h13, q⟩ := obind q
        refine rs G (hN 1 k4 (hC 3 (zq54_c h13) h0)) ?_
        refine cd q ?_ ?_ <;> intro q
        ·refine X_skip (thN (Ok_block ?_))
         obtain ⟨u2, h14, q⟩ := obind q
         refine re G (hA 3 16 h14 h0) ?_
         exact ibN (wL G q)
        ·exact Ok_exit (thE (thE (ibE (wD G q hb2))))
       rintro ⟨v15, v16, v17, k5⟩ q s1 hw1
       exact ibN (wJp q (Wk.trans hw1 (Wk_J G.hL ⟨[(0, []), (4, []), (7, []), (8, []), (9, []), (11, []), (12, [])], [(0, 0, []), (32, 32, []), (48, 48, []), (64, 64, []), (80, 80, []), (96, 96, [])], [], 128⟩ (by kernel_rfl))))
      ·exact X_skip (ibN (wJ G q))
  rintro ⟨k2, v7, v8, v9, k3, v10, v11⟩ q
  obtain ⟨e1, h15, q⟩ := obind q
  refine rs G (hD 3 h15 (hS 4 h15 (⟨v10, v11⟩ : Pattern) h0)) ?_
  refine rg G ?_
  cases q
  exact rt [96, 64] []
noncomputable def zq57_M : MS (Int × Int × Int) Bool := ⟨.x .r (.x .r .r), fun x => zq57 x.1 x.2.1 x.2.2, fun y => dV y, fun _ => [], fun _ _ => []⟩
theorem zq57_c {x a b y} (q : zq57 x a b = some y) : zq57_M.C (x, a, b) y := zq57_M.c (x, a, b) q
theorem zq57_ok : FnOK Try.prog tJ 146 zq57_M.S := by
 refine fm tt zq57_M [] call146 func146 rfl results146 ntmps146 ?_
 rintro ⟨x, a, b⟩ y cx G (q : zq57 x a b = some y)
 unfold zq57 at q
 refine rg G (jn q (fun v => ⟨[(6, dV v)], [], 32⟩) (fun v q => ?_) ?_)
 ·rcases bf q with ⟨hb, q⟩ | ⟨hb, q⟩
  ·refine re G (hO 3 (.b true) (hP hb h0)) ?_
   exact wJ G q
  ·refine re G (hO 3 (.b false) (hP hb h0)) ?_
   exact wJ G q
 rintro v q
 cases q
 exact rt [] []
noncomputable def zq68_M : MS ByteArray Bool := ⟨.r, zq68, fun y => dV y, fun _ => [], fun _ _ => []⟩
theorem zq68_ok : FnOK Try.prog tJ 202 zq68_M.S := by
 refine fm tt zq68_M [fo zq57_ok] call202 func202 rfl results202 ntmps202 ?_
 rintro s y cx G (q : zq68 s = some y)
 unfold zq68 at q
 refine rg G (Ok_seq ?_)
 obtain ⟨r, h, q⟩ := obind q
 refine jn q (fun v => ⟨[(0, dV s), (17, dV v)], [], 32⟩) (fun v q => ?_) ?_
 ·rcases bf q with ⟨hb, q⟩ | ⟨hb, q⟩
  ·refine re G (hC 2 (zq57_c h) (hO 4 (.b true) (hP hb h0))) ?_
   exact wJ G q
  ·obtain ⟨u, h1, q⟩ := obind q
   rcases bf q with ⟨hb1, q⟩ | ⟨hb1, q⟩
   ·refine re G (hC 2 (zq57_c h) (hO 4 (.b false) (hP hb (hK h1 (hO 9 (.b true) (hP hb1 h0)))))) ?_
    exact wJ G q
   ·obtain ⟨u1, h2, q⟩ := obind q
    refine re G (hC 2 (zq57_c h) (hO 4 (.b false) (hP hb (hK h1 (hO 9 (.b false) (hP hb1 (hK h2 h0))))))) ?_
    exact wJ G q
 rintro v q
 refine cd q ?_ ?_ <;> intro q
 ·refine rg G ?_
  cases q
  exact rt [] []
 ·refine X_skip (thN (Ok_seq (rg G (tF q (fun _ => ⟨[], [], 32⟩) (fun v3 hr q => ?_) ?_))))
  ·refine Ok_block (lp G q (fun v1 => ⟨[(0, dV s), (3, dV v1)], [], 32⟩) ?_)
   rintro v1 r0 hb2 q
   rw [zq68_L1] at q
   refine Ok_seq (rg G (cd q ?_ ?_)) <;> intro q
   ·refine X_skip (thN (Ok_seq (Ok_block ?_)))
    obtain ⟨u2, h3, q⟩ := obind q
    refine jn q (fun v2 => ⟨[(0, dV s), (3, dV v1), (45, dV v2)], [], 32⟩) (fun v2 q => ?_) ?_
    ·rcases bf q with ⟨hb3, q⟩ | ⟨hb3, q⟩
     ·obtain ⟨u3, h4, q⟩ := obind q
      rcases bf q with ⟨hb4, q⟩ | ⟨hb4, q⟩
      ·refine re G (hK h3 (hO 4 (.b true) (hP hb3 (hK h4 (hO 15 (.b true) (hP hb4 h0)))))) ?_
       exact wJ G q
      ·obtain ⟨u4, h5, q⟩ := obind q
       refine re G (hK h3 (hO 4 (.b true) (hP hb3 (hK h4 (hO 15 (.b false) (hP hb4 (hK h5 h0))))))) ?_
       exact wJ G q
     ·obtain ⟨u5, h6, q⟩ := obind q
      rcases bf q with ⟨hb5, q⟩ | ⟨hb5, q⟩
      ·obtain ⟨u6, h7, q⟩ := obind q
       rcases bf q with ⟨hb6, q⟩ | ⟨hb6, q⟩
       ·refine re G (hK h3 (hO 4 (.b false) (hP hb3 (hK h6 (hO 10 (.b true) (hP hb5 (hK h7 (hO 15 (.b true) (hP hb6 h0))))))))) ?_
        exact wJ G q
       ·obtain ⟨u7, h8, q⟩ := obind q
        refine re G (hK h3 (hO 4 (.b false) (hP hb3 (hK h6 (hO 10 (.b true) (hP hb5 (hK h7 (hO 15 (.b false) (hP hb6 (hK h8 h0)))))))))) ?_
        exact wJ G q
      ·refine re G (hK h3 (hO 4 (.b false) (hP hb3 (hK h6 (hO 10 (.b false) (hP hb5 h0)))))) ?_
       exact wJ G q
    rintro v2 q
    refine cd q ?_ ?_ <;> intro q
    ·refine rg G ?_
     have q := eL q hb2 hr
     cases q
     exact rt [] []
    ·exact X_skip (ibN (thN (rh G (wL G q))))
   ·exact Ok_exit (thE (thE (ibE (wE G q hb2))))
  rintro ⟨⟩ q s1 hw
  refine thN (Ok_weak hw ?_)
  refine rg G ?_
  cases q
  exact rt [] []
noncomputable def zq64_M : MS ((List ByteArray) × ByteArray) Int := ⟨.x .r .r, fun x => zq64 x.1 x.2, fun y => dV y, fun _ => [], fun _ _ => []⟩
theorem zq64_ok : FnOK Try.prog tJ 203 zq64_M.S := by
 refine fm tt zq64_M [] call203 func203 rfl results203 ntmps203 ?_
 rintro ⟨list, name⟩ y cx G (q : zq64 list name = some y)
 unfold zq64 at q
 refine rg G (Ok_seq (rg G (tF q (fun _ => ⟨[], [], 32⟩) (fun v1 hr q => ?_) ?_)))
 ·refine Ok_block (lp G q (fun v => ⟨[(0, dV list), (1, dV name), (5, dV v)], [], 32⟩) ?_)
  rintro v r0 hb q
  rw [zq64_L1] at q
  refine Ok_seq (rs G (hN 2 list h0) ?_)
  refine cd q ?_ ?_ <;> intro q
  ·refine X_skip (thN (Ok_seq (Ok_block ?_)))
   obtain ⟨e, h, q⟩ := obind q
   refine rs G (hD 2 h h0) ?_
   refine cd q ?_ ?_ <;> intro q
   ·refine rg G ?_
    have q := eL q hb hr
    cases q
    exact rt [] []
   ·exact X_skip (ibN (thN (rh G (wL G q))))
  ·exact Ok_exit (thE (thE (ibE (wE G q hb))))
 rintro ⟨⟩ q s hw
 refine thN (Ok_weak hw ?_)
 refine rg G ?_
 cases q
 exact rt [] []
noncomputable def zq66_M : MS (Line × Int) Bool := ⟨.x .r .r, fun x => zq66 x.1 x.2, fun y => dV y, fun _ => [], fun _ _ => []⟩
theorem zq66_ok : FnOK Try.prog tJ 204 zq66_M.S := by
 refine fm tt zq66_M [fo zq68_ok, fo zq57_ok, fo zq71_ok] call204 func204 rfl results204 ntmps204 ?_
 rintro ⟨x, stops⟩ y cx G (q : zq66 x stops = some y)
 unfold zq66 at q
 refine rg G (Ok_seq ?_)
 obtain ⟨r, h, q⟩ := obind q
 refine jn q (fun v => ⟨[(1, dV stops), (2, .ref 16 0), (27, dV v)], [bX 16 194 [dV x.Name, dV x.Stops, dV x.Runs]], 48⟩) (fun v q => ?_) ?_
 ·rcases bf q with ⟨hb, q⟩ | ⟨hb, q⟩
  ·refine re G (hC 2 (zq68_M.c _ h) (hO 4 (.b true) (hP hb h0))) ?_
   exact wJ G q
  ·obtain ⟨r1, h1, q⟩ := obind q
   rcases bf q with ⟨hb1, q⟩ | ⟨hb1, q⟩
   ·refine re G (hC 2 (zq68_M.c _ h) (hO 4 (.b false) (hP hb (hN 7 x.Stops (hC 8 (zq57_c h1) (hO 11 (.b true) (hP hb1 h0))))))) ?_
    exact wJ G q
   ·refine re G (hC 2 (zq68_M.c _ h) (hO 4 (.b false) (hP hb (hN 7 x.Stops (hC 8 (zq57_c h1) (hO 11 (.b false) (hP hb1 (hN 14 x.Runs (hN 17 x.Stops h0))))))))) ?_
    exact wJ G q
 rintro v q
 refine cd q ?_ ?_ <;> intro q
 ·refine rg G ?_
  cases q
  exact rt [] []
 ·refine X_skip (thN (Ok_seq (rg G (tF q (fun _ => ⟨[(2, .ref 16 0)], [bX 16 194 [dV x.Name, dV x.Stops, dV x.Runs]], 48⟩) (fun v5 hr q => ?_) ?_))))
  ·refine Ok_block (lp G q (fun v1 => ⟨[(1, dV stops), (2, .ref 16 0), (5, dV v1)], [bX 16 194 [dV x.Name, dV x.Stops, dV x.Runs]], 48⟩) ?_)
   rintro v1 r0 hb2 q
   rw [zq66_L1] at q
   refine Ok_seq (rs G (hN 3 x.Stops h0) ?_)
   refine cd q ?_ ?_ <;> intro q
   ·refine X_skip (thN (Ok_seq (Ok_block ?_)))
    obtain ⟨e2, h6, r4, h7, q⟩ := ob2 q
    refine jn q (fun v2 => ⟨[(1, dV stops), (2, .ref 16 0), (5, dV v1), (54, dV v2)], [bX 16 194 [dV x.Name, dV x.Stops, dV x.Runs]], 48⟩) (fun v2 q => ?_) ?_
    ·rcases bf q with ⟨hb3, q⟩ | ⟨hb3, q⟩
     ·refine de G [] (hD 3 h6 (hC 7 (zq57_c h7) (hO 9 (.b true) (hP hb3 h0)))) ?_
      exact wJ G q
     ·obtain ⟨e3, h8, r5, h9, q⟩ := ob2 q
      refine de G [] (hD 3 h6 (hC 7 (zq57_c h7) (hO 9 (.b false) (hP hb3 (hD 14 h8 (hC 16 (zq71_M.c (_, _) h9) h0)))))) ?_
      exact wJ G q
    rintro v2 q
    refine cd q ?_ ?_ <;> intro q
    ·refine rg G ?_
     have q := eL q hb2 hr
     cases q
     exact rt [] []
    ·exact X_skip (ibN (thN (rh G (wL G q))))
   ·exact Ok_exit (thE (thE (ibE (wE G q hb2))))
  rintro ⟨⟩ q s hw
  refine thN (Ok_weak hw ?_)
  refine Ok_seq (rg G (tF q (fun _ => ⟨[], [], 32⟩) (fun v4 hr1 q => ?_) ?_))
  ·refine Ok_block (lp G q (fun v3 => ⟨[(2, .ref 16 0), (6, dV v3)], [bX 16 194 [dV x.Name, dV x.Stops, dV x.Runs]], 48⟩) ?_)
   rintro v3 r0 hb4 q
   rw [zq66_L2] at q
   refine Ok_seq (rs G (hN 3 x.Runs h0) ?_)
   refine cd q ?_ ?_ <;> intro q
   ·refine X_skip (thN (Ok_seq (Ok_block ?_)))
    obtain ⟨e5, h10, r7, h11, q⟩ := ob2 q
    refine rs G (hD 3 h10 (hC 5 (zq57_c h11) h0)) ?_
    refine cd q ?_ ?_ <;> intro q
    ·refine rg G ?_
     have q := eL q hb4 hr1
     cases q
     exact rt [] []
    ·exact X_skip (ibN (thN (rh G (wL G q))))
   ·exact Ok_exit (thE (thE (ibE (wE G q hb4))))
  rintro ⟨⟩ q s1 hw1
  refine thN (Ok_weak hw1 ?_)
  refine rg G ?_
  cases q
  exact rt [] []
noncomputable def zq67_M : MS (Network × ByteArray) Int := ⟨.x .r .r, fun x => zq67 x.1 x.2, fun y => dV y, fun _ => [], fun _ _ => []⟩
theorem zq67_c {n name y} (q : zq67 n name = some y) : zq67_M.C (n, name) y := zq67_M.c (n, name) q
theorem zq67_ok : FnOK Try.prog tJ 205 zq67_M.S := by
 refine fm tt zq67_M [] call205 func205 rfl results205 ntmps205 ?_
 rintro ⟨n, name⟩ y cx G (q : zq67 n name = some y)
 unfold zq67 at q
 refine rg G (Ok_seq (rg G (tF q (fun _ => ⟨[], [], 32⟩) (fun v1 hr q => ?_) ?_)))
 ·refine Ok_block (lp G q (fun v => ⟨[(1, dV name), (2, .ref 16 0), (5, dV v)], [bX 16 60 [dV n.Stops, dV n.Lines]], 48⟩) ?_)
  rintro v r0 hb q
  rw [zq67_L1] at q
  refine Ok_seq (rs G (hN 3 n.Lines h0) ?_)
  refine cd q ?_ ?_ <;> intro q
  ·refine X_skip (thN (Ok_seq (Ok_block ?_)))
   obtain ⟨e, h, q⟩ := obind q
   refine rs G (hD 3 h h0) ?_
   refine cd q ?_ ?_ <;> intro q
   ·refine rg G ?_
    have q := eL q hb hr
    cases q
    exact rt [] []
   ·exact X_skip (ibN (thN (rh G (wL G q))))
  ·exact Ok_exit (thE (thE (ibE (wE G q hb))))
 rintro ⟨⟩ q s hw
 refine thN (Ok_weak hw ?_)
 refine rg G ?_
 cases q
 exact rt [] []
noncomputable def zq65_M : MS Network Bool := ⟨.r, zq65, fun y => dV y, fun _ => [], fun _ _ => []⟩
theorem zq65_ok : FnOK Try.prog tJ 158 zq65_M.S := by
 refine fm tt zq65_M [fo zq57_ok, fo zq68_ok, fo zq64_ok, fo zq66_ok, fo zq67_ok] call158 func158 rfl results158 ntmps158 ?_
 rintro n y cx G (q : zq65 n = some y)
 unfold zq65 at q
 refine rg G (Ok_seq ?_)
 obtain ⟨r, h, q⟩ := obind q
 refine jn q (fun v => ⟨[(1, .ref 16 0), (16, dV v)], [bX 16 60 [dV n.Stops, dV n.Lines]], 48⟩) (fun v q => ?_) ?_
 ·rcases bf q with ⟨hb, q⟩ | ⟨hb, q⟩
  ·refine re G (hN 2 n.Stops (hC 3 (zq57_c h) (hO 5 (.b true) (hP hb h0)))) ?_
   exact wJ G q
  ·obtain ⟨r1, h1, q⟩ := obind q
   refine re G (hN 2 n.Stops (hC 3 (zq57_c h) (hO 5 (.b false) (hP hb (hN 8 n.Lines (hC 9 (zq57_c h1) h0)))))) ?_
   exact wJ G q
 rintro v q
 refine cd q ?_ ?_ <;> intro q
 ·refine rg G ?_
  cases q
  exact rt [] []
 ·refine X_skip (thN (Ok_seq (rg G (tF q (fun _ => ⟨[(1, .ref 16 0)], [bX 16 60 [dV n.Stops, dV n.Lines]], 48⟩) (fun v5 hr q => ?_) ?_))))
  ·refine Ok_block (lp G q (fun i => ⟨[(1, .ref 16 0), (3, dV i)], [bX 16 60 [dV n.Stops, dV n.Lines]], 48⟩) ?_)
   rintro i r0 hb1 q
   rw [zq65_L1] at q
   refine Ok_seq (rs G (hN 3 n.Stops h0) ?_)
   refine cd q ?_ ?_ <;> intro q
   ·refine X_skip (thN (Ok_seq (Ok_block ?_)))
    obtain ⟨e2, h6, r4, h7, q⟩ := ob2 q
    refine jn q (fun v1 => ⟨[(1, .ref 16 0), (3, dV i), (42, dV v1)], [bX 16 60 [dV n.Stops, dV n.Lines]], 48⟩) (fun v1 q => ?_) ?_
    ·rcases bf q with ⟨hb2, q⟩ | ⟨hb2, q⟩
     ·refine de G [] (hD 3 h6 (hC 5 (zq68_M.c _ h7) (hO 7 (.b true) (hP hb2 h0)))) ?_
      exact wJ G q
     ·obtain ⟨e3, h8, r5, h9, q⟩ := ob2 q
      refine de G [] (hD 3 h6 (hC 5 (zq68_M.c _ h7) (hO 7 (.b false) (hP hb2 (hD 13 h8 (hC 15 (zq64_M.c (_, _) h9) h0)))))) ?_
      exact wJ G q
    rintro v1 q
    refine cd q ?_ ?_ <;> intro q
    ·refine rg G ?_
     have q := eL q hb1 hr
     cases q
     exact rt [] []
    ·exact X_skip (ibN (thN (rh G (wL G q))))
   ·exact Ok_exit (thE (thE (ibE (wE G q hb1))))
  rintro ⟨⟩ q s hw
  refine thN (Ok_weak hw ?_)
  refine Ok_seq (rg G (tF q (fun _ => ⟨[], [], 32⟩) (fun v4 hr1 q => ?_) ?_))
  ·refine Ok_block (lp G q (fun v2 => ⟨[(1, .ref 16 0), (4, dV v2)], [bX 16 60 [dV n.Stops, dV n.Lines]], 48⟩) ?_)
   rintro v2 r0 hb3 q
   rw [zq65_L2] at q
   refine Ok_seq (rs G (hN 3 n.Lines h0) ?_)
   refine cd q ?_ ?_ <;> intro q
   ·refine X_skip (thN (Ok_seq (Ok_block ?_)))
    obtain ⟨e7, h14, r9, h15, q⟩ := ob2 q
    refine jn q (fun v3 => ⟨[(1, .ref 16 0), (4, dV v2), (71, dV v3)], [bX 16 60 [dV n.Stops, dV n.Lines]], 48⟩) (fun v3 q => ?_) ?_
    ·rcases bf q with ⟨hb4, q⟩ | ⟨hb4, q⟩
     ·refine de G [] (hD 3 h14 (hN 7 n.Stops (hC 8 (zq66_M.c (_, _) h15) (hO 10 (.b true) (hP hb4 h0))))) ?_
      exact wJ G q
     ·obtain ⟨e8, h16, r10, h17, q⟩ := ob2 q
      refine de G [] (hD 3 h14 (hN 7 n.Stops (hC 8 (zq66_M.c (_, _) h15) (hO 10 (.b false) (hP hb4 (hD 15 h16 (hC 18 (zq67_c h17) h0))))))) ?_
      exact wJ G q
    rintro v3 q
    refine cd q ?_ ?_ <;> intro q
    ·refine rg G ?_
     have q := eL q hb3 hr1
     cases q
     exact rt [] []
    ·exact X_skip (ibN (thN (rh G (wL G q))))
   ·exact Ok_exit (thE (thE (ibE (wE G q hb3))))
  rintro ⟨⟩ q s1 hw1
  refine thN (Ok_weak hw1 ?_)
  refine rg G ?_
  cases q
  exact rt [] []
noncomputable def zq55_M : MS (l1Cur × Network × (List Pattern)) (Int × l1Cur) := ⟨.x (.b 118) (.x .r .r), fun x => zq55 x.1 x.2.1 x.2.2, fun y => dV y.1, fun _ => [], fun _ y => [bxO 118 y.2]⟩
theorem zq55_ok : FnOK Try.prog tJ 130 zq55_M.S := by
 refine fm tt zq55_M [fo zq65_ok, fo zq52_ok, fo zq54_ok, fo zq57_ok] call130 func130 rfl results130 ntmps130 ?_
 rintro ⟨c, n, list⟩ y cx G (q : zq55 c n list = some y)
 unfold zq55 at q
 refine rg G (jF q (fun (v, v1, v2) => ⟨[(0, .ref 0 0), (4, .ref 32 0)], [bX 0 118 [dV v, dV v1, kV .u64 v2], bX 32 60 [dV n.Stops, dV n.Lines]], 64⟩) (fun v7 hr q => ?_) ?_)
 ·refine jn q (fun (v3, v4, v5, v6) => ⟨[(0, .ref 0 0), (2, dV list), (4, .ref 32 0), (19, dV v3)], [bX 0 118 [dV v4, dV v5, kV .u64 v6], bX 32 60 [dV n.Stops, dV n.Lines]], 64⟩) (fun vv q => ?_) ?_
  ·rcases bf q with ⟨hb, q⟩ | ⟨hb, q⟩
   ·obtain ⟨r, h, q⟩ := obind q
    rcases bf q with ⟨hb1, q⟩ | ⟨hb1, q⟩
    ·obtain ⟨r1, h1, q⟩ := obind q
     refine re G (hN 1 list (hO 3 (.b true) (hP hb (hC 5 (zq65_M.c _ h) (hO 7 (.b true) (hP hb1 (hC 9 (zq52_c h1) h0))))))) ?_
     exact wJ G q
    ·refine re G (hN 1 list (hO 3 (.b true) (hP hb (hC 5 (zq65_M.c _ h) (hO 7 (.b false) (hP hb1 h0)))))) ?_
     exact wJ G q
   ·refine re G (hN 1 list (hO 3 (.b false) (hP hb h0))) ?_
    exact wJ G q
  rintro ⟨v3, v4, v5, v6⟩ q
  refine cd q ?_ ?_ <;> intro q
  ·obtain ⟨r2, h2, e, h3, q⟩ := ob2 q
   refine rs G (hN 3 list (hC 4 (zq54_c h2) (hD 5 h3 h0))) ?_
   obtain ⟨r3, h4, q⟩ := obind q
   refine rs G (hN 4 n.Lines (hC 6 (zq57_c h4) h0)) ?_
   refine cd q ?_ ?_ <;> intro q
   ·obtain ⟨e4, h9, e5, h10, r5, h11, q⟩ := ob3 q
    obtain ⟨e6, h12, q⟩ := obind q
    refine ds G [(16, [0])] (hD 4 h9 (hD 12 h10 (hN 15 e5.Stops (hC 16 (zq54_c h11) (hD 17 h12 h0))))) ?_
    have q := eR q hr
    cases q
    exact rt [] []
   ·exact X_skip (wF G q)
  ·exact X_skip (wF G q)
 rintro ⟨v, v1, v2⟩ q
 obtain ⟨r7, h13, r8, h14, u, h15, q⟩ := ob3 q
 refine rs G (hN 3 n.Stops (hC 5 (zq54_c h13) (hC 7 (zq54_c h14) (hK h15 h0)))) ?_
 cases q
 exact rt [] []
noncomputable def zq56_M : MS (l1Cur × Network × (List Pattern)) (Int × l1Cur) := ⟨.x (.b 118) (.x .r (.s 104)), fun x => zq56 x.1 x.2.1 x.2.2, fun y => dV y.1, fun _ => [], fun x y => [bxO 118 y.2, arO 104 x.2.2]⟩
theorem zq56_ok : FnOK Try.prog tJ 130 zq56_M.S := by
 refine fm tt zq56_M [fo zq65_ok, fo zq52_ok, fo zq54_ok, fo zq57_ok] call130 func130 rfl results130 ntmps130 ?_
 rintro ⟨c, n, list⟩ y cx G (q : zq56 c n list = some y)
 unfold zq56 at q
 refine rg G (jF q (fun (v, v1, v2) => ⟨[(0, .ref 0 0), (2, .own 1), (4, .ref 32 0)], [bX 0 118 [dV v, dV v1, kV .u64 v2], aX 1 104 list, bX 32 60 [dV n.Stops, dV n.Lines]], 64⟩) (fun v7 hr q => ?_) ?_)
 ·refine jn q (fun (v3, v4, v5, v6) => ⟨[(0, .ref 0 0), (2, .own 1), (4, .ref 32 0), (19, dV v3)], [bX 0 118 [dV v4, dV v5, kV .u64 v6], aX 1 104 list, bX 32 60 [dV n.Stops, dV n.Lines]], 64⟩) (fun vv q => ?_) ?_
  ·rcases bf q with ⟨hb, q⟩ | ⟨hb, q⟩
   ·obtain ⟨r, h, q⟩ := obind q
    rcases bf q with ⟨hb1, q⟩ | ⟨hb1, q⟩
    ·obtain ⟨r1, h1, q⟩ := obind q
     refine re G (hN 1 list (hO 3 (.b true) (hP hb (hC 5 (zq65_M.c _ h) (hO 7 (.b true) (hP hb1 (hC 9 (zq52_c h1) h0))))))) ?_
     exact wJ G q
    ·refine re G (hN 1 list (hO 3 (.b true) (hP hb (hC 5 (zq65_M.c _ h) (hO 7 (.b false) (hP hb1 h0)))))) ?_
     exact wJ G q
   ·refine re G (hN 1 list (hO 3 (.b false) (hP hb h0))) ?_
    exact wJ G q
  rintro ⟨v3, v4, v5, v6⟩ q
  refine cd q ?_ ?_ <;> intro q
  ·obtain ⟨r2, h2, e, h3, q⟩ := ob2 q
   refine rs G (hN 3 list (hC 4 (zq54_c h2) (hD 5 h3 (hE 6 h3 h0)))) ?_
   obtain ⟨r3, h4, q⟩ := obind q
   refine rs G (hN 4 n.Lines (hC 6 (zq57_c h4) h0)) ?_
   refine cd q ?_ ?_ <;> intro q
   ·obtain ⟨e4, h9, e5, h10, r5, h11, q⟩ := ob3 q
    obtain ⟨e6, h12, q⟩ := obind q
    refine ds G [(16, [0])] (hD 4 h9 (hD 12 h10 (hN 15 e5.Stops (hC 16 (zq54_c h11) (hD 17 h12 h0))))) ?_
    have q := eR q hr
    cases q
    exact rt [] []
   ·exact X_skip (wF G q)
  ·exact X_skip (wF G q)
 rintro ⟨v, v1, v2⟩ q
 obtain ⟨r7, h13, r8, h14, u, h15, q⟩ := ob3 q
 refine rs G (hN 3 n.Stops (hC 5 (zq54_c h13) (hC 7 (zq54_c h14) (hK h15 h0)))) ?_
 cases q
 exact rt [] []
noncomputable def zq27_M : MS ((List UInt8)) (Network × Int × (List Pattern) × Int) := ⟨.r, zq27, fun y => .tup [dV y.1, dV y.2.1, .own 0, dV y.2.2.2], fun y => [arO 104 y.2.2.1], fun _ _ => []⟩
theorem zq27_ok : FnOK Try.prog tJ 49 zq27_M.S := by
 refine fm tt zq27_M [fo zq54_ok, fo zq53_ok, fo zq56_ok] call49 func49 rfl results49 ntmps49 ?_
 rintro code y cx G (q : zq27 code = some y)
 unfold zq27 at q
 refine rg G (rg G ?_)
 obtain ⟨r, h, u, h1, r1, h2, q⟩ := ob3 q
 refine rs G (hC 2 (zq54_c h) (hK h1 (hC 5 (zq53_M.c (_, _) h2) h0))) ?_
 refine Ok_weak (Wk_J (x' := (⟨[(2, .ref 16 0), (6, .ref 32 0), (7, .ref 48 0), (8, dV r1.2.1), (9, .own 64)], [bX 16 60 [.dat (.sc (.slice none 0 0)), .dat (.sc (.slice none 0 0))], bX 32 118 [dV r1.2.2.2.code_, dV r1.2.2.2.at_, kV .u64 r1.2.2.2.seed_.v], bX 48 60 [dV r1.1.Stops, dV r1.1.Lines], aX 64 104 r1.2.2.1], 96⟩ : X)) G.hL ⟨[(2, []), (6, []), (7, []), (8, []), (9, [])], [(16, 16, []), (32, 112, []), (48, 304, []), (64, 225, [])], [], 96⟩ (by kernel_rfl)) ?_
 obtain ⟨r3, h4, q⟩ := obind q
 refine ds G [(6, [32, 64]), (7, [16])] (hC 6 (zq56_M.c (_, _, _) h4) h0) ?_
 cases q
 exact rt [64] []
noncomputable def zq23_M : MS (Int × Int × Int) Bool := ⟨.x .r (.x .r .r), fun x => zq23 x.1 x.2.1 x.2.2, fun y => dV y, fun _ => [], fun _ _ => []⟩
theorem zq23_c {n lo hi y} (q : zq23 n lo hi = some y) : zq23_M.C (n, lo, hi) y := zq23_M.c (n, lo, hi) q
theorem zq23_ok : FnOK Try.prog tJ 143 zq23_M.S := by
 refine fm tt zq23_M [] call143 func143 rfl results143 ntmps143 ?_
 rintro ⟨n, lo, hi⟩ y cx G (q : zq23 n lo hi = some y)
 unfold zq23 at q
 refine rg G (jn q (fun v => ⟨[(6, dV v)], [], 32⟩) (fun v q => ?_) ?_)
 ·rcases bf q with ⟨hb, q⟩ | ⟨hb, q⟩
  ·refine re G (hO 3 (.b true) (hP hb h0)) ?_
   exact wJ G q
  ·refine re G (hO 3 (.b false) (hP hb h0)) ?_
   exact wJ G q
 rintro v q
 cases q
 exact rt [] []
noncomputable def zq14_M : MS ByteArray Bool := ⟨.r, zq14, fun y => dV y, fun _ => [], fun _ _ => []⟩
theorem zq14_ok : FnOK Try.prog tJ 234 zq14_M.S := by
 refine fm tt zq14_M [] call234 func234 rfl results234 ntmps234 ?_
 rintro s y cx G (q : zq14 s = some y)
 unfold zq14 at q
 refine rg G (Ok_seq (jn q (fun v => ⟨[(0, dV s), (12, dV v)], [], 32⟩) (fun v q => ?_) ?_))
 ·rcases bf q with ⟨hb, q⟩ | ⟨hb, q⟩
  ·refine re G (hO 3 (.b true) (hP hb h0)) ?_
   exact wJ G q
  ·refine re G (hO 3 (.b false) (hP hb h0)) ?_
   exact wJ G q
 rintro v q
 refine cd q ?_ ?_ <;> intro q
 ·refine rg G ?_
  cases q
  exact rt [] []
 ·refine X_skip (thN (Ok_seq (rg G (tF q (fun _ => ⟨[], [], 32⟩) (fun v4 hr q => ?_) ?_))))
  ·refine Ok_block (lp G q (fun v1 => ⟨[(0, dV s), (14, dV (s.size : Int)), (15, dV v1)], [], 32⟩) ?_)
   rintro v1 r0 hb1 q
   rw [zq14_L1] at q
   refine rg G (Ok_seq (cd q ?_ ?_)) <;> intro q
   ·refine X_skip (thN (Ok_seq (Ok_block (rg G ?_))))
    obtain ⟨u, h, q⟩ := obind q
    refine jn q (fun v2 => ⟨[(0, dV s), (3, dV v1), (4, dV v2), (14, dV (s.size : Int)), (15, dV v1)], [], 32⟩) (fun v2 q => ?_) ?_
    ·rcases bf q with ⟨hb2, q⟩ | ⟨hb2, q⟩
     ·obtain ⟨u1, h1, q⟩ := obind q
      refine re G (hK h (hO 4 (.b true) (hP hb2 (hK h1 h0)))) ?_
      exact wJ G q
     ·refine re G (hK h (hO 4 (.b false) (hP hb2 h0))) ?_
      exact wJ G q
    rintro v2 q
    refine jn q (fun v3 => ⟨[(0, dV s), (14, dV (s.size : Int)), (15, dV v1), (45, dV v3)], [], 32⟩) (fun v3 q => ?_) ?_
    ·rcases bf q with ⟨hb3, q⟩ | ⟨hb3, q⟩
     ·rcases bf q with ⟨hb4, q⟩ | ⟨hb4, q⟩
      ·refine re G (hO 2 (.b true) (hP hb3 (hO 5 (.b true) (hP hb4 h0)))) ?_
       exact wJ G q
      ·obtain ⟨u2, h2, q⟩ := obind q
       rcases bf q with ⟨hb5, q⟩ | ⟨hb5, q⟩
       ·refine re G (hO 2 (.b true) (hP hb3 (hO 5 (.b false) (hP hb4 (hK h2 (hO 11 (.b true) (hP hb5 h0))))))) ?_
        exact wJ G q
       ·obtain ⟨u3, h3, q⟩ := obind q
        refine re G (hO 2 (.b true) (hP hb3 (hO 5 (.b false) (hP hb4 (hK h2 (hO 11 (.b false) (hP hb5 (hK h3 h0)))))))) ?_
        exact wJ G q
     ·refine re G (hO 2 (.b false) (hP hb3 h0)) ?_
      exact wJ G q
    rintro v3 q
    refine cd q ?_ ?_ <;> intro q
    ·refine rg G ?_
     have q := eL q hb1 hr
     cases q
     exact rt [] []
    ·exact X_skip (ibN (thN (rh G (wL G q))))
   ·exact Ok_exit (thE (thE (ibE (wE G q hb1))))
  rintro ⟨⟩ q s1 hw
  refine thN (Ok_weak hw ?_)
  refine rg G ?_
  cases q
  exact rt [] []
noncomputable def zq75_M : MS ((List ByteArray) × ByteArray) Int := ⟨.x .r .r, fun x => zq75 x.1 x.2, fun y => dV y, fun _ => [], fun _ _ => []⟩
theorem zq75_ok : FnOK Try.prog tJ 235 zq75_M.S := by
 refine fm tt zq75_M [] call235 func235 rfl results235 ntmps235 ?_
 rintro ⟨s, v⟩ y cx G (q : zq75 s v = some y)
 unfold zq75 at q
 refine rg G (Ok_seq (rs G (hN 1 s h0) ?_))
 refine tF q (fun _ => ⟨[], [], 32⟩) (fun v2 hr q => ?_) ?_
 ·refine Ok_block (lp G q (fun v1 => ⟨[(0, dV s), (1, dV v), (7, dV (s.length : Int)), (8, dV v1)], [], 32⟩) ?_)
  rintro v1 r0 hb q
  rw [zq75_L1] at q
  refine rg G (Ok_seq (cd q ?_ ?_)) <;> intro q
  ·refine X_skip (thN (Ok_seq (Ok_block (rg G ?_))))
   obtain ⟨e, h, q⟩ := obind q
   refine rs G (hD 3 h h0) ?_
   refine cd q ?_ ?_ <;> intro q
   ·refine rg G ?_
    have q := eL q hb hr
    cases q
    exact rt [] []
   ·exact X_skip (ibN (thN (rh G (wL G q))))
  ·exact Ok_exit (thE (thE (ibE (wE G q hb))))
 rintro ⟨⟩ q s1 hw
 refine thN (Ok_weak hw ?_)
 refine rg G ?_
 cases q
 exact rt [] []
noncomputable def zq10_M : MS ((List ByteArray)) Bool := ⟨.r, zq10, fun y => dV y, fun _ => [], fun _ _ => []⟩
theorem zq10_ok : FnOK Try.prog tJ 209 zq10_M.S := by
 refine fm tt zq10_M [fo zq14_ok, fo zq75_ok] call209 func209 rfl results209 ntmps209 ?_
 rintro names y cx G (q : zq10 names = some y)
 unfold zq10 at q
 refine rg G (Ok_seq (rs G (hN 1 names h0) ?_))
 refine tF q (fun _ => ⟨[], [], 32⟩) (fun v2 hr q => ?_) ?_
 ·refine Ok_block (lp G q (fun v => ⟨[(0, dV names), (5, dV names), (6, dV (names.length : Int)), (7, dV v)], [], 32⟩) ?_)
  rintro v r0 hb q
  rw [zq10_L1] at q
  refine rg G (Ok_seq (cd q ?_ ?_)) <;> intro q
  ·refine X_skip (thN (Ok_seq (Ok_block ?_)))
   obtain ⟨e, h, q⟩ := obind q
   refine rs G (hD 1 h h0) ?_
   obtain ⟨r, h1, q⟩ := obind q
   refine jn q (fun v1 => ⟨[(0, dV names), (5, dV names), (6, dV (names.length : Int)), (7, dV v), (21, dV v1)], [], 32⟩) (fun v1 q => ?_) ?_
   ·rcases bf q with ⟨hb1, q⟩ | ⟨hb1, q⟩
    ·refine re G (hC 1 (zq14_M.c _ h1) (hO 3 (.b true) (hP hb1 h0))) ?_
     exact wJ G q
    ·obtain ⟨r1, h2, q⟩ := obind q
     refine re G (hC 1 (zq14_M.c _ h1) (hO 3 (.b false) (hP hb1 (hC 6 (zq75_M.c (_, _) h2) h0)))) ?_
     exact wJ G q
   rintro v1 q
   refine cd q ?_ ?_ <;> intro q
   ·refine rg G ?_
    have q := eL q hb hr
    cases q
    exact rt [] []
   ·exact X_skip (ibN (thN (rh G (wL G q))))
  ·exact Ok_exit (thE (thE (ibE (wE G q hb))))
 rintro ⟨⟩ q s hw
 refine thN (Ok_weak hw ?_)
 refine rg G ?_
 cases q
 exact rt [] []
noncomputable def zq19_M : MS Network ((List ByteArray)) := ⟨.r, zq19, fun _ => .own 0, fun y => [arO 9 y], fun _ _ => []⟩
theorem zq19_ok : FnOK Try.prog tJ 210 zq19_M.S := by
 refine fm tt zq19_M [] call210 func210 rfl results210 ntmps210 ?_
 rintro n y cx G (q : zq19 n = some y)
 unfold zq19 at q
 refine rg G ?_
 obtain ⟨u, h, q⟩ := obind q
 refine rs G (hN 2 n.Lines (hO 3 (.l (List.map Enc.e (List.replicate (n.Lines.length : Int).toNat (ByteArray.empty : ByteArray)))) (hP (mk_p (b := 16) (chk_t h) rfl) (hP (rep_m Enc.e (n.Lines.length : Int).toNat (ByteArray.empty : ByteArray)) h0)))) ?_
 refine Ok_seq (rs G (hN 2 n.Lines h0) ?_)
 refine tl q (fun i1 => ⟨[(3, .own 16)], [aX 16 9 i1], 48⟩) (fun i1 q => ?_) ?_
 ·refine Ok_block (lp G q (fun (v, i) => ⟨[(3, .own 16), (11, dV n.Lines), (12, dV (n.Lines.length : Int)), (13, dV v)], [aX 16 9 i], 48⟩) ?_)
  rintro ⟨v, i⟩ r0 hb q
  rw [zq19_L1] at q
  refine rg G (Ok_seq (cd q ?_ ?_)) <;> intro q
  ·refine X_skip (thN (Ok_seq (Ok_block ?_)))
   obtain ⟨e, h1, q⟩ := obind q
   refine rs G (hD 1 h1 h0) ?_
   obtain ⟨e1, h2, q⟩ := obind q
   refine re G (hD 4 h2 (hS 5 h2 e.Name h0)) ?_
   exact ibN (thN (rh G (wL G q)))
  ·exact Ok_exit (thE (thE (ibE (wD G q hb))))
 rintro i1 q s hw
 refine thN (Ok_weak hw ?_)
 refine rg G ?_
 cases q
 exact rt [16] []
noncomputable def zq16_M : MS (Network × Int) Bool := ⟨.x .r .r, fun x => zq16 x.1 x.2, fun y => dV y, fun _ => [], fun _ _ => []⟩
theorem zq16_ok : FnOK Try.prog tJ 194 zq16_M.S := by
 refine fm tt zq16_M [] call194 func194 rfl results194 ntmps194 ?_
 rintro ⟨n, stop⟩ y cx G (q : zq16 n stop = some y)
 unfold zq16 at q
 refine rg G (jn q (fun v => ⟨[(4, dV v)], [], 32⟩) (fun v q => ?_) ?_)
 ·rcases bf q with ⟨hb, q⟩ | ⟨hb, q⟩
  ·refine re G (hO 2 (.b true) (hP hb (hN 6 n.Stops h0))) ?_
   exact wJ G q
  ·refine re G (hO 2 (.b false) (hP hb h0)) ?_
   exact wJ G q
 rintro v q
 cases q
 exact rt [] []
noncomputable def zq74_M : MS ((List Int) × Int) Int := ⟨.x .r .r, fun x => zq74 x.1 x.2, fun y => dV y, fun _ => [], fun _ _ => []⟩
theorem zq74_c {s v y} (q : zq74 s v = some y) : zq74_M.C (s, v) y := zq74_M.c (s, v) q
theorem zq74_ok : FnOK Try.prog tJ 155 zq74_M.S := by
 refine fm tt zq74_M [] call155 func155 rfl results155 ntmps155 ?_
 rintro ⟨s, v⟩ y cx G (q : zq74 s v = some y)
 unfold zq74 at q
 refine rg G (Ok_seq (rs G (hN 1 s h0) ?_))
 refine tF q (fun _ => ⟨[], [], 32⟩) (fun v2 hr q => ?_) ?_
 ·refine Ok_block (lp G q (fun v1 => ⟨[(0, dV s), (1, dV v), (7, dV (s.length : Int)), (8, dV v1)], [], 32⟩) ?_)
  rintro v1 r0 hb q
  rw [zq74_L1] at q
  refine rg G (Ok_seq (cd q ?_ ?_)) <;> intro q
  ·refine X_skip (thN (Ok_seq (Ok_block (rg G ?_))))
   obtain ⟨e, h, q⟩ := obind q
   refine rs G (hD 3 h h0) ?_
   refine cd q ?_ ?_ <;> intro q
   ·refine rg G ?_
    have q := eL q hb hr
    cases q
    exact rt [] []
   ·exact X_skip (ibN (thN (rh G (wL G q))))
  ·exact Ok_exit (thE (thE (ibE (wE G q hb))))
 rintro ⟨⟩ q s1 hw
 refine thN (Ok_weak hw ?_)
 refine rg G ?_
 cases q
 exact rt [] []
noncomputable def zq17_M : MS (Network × Line) Bool := ⟨.x .r .r, fun x => zq17 x.1 x.2, fun y => dV y, fun _ => [], fun _ _ => []⟩
theorem zq17_ok : FnOK Try.prog tJ 211 zq17_M.S := by
 refine fm tt zq17_M [fo zq23_ok, fo zq16_ok, fo zq74_ok] call211 func211 rfl results211 ntmps211 ?_
 rintro ⟨n, l⟩ y cx G (q : zq17 n l = some y)
 unfold zq17 at q
 refine rg G (Ok_seq ?_)
 obtain ⟨r, h, q⟩ := obind q
 refine jn q (fun v => ⟨[(2, .ref 16 0), (3, .ref 32 0), (23, dV v)], [bX 16 60 [dV n.Stops, dV n.Lines], bX 32 194 [dV l.Name, dV l.Stops, dV l.Runs]], 64⟩) (fun v q => ?_) ?_
 ·rcases bf q with ⟨hb, q⟩ | ⟨hb, q⟩
  ·refine re G (hN 2 l.Stops (hC 3 (zq23_c h) (hO 5 (.b true) (hP hb h0)))) ?_
   exact wJ G q
  ·refine re G (hN 2 l.Stops (hC 3 (zq23_c h) (hO 5 (.b false) (hP hb (hN 8 l.Runs (hN 11 l.Stops h0)))))) ?_
   exact wJ G q
 rintro v q
 refine cd q ?_ ?_ <;> intro q
 ·refine rg G ?_
  cases q
  exact rt [] []
 ·refine X_skip (thN (Ok_seq (rs G (hN 2 l.Stops h0) ?_)))
  refine tF q (fun _ => ⟨[(3, .ref 16 0)], [bX 16 194 [dV l.Name, dV l.Stops, dV l.Runs]], 48⟩) (fun v5 hr q => ?_) ?_
  ·refine Ok_block (lp G q (fun v1 => ⟨[(2, .ref 16 0), (3, .ref 32 0), (25, dV l.Stops), (26, dV (l.Stops.length : Int)), (27, dV v1)], [bX 16 60 [dV n.Stops, dV n.Lines], bX 32 194 [dV l.Name, dV l.Stops, dV l.Runs]], 64⟩) ?_)
   rintro v1 r0 hb1 q
   rw [zq17_L1] at q
   refine rg G (Ok_seq (cd q ?_ ?_)) <;> intro q
   ·refine X_skip (thN (Ok_seq (Ok_block ?_)))
    obtain ⟨e, h1, q⟩ := obind q
    refine rs G (hD 1 h1 h0) ?_
    obtain ⟨r1, h2, q⟩ := obind q
    refine jn q (fun v2 => ⟨[(2, .ref 16 0), (3, .ref 32 0), (25, dV l.Stops), (26, dV (l.Stops.length : Int)), (27, dV v1), (43, dV v2)], [bX 16 60 [dV n.Stops, dV n.Lines], bX 32 194 [dV l.Name, dV l.Stops, dV l.Runs]], 64⟩) (fun v2 q => ?_) ?_
    ·rcases bf q with ⟨hb2, q⟩ | ⟨hb2, q⟩
     ·refine re G (hC 2 (zq16_M.c (_, _) h2) (hO 4 (.b true) (hP hb2 h0))) ?_
      exact wJ G q
     ·obtain ⟨r2, h3, q⟩ := obind q
      refine re G (hC 2 (zq16_M.c (_, _) h2) (hO 4 (.b false) (hP hb2 (hC 8 (zq74_c h3) h0)))) ?_
      exact wJ G q
    rintro v2 q
    refine cd q ?_ ?_ <;> intro q
    ·refine rg G ?_
     have q := eL q hb1 hr
     cases q
     exact rt [] []
    ·exact X_skip (ibN (thN (rh G (wL G q))))
   ·exact Ok_exit (thE (thE (ibE (wE G q hb1))))
  rintro ⟨⟩ q s hw
  refine thN (Ok_weak hw ?_)
  refine Ok_seq (rs G (hN 2 l.Runs h0) ?_)
  refine tF q (fun _ => ⟨[], [], 32⟩) (fun v4 hr1 q => ?_) ?_
  ·refine Ok_block (lp G q (fun v3 => ⟨[(46, dV l.Runs), (47, dV (l.Runs.length : Int)), (48, dV v3)], [], 32⟩) ?_)
   rintro v3 r0 hb3 q
   rw [zq17_L2] at q
   refine rg G (Ok_seq (cd q ?_ ?_)) <;> intro q
   ·refine X_skip (thN (Ok_seq (Ok_block ?_)))
    obtain ⟨e2, h4, q⟩ := obind q
    refine rs G (hD 0 h4 h0) ?_
    obtain ⟨r4, h5, q⟩ := obind q
    refine rs G (hC 1 (zq23_c h5) h0) ?_
    refine cd q ?_ ?_ <;> intro q
    ·refine rg G ?_
     have q := eL q hb3 hr1
     cases q
     exact rt [] []
    ·exact X_skip (ibN (thN (rh G (wL G q))))
   ·exact Ok_exit (thE (thE (ibE (wE G q hb3))))
  rintro ⟨⟩ q s1 hw1
  refine thN (Ok_weak hw1 ?_)
  refine rg G ?_
  cases q
  exact rt [] []
noncomputable def zq5_M : MS Network Bool := ⟨.r, zq5, fun y => dV y, fun _ => [], fun _ _ => []⟩
theorem zq5_ok : FnOK Try.prog tJ 165 zq5_M.S := by
 refine fm tt zq5_M [fo zq23_ok, fo zq10_ok, fo zq19_ok, fo zq17_ok] call165 func165 rfl results165 ntmps165 ?_
 rintro n y cx G (q : zq5 n = some y)
 unfold zq5 at q
 refine rg G (Ok_seq ?_)
 obtain ⟨r, h, q⟩ := obind q
 refine jn q (fun v => ⟨[(1, .ref 16 0), (28, dV v)], [bX 16 60 [dV n.Stops, dV n.Lines]], 48⟩) (fun v q => ?_) ?_
 ·rcases bf q with ⟨hb, q⟩ | ⟨hb, q⟩
  ·refine re G (hN 2 n.Stops (hC 3 (zq23_c h) (hO 5 (.b true) (hP hb h0)))) ?_
   exact wJ G q
  ·obtain ⟨r1, h1, q⟩ := obind q
   rcases bf q with ⟨hb1, q⟩ | ⟨hb1, q⟩
   ·refine re G (hN 2 n.Stops (hC 3 (zq23_c h) (hO 5 (.b false) (hP hb (hN 8 n.Lines (hC 9 (zq23_c h1) (hO 12 (.b true) (hP hb1 h0)))))))) ?_
    exact wJ G q
   ·obtain ⟨r2, h2, q⟩ := obind q
    rcases bf q with ⟨hb2, q⟩ | ⟨hb2, q⟩
    ·refine re G (hN 2 n.Stops (hC 3 (zq23_c h) (hO 5 (.b false) (hP hb (hN 8 n.Lines (hC 9 (zq23_c h1) (hO 12 (.b false) (hP hb1 (hC 15 (zq10_M.c _ h2) (hO 18 (.b true) (hP hb2 h0))))))))))) ?_
     exact wJ G q
    ·obtain ⟨r3, h3, r4, h4, q⟩ := ob2 q
     refine re G (hN 2 n.Stops (hC 3 (zq23_c h) (hO 5 (.b false) (hP hb (hN 8 n.Lines (hC 9 (zq23_c h1) (hO 12 (.b false) (hP hb1 (hC 15 (zq10_M.c _ h2) (hO 18 (.b false) (hP hb2 (hC 20 (zq19_M.c _ h3) (hC 21 (zq10_M.c _ h4) h0))))))))))))) ?_
     exact wJ G q
 rintro v q
 refine cd q ?_ ?_ <;> intro q
 ·refine rg G ?_
  cases q
  exact rt [] []
 ·refine X_skip (thN (Ok_seq (rs G (hN 2 n.Lines h0) ?_)))
  refine tF q (fun _ => ⟨[], [], 32⟩) (fun v2 hr q => ?_) ?_
  ·refine Ok_block (lp G q (fun v1 => ⟨[(1, .ref 16 0), (30, dV n.Lines), (31, dV (n.Lines.length : Int)), (32, dV v1)], [bX 16 60 [dV n.Stops, dV n.Lines]], 48⟩) ?_)
   rintro v1 r0 hb3 q
   rw [zq5_L1] at q
   refine rg G (Ok_seq (cd q ?_ ?_)) <;> intro q
   ·refine X_skip (thN (Ok_seq (Ok_block ?_)))
    obtain ⟨e, h5, q⟩ := obind q
    refine rs G (hD 0 h5 h0) ?_
    obtain ⟨r5, h6, q⟩ := obind q
    refine rs G (hC 2 (zq17_M.c (_, _) h6) h0) ?_
    refine cd q ?_ ?_ <;> intro q
    ·refine rg G ?_
     have q := eL q hb3 hr
     cases q
     exact rt [] []
    ·exact X_skip (ibN (thN (rh G (wL G q))))
   ·exact Ok_exit (thE (thE (ibE (wE G q hb3))))
  rintro ⟨⟩ q s hw
  refine thN (Ok_weak hw ?_)
  refine rg G ?_
  cases q
  exact rt [] []
noncomputable def zq13_M : MS (Network × Int) Bool := ⟨.x .r .r, fun x => zq13 x.1 x.2, fun y => dV y, fun _ => [], fun _ _ => []⟩
theorem zq13_c {n line y} (q : zq13 n line = some y) : zq13_M.C (n, line) y := zq13_M.c (n, line) q
theorem zq13_ok : FnOK Try.prog tJ 200 zq13_M.S := by
 refine fm tt zq13_M [] call200 func200 rfl results200 ntmps200 ?_
 rintro ⟨n, line⟩ y cx G (q : zq13 n line = some y)
 unfold zq13 at q
 refine rg G (jn q (fun v => ⟨[(4, dV v)], [], 32⟩) (fun v q => ?_) ?_)
 ·rcases bf q with ⟨hb, q⟩ | ⟨hb, q⟩
  ·refine re G (hO 2 (.b true) (hP hb (hN 6 n.Lines h0))) ?_
   exact wJ G q
  ·refine re G (hO 2 (.b false) (hP hb h0)) ?_
   exact wJ G q
 rintro v q
 cases q
 exact rt [] []
noncomputable def zq6_M : MS (Network × Int × (List Pattern)) Bool := ⟨.x .r (.x .r .r), fun x => zq6 x.1 x.2.1 x.2.2, fun y => dV y, fun _ => [], fun _ _ => []⟩
theorem zq6_ok : FnOK Try.prog tJ 149 zq6_M.S := by
 refine fm tt zq6_M [fo zq5_ok, fo zq23_ok, fo zq13_ok] call149 func149 rfl results149 ntmps149 ?_
 rintro ⟨n, period, list⟩ y cx G (q : zq6 n period list = some y)
 unfold zq6 at q
 refine rg G (Ok_seq ?_)
 obtain ⟨r, h, q⟩ := obind q
 refine jn q (fun v => ⟨[(1, dV period), (2, dV list), (3, .ref 16 0), (22, dV v)], [bX 16 60 [dV n.Stops, dV n.Lines]], 48⟩) (fun v q => ?_) ?_
 ·rcases bf q with ⟨hb, q⟩ | ⟨hb, q⟩
  ·refine re G (hC 1 (zq5_M.c _ h) (hO 3 (.b true) (hP hb h0))) ?_
   exact wJ G q
  ·obtain ⟨r1, h1, q⟩ := obind q
   rcases bf q with ⟨hb1, q⟩ | ⟨hb1, q⟩
   ·refine re G (hC 1 (zq5_M.c _ h) (hO 3 (.b false) (hP hb (hC 5 (zq23_c h1) (hO 8 (.b true) (hP hb1 h0)))))) ?_
    exact wJ G q
   ·obtain ⟨r2, h2, q⟩ := obind q
    refine re G (hC 1 (zq5_M.c _ h) (hO 3 (.b false) (hP hb (hC 5 (zq23_c h1) (hO 8 (.b false) (hP hb1 (hN 10 list (hC 11 (zq23_c h2) h0)))))))) ?_
    exact wJ G q
 rintro v q
 refine cd q ?_ ?_ <;> intro q
 ·refine rg G ?_
  cases q
  exact rt [] []
 ·refine X_skip (thN (Ok_seq (rs G (hN 1 list h0) ?_)))
  refine tF q (fun _ => ⟨[], [], 32⟩) (fun v3 hr q => ?_) ?_
  ·refine Ok_block (lp G q (fun v1 => ⟨[(1, dV period), (3, .ref 16 0), (23, dV list), (24, dV (list.length : Int)), (25, dV v1)], [bX 16 60 [dV n.Stops, dV n.Lines]], 48⟩) ?_)
   rintro v1 r0 hb2 q
   rw [zq6_L1] at q
   refine rg G (Ok_seq (cd q ?_ ?_)) <;> intro q
   ·refine X_skip (thN (Ok_seq (Ok_block ?_)))
    obtain ⟨e, h3, q⟩ := obind q
    refine rs G (hD 0 h3 h0) ?_
    obtain ⟨r3, h4, q⟩ := obind q
    refine jn q (fun v2 => ⟨[(1, dV period), (3, .ref 16 0), (23, dV list), (24, dV (list.length : Int)), (25, dV v1), (41, dV v2)], [bX 16 60 [dV n.Stops, dV n.Lines]], 48⟩) (fun v2 q => ?_) ?_
    ·rcases bf q with ⟨hb3, q⟩ | ⟨hb3, q⟩
     ·refine re G (hC 3 (zq13_c h4) (hO 5 (.b true) (hP hb3 h0))) ?_
      exact wJ G q
     ·obtain ⟨r4, h5, q⟩ := obind q
      refine re G (hC 3 (zq13_c h4) (hO 5 (.b false) (hP hb3 (hC 10 (zq23_c h5) h0)))) ?_
      exact wJ G q
    rintro v2 q
    refine cd q ?_ ?_ <;> intro q
    ·refine rg G ?_
     have q := eL q hb2 hr
     cases q
     exact rt [] []
    ·exact X_skip (ibN (thN (rh G (wL G q))))
   ·exact Ok_exit (thE (thE (ibE (wE G q hb2))))
  rintro ⟨⟩ q s hw
  refine thN (Ok_weak hw ?_)
  refine rg G ?_
  cases q
  exact rt [] []
noncomputable def zq11_M : MS (Network × Int × (List Pattern) × Int) Bool := ⟨.x .r (.x .r (.x .r .r)), fun x => zq11 x.1 x.2.1 x.2.2.1 x.2.2.2, fun y => dV y, fun _ => [], fun _ _ => []⟩
theorem zq11_ok : FnOK Try.prog tJ 131 zq11_M.S := by
 refine fm tt zq11_M [fo zq6_ok, fo zq16_ok] call131 func131 rfl results131 ntmps131 ?_
 rintro ⟨n, period, list, stop⟩ y cx G (q : zq11 n period list stop = some y)
 unfold zq11 at q
 refine rg G ?_
 obtain ⟨r, h, q⟩ := obind q
 refine jn q (fun v => ⟨[(8, dV v)], [], 32⟩) (fun v q => ?_) ?_
 ·rcases bf q with ⟨hb, q⟩ | ⟨hb, q⟩
  ·obtain ⟨r1, h1, q⟩ := obind q
   refine re G (hC 3 (zq6_M.c (_, _, _) h) (hO 4 (.b true) (hP hb (hC 7 (zq16_M.c (_, _) h1) h0)))) ?_
   exact wJ G q
  ·refine re G (hC 3 (zq6_M.c (_, _, _) h) (hO 4 (.b false) (hP hb h0))) ?_
   exact wJ G q
 rintro v q
 cases q
 exact rt [] []
noncomputable def zq22_M : MS ((List Int)) Int := ⟨.r, zq22, fun y => dV y, fun _ => [], fun _ _ => []⟩
theorem zq22_ok : FnOK Try.prog tJ 198 zq22_M.S := by
 refine fm tt zq22_M [] call198 func198 rfl results198 ntmps198 ?_
 rintro list y cx G (q : zq22 list = some y)
 unfold zq22 at q
 refine rg G (rg G (Ok_seq (rs G (hN 1 list h0) ?_)))
 refine tl q (fun v2 => ⟨[(3, dV v2)], [], 32⟩) (fun v2 q => ?_) ?_
 ·refine Ok_block (lp G q (fun (v, v1) => ⟨[(3, dV v), (6, dV list), (7, dV (list.length : Int)), (8, dV v1)], [], 32⟩) ?_)
  rintro ⟨v, v1⟩ r0 hb q
  rw [zq22_L1] at q
  refine rg G (Ok_seq (cd q ?_ ?_)) <;> intro q
  ·refine X_skip (thN (Ok_seq (Ok_block ?_)))
   obtain ⟨e, h, q⟩ := obind q
   refine rs G (hD 0 h h0) ?_
   exact rh G (ibN (thN (rh G (wL G q))))
  ·exact Ok_exit (thE (thE (ibE (wD G q hb))))
 rintro v2 q s hw
 refine thN (Ok_weak hw ?_)
 refine rg G ?_
 cases q
 exact rt [] []
noncomputable def zq21_M : MS (Network × Int × Pattern × Int) Int := ⟨.x .r (.x .r (.x .r .r)), fun x => zq21 x.1 x.2.1 x.2.2.1 x.2.2.2, fun y => dV y, fun _ => [], fun _ _ => []⟩
theorem zq21_ok : FnOK Try.prog tJ 144 zq21_M.S := by
 refine fm tt zq21_M [fo zq74_ok, fo zq22_ok] call144 func144 rfl results144 ntmps144 ?_
 rintro ⟨n, period, p, stop⟩ y cx G (q : zq21 n period p stop = some y)
 unfold zq21 at q
 refine rg G ?_
 obtain ⟨e, h, q⟩ := obind q
 refine rs G (hD 4 h h0) ?_
 obtain ⟨r, h1, q⟩ := obind q
 refine rs G (hC 3 (zq74_c h1) h0) ?_
 refine Ok_seq (rg G (cd q ?_ ?_)) <;> intro q
 ·refine rg G ?_
  cases q
  exact rt [] []
 ·refine X_skip (thN ?_)
  obtain ⟨u2, h5, r2, h6, u3, h7, q⟩ := ob3 q
  refine ds G [(5, [])] (hU 5 h5 (hC 6 (zq22_M.c _ h6) (hK h7 h0))) ?_
  cases q
  exact rt [] []
noncomputable def zq25_M : MS ((IK .u64)) Int := ⟨.r, zq25, fun y => dV y, fun _ => [], fun _ _ => []⟩
theorem zq25_ok : FnOK Try.prog tJ 249 zq25_M.S := by
 refine fm tt zq25_M [] call249 func249 rfl results249 ntmps249 ?_
 rintro x y cx G (q : zq25 x = some y)
 unfold zq25 at q
 refine rg G (jn q (fun (x1, v) => ⟨[(0, kV .u64 x1), (2, dV v)], [], 32⟩) (fun vv2 q => ?_) ?_)
 ·refine rg G (cd q ?_ ?_) <;> intro q
  ·obtain ⟨u, h, q⟩ := obind q
   refine rs G (hK h h0) ?_
   exact rh G (wJ G q)
  ·exact X_skip (wJ G q)
 rintro ⟨x1, v⟩ q
 refine jn q (fun (x2, v1) => ⟨[(0, kV .u64 x2), (2, dV v1)], [], 32⟩) (fun vv1 q => ?_) ?_
 ·refine rg G (cd q ?_ ?_) <;> intro q
  ·obtain ⟨u1, h1, q⟩ := obind q
   refine rs G (hK h1 h0) ?_
   exact rh G (wJ G q)
  ·exact X_skip (wJ G q)
 rintro ⟨x2, v1⟩ q
 refine jn q (fun (x3, v2) => ⟨[(0, kV .u64 x3), (2, dV v2)], [], 32⟩) (fun vv q => ?_) ?_
 ·refine rg G (cd q ?_ ?_) <;> intro q
  ·obtain ⟨u2, h2, q⟩ := obind q
   refine rs G (hK h2 h0) ?_
   exact rh G (wJ G q)
  ·exact X_skip (wJ G q)
 rintro ⟨x3, v2⟩ q
 obtain ⟨u3, h3, q⟩ := obind q
 refine rs G (hK h3 h0) ?_
 cases q
 exact rt [] []
noncomputable def zq24_M : MS ((IK .u64)) Int := ⟨.r, zq24, fun y => dV y, fun _ => [], fun _ _ => []⟩
theorem zq24_ok : FnOK Try.prog tJ 230 zq24_M.S := by
 refine fm tt zq24_M [fo zq25_ok] call230 func230 rfl results230 ntmps230 ?_
 rintro x y cx G (q : zq24 x = some y)
 unfold zq24 at q
 refine rg G (Ok_seq (cF (X_skip (thN ?_))))
 obtain ⟨r, h, q⟩ := obind q
 refine rs G (hC 1 (zq25_M.c _ h) h0) ?_
 cases q
 exact rt [] []
noncomputable def zq1_M : MS Int Bool := ⟨.r, zq1, fun y => dV y, fun _ => [], fun _ _ => []⟩
theorem zq1_ok : FnOK Try.prog tJ 238 zq1_M.S := by
 refine fm tt zq1_M [] call238 func238 rfl results238 ntmps238 ?_
 rintro x y cx G (q : zq1 x = some y)
 unfold zq1 at q
 refine rg G (rg G ?_)
 cases q
 exact rt [] []
noncomputable def zq0_M : MS (Int × Int) Bool := ⟨.x .r .r, fun x => zq0 x.1 x.2, fun y => dV y, fun _ => [], fun _ _ => []⟩
theorem zq0_ok : FnOK Try.prog tJ 245 zq0_M.S := by
 refine fm tt zq0_M [fo zq1_ok] call245 func245 rfl results245 ntmps245 ?_
 rintro ⟨x, y_⟩ y cx G (q : zq0 x y_ = some y)
 unfold zq0 at q
 refine rg G ?_
 obtain ⟨r, h, q⟩ := obind q
 refine jn q (fun v => ⟨[(4, dV v)], [], 32⟩) (fun v q => ?_) ?_
 ·rcases bf q with ⟨hb, q⟩ | ⟨hb, q⟩
  ·obtain ⟨r1, h1, q⟩ := obind q
   rcases bf q with ⟨hb1, q⟩ | ⟨hb1, q⟩
   ·refine re G (hC 1 (zq1_M.c _ h) (hO 2 (.b true) (hP hb (hC 4 (zq1_M.c _ h1) (hO 7 (.b true) (hP hb1 h0)))))) ?_
    exact wJ G q
   ·refine re G (hC 1 (zq1_M.c _ h) (hO 2 (.b true) (hP hb (hC 4 (zq1_M.c _ h1) (hO 7 (.b false) (hP hb1 h0)))))) ?_
    exact wJ G q
  ·refine re G (hC 1 (zq1_M.c _ h) (hO 2 (.b false) (hP hb h0))) ?_
   exact wJ G q
 rintro v q
 cases q
 exact rt [] []
noncomputable def zq80_M : MS ((List Int) × Int × Int) ((List Int)) := ⟨.x (.s 3) (.x .r .r), fun x => zq80 x.1 x.2.1 x.2.2, fun _ => .tup [], fun _ => [], fun _ y => [arO 3 y]⟩
theorem zq80_ok : FnOK Try.prog tJ 239 zq80_M.S := by
 refine fm tt zq80_M [fo zq0_ok] call239 func239 rfl results239 ntmps239 ?_
 rintro ⟨data, a, b⟩ y cx G (q : zq80 data a b = some y)
 unfold zq80 at q
 refine rg G (Ok_block (lp G q (fun (v, data1) => ⟨[(0, .own 0), (1, dV a), (2, dV b), (6, dV v)], [aX 0 3 data1], 48⟩) ?_))
 rintro ⟨v, data1⟩ r0 hb q
 rw [zq80_L2] at q
 refine Ok_seq (rg G (cd q ?_ ?_)) <;> intro q
 ·refine X_skip (thN (Ok_seq (Ok_block (rg G (tl q (fun data3 => ⟨[(0, .own 0), (1, dV a), (2, dV b), (6, dV v)], [aX 0 3 data3], 48⟩) (fun data3 q => ?_) ?_)))))
  ·refine Ok_block (lp G q (fun (v1, data2) => ⟨[(0, .own 0), (1, dV a), (2, dV b), (6, dV v), (7, dV v1)], [aX 0 3 data2], 48⟩) ?_)
   rintro ⟨v1, data2⟩ r0 hb1 q
   rw [zq80_L1] at q
   refine Ok_seq (jn q (fun v2 => ⟨[(0, .own 0), (1, dV a), (2, dV b), (6, dV v), (7, dV v1), (30, dV v2)], [aX 0 3 data2], 48⟩) (fun v2 q => ?_) ?_)
   ·rcases bf q with ⟨hb2, q⟩ | ⟨hb2, q⟩
    ·obtain ⟨e2, h3, e3, h4, r1, h5, q⟩ := ob3 q
     refine de G [] (hO 3 (.b true) (hP hb2 (hD 6 h3 (hE 7 h3 (hD 11 h4 (hE 12 h4 (hC 13 (zq0_M.c (_, _) h5) h0))))))) ?_
     exact wJ G q
    ·refine de G [] (hO 3 (.b false) (hP hb2 h0)) ?_
     exact wJ G q
   rintro v2 q
   refine cd q ?_ ?_ <;> intro q
   ·refine X_skip (thN (Ok_seq (Ok_block ?_)))
    obtain ⟨e8, h10, e9, h11, e10, h12, q⟩ := ob3 q
    obtain ⟨e11, h13, q⟩ := obind q
    refine de G [(15, [0]), (17, [0])] (hD 8 h10 (hE 9 h10 (hD 12 h11 (hE 13 h11 (hD 14 h12 (hS 15 h12 e8 (hD 16 h13 (hS 17 h13 e9 h0)))))))) ?_
    exact ibN (thN (rh G (wL G q)))
   ·exact Ok_exit (thE (thE (ibE (wD G q hb1))))
  rintro data3 q s hw
  refine ibN (thN (Ok_weak hw ?_))
  exact rh G (wL G q)
 ·have q := eD q hb
  refine Ok_exit (thE (thE (ibE ?_)))
  cases q
  exact fN [] []
noncomputable def zq90_M : MS ((List Int) × Int × Int × Int) ((List Int)) := ⟨.x (.s 3) (.x .r (.x .r .r)), fun x => zq90 x.1 x.2.1 x.2.2.1 x.2.2.2, fun _ => .tup [], fun _ => [], fun _ y => [arO 3 y]⟩
theorem zq90_ok : FnOK Try.prog tJ 250 zq90_M.S := by
 refine fm tt zq90_M [fo zq0_ok] call250 func250 rfl results250 ntmps250 ?_
 rintro ⟨data, lo, hi, first⟩ y cx G (q : zq90 data lo hi first = some y)
 unfold zq90 at q
 refine rg G (Ok_block (lp G q (fun (v, data1) => ⟨[(0, .own 0), (2, dV hi), (3, dV first), (8, dV v)], [aX 0 3 data1], 48⟩) ?_))
 rintro ⟨v, data1⟩ r0 hb q
 rw [zq90_L1] at q
 refine Ok_block (rg G (Ok_seq (rg G (cd q ?_ ?_)))) <;> intro q
 ·have q := eD q hb
  refine Ok_exit (thE (ibX rfl (thE (ibE ?_))))
  cases q
  exact fN [] []
 ·refine X_skip (thN (jn q (fun v1 => ⟨[(0, .own 0), (2, dV hi), (3, dV first), (8, dV v), (9, dV v1)], [aX 0 3 data1], 48⟩) (fun v1 q => ?_) ?_))
  ·refine jn q (fun v2 => ⟨[(0, .own 0), (2, dV hi), (3, dV first), (8, dV v), (9, dV (w64 ((w64 (2 * v)) + 1))), (36, dV v2)], [aX 0 3 data1], 48⟩) (fun v2 q => ?_) ?_
   ·rcases bf q with ⟨hb1, q⟩ | ⟨hb1, q⟩
    ·obtain ⟨e3, h3, e4, h4, r2, h5, q⟩ := ob3 q
     refine de G [] (hO 4 (.b true) (hP hb1 (hD 9 h3 (hE 10 h3 (hD 16 h4 (hE 17 h4 (hC 18 (zq0_M.c (_, _) h5) h0))))))) ?_
     exact wJ G q
    ·refine de G [] (hO 4 (.b false) (hP hb1 h0)) ?_
     exact wJ G q
   rintro v2 q
   refine cd q ?_ ?_ <;> intro q
   ·exact rh G (wJ G q)
   ·exact X_skip (wJ G q)
  rintro v1 q
  refine Ok_seq ?_
  obtain ⟨e7, h9, e8, h10, r4, h11, q⟩ := ob3 q
  refine ds G [] (hD 4 h9 (hE 5 h9 (hD 10 h10 (hE 11 h10 (hC 12 (zq0_M.c (_, _) h11) h0))))) ?_
  refine cd q ?_ ?_ <;> intro q
  ·have q := eD q hb
   cases q
   exact rt [] []
  ·refine X_skip (thN ?_)
   obtain ⟨e14, h16, e15, h17, e16, h18, q⟩ := ob3 q
   obtain ⟨e17, h19, q⟩ := obind q
   refine ds G [(21, [0]), (23, [0])] (hD 12 h16 (hE 13 h16 (hD 18 h17 (hE 19 h17 (hD 20 h18 (hS 21 h18 e14 (hD 22 h19 (hS 23 h19 e15 h0)))))))) ?_
   exact rh G (ibN (wL G q))
noncomputable def zq79_M : MS ((List Int) × Int × Int) ((List Int)) := ⟨.x (.s 3) (.x .r .r), fun x => zq79 x.1 x.2.1 x.2.2, fun _ => .tup [], fun _ => [], fun _ y => [arO 3 y]⟩
theorem zq79_ok : FnOK Try.prog tJ 240 zq79_M.S := by
 refine fm tt zq79_M [fo zq90_ok] call240 func240 rfl results240 ntmps240 ?_
 rintro ⟨data, a, b⟩ y cx G (q : zq79 data a b = some y)
 unfold zq79 at q
 refine rg G (rg G (rg G (Ok_seq ?_)))
 obtain ⟨u, h, q⟩ := obind q
 refine rs G (hK h h0) ?_
 refine tl q (fun data2 => ⟨[(0, .own 0), (6, dV a), (7, kV .i64 0), (8, dV (w64 (b - a)))], [aX 0 3 data2], 48⟩) (fun data2 q => ?_) ?_
 ·refine Ok_block (lp G q (fun (v, data1) => ⟨[(0, .own 0), (6, dV a), (7, kV .i64 0), (8, dV (w64 (b - a))), (9, dV v)], [aX 0 3 data1], 48⟩) ?_)
  rintro ⟨v, data1⟩ r0 hb q
  rw [zq79_L1] at q
  refine Ok_seq (rg G (cd q ?_ ?_)) <;> intro q
  ·refine X_skip (thN (Ok_seq (Ok_block ?_)))
   obtain ⟨r, h1, q⟩ := obind q
   refine re G (hC 4 (zq90_M.c (_, _, _, _) h1) h0) ?_
   exact ibN (thN (rh G (wL G q)))
  ·exact Ok_exit (thE (thE (ibE (wD G q hb))))
 rintro data2 q s hw
 refine thN (Ok_weak hw ?_)
 refine rg G (Ok_block (lp G q (fun (v1, data3) => ⟨[(0, .own 0), (6, dV a), (7, kV .i64 0), (10, dV v1)], [aX 0 3 data3], 48⟩) ?_))
 rintro ⟨v1, data3⟩ r0 hb1 q
 rw [zq79_L2] at q
 refine Ok_seq (rg G (cd q ?_ ?_)) <;> intro q
 ·refine X_skip (thN (Ok_seq (Ok_block ?_)))
  obtain ⟨e4, h6, e5, h7, e6, h8, q⟩ := ob3 q
  obtain ⟨e7, h9, q⟩ := obind q
  refine ds G [(17, [0]), (19, [0])] (hD 10 h6 (hE 11 h6 (hD 14 h7 (hE 15 h7 (hD 16 h8 (hS 17 h8 e4 (hD 18 h9 (hS 19 h9 e5 h0)))))))) ?_
  obtain ⟨r1, h10, q⟩ := obind q
  refine re G (hC 4 (zq90_M.c (_, _, _, _) h10) h0) ?_
  exact ibN (thN (rh G (wL G q)))
 ·have q := eD q hb1
  refine Ok_exit (thE (thE (ibE ?_)))
  cases q
  exact fN [] []
noncomputable def zq84_M : MS ((List Int) × Int × Int × Int) (Int × Int × Int) := ⟨.x .r (.x .r (.x .r (.b 3))), fun x => zq84 x.1 x.2.1 x.2.2.1 x.2.2.2, fun y => .tup [dV y.1, dV y.2.1], fun _ => [], fun _ y => [bxO 3 y.2.2]⟩
theorem zq84_c {data a b swaps y} (q : zq84 data a b swaps = some y) : zq84_M.C (data, a, b, swaps) y := zq84_M.c (data, a, b, swaps) q
theorem zq84_ok : FnOK Try.prog tJ 255 zq84_M.S := by
 refine fm tt zq84_M [fo zq0_ok] call255 func255 rfl results255 ntmps255 ?_
 rintro ⟨data, a, b, swaps⟩ y cx G (q : zq84 data a b swaps = some y)
 unfold zq84 at q
 refine rg G (Ok_seq ?_)
 obtain ⟨e2, h3, e3, h4, r1, h5, q⟩ := ob3 q
 refine ds G [] (hD 2 h3 (hD 6 h4 (hC 8 (zq0_M.c (_, _) h5) h0))) ?_
 refine cd q ?_ ?_ <;> intro q
 ·refine rg G (rg G ?_)
  cases q
  exact rt [] []
 ·refine X_skip (thN (rg G ?_))
  cases q
  exact rt [] []
noncomputable def zq82_M : MS ((List Int) × Int × Int × Int × Int) (Int × Int) := ⟨.x .r (.x .r (.x .r (.x .r (.b 3)))), fun x => zq82 x.1 x.2.1 x.2.2.1 x.2.2.2.1 x.2.2.2.2, fun y => dV y.1, fun _ => [], fun _ y => [bxO 3 y.2]⟩
theorem zq82_ok : FnOK Try.prog tJ 254 zq82_M.S := by
 refine fm tt zq82_M [fo zq84_ok] call254 func254 rfl results254 ntmps254 ?_
 rintro ⟨data, a, b, c, swaps⟩ y cx G (q : zq82 data a b c swaps = some y)
 unfold zq82 at q
 refine rg G ?_
 obtain ⟨r, h, q⟩ := obind q
 refine rs G (hC 4 (zq84_c h) h0) ?_
 obtain ⟨r1, h1, q⟩ := obind q
 refine rs G (hC 4 (zq84_c h1) h0) ?_
 obtain ⟨r2, h2, q⟩ := obind q
 refine rs G (hC 4 (zq84_c h2) h0) ?_
 refine rg G ?_
 cases q
 exact rt [] []
noncomputable def zq81_M : MS ((List Int) × Int × Int) (Int × Int) := ⟨.x .r (.x .r (.b 3)), fun x => zq81 x.1 x.2.1 x.2.2, fun y => dV y.1, fun _ => [], fun _ y => [bxO 3 y.2]⟩
theorem zq81_ok : FnOK Try.prog tJ 253 zq81_M.S := by
 refine fm tt zq81_M [fo zq82_ok] call253 func253 rfl results253 ntmps253 ?_
 rintro ⟨data, a, swaps⟩ y cx G (q : zq81 data a swaps = some y)
 unfold zq81 at q
 refine rg G ?_
 obtain ⟨r, h, q⟩ := obind q
 refine rs G (hC 7 (zq82_M.c (_, _, _, _, _) h) h0) ?_
 cases q
 exact rt [] []
noncomputable def zq78_M : MS ((List Int) × Int × Int) (Int × Int) := ⟨.x .r (.x .r .r), fun x => zq78 x.1 x.2.1 x.2.2, fun y => .tup [dV y.1, dV y.2], fun _ => [], fun _ _ => []⟩
theorem zq78_ok : FnOK Try.prog tJ 242 zq78_M.S := by
 refine fm tt zq78_M [fo zq81_ok, fo zq82_ok] call242 func242 rfl results242 ntmps242 ?_
 rintro ⟨data, a, b⟩ y cx G (q : zq78 data a b = some y)
 unfold zq78 at q
 refine rg G (rg G (rg G ?_))
 obtain ⟨u, h, q⟩ := obind q
 refine rs G (hK h h0) ?_
 obtain ⟨u1, h1, q⟩ := obind q
 refine rs G (hK h1 h0) ?_
 obtain ⟨u2, h2, q⟩ := obind q
 refine rs G (hK h2 h0) ?_
 refine jn q (fun (v, v1) => ⟨[(9, .ref 16 0), (11, dV v)], [bX 16 3 [dV v1]], 48⟩) (fun vv1 q => ?_) ?_
 ·refine rg G (cd q ?_ ?_) <;> intro q
  ·refine jn q (fun (v2, v3, v4, v5) => ⟨[(0, dV data), (9, .ref 16 0), (10, dV v2), (11, dV v3), (12, dV v4)], [bX 16 3 [dV v5]], 48⟩) (fun vv q => ?_) ?_
   ·refine rg G (cd q ?_ ?_) <;> intro q
    ·obtain ⟨r, h3, q⟩ := obind q
     refine rs G (hC 2 (zq81_M.c (_, _, _) h3) h0) ?_
     obtain ⟨r1, h4, q⟩ := obind q
     refine rs G (hC 2 (zq81_M.c (_, _, _) h4) h0) ?_
     obtain ⟨r2, h5, q⟩ := obind q
     refine re G (hC 2 (zq81_M.c (_, _, _) h5) h0) ?_
     exact wJ G q
    ·exact X_skip (wJ G q)
   rintro ⟨v2, v3, v4, v5⟩ q
   obtain ⟨r3, h6, q⟩ := obind q
   refine re G (hC 4 (zq82_M.c (_, _, _, _, _) h6) h0) ?_
   exact wJ G q
  ·exact X_skip (wJ G q)
 rintro ⟨v, v1⟩ q
 refine rg G (Ok_block (rg G (cd q ?_ ?_))) <;> intro q
 ·refine rg G ?_
  cases q
  exact rt [] []
 ·refine rg G (cd q ?_ ?_) <;> intro q
  ·refine rg G ?_
   cases q
   exact rt [] []
  ·refine rg G ?_
   cases q
   exact rt [] []
noncomputable def zq89_M : MS ((List Int) × Int × Int) ((List Int)) := ⟨.x (.s 3) (.x .r .r), fun x => zq89 x.1 x.2.1 x.2.2, fun _ => .tup [], fun _ => [], fun _ y => [arO 3 y]⟩
theorem zq89_ok : FnOK Try.prog tJ 243 zq89_M.S := by
 refine fm tt zq89_M [] call243 func243 rfl results243 ntmps243 ?_
 rintro ⟨data, a, b⟩ y cx G (q : zq89 data a b = some y)
 unfold zq89 at q
 refine rg G (rg G (Ok_block (lp G q (fun (v, v1, data1) => ⟨[(0, .own 0), (6, dV v), (7, dV v1)], [aX 0 3 data1], 48⟩) ?_)))
 rintro ⟨v, v1, data1⟩ r0 hb q
 rw [zq89_L1] at q
 refine Ok_seq (rg G (cd q ?_ ?_)) <;> intro q
 ·refine X_skip (thN (Ok_block ?_))
  obtain ⟨e4, h4, e5, h5, e6, h6, q⟩ := ob3 q
  obtain ⟨e7, h7, q⟩ := obind q
  refine ds G [(13, [0]), (15, [0])] (hD 6 h4 (hE 7 h4 (hD 10 h5 (hE 11 h5 (hD 12 h6 (hS 13 h6 e4 (hD 14 h7 (hS 15 h7 e5 h0)))))))) ?_
  exact rg G (rh G (ibN (wL G q)))
 ·have q := eD q hb
  refine Ok_exit (thE (thE (ibE ?_)))
  cases q
  exact fN [] []
noncomputable def zq85_M : MS ((List Int) × Int × Int) (Bool × (List Int)) := ⟨.x (.s 3) (.x .r .r), fun x => zq85 x.1 x.2.1 x.2.2, fun y => dV y.1, fun _ => [], fun _ y => [arO 3 y.2]⟩
theorem zq85_ok : FnOK Try.prog tJ 244 zq85_M.S := by
 refine fm tt zq85_M [fo zq0_ok] call244 func244 rfl results244 ntmps244 ?_
 rintro ⟨data, a, b⟩ y cx G (q : zq85 data a b = some y)
 unfold zq85 at q
 refine rg G (rg G (Ok_seq (rg G (tF q (fun data8 => ⟨[(0, .own 0)], [aX 0 3 data8], 48⟩) (fun v5 hr q => ?_) ?_))))
 ·refine Ok_block (lp G q (fun (j, v, data1) => ⟨[(0, .own 0), (1, dV a), (2, dV b), (7, dV j), (8, dV v)], [aX 0 3 data1], 48⟩) ?_)
  rintro ⟨j, v, data1⟩ r0 hb q
  rw [zq85_L4] at q
  refine Ok_seq (rg G (cd q ?_ ?_)) <;> intro q
  ·refine X_skip (thN (jF q (fun (j1, data2) => ⟨[(0, .own 0), (1, dV a), (2, dV b), (7, dV j1), (8, dV v)], [aX 0 3 data2], 48⟩) (fun v4 hr1 q => ?_) ?_))
   ·refine Ok_block (jn q (fun j3 => ⟨[(0, .own 0), (1, dV a), (2, dV b), (7, dV j3), (8, dV v)], [aX 0 3 data1], 48⟩) (fun j3 q => ?_) ?_)
    ·refine Ok_block (lp G q (fun j2 => ⟨[(0, .own 0), (1, dV a), (2, dV b), (7, dV j2), (8, dV v)], [aX 0 3 data1], 48⟩) ?_)
     rintro j2 r0 hb1 q
     rw [zq85_L1] at q
     refine Ok_seq (jn q (fun v1 => ⟨[(0, .own 0), (1, dV a), (2, dV b), (7, dV j2), (8, dV v), (32, dV v1)], [aX 0 3 data1], 48⟩) (fun v1 q => ?_) ?_)
     ·rcases bf q with ⟨hb2, q⟩ | ⟨hb2, q⟩
      ·obtain ⟨e2, h3, e3, h4, r1, h5, q⟩ := ob3 q
       refine de G [] (hO 3 (.b true) (hP hb2 (hD 6 h3 (hE 7 h3 (hD 11 h4 (hE 12 h4 (hC 13 (zq0_M.c (_, _) h5) h0))))))) ?_
       exact wJ G q
      ·refine de G [] (hO 3 (.b false) (hP hb2 h0)) ?_
       exact wJ G q
     rintro v1 q
     refine cd q ?_ ?_ <;> intro q
     ·exact X_skip (thN (Ok_block (rh G (ibN (wL G q)))))
     ·exact Ok_exit (thE (thE (ibE (wD G q hb1))))
    rintro j3 q
    refine Ok_seq (rg G (cd q ?_ ?_)) <;> intro q
    ·refine rg G ?_
     have q := eR q hr1
     have q := eL q hb hr
     cases q
     exact rt [] []
    ·refine X_skip (thN (Ok_seq (rg G (cd q ?_ ?_)))) <;> intro q
     ·refine rg G ?_
      have q := eR q hr1
      have q := eL q hb hr
      cases q
      exact rt [] []
     ·refine X_skip (thN ?_)
      obtain ⟨e12, h10, e13, h11, e14, h12, q⟩ := ob3 q
      obtain ⟨e15, h13, q⟩ := obind q
      refine ds G [(15, [0]), (17, [0])] (hD 8 h10 (hE 9 h10 (hD 12 h11 (hE 13 h11 (hD 14 h12 (hS 15 h12 e12 (hD 16 h13 (hS 17 h13 e13 h0)))))))) ?_
      refine jn q (fun data3 => ⟨[(0, .own 0), (1, dV a), (2, dV b), (7, dV j3), (8, dV v)], [aX 0 3 data3], 48⟩) (fun data3 q => ?_) ?_
      ·refine rg G (cd q ?_ ?_) <;> intro q
       ·refine rg G (tl q (fun data5 => ⟨[(0, .own 0), (1, dV a), (2, dV b), (7, dV j3), (8, dV v)], [aX 0 3 data5], 48⟩) (fun data5 q => ?_) ?_)
        ·refine Ok_block (lp G q (fun (v2, data4) => ⟨[(0, .own 0), (1, dV a), (2, dV b), (7, dV j3), (8, dV v), (9, dV v2)], [aX 0 3 data4], 48⟩) ?_)
         rintro ⟨v2, data4⟩ r0 hb3 q
         rw [zq85_L2] at q
         refine Ok_seq (rg G (cd q ?_ ?_)) <;> intro q
         ·refine X_skip (thN (Ok_seq (Ok_block (Ok_seq ?_))))
          obtain ⟨e18, h17, e19, h18, r7, h19, q⟩ := ob3 q
          refine ds G [] (hD 2 h17 (hE 3 h17 (hD 7 h18 (hE 8 h18 (hC 9 (zq0_M.c (_, _) h19) h0))))) ?_
          refine cd q ?_ ?_ <;> intro q
          ·exact Ok_exit (thE (ibX rfl (thE (thE (ibE (wD G q hb3))))))
          ·refine X_skip (thN ?_)
           obtain ⟨e24, h24, e25, h25, e26, h26, q⟩ := ob3 q
           obtain ⟨e27, h27, q⟩ := obind q
           refine de G [(15, [0]), (17, [0])] (hD 8 h24 (hE 9 h24 (hD 12 h25 (hE 13 h25 (hD 14 h26 (hS 15 h26 e24 (hD 16 h27 (hS 17 h27 e25 h0)))))))) ?_
           exact ibN (thN (rh G (wL G q)))
         ·exact Ok_exit (thE (thE (ibE (wD G q hb3))))
        rintro data5 q s hw
        exact wJp q (Wk.trans hw (Wk_J G.hL ⟨[(0, []), (1, []), (2, []), (7, []), (8, [])], [(0, 0, [])], [], 48⟩ (by kernel_rfl)))
       ·exact X_skip (wJ G q)
      rintro data3 q
      refine rg G (cd q ?_ ?_) <;> intro q
      ·refine rg G (tl q (fun data7 => ⟨[(0, .own 0), (1, dV a), (2, dV b), (7, dV j3), (8, dV v)], [aX 0 3 data7], 48⟩) (fun data7 q => ?_) ?_)
       ·refine Ok_block (lp G q (fun (v3, data6) => ⟨[(0, .own 0), (1, dV a), (2, dV b), (7, dV j3), (8, dV v), (10, dV v3)], [aX 0 3 data6], 48⟩) ?_)
        rintro ⟨v3, data6⟩ r0 hb4 q
        rw [zq85_L3] at q
        refine Ok_seq (rg G (cd q ?_ ?_)) <;> intro q
        ·refine X_skip (thN (Ok_seq (Ok_block (Ok_seq ?_))))
         obtain ⟨e30, h31, e31, h32, r9, h33, q⟩ := ob3 q
         refine ds G [] (hD 2 h31 (hE 3 h31 (hD 7 h32 (hE 8 h32 (hC 9 (zq0_M.c (_, _) h33) h0))))) ?_
         refine cd q ?_ ?_ <;> intro q
         ·exact Ok_exit (thE (ibX rfl (thE (thE (ibE (wD G q hb4))))))
         ·refine X_skip (thN ?_)
          obtain ⟨e36, h38, e37, h39, e38, h40, q⟩ := ob3 q
          obtain ⟨e39, h41, q⟩ := obind q
          refine de G [(15, [0]), (17, [0])] (hD 8 h38 (hE 9 h38 (hD 12 h39 (hE 13 h39 (hD 14 h40 (hS 15 h40 e36 (hD 16 h41 (hS 17 h41 e37 h0)))))))) ?_
          exact ibN (thN (rh G (wL G q)))
        ·exact Ok_exit (thE (thE (ibE (wD G q hb4))))
       rintro data7 q s1 hw1
       exact ibN (wFp q (Wk.trans hw1 (Wk_J G.hL ⟨[(0, []), (1, []), (2, []), (7, []), (8, [])], [(0, 0, [])], [], 48⟩ (by kernel_rfl))))
      ·exact X_skip (ibN (wF G q))
   rintro ⟨j1, data2⟩ q
   exact rh G (wL G q)
  ·exact Ok_exit (thE (thE (ibE (wE G q hb))))
 rintro data8 q s2 hw2
 refine thN (Ok_weak hw2 ?_)
 refine rg G ?_
 cases q
 exact rt [] []
noncomputable def zq86_M : MS ((List Int) × Int × Int × Int) (Int × (List Int)) := ⟨.x (.s 3) (.x .r (.x .r .r)), fun x => zq86 x.1 x.2.1 x.2.2.1 x.2.2.2, fun y => dV y.1, fun _ => [], fun _ y => [arO 3 y.2]⟩
theorem zq86_ok : FnOK Try.prog tJ 246 zq86_M.S := by
 refine fm tt zq86_M [fo zq0_ok] call246 func246 rfl results246 ntmps246 ?_
 rintro ⟨data, a, b, pivot⟩ y cx G (q : zq86 data a b pivot = some y)
 unfold zq86 at q
 refine rg G ?_
 obtain ⟨e4, h4, e5, h5, e6, h6, q⟩ := ob3 q
 obtain ⟨e7, h7, q⟩ := obind q
 refine ds G [(13, [0]), (15, [0])] (hD 6 h4 (hE 7 h4 (hD 10 h5 (hE 11 h5 (hD 12 h6 (hS 13 h6 e4 (hD 14 h7 (hS 15 h7 e5 h0)))))))) ?_
 refine rg G (jn q (fun (v8, data2) => ⟨[(0, .own 0), (9, dV v8)], [aX 0 3 data2], 48⟩) (fun vv q => ?_) ?_)
 ·refine Ok_block (lp G q (fun (v, v1, data1) => ⟨[(0, .own 0), (1, dV a), (9, dV v), (10, dV v1)], [aX 0 3 data1], 48⟩) ?_)
  rintro ⟨v, v1, data1⟩ r0 hb q
  rw [zq86_L3] at q
  refine Ok_block (jn q (fun v4 => ⟨[(0, .own 0), (1, dV a), (9, dV v4), (10, dV v1)], [aX 0 3 data1], 48⟩) (fun v4 q => ?_) ?_)
  ·refine Ok_block (lp G q (fun v2 => ⟨[(0, .own 0), (1, dV a), (9, dV v2), (10, dV v1)], [aX 0 3 data1], 48⟩) ?_)
   rintro v2 r0 hb1 q
   rw [zq86_L1] at q
   refine Ok_seq (jn q (fun v3 => ⟨[(0, .own 0), (1, dV a), (9, dV v2), (10, dV v1), (43, dV v3)], [aX 0 3 data1], 48⟩) (fun v3 q => ?_) ?_)
   ·rcases bf q with ⟨hb2, q⟩ | ⟨hb2, q⟩
    ·obtain ⟨e10, h11, e11, h12, r1, h13, q⟩ := ob3 q
     refine de G [] (hO 3 (.b true) (hP hb2 (hD 6 h11 (hE 7 h11 (hD 10 h12 (hE 11 h12 (hC 12 (zq0_M.c (_, _) h13) h0))))))) ?_
     exact wJ G q
    ·refine de G [] (hO 3 (.b false) (hP hb2 h0)) ?_
     exact wJ G q
   rintro v3 q
   refine cd q ?_ ?_ <;> intro q
   ·exact X_skip (thN (Ok_block (rh G (ibN (wL G q)))))
   ·exact Ok_exit (thE (thE (ibE (wD G q hb1))))
  rintro v4 q
  refine jn q (fun v7 => ⟨[(0, .own 0), (1, dV a), (9, dV v4), (10, dV v7)], [aX 0 3 data1], 48⟩) (fun v7 q => ?_) ?_
  ·refine Ok_block (lp G q (fun v5 => ⟨[(0, .own 0), (1, dV a), (9, dV v4), (10, dV v5)], [aX 0 3 data1], 48⟩) ?_)
   rintro v5 r0 hb3 q
   rw [zq86_L2] at q
   refine Ok_seq (jn q (fun v6 => ⟨[(0, .own 0), (1, dV a), (9, dV v4), (10, dV v5), (59, dV v6)], [aX 0 3 data1], 48⟩) (fun v6 q => ?_) ?_)
   ·rcases bf q with ⟨hb4, q⟩ | ⟨hb4, q⟩
    ·obtain ⟨e14, h17, e15, h18, r3, h19, q⟩ := ob3 q
     refine de G [] (hO 3 (.b true) (hP hb4 (hD 6 h17 (hE 7 h17 (hD 10 h18 (hE 11 h18 (hC 12 (zq0_M.c (_, _) h19) h0))))))) ?_
     exact wJ G q
    ·refine de G [] (hO 3 (.b false) (hP hb4 h0)) ?_
     exact wJ G q
   rintro v6 q
   refine cd q ?_ ?_ <;> intro q
   ·exact X_skip (thN (Ok_block (rh G (ibN (wL G q)))))
   ·exact Ok_exit (thE (thE (ibE (wD G q hb3))))
  rintro v7 q
  refine Ok_seq (rg G (cd q ?_ ?_)) <;> intro q
  ·exact Ok_exit (thE (ibX rfl (thE (ibE (wD G q hb)))))
  ·refine X_skip (thN ?_)
   obtain ⟨e20, h24, e21, h25, e22, h26, q⟩ := ob3 q
   obtain ⟨e23, h27, q⟩ := obind q
   refine ds G [(13, [0]), (15, [0])] (hD 6 h24 (hE 7 h24 (hD 10 h25 (hE 11 h25 (hD 12 h26 (hS 13 h26 e20 (hD 14 h27 (hS 15 h27 e21 h0)))))))) ?_
   exact rg G (rh G (ibN (wL G q)))
 rintro ⟨v8, data2⟩ q
 refine rg G ?_
 cases q
 exact rt [] []
noncomputable def zq87_M : MS ((List Int) × Int × Int × Int) (Int × Bool × (List Int)) := ⟨.x (.s 3) (.x .r (.x .r .r)), fun x => zq87 x.1 x.2.1 x.2.2.1 x.2.2.2, fun y => .tup [dV y.1, dV y.2.1], fun _ => [], fun _ y => [arO 3 y.2.2]⟩
theorem zq87_ok : FnOK Try.prog tJ 247 zq87_M.S := by
 refine fm tt zq87_M [fo zq0_ok] call247 func247 rfl results247 ntmps247 ?_
 rintro ⟨data, a, b, pivot⟩ y cx G (q : zq87 data a b pivot = some y)
 unfold zq87 at q
 refine rg G ?_
 obtain ⟨e4, h4, e5, h5, e6, h6, q⟩ := ob3 q
 obtain ⟨e7, h7, q⟩ := obind q
 refine ds G [(13, [0]), (15, [0])] (hD 6 h4 (hE 7 h4 (hD 10 h5 (hE 11 h5 (hD 12 h6 (hS 13 h6 e4 (hD 14 h7 (hS 15 h7 e5 h0)))))))) ?_
 refine rg G (jn q (fun v2 => ⟨[(0, .own 0), (1, dV a), (10, dV v2), (11, dV (w64 (b - 1)))], [aX 0 3 ((data.set a.toNat e4).set pivot.toNat e5)], 48⟩) (fun v2 q => ?_) ?_)
 ·refine Ok_block (lp G q (fun v => ⟨[(0, .own 0), (1, dV a), (10, dV v), (11, dV (w64 (b - 1)))], [aX 0 3 ((data.set a.toNat e4).set pivot.toNat e5)], 48⟩) ?_)
  rintro v r0 hb q
  rw [zq87_L1] at q
  refine Ok_seq (jn q (fun v1 => ⟨[(0, .own 0), (1, dV a), (10, dV v), (11, dV (w64 (b - 1))), (43, dV v1)], [aX 0 3 ((data.set a.toNat e4).set pivot.toNat e5)], 48⟩) (fun v1 q => ?_) ?_)
  ·rcases bf q with ⟨hb1, q⟩ | ⟨hb1, q⟩
   ·obtain ⟨e10, h11, e11, h12, r1, h13, q⟩ := ob3 q
    refine de G [] (hO 3 (.b true) (hP hb1 (hD 6 h11 (hE 7 h11 (hD 10 h12 (hE 11 h12 (hC 12 (zq0_M.c (_, _) h13) h0))))))) ?_
    exact wJ G q
   ·refine de G [] (hO 3 (.b false) (hP hb1 h0)) ?_
    exact wJ G q
  rintro v1 q
  refine cd q ?_ ?_ <;> intro q
  ·exact X_skip (thN (Ok_block (rh G (ibN (wL G q)))))
  ·exact Ok_exit (thE (thE (ibE (wD G q hb))))
 rintro v2 q
 refine jn q (fun v5 => ⟨[(0, .own 0), (1, dV a), (10, dV v2), (11, dV v5)], [aX 0 3 ((data.set a.toNat e4).set pivot.toNat e5)], 48⟩) (fun v5 q => ?_) ?_
 ·refine Ok_block (lp G q (fun v3 => ⟨[(0, .own 0), (1, dV a), (10, dV v2), (11, dV v3)], [aX 0 3 ((data.set a.toNat e4).set pivot.toNat e5)], 48⟩) ?_)
  rintro v3 r0 hb2 q
  rw [zq87_L2] at q
  refine Ok_seq (jn q (fun v4 => ⟨[(0, .own 0), (1, dV a), (10, dV v2), (11, dV v3), (60, dV v4)], [aX 0 3 ((data.set a.toNat e4).set pivot.toNat e5)], 48⟩) (fun v4 q => ?_) ?_)
  ·rcases bf q with ⟨hb3, q⟩ | ⟨hb3, q⟩
   ·obtain ⟨e14, h17, e15, h18, r3, h19, q⟩ := ob3 q
    refine de G [] (hO 3 (.b true) (hP hb3 (hD 6 h17 (hE 7 h17 (hD 10 h18 (hE 11 h18 (hC 12 (zq0_M.c (_, _) h19) h0))))))) ?_
    exact wJ G q
   ·refine de G [] (hO 3 (.b false) (hP hb3 h0)) ?_
    exact wJ G q
  rintro v4 q
  refine cd q ?_ ?_ <;> intro q
  ·exact X_skip (thN (Ok_block (rh G (ibN (wL G q)))))
  ·exact Ok_exit (thE (thE (ibE (wD G q hb2))))
 rintro v5 q
 refine Ok_seq (rg G (cd q ?_ ?_)) <;> intro q
 ·obtain ⟨e20, h24, e21, h25, e22, h26, q⟩ := ob3 q
  obtain ⟨e23, h27, q⟩ := obind q
  refine ds G [(13, [0]), (15, [0])] (hD 6 h24 (hE 7 h24 (hD 10 h25 (hE 11 h25 (hD 12 h26 (hS 13 h26 e20 (hD 14 h27 (hS 15 h27 e21 h0)))))))) ?_
  refine rg G ?_
  cases q
  exact rt [] []
 ·refine X_skip (thN ?_)
  obtain ⟨e28, h32, e29, h33, e30, h34, q⟩ := ob3 q
  obtain ⟨e31, h35, q⟩ := obind q
  refine ds G [(13, [0]), (15, [0])] (hD 6 h32 (hE 7 h32 (hD 10 h33 (hE 11 h33 (hD 12 h34 (hS 13 h34 e28 (hD 14 h35 (hS 15 h35 e29 h0)))))))) ?_
  refine rg G (rg G (jn q (fun (v14, data2) => ⟨[(0, .own 0), (1, dV a), (11, dV v14)], [aX 0 3 data2], 48⟩) (fun vv q => ?_) ?_))
  ·refine Ok_block (lp G q (fun (v6, v7, data1) => ⟨[(0, .own 0), (1, dV a), (10, dV v6), (11, dV v7)], [aX 0 3 data1], 48⟩) ?_)
   rintro ⟨v6, v7, data1⟩ r0 hb4 q
   rw [zq87_L5] at q
   refine Ok_block (jn q (fun v10 => ⟨[(0, .own 0), (1, dV a), (10, dV v10), (11, dV v7)], [aX 0 3 data1], 48⟩) (fun v10 q => ?_) ?_)
   ·refine Ok_block (lp G q (fun v8 => ⟨[(0, .own 0), (1, dV a), (10, dV v8), (11, dV v7)], [aX 0 3 data1], 48⟩) ?_)
    rintro v8 r0 hb5 q
    rw [zq87_L3] at q
    refine Ok_seq (jn q (fun v9 => ⟨[(0, .own 0), (1, dV a), (10, dV v8), (11, dV v7), (112, dV v9)], [aX 0 3 data1], 48⟩) (fun v9 q => ?_) ?_)
    ·rcases bf q with ⟨hb6, q⟩ | ⟨hb6, q⟩
     ·obtain ⟨e34, h39, e35, h40, r5, h41, q⟩ := ob3 q
      refine de G [] (hO 3 (.b true) (hP hb6 (hD 6 h39 (hE 7 h39 (hD 10 h40 (hE 11 h40 (hC 12 (zq0_M.c (_, _) h41) h0))))))) ?_
      exact wJ G q
     ·refine de G [] (hO 3 (.b false) (hP hb6 h0)) ?_
      exact wJ G q
    rintro v9 q
    refine cd q ?_ ?_ <;> intro q
    ·exact X_skip (thN (Ok_block (rh G (ibN (wL G q)))))
    ·exact Ok_exit (thE (thE (ibE (wD G q hb5))))
   rintro v10 q
   refine jn q (fun v13 => ⟨[(0, .own 0), (1, dV a), (10, dV v10), (11, dV v13)], [aX 0 3 data1], 48⟩) (fun v13 q => ?_) ?_
   ·refine Ok_block (lp G q (fun v11 => ⟨[(0, .own 0), (1, dV a), (10, dV v10), (11, dV v11)], [aX 0 3 data1], 48⟩) ?_)
    rintro v11 r0 hb7 q
    rw [zq87_L4] at q
    refine Ok_seq (jn q (fun v12 => ⟨[(0, .own 0), (1, dV a), (10, dV v10), (11, dV v11), (129, dV v12)], [aX 0 3 data1], 48⟩) (fun v12 q => ?_) ?_)
    ·rcases bf q with ⟨hb8, q⟩ | ⟨hb8, q⟩
     ·obtain ⟨e38, h45, e39, h46, r7, h47, q⟩ := ob3 q
      refine de G [] (hO 3 (.b true) (hP hb8 (hD 6 h45 (hE 7 h45 (hD 10 h46 (hE 11 h46 (hC 12 (zq0_M.c (_, _) h47) h0))))))) ?_
      exact wJ G q
     ·refine de G [] (hO 3 (.b false) (hP hb8 h0)) ?_
      exact wJ G q
    rintro v12 q
    refine cd q ?_ ?_ <;> intro q
    ·exact X_skip (thN (Ok_block (rh G (ibN (wL G q)))))
    ·exact Ok_exit (thE (thE (ibE (wD G q hb7))))
   rintro v13 q
   refine Ok_seq (rg G (cd q ?_ ?_)) <;> intro q
   ·exact Ok_exit (thE (ibX rfl (thE (ibE (wD G q hb4)))))
   ·refine X_skip (thN ?_)
    obtain ⟨e44, h52, e45, h53, e46, h54, q⟩ := ob3 q
    obtain ⟨e47, h55, q⟩ := obind q
    refine ds G [(13, [0]), (15, [0])] (hD 6 h52 (hE 7 h52 (hD 10 h53 (hE 11 h53 (hD 12 h54 (hS 13 h54 e44 (hD 14 h55 (hS 15 h55 e45 h0)))))))) ?_
    exact rg G (rh G (ibN (wL G q)))
  rintro ⟨v14, data2⟩ q
  obtain ⟨e52, h60, e53, h61, e54, h62, q⟩ := ob3 q
  obtain ⟨e55, h63, q⟩ := obind q
  refine ds G [(13, [0]), (15, [0])] (hD 6 h60 (hE 7 h60 (hD 10 h61 (hE 11 h61 (hD 12 h62 (hS 13 h62 e52 (hD 14 h63 (hS 15 h63 e53 h0)))))))) ?_
  refine rg G ?_
  cases q
  exact rt [] []
noncomputable def zq83_M : MS Int ((IK .u64)) := ⟨.r, zq83, fun y => dV y, fun _ => [], fun _ _ => []⟩
theorem zq83_ok : FnOK Try.prog tJ 251 zq83_M.S := by
 refine fm tt zq83_M [fo zq24_ok] call251 func251 rfl results251 ntmps251 ?_
 rintro length y cx G (q : zq83 length = some y)
 unfold zq83 at q
 refine rg G ?_
 obtain ⟨r, h, u, h1, q⟩ := ob2 q
 refine rs G (hC 2 (zq24_M.c _ h) (hK h1 h0)) ?_
 cases q
 exact rt [] []
noncomputable def zq91_M : MS ((IK .u64)) ((IK .u64) × (IK .u64)) := ⟨.b 274, zq91, fun y => dV y.1, fun _ => [], fun _ y => [bxO 274 y.2]⟩
theorem zq91_ok : FnOK Try.prog tJ 252 zq91_M.S := by
 refine fm tt zq91_M [] call252 func252 rfl results252 ntmps252 ?_
 rintro r y cx G (q : zq91 r = some y)
 unfold zq91 at q
 refine rg G ?_
 obtain ⟨u1, h1, q⟩ := obind q
 refine ds G [(9, [0])] (hK h1 h0) ?_
 obtain ⟨u3, h3, q⟩ := obind q
 refine ds G [(9, [0])] (hK h3 h0) ?_
 obtain ⟨u5, h5, q⟩ := obind q
 refine ds G [(9, [0])] (hK h5 h0) ?_
 refine rg G ?_
 cases q
 exact rt [] []
noncomputable def zq77_M : MS ((List Int) × Int × Int) ((List Int)) := ⟨.x (.s 3) (.x .r .r), fun x => zq77 x.1 x.2.1 x.2.2, fun _ => .tup [], fun _ => [], fun _ y => [arO 3 y]⟩
theorem zq77_ok : FnOK Try.prog tJ 241 zq77_M.S := by
 refine fm tt zq77_M [fo zq83_ok, fo zq91_ok] call241 func241 rfl results241 ntmps241 ?_
 rintro ⟨data, a, b⟩ y cx G (q : zq77 data a b = some y)
 unfold zq77 at q
 refine rg G (rg G (cd q ?_ ?_)) <;> intro q
 ·refine rg G ?_
  obtain ⟨r, h, q⟩ := obind q
  refine rs G (hC 1 (zq83_M.c _ h) h0) ?_
  obtain ⟨u, h1, q⟩ := obind q
  refine rs G (hK h1 h0) ?_
  refine Ok_block (lp G q (fun (v, data1, v1) => ⟨[(0, .own 0), (1, dV a), (6, dV (w64 (b - a))), (7, .ref 32 0), (8, kV .u64 r.v), (9, dV v)], [aX 0 3 data1, bX 32 274 [kV .u64 v1]], 64⟩) ?_)
  rintro ⟨v, data1, v1⟩ r0 hb q
  rw [zq77_L1] at q
  refine Ok_seq ?_
  obtain ⟨u1, h2, q⟩ := obind q
  refine rs G (hK h2 h0) ?_
  refine cd q ?_ ?_ <;> intro q
  ·refine X_skip (thN (Ok_seq (Ok_block ?_)))
   obtain ⟨r1, h3, q⟩ := obind q
   refine rs G (hC 0 (zq91_M.c _ h3) h0) ?_
   refine jn q (fun v2 => ⟨[(0, .own 0), (1, dV a), (6, dV (w64 (b - a))), (7, .ref 32 0), (8, kV .u64 r.v), (9, dV v), (10, dV v2)], [aX 0 3 data1, bX 32 274 [kV .u64 r1.2.v]], 64⟩) (fun v2 q => ?_) ?_
   ·refine rg G (cd q ?_ ?_) <;> intro q
    ·exact rh G (wJ G q)
    ·exact X_skip (wJ G q)
   rintro v2 q
   obtain ⟨e4, h8, e5, h9, e6, h10, q⟩ := ob3 q
   obtain ⟨e7, h11, q⟩ := obind q
   refine de G [(17, [0]), (19, [0])] (hD 10 h8 (hE 11 h8 (hD 14 h9 (hE 15 h9 (hD 16 h10 (hS 17 h10 e4 (hD 18 h11 (hS 19 h11 e5 h0)))))))) ?_
   exact ibN (thN (rh G (wL G q)))
  ·have q := eD q hb
   refine Ok_exit (thE (thE (ibE ?_)))
   cases q
   exact fN [] []
 ·refine X_skip ?_
  cases q
  exact fN [] []
noncomputable def zq88_MR (rec_ : (List Int) → Int → Int → Int → Option ((List Int))) : MS ((List Int) × Int × Int × Int) ((List Int)) := ⟨.x (.s 3) (.x .r (.x .r .r)), fun x => rec_ x.1 x.2.1 x.2.2.1 x.2.2.2, fun _ => .tup [], fun _ => [], fun _ y => [arO 3 y]⟩
noncomputable def zq88_M : MS ((List Int) × Int × Int × Int) ((List Int)) := zq88_MR zq88
theorem zq88_c {data a b limit y} (q : zq88 data a b limit = some y) : zq88_M.C (data, a, b, limit) y := zq88_M.c (data, a, b, limit) q
theorem zq88_cR {rec_ : (List Int) → Int → Int → Int → Option ((List Int))} {data a b limit y} (q : rec_ data a b limit = some y) : (zq88_MR rec_).C (data, a, b, limit) y := (zq88_MR rec_).c (data, a, b, limit) q
theorem zq88_okF {rec_ : (List Int) → Int → Int → Int → Option ((List Int))} (hrec : FnOK Try.prog tJ 229 (zq88_MR rec_).S) : FnOK Try.prog tJ 229 (zq88_MR (zq88_F rec_)).S := by
 refine fm tt (zq88_MR (zq88_F rec_)) [fo hrec, fo zq80_ok, fo zq79_ok, fo zq77_ok, fo zq78_ok, fo zq89_ok, fo zq85_ok, fo zq0_ok, fo zq86_ok, fo zq87_ok] call229 func229 rfl results229 ntmps229 ?_
 rintro ⟨data, a, b, limit⟩ y cx G (q : zq88_F rec_ data a b limit = some y)
 unfold zq88_F at q
 refine rg G (rg G (Ok_block (lp G q (fun (a1, b1, limit1, hint, mid, data1) => ⟨[(0, .own 0), (1, dV a1), (2, dV b1), (3, dV limit1), (8, dV hint), (9, dV mid)], [aX 0 3 data1], 48⟩) ?_)))
 rintro ⟨a1, b1, limit1, hint, mid, data1⟩ r0 hb q
 rw [zq88_L1] at q
 refine Ok_block (rg G (Ok_seq (rg G (cd q ?_ ?_)))) <;> intro q
 ·obtain ⟨r, h, q⟩ := obind q
  refine rs G (hC 3 (zq80_M.c (_, _, _) h) h0) ?_
  have q := eD q hb
  cases q
  exact rt [] []
 ·refine X_skip (thN (Ok_seq (rg G (cd q ?_ ?_)))) <;> intro q
  ·obtain ⟨r2, h1, q⟩ := obind q
   refine rs G (hC 3 (zq79_M.c (_, _, _) h1) h0) ?_
   have q := eD q hb
   cases q
   exact rt [] []
  ·refine X_skip (thN (jn q (fun (limit2, data2) => ⟨[(0, .own 0), (1, dV a1), (2, dV b1), (3, dV limit2), (8, dV hint), (9, dV mid), (10, dV (w64 (b1 - a1)))], [aX 0 3 data2], 48⟩) (fun vv1 q => ?_) ?_))
   ·refine rg G (cd q ?_ ?_) <;> intro q
    ·obtain ⟨r4, h2, q⟩ := obind q
     refine rs G (hC 3 (zq77_M.c (_, _, _) h2) h0) ?_
     exact rh G (wJ G q)
    ·exact X_skip (wJ G q)
   rintro ⟨limit2, data2⟩ q
   obtain ⟨r5, h3, q⟩ := obind q
   refine rs G (hC 3 (zq78_M.c (_, _, _) h3) h0) ?_
   refine jn q (fun (alreadyPartitioned, leftLen, data3) => ⟨[(0, .own 0), (1, dV a1), (2, dV b1), (3, dV limit2), (8, dV hint), (9, dV mid), (10, dV (w64 (b1 - a1))), (11, dV alreadyPartitioned), (12, dV leftLen)], [aX 0 3 data3], 48⟩) (fun vv q => ?_) ?_
   ·refine rg G (cd q ?_ ?_) <;> intro q
    ·obtain ⟨r6, h4, q⟩ := obind q
     refine rs G (hC 3 (zq89_M.c (_, _, _) h4) h0) ?_
     exact rg G (rh G (wJ G q))
    ·exact X_skip (wJ G q)
   rintro ⟨alreadyPartitioned, leftLen, data3⟩ q
   refine jF q (fun data4 => ⟨[(0, .own 0), (1, dV a1), (2, dV b1), (3, dV limit2), (8, dV hint), (9, dV mid), (10, dV (w64 (b1 - a1))), (11, dV alreadyPartitioned)], [aX 0 3 data4], 48⟩) (fun v2 hr3 q => ?_) ?_
   ·refine jn q (fun v => ⟨[(0, .own 0), (1, dV a1), (2, dV b1), (3, dV limit2), (8, dV hint), (9, dV mid), (10, dV (w64 (b1 - a1))), (11, dV alreadyPartitioned), (68, dV v)], [aX 0 3 data3], 48⟩) (fun v q => ?_) ?_
    ·rcases bf q with ⟨hb1, q⟩ | ⟨hb1, q⟩
     ·rcases bf q with ⟨hb2, q⟩ | ⟨hb2, q⟩
      ·refine re G (hO 1 (.b true) (hP hb1 (hO 4 (.b true) (hP hb2 h0)))) ?_
       exact wJ G q
      ·refine re G (hO 1 (.b true) (hP hb1 (hO 4 (.b false) (hP hb2 h0)))) ?_
       exact wJ G q
     ·refine re G (hO 1 (.b false) (hP hb1 h0)) ?_
      exact wJ G q
    rintro v q
    refine cd q ?_ ?_ <;> intro q
    ·obtain ⟨r7, h5, q⟩ := obind q
     refine rs G (hC 3 (zq85_M.c (_, _, _) h5) h0) ?_
     refine cd q ?_ ?_ <;> intro q
     ·have q := eR q hr3
      have q := eD q hb
      cases q
      exact rt [] []
     ·exact X_skip (wF G q)
    ·exact X_skip (wF G q)
   rintro data4 q
   refine Ok_seq (jn q (fun v1 => ⟨[(0, .own 0), (1, dV a1), (2, dV b1), (3, dV limit2), (8, dV hint), (9, dV mid), (10, dV (w64 (b1 - a1))), (11, dV alreadyPartitioned), (87, dV v1)], [aX 0 3 data4], 48⟩) (fun v1 q => ?_) ?_)
   ·rcases bf q with ⟨hb3, q⟩ | ⟨hb3, q⟩
    ·obtain ⟨e6, h9, e7, h10, r11, h11, q⟩ := ob3 q
     refine de G [] (hO 2 (.b true) (hP hb3 (hD 6 h9 (hE 7 h9 (hD 10 h10 (hE 11 h10 (hC 12 (zq0_M.c (_, _) h11) h0))))))) ?_
     exact wJ G q
    ·refine de G [] (hO 2 (.b false) (hP hb3 h0)) ?_
     exact wJ G q
   rintro v1 q
   refine cd q ?_ ?_ <;> intro q
   ·obtain ⟨r12, h12, q⟩ := obind q
    refine rs G (hC 4 (zq86_M.c (_, _, _, _) h12) h0) ?_
    exact rg G (Ok_exit (thE (ibE (wL G q))))
   ·refine X_skip (thN ?_)
    obtain ⟨r13, h13, q⟩ := obind q
    refine rs G (hC 4 (zq87_M.c (_, _, _, _) h13) h0) ?_
    refine rg G (rg G ?_)
    obtain ⟨u, h14, q⟩ := obind q
    refine rs G (hK h14 h0) ?_
    refine rg G (cd q ?_ ?_) <;> intro q
    ·refine rg G ?_
     obtain ⟨r14, h15, q⟩ := obind q
     refine rs G (hC 4 (zq88_cR h15) h0) ?_
     exact rh G (ibN (wL G q))
    ·refine rg G ?_
     obtain ⟨r15, h16, q⟩ := obind q
     refine rs G (hC 5 (zq88_cR h16) h0) ?_
     exact rh G (ibN (wL G q))
theorem zq88_okn : ∀ k, FnOK Try.prog tJ 229 (zq88_MR (zq88_k k)).S
 | 0 => ⟨fun args w => call229 args w, fun vs w F ds obs κ hp => by obtain ⟨x, y, _, _, h⟩ := hp; cases h⟩
 | k + 1 => zq88_okF (zq88_okn k)
theorem zq88_ok : FnOK Try.prog tJ 229 zq88_M.S := zq88_okn 4294967296
noncomputable def zq76_M : MS ((List Int)) ((List Int)) := ⟨.s 3, zq76, fun _ => .tup [], fun _ => [], fun _ y => [arO 3 y]⟩
theorem zq76_ok : FnOK Try.prog tJ 195 zq76_M.S := by
 refine fm tt zq76_M [fo zq24_ok, fo zq88_ok] call195 func195 rfl results195 ntmps195 ?_
 rintro x y cx G (q : zq76 x = some y)
 unfold zq76 at q
 refine rs G (hN 1 x h0) ?_
 obtain ⟨r, h, r1, h1, q⟩ := ob2 q
 refine re G (hC 4 (zq24_M.c _ h) (hC 5 (zq88_c h1) h0)) ?_
 cases q
 exact fN [] []
noncomputable def zq20_M : MS (Network × Int × (List Pattern) × Int) ((List Int)) := ⟨.x .r (.x .r (.x .r .r)), fun x => zq20 x.1 x.2.1 x.2.2.1 x.2.2.2, fun _ => .own 0, fun y => [arO 3 y], fun _ _ => []⟩
theorem zq20_ok : FnOK Try.prog tJ 132 zq20_M.S := by
 refine fm tt zq20_M [fo zq21_ok, fo zq76_ok] call132 func132 rfl results132 ntmps132 ?_
 rintro ⟨n, period, list, stop⟩ y cx G (q : zq20 n period list stop = some y)
 unfold zq20 at q
 refine rg G (rg G (Ok_seq (rs G (hN 1 list h0) ?_)))
 refine tl q (fun v3 => ⟨[(9, .own 16)], [aX 16 3 v3], 48⟩) (fun v3 q => ?_) ?_
 ·refine Ok_block (lpP q (fun (v, v1) => ⟨[(1, dV period), (3, dV stop), (4, .ref 16 0), (9, .own 32), (13, dV list), (14, dV (list.length : Int)), (15, dV v)], [bX 16 60 [dV n.Stops, dV n.Lines], aX 32 3 v1], 64⟩) (Wk_J G.hL ⟨[(1, []), (3, []), (4, []), (9, [.o 32]), (13, []), (14, []), (15, [])], [(16, 16, [])], [(32, 3, 1, [])], 64⟩ (by kernel_rfl)) ?_)
  rintro ⟨v, v1⟩ r0 hb q
  rw [zq20_L1] at q
  refine rg G (Ok_seq (cd q ?_ ?_)) <;> intro q
  ·refine X_skip (thN (jn q (fun v2 => ⟨[(1, dV period), (3, dV stop), (4, .ref 16 0), (9, .own 32), (13, dV list), (14, dV (list.length : Int)), (15, dV v)], [bX 16 60 [dV n.Stops, dV n.Lines], aX 32 3 v2], 64⟩) (fun v2 q => ?_) ?_))
   ·refine Ok_block ?_
    obtain ⟨e, h, q⟩ := obind q
    refine rs G (hD 0 h h0) ?_
    obtain ⟨r, h1, q⟩ := obind q
    refine rs G (hC 4 (zq21_M.c (_, _, _, _) h1) h0) ?_
    refine rg G (cd q ?_ ?_) <;> intro q
    ·obtain ⟨u, h2, q⟩ := obind q
     refine re G (hA 3 8 h2 h0) ?_
     exact ibN (wJ G q)
    ·exact X_skip (ibN (wJ G q))
   rintro v2 q
   exact rh G (wL G q)
  ·exact Ok_exit (thE (thE (ibE (wD G q hb))))
 rintro v3 q s hw
 refine thN (Ok_weak hw ?_)
 obtain ⟨r1, h3, q⟩ := obind q
 refine rs G (hC 1 (zq76_M.c _ h3) h0) ?_
 refine rg G ?_
 cases q
 exact rt [16] []
noncomputable def zq73_M : MS ((List Pattern)) ((List Pattern)) := ⟨.r, zq73, fun _ => .own 0, fun y => [arO 104 y], fun _ _ => []⟩
theorem zq73_ok : FnOK Try.prog tJ 133 zq73_M.S := by
 refine fm tt zq73_M [] call133 func133 rfl results133 ntmps133 ?_
 rintro s y cx G (q : zq73 s = some y)
 unfold zq73 at q
 obtain ⟨u, h, q⟩ := obind q
 cases q
 refine rg G (Ok_seq (X_nil_seq G.t.ty G.ok 1 (ds := List.map Enc.e s) (es := 2) [] .nil (by kernel_rfl) (by rfl) (by rfl) (by kernel_rfl) ?_))
 intro b hb
 refine X_cond b (by kernel_rfl) (fun hc => ?_) (fun hc => ?_)
 ·have hl : s = [] := by
   cases s with
   | nil => rfl
   | cons a r => have := hb (by simp); rw [hc] at this; cases this
  subst hl
  refine rg G (Ok_weak (Wk_J (x' := ⟨[(2, .own 16)], [(16, some (.arr 104 2 []))], 32⟩) G.hL ⟨[(2, [.o 16])], [], [(16, 104, 2, [])], 32⟩ (by kernel_rfl)) ?_)
  exact rt [16] []
 ·refine sN (rs G (hA 2 16 h h0) ?_)
  exact rt [96] []
noncomputable def zq12_M : MS ((List Int) × Int) ((List Int)) := ⟨.x .r .r, fun x => zq12 x.1 x.2, fun _ => .own 0, fun y => [arO 3 y], fun _ _ => []⟩
theorem zq12_ok : FnOK Try.prog tJ 196 zq12_M.S := by
 refine fm tt zq12_M [] call196 func196 rfl results196 ntmps196 ?_
 rintro ⟨rests, period⟩ y cx G (q : zq12 rests period = some y)
 unfold zq12 at q
 refine rg G ?_
 obtain ⟨u, h, q⟩ := obind q
 refine rs G (hN 1 rests (hO 2 (.l (List.map Enc.e (List.replicate (rests.length : Int).toNat (0 : Int)))) (hP (mk_p (b := 8) (chk_t h) rfl) (hP (rep_m Enc.e (rests.length : Int).toNat (0 : Int)) h0)))) ?_
 refine Ok_seq (rs G (hN 1 rests h0) ?_)
 refine tl q (fun r2 => ⟨[(5, .own 16)], [aX 16 3 r2], 48⟩) (fun r2 q => ?_) ?_
 ·refine Ok_block (lp G q (fun (v, r) => ⟨[(0, dV rests), (1, dV period), (5, .own 16), (11, dV rests), (12, dV (rests.length : Int)), (13, dV v)], [aX 16 3 r], 48⟩) ?_)
  rintro ⟨v, r⟩ r0 hb q
  rw [zq12_L1] at q
  refine rg G (Ok_seq (cd q ?_ ?_)) <;> intro q
  ·refine X_skip (thN (jn q (fun r1 => ⟨[(0, dV rests), (1, dV period), (5, .own 16), (11, dV rests), (12, dV (rests.length : Int)), (13, dV v)], [aX 16 3 r1], 48⟩) (fun r1 q => ?_) ?_))
   ·refine Ok_block ?_
    obtain ⟨e, h1, q⟩ := obind q
    refine rs G (hD 1 h1 h0) ?_
    refine rs G (hN 3 rests h0) ?_
    refine cd q ?_ ?_ <;> intro q
    ·obtain ⟨e1, h2, e2, h3, q⟩ := ob2 q
     refine re G (hD 5 h2 (hD 9 h3 (hS 10 h3 (w64 (e1 - e)) h0))) ?_
     exact ibN (wJ G q)
    ·obtain ⟨e3, h4, e4, h5, q⟩ := ob2 q
     refine re G (hD 3 h4 (hD 9 h5 (hS 10 h5 (w64 ((w64 (e3 + period)) - e)) h0))) ?_
     exact ibN (wJ G q)
   rintro r1 q
   exact rh G (wL G q)
  ·exact Ok_exit (thE (thE (ibE (wD G q hb))))
 rintro r2 q s hw
 refine thN (Ok_weak hw ?_)
 refine rg G ?_
 cases q
 exact rt [16] []
noncomputable def zq18_M : MS ((List Int) × Int) (Int × Int) := ⟨.x .r .r, fun x => zq18 x.1 x.2, fun y => .tup [dV y.1, dV y.2], fun _ => [], fun _ _ => []⟩
theorem zq18_ok : FnOK Try.prog tJ 135 zq18_M.S := by
 refine fm tt zq18_M [fo zq12_ok] call135 func135 rfl results135 ntmps135 ?_
 rintro ⟨rests, period⟩ y cx G (q : zq18 rests period = some y)
 unfold zq18 at q
 refine rg G (rg G (Ok_seq ?_))
 obtain ⟨r, h, q⟩ := obind q
 refine rs G (hC 2 (zq12_M.c (_, _) h) (hN 3 r h0)) ?_
 refine tl q (fun (i2, g2) => ⟨[(6, dV i2), (7, dV g2)], [], 32⟩) (fun vv1 q => ?_) ?_
 ·refine Ok_block (lp G q (fun (i, g, v) => ⟨[(0, dV rests), (6, dV i), (7, dV g), (12, .own 16), (13, dV (r.length : Int)), (14, dV v)], [aX 16 3 r], 48⟩) ?_)
  rintro ⟨i, g, v⟩ r0 hb q
  rw [zq18_L1] at q
  refine rg G (Ok_seq (cd q ?_ ?_)) <;> intro q
  ·refine X_skip (thN (jn q (fun (i1, g1) => ⟨[(0, dV rests), (6, dV i1), (7, dV g1), (12, .own 16), (13, dV (r.length : Int)), (14, dV v)], [aX 16 3 r], 48⟩) (fun vv q => ?_) ?_))
   ·refine Ok_block ?_
    obtain ⟨e, h1, q⟩ := obind q
    refine rs G (hD 1 h1 (hE 2 h1 h0)) ?_
    refine rg G (cd q ?_ ?_) <;> intro q
    ·obtain ⟨e2, h3, q⟩ := obind q
     refine de G [] (hD 3 h3 h0) ?_
     exact ibN (wJ G q)
    ·exact X_skip (ibN (wJ G q))
   rintro ⟨i1, g1⟩ q
   exact rh G (wL G q)
  ·exact Ok_exit (thE (thE (ibE (wD G q hb))))
 rintro ⟨i2, g2⟩ q s hw
 refine thN (Ok_weak hw ?_)
 refine rg G ?_
 cases q
 exact rt [] []
noncomputable def zq3_MR (rec_ : Int → (List Pattern) → Int → Network → Int → (Nl Int) → Int → Option ((List Pattern) × (Nl Int) × Int)) : MS (Int × (List Pattern) × Int × Network × Int × (Nl Int) × Int) ((List Pattern) × (Nl Int) × Int) := ⟨⟨[.rd, .bo 1, .bx, .bx, .bx, .bx, .bx, .bx], fun x => [Enc.e x.1, .sc undef, .sc undef, .sc undef, .sc undef, .sc undef, .sc undef, .sc undef], fun x => [.box 98 [.own 1], arO 104 x.2.1, bxO 3 x.2.2.1, .box 185 [.fn 134 [.ref 0 0, .ref 2 0, .ref 3 0, .ref 4 0, .ref 5 0, .ref 6 0, .ref 7 0]], bxO 60 x.2.2.2.1, bxO 3 x.2.2.2.2.1, .box 24 [dV x.2.2.2.2.2.1], bxO 3 x.2.2.2.2.2.2], 8, 8, fun _ => rfl, fun _ => rfl, rfl, (by
  rintro ⟨a0, a1, a2, a3, a4, a5, a6⟩ ⟨b0, b1, b2, b3, b4, b5, b6⟩ h hO
  have q0 : a0 = b0 := qI 0 h
  have q1 : a1 = b1 := Enc.inj _ _ (congrArg (fun l => D.sl 2 (obL l 1)) hO)
  have q2 : a2 = b2 := Enc.inj _ _ (congrArg (fun l => (obD l 2).getD 0 (.sc undef)) hO)
  have q3 : a3 = b3 := Enc.inj _ _ (congrArg (fun l => D.agg (obD l 4)) hO)
  have q4 : a4 = b4 := Enc.inj _ _ (congrArg (fun l => (obD l 5).getD 0 (.sc undef)) hO)
  have q5 : a5 = b5 := Enc.inj _ _ (congrArg (fun l => (obD l 6).getD 0 (.sc undef)) hO)
  have q6 : a6 = b6 := Enc.inj _ _ (congrArg (fun l => (obD l 7).getD 0 (.sc undef)) hO)
  subst q0; subst q1; subst q2; subst q3; subst q4; subst q5; subst q6; rfl)⟩, fun x => rec_ x.1 x.2.1 x.2.2.1 x.2.2.2.1 x.2.2.2.2.1 x.2.2.2.2.2.1 x.2.2.2.2.2.2, fun _ => .tup [], fun _ => [], fun x y => [.box 98 [.own 1], arO 104 y.1, bxO 3 x.2.2.1, .box 185 [.fn 134 [.ref 0 0, .ref 2 0, .ref 3 0, .ref 4 0, .ref 5 0, .ref 6 0, .ref 7 0]], bxO 60 x.2.2.2.1, bxO 3 x.2.2.2.2.1, .box 24 [dV y.2.1], bxO 3 y.2.2]⟩
noncomputable def zq3_M : MS (Int × (List Pattern) × Int × Network × Int × (Nl Int) × Int) ((List Pattern) × (Nl Int) × Int) := zq3_MR zq3
theorem zq3_c {i c1 c2 c4 c5 c6 c7 y} (q : zq3 i c1 c2 c4 c5 c6 c7 = some y) : zq3_M.C (i, c1, c2, c4, c5, c6, c7) y := zq3_M.c (i, c1, c2, c4, c5, c6, c7) q
theorem zq3_cR {rec_ : Int → (List Pattern) → Int → Network → Int → (Nl Int) → Int → Option ((List Pattern) × (Nl Int) × Int)} {i c1 c2 c4 c5 c6 c7 y} (q : rec_ i c1 c2 c4 c5 c6 c7 = some y) : (zq3_MR rec_).C (i, c1, c2, c4, c5, c6, c7) y := (zq3_MR rec_).c (i, c1, c2, c4, c5, c6, c7) q
theorem zq3_okF {rec_ : Int → (List Pattern) → Int → Network → Int → (Nl Int) → Int → Option ((List Pattern) × (Nl Int) × Int)} (hrec : FnOK Try.prog tJ 134 (zq3_MR rec_).S) : FnOK Try.prog tJ 134 (zq3_MR (zq3_F rec_)).S := by
 refine fm tt (zq3_MR (zq3_F rec_)) [fo hrec, fo zq20_ok, fo zq18_ok] call134 func134 rfl results134 ntmps134 ?_
 rintro ⟨i, c1, c2, c4, c5, c6, c7⟩ y cx G (q : zq3_F rec_ i c1 c2 c4 c5 c6 c7 = some y)
 unfold zq3_F at q
 refine Ok_seq (rs G (hN 2 c1 h0) ?_)
 refine cd q ?_ ?_ <;> intro q
 ·refine Ok_seq (rg G (tl q (fun (v4, v5, v6) => ⟨[(1, .ref 0 0), (2, .ref 2 0), (3, .ref 3 0), (4, .ref 4 0), (5, .ref 5 0), (6, .ref 6 0), (7, .ref 7 0)], [bX 0 98 [.own 1], aX 1 104 v4, bX 2 3 [dV c2], bX 3 185 [.fn 134 [.ref 0 0, .ref 2 0, .ref 3 0, .ref 4 0, .ref 5 0, .ref 6 0, .ref 7 0]], bX 4 60 [dV c4.Stops, dV c4.Lines], bX 5 3 [dV c5], bX 6 24 [dV v5], bX 7 3 [dV v6]], 48⟩) (fun vv q => ?_) ?_))
  ·refine Ok_block (lp G q (fun (v, v1, v2, v3) => ⟨[(0, dV i), (1, .ref 0 0), (2, .ref 2 0), (3, .ref 3 0), (4, .ref 4 0), (5, .ref 5 0), (6, .ref 6 0), (7, .ref 7 0), (17, dV c2), (18, dV v)], [bX 0 98 [.own 1], aX 1 104 v1, bX 2 3 [dV c2], bX 3 185 [.fn 134 [.ref 0 0, .ref 2 0, .ref 3 0, .ref 4 0, .ref 5 0, .ref 6 0, .ref 7 0]], bX 4 60 [dV c4.Stops, dV c4.Lines], bX 5 3 [dV c5], bX 6 24 [dV v2], bX 7 3 [dV v3]], 48⟩) ?_)
   rintro ⟨v, v1, v2, v3⟩ r0 hb q
   rw [zq3_L1] at q
   refine rg G (Ok_seq (cd q ?_ ?_)) <;> intro q
   ·refine X_skip (thN (Ok_seq (Ok_block ?_)))
    obtain ⟨e, h, q⟩ := obind q
    refine rs G (hD 3 h (hS 5 h (⟨e.Line, v⟩ : Pattern) h0)) ?_
    obtain ⟨r, h1, q⟩ := obind q
    refine re G (hC 3 (zq3_cR h1) h0) ?_
    exact ibN (thN (rh G (wL G q)))
   ·exact Ok_exit (thE (thE (ibE (wD G q hb))))
  rintro ⟨v4, v5, v6⟩ q s hw
  refine thN (Ok_weak hw ?_)
  cases q
  exact rt [] []
 ·refine X_skip (thN ?_)
  obtain ⟨r3, h4, r4, h5, q⟩ := ob2 q
  refine ds G [] (hF 4 (zq20_M.c (_, _, _, _) h4) ⟨(flat_cons flat_arr flat_nil), flat_nil⟩ (hC 6 (zq18_M.c (_, _) h5) h0)) ?_
  refine jn q (fun (v7, v8) => ⟨[(1, .ref 0 0), (2, .ref 2 0), (3, .ref 3 0), (4, .ref 4 0), (5, .ref 5 0), (6, .ref 6 0), (7, .ref 7 0), (9, dV r4.1), (46, dV v7)], [bX 0 98 [.own 1], aX 1 104 c1, bX 2 3 [dV c2], bX 3 185 [.fn 134 [.ref 0 0, .ref 2 0, .ref 3 0, .ref 4 0, .ref 5 0, .ref 6 0, .ref 7 0]], bX 4 60 [dV c4.Stops, dV c4.Lines], bX 5 3 [dV c5], bX 6 24 [dV v8], bX 7 3 [dV c7]], 48⟩) (fun vv1 q => ?_) ?_
  ·rcases nlsp_t q with ⟨rfl, q⟩ | ⟨a, l, rfl, q⟩
   ·exact rh G (wJp q (Wk_J G.hL ⟨[(1, []), (2, []), (3, []), (4, []), (5, []), (6, []), (7, []), (9, []), (46, [])], [(0, 0, []), (1, 1, []), (2, 2, []), (3, 3, []), (4, 4, []), (5, 5, []), (6, 6, [.z 1]), (7, 7, [])], [], 48⟩ (by kernel_rfl)))
   ·exact rh G (wJ G q)
  rintro ⟨v7, v8⟩ q
  refine cd q ?_ ?_ <;> intro q
  ·refine rg G (rs G (hN 1 c1 h0) ?_)
   refine Ok_block (lpP q (fun (v9, v10) => ⟨[(1, .ref 0 0), (2, .ref 2 0), (3, .ref 3 0), (4, .ref 4 0), (5, .ref 5 0), (6, .ref 6 0), (7, .ref 7 0), (48, .own 1), (49, dV (c1.length : Int)), (50, dV v9)], [bX 0 98 [.own 1], aX 1 104 c1, bX 2 3 [dV c2], bX 3 185 [.fn 134 [.ref 0 0, .ref 2 0, .ref 3 0, .ref 4 0, .ref 5 0, .ref 6 0, .ref 7 0]], bX 4 60 [dV c4.Stops, dV c4.Lines], bX 5 3 [dV c5], bX 6 24 [.own 32], bX 7 3 [dV r4.1], aX 32 3 v10], 64⟩) (Wk_J G.hL ⟨[(1, []), (2, []), (3, []), (4, []), (5, []), (6, []), (7, []), (48, []), (49, []), (50, [])], [(0, 0, []), (1, 1, []), (2, 2, []), (3, 3, []), (4, 4, []), (5, 5, []), (6, 6, [.o 32]), (7, 7, [])], [(32, 3, 1, [])], 64⟩ (by kernel_rfl)) ?_)
   rintro ⟨v9, v10⟩ r0 hb1 q
   rw [zq3_L2] at q
   refine rg G (Ok_seq (cd q ?_ ?_)) <;> intro q
   ·refine X_skip (thN (Ok_seq (Ok_block ?_)))
    obtain ⟨e1, h6, q⟩ := obind q
    refine rs G (hD 0 h6 (hE 1 h6 h0)) ?_
    obtain ⟨u, h7, q⟩ := obind q
    refine re G (hA 4 8 h7 h0) ?_
    exact ibN (thN (rh G (wL G q)))
   ·have q := eDb q hb1
    refine Ok_weak (wkA (x' := ⟨[(1, .ref 0 0), (2, .ref 2 0), (3, .ref 3 0), (4, .ref 4 0), (5, .ref 5 0), (6, .ref 6 0), (7, .ref 7 0)], [bX 0 98 [.own 1], aX 1 104 c1, bX 2 3 [dV c2], bX 3 185 [.fn 134 [.ref 0 0, .ref 2 0, .ref 3 0, .ref 4 0, .ref 5 0, .ref 6 0, .ref 7 0]], bX 4 60 [dV c4.Stops, dV c4.Lines], bX 5 3 [dV c5], bX 6 24 [dV v10], bX 7 3 [dV r4.1]], 48⟩) G (by kernel_rfl)) ?_
    refine Ok_exit (thE (thE (ibE ?_)))
    obtain ⟨u1, h8, q⟩ := obind q
    cases q
    exact fNO [] [] (congrArg (fun a => [.box 98 [.own 1], arO 104 c1, .box 3 [dV c2], .box 185 [.fn 134 [.ref 0 0, .ref 2 0, .ref 3 0, .ref 4 0, .ref 5 0, .ref 6 0, .ref 7 0]], .box 60 [dV c4.Stops, dV c4.Lines], .box 3 [dV c5], .box 24 [a], .box 3 [dV r4.1]]) (nl_av (chk_t h8)))
  ·refine X_skip ?_
   obtain ⟨u2, h9, q⟩ := obind q
   cases q
   exact fNO [] [] (congrArg (fun a => [.box 98 [.own 1], arO 104 c1, .box 3 [dV c2], .box 185 [.fn 134 [.ref 0 0, .ref 2 0, .ref 3 0, .ref 4 0, .ref 5 0, .ref 6 0, .ref 7 0]], .box 60 [dV c4.Stops, dV c4.Lines], .box 3 [dV c5], .box 24 [a], .box 3 [dV c7]]) (nl_av (chk_t h9)))
theorem zq3_okn : ∀ k, FnOK Try.prog tJ 134 (zq3_MR (zq3_k k)).S
 | 0 => ⟨fun args w => call134 args w, fun vs w F ds obs κ hp => by obtain ⟨x, y, _, _, h⟩ := hp; cases h⟩
 | k + 1 => zq3_okF (zq3_okn k)
theorem zq3_ok : FnOK Try.prog tJ 134 zq3_M.S := zq3_okn 4294967296
noncomputable def zq2_M : MS (Network × Int × (List Pattern) × Int) ((List Int) × Int × Bool) := ⟨.x .r (.x .r (.x .r .r)), fun x => zq2 x.1 x.2.1 x.2.2.1 x.2.2.2, fun y => .tup [dV y.1, dV y.2.1, dV y.2.2], fun _ => [], fun _ _ => []⟩
theorem zq2_ok : FnOK Try.prog tJ 50 zq2_M.S := by
 refine fm tt zq2_M [fo zq11_ok, fo zq20_ok, fo zq73_ok, fo zq3_ok] call50 func50 rfl results50 ntmps50 ?_
 rintro ⟨n, period, list, stop⟩ y cx G (q : zq2 n period list stop = some y)
 unfold zq2 at q
 refine rg G (Ok_seq ?_)
 obtain ⟨r, h, q⟩ := obind q
 refine jn q (fun v => ⟨[(2, dV list), (4, .ref 16 0), (5, .ref 32 0), (7, .ref 48 0), (33, dV v)], [bX 16 60 [dV n.Stops, dV n.Lines], bX 32 3 [dV period], bX 48 3 [dV stop]], 80⟩) (fun v q => ?_) ?_
 ·rcases bf q with ⟨hb, q⟩ | ⟨hb, q⟩
  ·refine re G (hC 4 (zq11_M.c (_, _, _, _) h) (hO 6 (.b true) (hP hb h0))) ?_
   exact wJ G q
  ·rcases bf q with ⟨hb1, q⟩ | ⟨hb1, q⟩
   ·refine re G (hC 4 (zq11_M.c (_, _, _, _) h) (hO 6 (.b false) (hP hb (hO 10 (.b true) (hP hb1 h0))))) ?_
    exact wJ G q
   ·obtain ⟨r1, h1, q⟩ := obind q
    refine re G (hC 4 (zq11_M.c (_, _, _, _) h) (hO 6 (.b false) (hP hb (hO 10 (.b false) (hP hb1 (hC 15 (zq20_M.c (_, _, _, _) h1) (hN 16 r1 h0))))))) ?_
    exact wJ G q
 rintro v q
 refine cd q ?_ ?_ <;> intro q
 ·refine rg G ?_
  cases q
  exact rt [] [[.z 1]]
 ·refine X_skip (thN ?_)
  obtain ⟨r2, h2, q⟩ := obind q
  refine rs G (hC 1 (zq73_M.c _ h2) h0) ?_
  refine rg G (rg G (rg G (rg G ?_)))
  obtain ⟨r3, h3, q⟩ := obind q
  refine rs G (hC 1 (zq3_c h3) h0) ?_
  refine ds G [] h0 ?_
  obtain ⟨u, h4, q⟩ := obind q
  cases q
  exact rtE [] [] (congrArg (fun a => AV.tup [a, dV r3.2.2, dV true]) (nl_av (chk_t h4)).symm)
noncomputable def zq39_M : MS (Network × Int × (List Pattern)) Bool := ⟨.x .r (.x .r .r), fun x => zq39 x.1 x.2.1 x.2.2, fun y => dV y, fun _ => [], fun _ _ => []⟩
theorem zq39_ok : FnOK Try.prog tJ 150 zq39_M.S := by
 refine fm tt zq39_M [fo zq65_ok, fo zq57_ok] call150 func150 rfl results150 ntmps150 ?_
 rintro ⟨n, period, list⟩ y cx G (q : zq39 n period list = some y)
 unfold zq39 at q
 refine rg G (Ok_seq ?_)
 obtain ⟨r, h, q⟩ := obind q
 refine jn q (fun v => ⟨[(1, dV period), (2, dV list), (3, .ref 16 0), (21, dV v)], [bX 16 60 [dV n.Stops, dV n.Lines]], 48⟩) (fun v q => ?_) ?_
 ·rcases bf q with ⟨hb, q⟩ | ⟨hb, q⟩
  ·refine re G (hC 1 (zq65_M.c _ h) (hO 3 (.b true) (hP hb h0))) ?_
   exact wJ G q
  ·obtain ⟨r1, h1, q⟩ := obind q
   rcases bf q with ⟨hb1, q⟩ | ⟨hb1, q⟩
   ·refine re G (hC 1 (zq65_M.c _ h) (hO 3 (.b false) (hP hb (hC 5 (zq57_c h1) (hO 8 (.b true) (hP hb1 h0)))))) ?_
    exact wJ G q
   ·obtain ⟨r2, h2, q⟩ := obind q
    refine re G (hC 1 (zq65_M.c _ h) (hO 3 (.b false) (hP hb (hC 5 (zq57_c h1) (hO 8 (.b false) (hP hb1 (hN 10 list (hC 11 (zq57_c h2) h0)))))))) ?_
    exact wJ G q
 rintro v q
 refine cd q ?_ ?_ <;> intro q
 ·refine rg G ?_
  cases q
  exact rt [] []
 ·refine X_skip (thN (Ok_seq (rg G (tF q (fun _ => ⟨[], [], 32⟩) (fun v3 hr q => ?_) ?_))))
  ·refine Ok_block (lp G q (fun v1 => ⟨[(1, dV period), (2, dV list), (3, .ref 16 0), (7, dV v1)], [bX 16 60 [dV n.Stops, dV n.Lines]], 48⟩) ?_)
   rintro v1 r0 hb2 q
   rw [zq39_L1] at q
   refine Ok_seq (rs G (hN 2 list h0) ?_)
   refine cd q ?_ ?_ <;> intro q
   ·refine X_skip (thN (Ok_seq (Ok_block ?_)))
    obtain ⟨e2, h7, r5, h8, q⟩ := ob2 q
    refine jn q (fun v2 => ⟨[(1, dV period), (2, dV list), (3, .ref 16 0), (7, dV v1), (49, dV v2)], [bX 16 60 [dV n.Stops, dV n.Lines]], 48⟩) (fun v2 q => ?_) ?_
    ·rcases bf q with ⟨hb3, q⟩ | ⟨hb3, q⟩
     ·refine de G [] (hD 2 h7 (hN 7 n.Lines (hC 9 (zq57_c h8) (hO 11 (.b true) (hP hb3 h0))))) ?_
      exact wJ G q
     ·obtain ⟨e3, h9, r6, h10, q⟩ := ob2 q
      refine de G [] (hD 2 h7 (hN 7 n.Lines (hC 9 (zq57_c h8) (hO 11 (.b false) (hP hb3 (hD 14 h9 (hC 19 (zq57_c h10) h0))))))) ?_
      exact wJ G q
    rintro v2 q
    refine cd q ?_ ?_ <;> intro q
    ·refine rg G ?_
     have q := eL q hb2 hr
     cases q
     exact rt [] []
    ·exact X_skip (ibN (thN (rh G (wL G q))))
   ·exact Ok_exit (thE (thE (ibE (wE G q hb2))))
  rintro ⟨⟩ q s hw
  refine thN (Ok_weak hw ?_)
  refine rg G ?_
  cases q
  exact rt [] []
noncomputable def zq36_M : MS (Network × Int × (List Pattern) × Int) Bool := ⟨.x .r (.x .r (.x .r .r)), fun x => zq36 x.1 x.2.1 x.2.2.1 x.2.2.2, fun y => dV y, fun _ => [], fun _ _ => []⟩
theorem zq36_ok : FnOK Try.prog tJ 145 zq36_M.S := by
 refine fm tt zq36_M [fo zq39_ok, fo zq57_ok] call145 func145 rfl results145 ntmps145 ?_
 rintro ⟨n, period, list, stop⟩ y cx G (q : zq36 n period list stop = some y)
 unfold zq36 at q
 refine rg G ?_
 obtain ⟨r, h, q⟩ := obind q
 refine jn q (fun v => ⟨[(8, dV v)], [], 32⟩) (fun v q => ?_) ?_
 ·rcases bf q with ⟨hb, q⟩ | ⟨hb, q⟩
  ·obtain ⟨r1, h1, q⟩ := obind q
   refine re G (hC 3 (zq39_M.c (_, _, _) h) (hO 4 (.b true) (hP hb (hN 8 n.Stops (hC 10 (zq57_c h1) h0))))) ?_
   exact wJ G q
  ·refine re G (hC 3 (zq39_M.c (_, _, _) h) (hO 4 (.b false) (hP hb h0))) ?_
   exact wJ G q
 rintro v q
 cases q
 exact rt [] []
noncomputable def zq72_M : MS (Line × Int × Int) Int := ⟨.x .r (.x .r .r), fun x => zq72 x.1 x.2.1 x.2.2, fun y => dV y, fun _ => [], fun _ _ => []⟩
theorem zq72_c {x from_ to_ y} (q : zq72 x from_ to_ = some y) : zq72_M.C (x, from_, to_) y := zq72_M.c (x, from_, to_) q
theorem zq72_ok : FnOK Try.prog tJ 199 zq72_M.S := by
 refine fm tt zq72_M [] call199 func199 rfl results199 ntmps199 ?_
 rintro ⟨x, from_, to_⟩ y cx G (q : zq72 x from_ to_ = some y)
 unfold zq72 at q
 refine rg G (rg G (Ok_seq (rg G (tl q (fun v2 => ⟨[(7, dV v2)], [], 32⟩) (fun v2 q => ?_) ?_))))
 ·refine Ok_block (lp G q (fun (v, v1) => ⟨[(2, dV to_), (3, .ref 16 0), (7, dV v), (8, dV v1)], [bX 16 194 [dV x.Name, dV x.Stops, dV x.Runs]], 48⟩) ?_)
  rintro ⟨v, v1⟩ r0 hb q
  rw [zq72_L1] at q
  refine Ok_seq (rg G (cd q ?_ ?_)) <;> intro q
  ·refine X_skip (thN (Ok_seq (Ok_block ?_)))
   obtain ⟨e, h, q⟩ := obind q
   refine re G (hD 4 h h0) ?_
   exact ibN (thN (rh G (wL G q)))
  ·exact Ok_exit (thE (thE (ibE (wD G q hb))))
 rintro v2 q s hw
 refine thN (Ok_weak hw ?_)
 refine rg G ?_
 cases q
 exact rt [] []
noncomputable def zq41_M : MS (Network × Int × Pattern × Int) Int := ⟨.x .r (.x .r (.x .r .r)), fun x => zq41 x.1 x.2.1 x.2.2.1 x.2.2.2, fun y => dV y, fun _ => [], fun _ _ => []⟩
theorem zq41_ok : FnOK Try.prog tJ 148 zq41_M.S := by
 refine fm tt zq41_M [fo zq71_ok, fo zq72_ok] call148 func148 rfl results148 ntmps148 ?_
 rintro ⟨n, period, p, stop⟩ y cx G (q : zq41 n period p stop = some y)
 unfold zq41 at q
 refine rg G ?_
 obtain ⟨e, h, r, h1, q⟩ := ob2 q
 refine rs G (hD 4 h (hC 7 (zq71_M.c (_, _) h1) h0)) ?_
 refine Ok_seq (rg G (cd q ?_ ?_)) <;> intro q
 ·refine rg G ?_
  cases q
  exact rt [] []
 ·refine X_skip (thN ?_)
  obtain ⟨e2, h5, r2, h6, u1, h7, q⟩ := ob3 q
  refine ds G [] (hD 6 h5 (hC 9 (zq72_c h6) (hK h7 h0))) ?_
  cases q
  exact rt [] []
noncomputable def zq42_M : MS (Network × Int × (List Pattern) × Int) ((List Int)) := ⟨.x .r (.x .r (.x .r .r)), fun x => zq42 x.1 x.2.1 x.2.2.1 x.2.2.2, fun _ => .own 0, fun y => [arO 3 y], fun _ _ => []⟩
theorem zq42_ok : FnOK Try.prog tJ 139 zq42_M.S := by
 refine fm tt zq42_M [fo zq41_ok] call139 func139 rfl results139 ntmps139 ?_
 rintro ⟨n, period, list, stop⟩ y cx G (q : zq42 n period list stop = some y)
 unfold zq42 at q
 refine rg G (rg G (Ok_seq (rg G (tl q (fun v6 => ⟨[(9, .own 16)], [aX 16 3 v6], 48⟩) (fun v6 q => ?_) ?_))))
 ·refine Ok_block (lp G q (fun (v, v1) => ⟨[(1, dV period), (2, dV list), (3, dV stop), (4, .ref 16 0), (9, .own 32), (10, dV v)], [bX 16 60 [dV n.Stops, dV n.Lines], aX 32 3 v1], 64⟩) ?_)
  rintro ⟨v, v1⟩ r0 hb q
  rw [zq42_L2] at q
  refine Ok_seq (rs G (hN 2 list h0) ?_)
  refine cd q ?_ ?_ <;> intro q
  ·refine X_skip (thN (jn q (fun v2 => ⟨[(1, dV period), (2, dV list), (3, dV stop), (4, .ref 16 0), (9, .own 32), (10, dV v)], [bX 16 60 [dV n.Stops, dV n.Lines], aX 32 3 v2], 64⟩) (fun v2 q => ?_) ?_))
   ·refine Ok_block ?_
    obtain ⟨e1, h2, r1, h3, q⟩ := ob2 q
    refine ds G [] (hD 4 h2 (hC 7 (zq41_M.c (_, _, _, _) h3) h0)) ?_
    refine Ok_seq (rg G (cd q ?_ ?_)) <;> intro q
    ·exact Ok_exit (thE (ibE (wJ G q)))
    ·refine X_skip (thN (rs G (hN 1 v1 h0) ?_))
     refine jn q (fun v5 => ⟨[(1, dV period), (2, dV list), (3, dV stop), (4, .ref 16 0), (9, .own 32), (10, dV v), (11, dV r1), (12, dV v5)], [bX 16 60 [dV n.Stops, dV n.Lines], aX 32 3 v1], 64⟩) (fun v5 q => ?_) ?_
     ·refine Ok_block (lp G q (fun v3 => ⟨[(1, dV period), (2, dV list), (3, dV stop), (4, .ref 16 0), (9, .own 32), (10, dV v), (11, dV r1), (12, dV v3)], [bX 16 60 [dV n.Stops, dV n.Lines], aX 32 3 v1], 64⟩) ?_)
      rintro v3 r0 hb1 q
      rw [zq42_L1] at q
      refine Ok_seq (jn q (fun v4 => ⟨[(1, dV period), (2, dV list), (3, dV stop), (4, .ref 16 0), (9, .own 32), (10, dV v), (11, dV r1), (12, dV v3), (42, dV v4)], [bX 16 60 [dV n.Stops, dV n.Lines], aX 32 3 v1], 64⟩) (fun v4 q => ?_) ?_)
      ·rcases bf q with ⟨hb2, q⟩ | ⟨hb2, q⟩
       ·obtain ⟨e2, h4, q⟩ := obind q
        refine re G (hO 2 (.b true) (hP hb2 (hD 6 h4 (hE 7 h4 h0)))) ?_
        exact wJ G q
       ·refine re G (hO 2 (.b false) (hP hb2 h0)) ?_
        exact wJ G q
      rintro v4 q
      refine cd q ?_ ?_ <;> intro q
      ·exact X_skip (thN (Ok_block (rh G (ibN (wL G q)))))
      ·exact Ok_exit (thE (thE (ibE (wD G q hb1))))
     rintro v5 q
     refine Ok_weak (Wk_J (x' := (⟨[(1, dV period), (2, dV list), (3, dV stop), (4, .ref 16 0), (9, dV v1), (10, dV v), (11, dV r1), (12, dV v5)], [bX 16 60 [dV n.Stops, dV n.Lines]], 48⟩ : X)) G.hL ⟨[(1, []), (2, []), (3, []), (4, []), (9, []), (10, []), (11, []), (12, [])], [(16, 16, [])], [], 48⟩ (by kernel_rfl)) ?_
     obtain ⟨u5, h10, u6, h11, u7, h12, q⟩ := ob3 q
     obtain ⟨u8, h13, u9, h14, q⟩ := ob2 q
     refine de G [(3, []), (4, [48]), (7, [112, 144]), (10, []), (11, [160])] (hU 3 h10 (hA 4 8 h11 (hA 7 8 h12 (hV 10 h13 (hA 11 8 h14 h0))))) ?_
     exact ibN (wJ G q)
   rintro v2 q
   exact rh G (wL G q)
  ·exact Ok_exit (thE (thE (ibE (wD G q hb))))
 rintro v6 q s hw
 refine thN (Ok_weak hw ?_)
 refine rg G ?_
 cases q
 exact rt [16] []
noncomputable def zq38_M : MS ((List Int) × Int) ((List Int)) := ⟨.x .r .r, fun x => zq38 x.1 x.2, fun _ => .own 0, fun y => [arO 3 y], fun _ _ => []⟩
theorem zq38_ok : FnOK Try.prog tJ 138 zq38_M.S := by
 refine fm tt zq38_M [] call138 func138 rfl results138 ntmps138 ?_
 rintro ⟨rests, period⟩ y cx G (q : zq38 rests period = some y)
 unfold zq38 at q
 refine rg G (rg G (Ok_seq (rg G (tl q (fun next1 => ⟨[(5, .own 16)], [aX 16 3 next1], 48⟩) (fun next1 q => ?_) ?_))))
 ·refine Ok_block (lp G q (fun (v, next) => ⟨[(0, dV rests), (1, dV period), (5, .own 16), (6, dV v)], [aX 16 3 next], 48⟩) ?_)
  rintro ⟨v, next⟩ r0 hb q
  rw [zq38_L1] at q
  refine Ok_seq (rs G (hN 2 rests h0) ?_)
  refine cd q ?_ ?_ <;> intro q
  ·refine X_skip (thN (Ok_seq (Ok_block ?_)))
   obtain ⟨e, h, q⟩ := obind q
   refine rs G (hD 1 h h0) ?_
   refine jn q (fun v1 => ⟨[(0, dV rests), (1, dV period), (5, .own 16), (6, dV v), (7, dV v1)], [aX 16 3 next], 48⟩) (fun v1 q => ?_) ?_
   ·refine rs G (hN 3 rests h0) ?_
    refine cd q ?_ ?_ <;> intro q
    ·obtain ⟨e1, h1, q⟩ := obind q
     refine re G (hD 3 h1 h0) ?_
     exact wJ G q
    ·exact X_skip (wJ G q)
   rintro v1 q
   obtain ⟨e2, h2, u, h3, q⟩ := ob2 q
   refine re G (hD 4 h2 (hA 8 8 h3 h0)) ?_
   exact ibN (thN (rh G (wL G q)))
  ·exact Ok_exit (thE (thE (ibE (wD G q hb))))
 rintro next1 q s hw
 refine thN (Ok_weak hw ?_)
 refine rg G ?_
 cases q
 exact rt [16] []
noncomputable def zq32_M : MS (Network × Int × (List Pattern) × Int) ((List Int) × Bool) := ⟨.x .r (.x .r (.x .r .r)), fun x => zq32 x.1 x.2.1 x.2.2.1 x.2.2.2, fun y => .tup [.own 0, dV y.2], fun y => [arO 3 y.1], fun _ _ => []⟩
theorem zq32_ok : FnOK Try.prog tJ 197 zq32_M.S := by
 refine fm tt zq32_M [fo zq36_ok, fo zq42_ok, fo zq38_ok] call197 func197 rfl results197 ntmps197 ?_
 rintro ⟨n, period, list, stop⟩ y cx G (q : zq32 n period list stop = some y)
 unfold zq32 at q
 refine rg G (Ok_seq ?_)
 obtain ⟨r, h, q⟩ := obind q
 refine rs G (hC 4 (zq36_M.c (_, _, _, _) h) h0) ?_
 refine cd q ?_ ?_ <;> intro q
 ·refine rg G ?_
  cases q
  exact rt [160] []
 ·refine X_skip (thN ?_)
  obtain ⟨r1, h1, r2, h2, q⟩ := ob2 q
  refine rs G (hC 4 (zq42_M.c (_, _, _, _) h1) (hF 6 (zq38_M.c (_, _) h2) ⟨(flat_cons flat_arr flat_nil), flat_nil⟩ h0)) ?_
  cases q
  exact rt [256] []
noncomputable def zq40_M : MS ((List Int)) (Int × Int) := ⟨.r, zq40, fun y => .tup [dV y.1, dV y.2], fun _ => [], fun _ _ => []⟩
theorem zq40_ok : FnOK Try.prog tJ 137 zq40_M.S := by
 refine fm tt zq40_M [] call137 func137 rfl results137 ntmps137 ?_
 rintro gaps y cx G (q : zq40 gaps = some y)
 unfold zq40 at q
 refine rg G (rg G (Ok_seq (rg G (tl q (fun i2 => ⟨[(0, dV gaps), (4, dV i2)], [], 32⟩) (fun i2 q => ?_) ?_))))
 ·refine Ok_block (lp G q (fun (i, v) => ⟨[(0, dV gaps), (4, dV i), (5, dV v)], [], 32⟩) ?_)
  rintro ⟨i, v⟩ r0 hb q
  rw [zq40_L1] at q
  refine Ok_seq (rs G (hN 2 gaps h0) ?_)
  refine cd q ?_ ?_ <;> intro q
  ·refine X_skip (thN (jn q (fun i1 => ⟨[(0, dV gaps), (4, dV i1), (5, dV v)], [], 32⟩) (fun i1 q => ?_) ?_))
   ·refine Ok_block ?_
    obtain ⟨e2, h2, e3, h3, q⟩ := ob2 q
    refine ds G [] (hD 2 h2 (hD 6 h3 h0)) ?_
    refine cd q ?_ ?_ <;> intro q
    ·exact rh G (ibN (wJ G q))
    ·exact X_skip (ibN (wJ G q))
   rintro i1 q
   exact rh G (wL G q)
  ·exact Ok_exit (thE (thE (ibE (wD G q hb))))
 rintro i2 q s hw
 refine thN (Ok_weak hw ?_)
 obtain ⟨e4, h4, q⟩ := obind q
 refine rs G (hD 2 h4 h0) ?_
 cases q
 exact rt [] []
noncomputable def zq33_M : MS (Network × Int × (List Pattern) × Int) (Int × Int × Bool) := ⟨.x .r (.x .r (.x .r .r)), fun x => zq33 x.1 x.2.1 x.2.2.1 x.2.2.2, fun y => .tup [dV y.1, dV y.2.1, dV y.2.2], fun _ => [], fun _ _ => []⟩
theorem zq33_ok : FnOK Try.prog tJ 136 zq33_M.S := by
 refine fm tt zq33_M [fo zq32_ok, fo zq40_ok, fo zq42_ok] call136 func136 rfl results136 ntmps136 ?_
 rintro ⟨n, period, list, stop⟩ y cx G (q : zq33 n period list stop = some y)
 unfold zq33 at q
 refine rg G ?_
 obtain ⟨r, h, q⟩ := obind q
 refine rs G (hC 4 (zq32_M.c (_, _, _, _) h) h0) ?_
 refine Ok_seq (jn q (fun v => ⟨[(1, dV period), (2, dV list), (3, dV stop), (4, .ref 16 0), (11, .own 32), (29, dV v)], [bX 16 60 [dV n.Stops, dV n.Lines], aX 32 3 r.1], 64⟩) (fun v q => ?_) ?_)
 ·rcases bf q with ⟨hb, q⟩ | ⟨hb, q⟩
  ·refine re G (hO 2 (.b true) (hP hb h0)) ?_
   exact wJ G q
  ·refine re G (hO 2 (.b false) (hP hb (hN 4 r.1 h0))) ?_
   exact wJ G q
 rintro v q
 refine cd q ?_ ?_ <;> intro q
 ·refine rg G ?_
  cases q
  exact rt [] []
 ·refine X_skip (thN ?_)
  obtain ⟨r1, h1, q⟩ := obind q
  refine rs G (hC 1 (zq40_M.c _ h1) h0) ?_
  obtain ⟨r3, h4, e1, h5, q⟩ := ob2 q
  refine ds G [] (hC 5 (zq42_M.c (_, _, _, _) h4) (hD 7 h5 (hE 8 h5 h0))) ?_
  cases q
  exact rt [] []
noncomputable def zq26_M : MS (Network × Int × (List Pattern) × Int) ((List Int) × Int × Bool) := ⟨.x .r (.x .r (.x .r .r)), fun x => zq26 x.1 x.2.1 x.2.2.1 x.2.2.2, fun y => .tup [.own 0, dV y.2.1, dV y.2.2], fun y => [arO 3 y.1], fun _ _ => []⟩
theorem zq26_ok : FnOK Try.prog tJ 51 zq26_M.S := by
 refine fm tt zq26_M [fo zq33_ok, fo zq42_ok, fo zq38_ok, fo zq40_ok] call51 func51 rfl results51 ntmps51 ?_
 rintro ⟨n, period, list, stop⟩ y cx G (q : zq26 n period list stop = some y)
 unfold zq26 at q
 refine rg G (Ok_seq ?_)
 obtain ⟨r, h, q⟩ := obind q
 refine rs G (hC 4 (zq33_M.c (_, _, _, _) h) h0) ?_
 refine jn q (fun v => ⟨[(1, dV period), (2, dV list), (3, dV stop), (4, .ref 16 0), (39, dV v)], [bX 16 60 [dV n.Stops, dV n.Lines]], 48⟩) (fun v q => ?_) ?_
 ·rcases bf q with ⟨hb, q⟩ | ⟨hb, q⟩
  ·refine re G (hO 2 (.b true) (hP hb h0)) ?_
   exact wJ G q
  ·refine re G (hO 2 (.b false) (hP hb h0)) ?_
   exact wJ G q
 rintro v q
 refine cd q ?_ ?_ <;> intro q
 ·refine rg G ?_
  cases q
  exact rt [48] []
 ·refine X_skip (thN (rg G (Ok_seq (rg G (tl q (fun code1 => ⟨[(1, dV period), (2, dV list), (3, dV stop), (4, .ref 16 0), (14, dV code1)], [bX 16 60 [dV n.Stops, dV n.Lines]], 48⟩) (fun code1 q => ?_) ?_)))))
  ·refine Ok_block (lp G q (fun (code, try_) => ⟨[(1, dV period), (2, dV list), (3, dV stop), (4, .ref 16 0), (14, dV code), (15, dV try_)], [bX 16 60 [dV n.Stops, dV n.Lines]], 48⟩) ?_)
   rintro ⟨code, try_⟩ r0 hb1 q
   rw [zq26_L1] at q
   refine Ok_seq (rs G (hN 2 list h0) ?_)
   refine cd q ?_ ?_ <;> intro q
   ·exact X_skip (thN (Ok_seq (Ok_block (rh G (ibN (thN (rh G (wL G q))))))))
   ·exact Ok_exit (thE (thE (ibE (wD G q hb1))))
  rintro code1 q s hw
  refine thN (Ok_weak hw ?_)
  refine rg G (Ok_seq (rg G (tl q (fun (x2, offsets2) => ⟨[(16, .own 16), (17, dV x2)], [aX 16 3 offsets2], 48⟩) (fun vv2 q => ?_) ?_)))
  ·refine Ok_block (lp G q (fun (x, i, offsets) => ⟨[(1, dV period), (2, dV list), (3, dV stop), (4, .ref 16 0), (14, dV code1), (16, .own 32), (17, dV x), (18, dV i)], [bX 16 60 [dV n.Stops, dV n.Lines], aX 32 3 offsets], 64⟩) ?_)
   rintro ⟨x, i, offsets⟩ r0 hb2 q
   rw [zq26_L3] at q
   refine Ok_seq (rg G (cd q ?_ ?_)) <;> intro q
   ·refine X_skip (thN (jn q (fun (x1, offsets1) => ⟨[(1, dV period), (2, dV list), (3, dV stop), (4, .ref 16 0), (14, dV code1), (16, .own 32), (17, dV x1), (18, dV i)], [bX 16 60 [dV n.Stops, dV n.Lines], aX 32 3 offsets1], 64⟩) (fun vv1 q => ?_) ?_))
    ·refine Ok_block ?_
     obtain ⟨u, h1, q⟩ := obind q
     refine rs G (hA 2 16 h1 h0) ?_
     obtain ⟨u1, h2, q⟩ := obind q
     refine rs G (hN 1 list (hO 2 (.l (List.map Enc.e (List.replicate (list.length : Int).toNat (0 : Int)))) (hP (mk_p (b := 8) (chk_t h2) rfl) (hP (rep_m Enc.e (list.length : Int).toNat (0 : Int)) h0)))) ?_
     refine rg G (Ok_seq (rs G (hN 1 list h0) ?_))
     refine tl q (fun (gap1, v4) => ⟨[(1, dV period), (2, dV list), (3, dV stop), (4, .ref 16 0), (14, dV code1), (16, .own 32), (17, dV x), (18, dV i), (19, .own 48), (20, .own 64)], [bX 16 60 [dV n.Stops, dV n.Lines], aX 32 3 offsets, aX 48 104 gap1, aX 64 3 v4], 96⟩) (fun vv q => ?_) ?_
     ·refine Ok_block (lp G q (fun (v1, v2, gap, v3) => ⟨[(1, dV period), (2, dV list), (3, dV stop), (4, .ref 16 0), (14, dV code1), (16, .own 32), (17, dV x), (18, dV i), (19, .own 48), (20, .own 64), (21, dV v1), (22, dV v2)], [bX 16 60 [dV n.Stops, dV n.Lines], aX 32 3 offsets, aX 48 104 gap, aX 64 3 v3], 96⟩) ?_)
      rintro ⟨v1, v2, gap, v3⟩ r0 hb3 q
      rw [zq26_L2] at q
      refine Ok_seq (rg G (cd q ?_ ?_)) <;> intro q
      ·refine X_skip (thN (Ok_seq (Ok_block ?_)))
       obtain ⟨u2, h3, e, h4, q⟩ := ob2 q
       refine rs G (hK h3 (hD 5 h4 (hS 6 h4 (v1.tmod period) h0))) ?_
       obtain ⟨e3, h8, u4, h9, e4, h10, q⟩ := ob3 q
       refine ds G [(12, [48])] (hD 4 h8 (hK h9 (hD 11 h10 (hS 12 h10 (⟨e3.Line, (v1.tmod period)⟩ : Pattern) h0)))) ?_
       obtain ⟨u5, h11, q⟩ := obind q
       refine re G (hK h11 h0) ?_
       exact ibN (thN (rh G (wL G q)))
      ·exact Ok_exit (thE (thE (ibE (wD G q hb3))))
     rintro ⟨gap1, v4⟩ q s1 hw1
     refine thN (Ok_weak hw1 ?_)
     obtain ⟨e5, h12, e6, h13, q⟩ := ob2 q
     refine rs G (hD 2 h12 (hD 5 h13 (hS 6 h13 e5.Offset h0))) ?_
     obtain ⟨r1, h14, r2, h15, r3, h16, q⟩ := ob3 q
     refine rs G (hF 4 (zq42_M.c (_, _, _, _) h14) ⟨(flat_cons flat_arr flat_nil), flat_nil⟩ (hF 6 (zq38_M.c (_, _) h15) ⟨(flat_cons flat_arr flat_nil), flat_nil⟩ (hC 7 (zq40_M.c _ h16) h0))) ?_
     refine rg G (cd q ?_ ?_) <;> intro q
     ·exact rg G (rh G (ibN (wJ G q)))
     ·exact X_skip (ibN (wJ G q))
    rintro ⟨x1, offsets1⟩ q
    exact rh G (wL G q)
   ·exact Ok_exit (thE (thE (ibE (wD G q hb2))))
  rintro ⟨x2, offsets2⟩ q s2 hw2
  refine thN (Ok_weak hw2 ?_)
  refine rg G ?_
  cases q
  exact rt [16] []
noncomputable def zq93_M : MS ((List Int) × (List Int)) Bool := ⟨.x .r .r, fun x => zq93 x.1 x.2, fun y => dV y, fun _ => [], fun _ _ => []⟩
theorem zq93_ok : FnOK Try.prog tJ 12 zq93_M.S := by
 refine fm tt zq93_M [] call12 func12 rfl results12 ntmps12 ?_
 rintro ⟨a, b⟩ y cx G (q : zq93 a b = some y)
 unfold zq93 at q
 refine rg G (Ok_seq (rs G (hN 1 a (hN 3 b h0)) ?_))
 refine cd q ?_ ?_ <;> intro q
 ·refine rg G ?_
  cases q
  exact rt [] []
 ·refine X_skip (thN (Ok_seq (rg G (tF q (fun _ => ⟨[], [], 32⟩) (fun v1 hr q => ?_) ?_))))
  ·refine Ok_block (lp G q (fun v => ⟨[(0, dV a), (1, dV b), (5, dV v)], [], 32⟩) ?_)
   rintro v r0 hb q
   rw [zq93_L1] at q
   refine Ok_seq (rs G (hN 2 a h0) ?_)
   refine cd q ?_ ?_ <;> intro q
   ·refine X_skip (thN (Ok_seq (Ok_block ?_)))
    obtain ⟨e2, h2, e3, h3, q⟩ := ob2 q
    refine ds G [] (hD 2 h2 (hD 6 h3 h0)) ?_
    refine cd q ?_ ?_ <;> intro q
    ·refine rg G ?_
     have q := eL q hb hr
     cases q
     exact rt [] []
    ·exact X_skip (ibN (thN (rh G (wL G q))))
   ·exact Ok_exit (thE (thE (ibE (wE G q hb))))
  rintro ⟨⟩ q s hw
  refine thN (Ok_weak hw ?_)
  refine rg G ?_
  cases q
  exact rt [] []
noncomputable def zq7_M : MS (Network × Int × (List Pattern) × Int) (Int × Int × Bool) := ⟨.x .r (.x .r (.x .r .r)), fun x => zq7 x.1 x.2.1 x.2.2.1 x.2.2.2, fun y => .tup [dV y.1, dV y.2.1, dV y.2.2], fun _ => [], fun _ _ => []⟩
theorem zq7_c {n period list stop y} (q : zq7 n period list stop = some y) : zq7_M.C (n, period, list, stop) y := zq7_M.c (n, period, list, stop) q
theorem zq7_ok : FnOK Try.prog tJ 52 zq7_M.S := by
 refine fm tt zq7_M [fo zq11_ok, fo zq20_ok, fo zq18_ok] call52 func52 rfl results52 ntmps52 ?_
 rintro ⟨n, period, list, stop⟩ y cx G (q : zq7 n period list stop = some y)
 unfold zq7 at q
 refine rg G (Ok_seq ?_)
 obtain ⟨r, h, q⟩ := obind q
 refine rs G (hC 4 (zq11_M.c (_, _, _, _) h) h0) ?_
 refine cd q ?_ ?_ <;> intro q
 ·refine rg G ?_
  cases q
  exact rt [] []
 ·refine X_skip (thN ?_)
  obtain ⟨r1, h1, q⟩ := obind q
  refine rs G (hC 4 (zq20_M.c (_, _, _, _) h1) h0) ?_
  refine Ok_seq (rs G (hN 1 r1 h0) ?_)
  refine cd q ?_ ?_ <;> intro q
  ·refine rg G ?_
   cases q
   exact rt [] []
  ·refine X_skip (thN ?_)
   obtain ⟨r2, h2, q⟩ := obind q
   refine rs G (hC 2 (zq18_M.c (_, _) h2) h0) ?_
   refine rg G ?_
   cases q
   exact rt [] []
noncomputable def zq58_M : MS (Int × Int) Int := ⟨.x .r .r, fun x => zq58 x.1 x.2, fun y => dV y, fun _ => [], fun _ _ => []⟩
theorem zq58_c {a b y} (q : zq58 a b = some y) : zq58_M.C (a, b) y := zq58_M.c (a, b) q
theorem zq58_ok : FnOK Try.prog tJ 140 zq58_M.S := by
 refine fm tt zq58_M [] call140 func140 rfl results140 ntmps140 ?_
 rintro ⟨a, b⟩ y cx G (q : zq58 a b = some y)
 unfold zq58 at q
 refine rg G (Ok_seq (rg G (cd q ?_ ?_))) <;> intro q
 ·refine rg G ?_
  cases q
  exact rt [] []
 ·refine X_skip (thN (rg G ?_))
  cases q
  exact rt [] []
noncomputable def zq30_M : MS ((List UInt8)) (Network × Int × (List Pattern) × Int × Int × Int × Int) := ⟨.r, zq30, fun y => .tup [dV y.1, dV y.2.1, dV y.2.2.1, dV y.2.2.2.1, dV y.2.2.2.2.1, dV y.2.2.2.2.2.1, dV y.2.2.2.2.2.2], fun _ => [], fun _ _ => []⟩
theorem zq30_ok : FnOK Try.prog tJ 53 zq30_M.S := by
 refine fm tt zq30_M [fo zq53_ok, fo zq55_ok, fo zq58_ok, fo zq54_ok, fo zq44_ok] call53 func53 rfl results53 ntmps53 ?_
 rintro code y cx G (q : zq30 code = some y)
 unfold zq30 at q
 refine rg G (rg G ?_)
 obtain ⟨r, h, q⟩ := obind q
 refine rs G (hC 1 (zq53_M.c (_, _) h) h0) ?_
 obtain ⟨r1, h1, q⟩ := obind q
 refine rs G (hO 3 (.fz [208, 209] [] []) (hC 3 (zq55_M.c (_, _, _) h1) h0)) ?_
 obtain ⟨r2, h2, q⟩ := obind q
 refine rs G (hN 1 r.2.2.1 (hC 2 (zq58_c h2) h0)) ?_
 obtain ⟨r8, h11, r9, h12, r10, h13, q⟩ := ob3 q
 obtain ⟨u3, h14, r11, h15, u4, h16, q⟩ := ob3 q
 obtain ⟨u5, h17, r12, h18, q⟩ := ob2 q
 refine ds G [(5, [160]), (9, [160]), (11, [160]), (18, [160]), (21, [752]), (22, [160, 832]), (23, [16])] (hC 5 (zq54_c h11) (hC 9 (zq54_c h12) (hC 11 (zq54_c h13) (hK h14 (hC 18 (zq54_c h15) (hK h16 (hU 21 h17 (hC 22 (zq44_M.c (_, _) h18) h0)))))))) ?_
 cases q
 exact rt [] []
noncomputable def zq15_M : MS ((List Pattern) × Int) Bool := ⟨.x .r .r, fun x => zq15 x.1 x.2, fun y => dV y, fun _ => [], fun _ _ => []⟩
theorem zq15_ok : FnOK Try.prog tJ 142 zq15_M.S := by
 refine fm tt zq15_M [] call142 func142 rfl results142 ntmps142 ?_
 rintro ⟨list, i⟩ y cx G (q : zq15 list i = some y)
 unfold zq15 at q
 refine rg G (jn q (fun v => ⟨[(4, dV v)], [], 32⟩) (fun v q => ?_) ?_)
 ·rcases bf q with ⟨hb, q⟩ | ⟨hb, q⟩
  ·refine re G (hO 2 (.b true) (hP hb (hN 5 list h0))) ?_
   exact wJ G q
  ·refine re G (hO 2 (.b false) (hP hb h0)) ?_
   exact wJ G q
 rintro v q
 cases q
 exact rt [] []
noncomputable def zq9_M : MS (Network × Int × (List Pattern) × Int × Int × Int × Int) (Int × Bool) := ⟨.x .r (.x .r (.x .r (.x .r (.x .r (.x .r .r))))), fun x => zq9 x.1 x.2.1 x.2.2.1 x.2.2.2.1 x.2.2.2.2.1 x.2.2.2.2.2.1 x.2.2.2.2.2.2, fun y => .tup [dV y.1, dV y.2], fun _ => [], fun _ _ => []⟩
theorem zq9_ok : FnOK Try.prog tJ 54 zq9_M.S := by
 refine fm tt zq9_M [fo zq11_ok, fo zq15_ok, fo zq23_ok, fo zq21_ok] call54 func54 rfl results54 ntmps54 ?_
 rintro ⟨n, period, list, a, b, stop, walk⟩ y cx G (q : zq9 n period list a b stop walk = some y)
 unfold zq9 at q
 refine rg G (Ok_seq ?_)
 obtain ⟨r, h, q⟩ := obind q
 refine jn q (fun v => ⟨[(1, dV period), (2, dV list), (3, dV a), (4, dV b), (5, dV stop), (6, dV walk), (7, .ref 16 0), (47, dV v)], [bX 16 60 [dV n.Stops, dV n.Lines]], 48⟩) (fun v q => ?_) ?_
 ·rcases bf q with ⟨hb, q⟩ | ⟨hb, q⟩
  ·refine re G (hC 4 (zq11_M.c (_, _, _, _) h) (hO 6 (.b true) (hP hb h0))) ?_
   exact wJ G q
  ·obtain ⟨r1, h1, q⟩ := obind q
   rcases bf q with ⟨hb1, q⟩ | ⟨hb1, q⟩
   ·refine re G (hC 4 (zq11_M.c (_, _, _, _) h) (hO 6 (.b false) (hP hb (hC 9 (zq15_M.c (_, _) h1) (hO 12 (.b true) (hP hb1 h0)))))) ?_
    exact wJ G q
   ·obtain ⟨r2, h2, q⟩ := obind q
    rcases bf q with ⟨hb2, q⟩ | ⟨hb2, q⟩
    ·refine re G (hC 4 (zq11_M.c (_, _, _, _) h) (hO 6 (.b false) (hP hb (hC 9 (zq15_M.c (_, _) h1) (hO 12 (.b false) (hP hb1 (hC 15 (zq15_M.c (_, _) h2) (hO 18 (.b true) (hP hb2 h0))))))))) ?_
     exact wJ G q
    ·rcases bf q with ⟨hb3, q⟩ | ⟨hb3, q⟩
     ·refine re G (hC 4 (zq11_M.c (_, _, _, _) h) (hO 6 (.b false) (hP hb (hC 9 (zq15_M.c (_, _) h1) (hO 12 (.b false) (hP hb1 (hC 15 (zq15_M.c (_, _) h2) (hO 18 (.b false) (hP hb2 (hO 23 (.b true) (hP hb3 h0))))))))))) ?_
      exact wJ G q
     ·obtain ⟨r3, h3, q⟩ := obind q
      refine re G (hC 4 (zq11_M.c (_, _, _, _) h) (hO 6 (.b false) (hP hb (hC 9 (zq15_M.c (_, _) h1) (hO 12 (.b false) (hP hb1 (hC 15 (zq15_M.c (_, _) h2) (hO 18 (.b false) (hP hb2 (hO 23 (.b false) (hP hb3 (hC 25 (zq23_c h3) h0)))))))))))) ?_
      exact wJ G q
 rintro v q
 refine cd q ?_ ?_ <;> intro q
 ·refine rg G ?_
  cases q
  exact rt [] []
 ·refine X_skip (thN ?_)
  obtain ⟨e2, h8, r6, h9, e3, h10, q⟩ := ob3 q
  obtain ⟨r7, h11, q⟩ := obind q
  refine ds G [] (hD 4 h8 (hC 7 (zq21_M.c (_, _, _, _) h9) (hD 12 h10 (hC 15 (zq21_M.c (_, _, _, _) h11) h0)))) ?_
  obtain ⟨e6, h14, e7, h15, q⟩ := ob2 q
  refine ds G [] (hD 4 h14 (hD 7 h15 h0)) ?_
  refine Ok_seq (jn q (fun v1 => ⟨[(1, dV period), (6, dV walk), (16, dV r6), (17, dV r7), (105, dV v1)], [], 32⟩) (fun v1 q => ?_) ?_)
  ·rcases bf q with ⟨hb4, q⟩ | ⟨hb4, q⟩
   ·refine de G [] (hO 2 (.b true) (hP hb4 h0)) ?_
    exact wJ G q
   ·rcases bf q with ⟨hb5, q⟩ | ⟨hb5, q⟩
    ·refine de G [] (hO 2 (.b false) (hP hb4 (hO 6 (.b true) (hP hb5 h0)))) ?_
     exact wJ G q
    ·obtain ⟨e12, h20, e13, h21, e14, h22, q⟩ := ob3 q
     rcases bf q with ⟨hb6, q⟩ | ⟨hb6, q⟩
     ·refine de G [] (hO 2 (.b false) (hP hb4 (hO 6 (.b false) (hP hb5 (hD 11 h20 (hD 14 h21 (hD 17 h22 (hO 22 (.b true) (hP hb6 h0))))))))) ?_
      exact wJ G q
     ·obtain ⟨e15, h23, q⟩ := obind q
      refine de G [] (hO 2 (.b false) (hP hb4 (hO 6 (.b false) (hP hb5 (hD 11 h20 (hD 14 h21 (hD 17 h22 (hO 22 (.b false) (hP hb6 (hN 25 e7.Stops (hD 27 h23 h0))))))))))) ?_
      exact wJ G q
  rintro v1 q
  refine cd q ?_ ?_ <;> intro q
  ·refine rg G ?_
   cases q
   exact rt [] []
  ·refine X_skip (thN (rg G (jn q (fun v3 => ⟨[(19, dV v3)], [], 32⟩) (fun v3 q => ?_) ?_)))
   ·refine Ok_block (lp G q (fun v2 => ⟨[(1, dV period), (16, dV r6), (17, dV r7), (19, dV v2)], [], 32⟩) ?_)
    rintro v2 r0 hb7 q
    rw [zq9_L1] at q
    refine Ok_seq ?_
    obtain ⟨u, h24, q⟩ := obind q
    refine rs G (hK h24 h0) ?_
    refine cd q ?_ ?_ <;> intro q
    ·exact X_skip (thN (Ok_block (rh G (ibN (wL G q)))))
    ·exact Ok_exit (thE (thE (ibE (wD G q hb7))))
   rintro v3 q
   refine rg G ?_
   cases q
   exact rt [] []
end Go.Proofs.Ytjahononbnbjnaa
