/- Each function computes what its model says. Made by program (dec.py). -/
import Derived.Test.YtmmffjenpfeapaaTy
import Derived.Test.YtmmffjenpfeapaaAbC
import Derived.Test.YtmmffjenpfeapaaFlM
namespace Go.Proofs.Ytmmffjenpfeapaa
open Go Go.Ab Try
set_option maxRecDepth 100000
set_option maxHeartbeats 4000000
set_option linter.unusedVariables false
set_option linter.unusedSimpArgs false
theorem tt : TT Try.prog ty := ⟨by kernel_rfl, ty_ok⟩
abbrev tJ : Inv := .none
noncomputable def zq95_M : MS ((List UInt8)) Bool := ⟨.r, zq95, fun y => dV y, fun _ => [], fun _ _ => []⟩
theorem zq95_ok : FnOK Try.prog tJ 10 zq95_M.S := by
 refine fm tt zq95_M [] call10 func10 rfl results10 ntmps10 ?_
 rintro code y cx G (Z : zq95 code = some y)
 unfold zq95 at Z
 refine rg G (rs G (hN 1 code h0) ?_)
 cases Z
 exact rt [] []
noncomputable def zq46_M : MS l1Cur (Int × l1Cur) := ⟨.b 150, zq46, fun y => dV y.1, fun _ => [], fun _ y => [bxO 150 y.2]⟩
theorem zq46_ok : FnOK Try.prog tJ 217 zq46_M.S := by
 refine fm tt zq46_M [] call217 func217 rfl results217 ntmps217 ?_
 rintro c y cx G (Z : zq46 c = some y)
 unfold zq46 at Z
 refine rg G (rg G (jn Z (fun v => ⟨[(0, .ref 0 0), (3, dV v)], [bX 0 150 [dV c.code_, dV c.at_, kV .u64 c.seed_.v]], 48⟩) (fun v Z => ?_) ?_))
 ·refine ds G [] (hN 8 c.code_ h0) ?_
  refine cd Z ?_ ?_ <;> intro Z
  ·obtain ⟨e1, h1, Z⟩ := obind Z
   refine de G [] (hD 8 h1 h0) ?_
   exact wJ G Z
  ·exact X_skip (wJ G Z)
 rintro v Z
 refine rg G (rg G (Ok_seq (ds G [] (hN 8 c.code_ h0) ?_)))
 refine cd Z ?_ ?_ <;> intro Z
 ·refine rg G ?_
  cases Z
  exact rt [] []
 ·refine X_skip (thN ?_)
  obtain ⟨u, h2, Z⟩ := obind Z
  refine rs G (hK h2 h0) ?_
  cases Z
  exact rt [] []
noncomputable def zq50_M : MS (l1Cur × Int) (Int × l1Cur) := ⟨.x (.b 150) .r, fun x => zq50 x.1 x.2, fun y => dV y.1, fun _ => [], fun _ y => [bxO 150 y.2]⟩
theorem zq50_c {c n y} (Z : zq50 c n = some y) : zq50_M.C (c, n) y := zq50_M.c (c, n) Z
theorem zq50_ok : FnOK Try.prog tJ 101 zq50_M.S := by
 refine fm tt zq50_M [fo zq46_ok] call101 func101 rfl results101 ntmps101 ?_
 rintro ⟨c, n⟩ y cx G (Z : zq50 c n = some y)
 unfold zq50 at Z
 refine rg G (Ok_seq (rg G (cd Z ?_ ?_))) <;> intro Z
 ·refine rg G ?_
  cases Z
  exact rt [] []
 ·refine X_skip (thN ?_)
  obtain ⟨r, h, Z⟩ := obind Z
  refine rs G (hC 1 (zq46_M.c _ h) h0) ?_
  refine jn Z (fun (v, v1, v2, v3) => ⟨[(0, .ref 0 0), (1, dV n), (5, dV v)], [bX 0 150 [dV v1, dV v2, kV .u64 v3]], 48⟩) (fun vv Z => ?_) ?_
  ·refine rg G (cd Z ?_ ?_) <;> intro Z
   ·obtain ⟨r1, h1, Z⟩ := obind Z
    refine re G (hC 3 (zq46_M.c _ h1) h0) ?_
    exact wJ G Z
   ·exact X_skip (wJ G Z)
  rintro ⟨v, v1, v2, v3⟩ Z
  obtain ⟨u, h2, Z⟩ := obind Z
  refine rs G (hK h2 h0) ?_
  cases Z
  exact rt [] []
noncomputable def zq55_MR (rec_ : Int → Option (ByteArray)) : MS Int ByteArray := ⟨.r, rec_, fun y => dV y, fun _ => [], fun _ _ => []⟩
noncomputable def zq55_M : MS Int ByteArray := zq55_MR zq55
theorem zq55_cR {rec_ : Int → Option (ByteArray)} {n y} (Z : rec_ n = some y) : (zq55_MR rec_).C n y := (zq55_MR rec_).c n Z
theorem zq55_okF {rec_ : Int → Option (ByteArray)} (hrec : FnOK Try.prog tJ 267 (zq55_MR rec_).S) : FnOK Try.prog tJ 267 (zq55_MR (zq55_F rec_)).S := by
 refine fm tt (zq55_MR (zq55_F rec_)) [fo hrec] call267 func267 rfl results267 ntmps267 ?_
 rintro n y cx G (Z : zq55_F rec_ n = some y)
 unfold zq55_F at Z
 refine rg G (Ok_seq (rg G (cd Z ?_ ?_))) <;> intro Z
 ·obtain ⟨r, h, u, h1, Z⟩ := ob2 Z
  refine rs G (hC 2 (zq55_cR h) (hP (cat_p (chk_t h1)) h0)) ?_
  cases Z
  exact rt [] []
 ·refine X_skip (thN (Ok_seq (rg G (cd Z ?_ ?_)))) <;> intro Z
  ·obtain ⟨u1, h2, Z⟩ := obind Z
   refine rs G (hK h2 h0) ?_
   cases Z
   exact rt [] []
  ·refine X_skip (thN ?_)
   obtain ⟨u7, h9, r2, h10, u8, h11, Z⟩ := ob3 Z
   obtain ⟨u9, h12, u10, h13, u11, h14, Z⟩ := ob3 Z
   refine ds G [] (hK h9 (hC 2 (zq55_cR h10) (hK h11 (hK h12 (hK h13 (hP (cat_p (chk_t h14)) h0)))))) ?_
   cases Z
   exact rt [] []
theorem zq55_okn : ∀ k, FnOK Try.prog tJ 267 (zq55_MR (zq55_k k)).S
 | 0 => ⟨fun args w => call267 args w, fun vs w F ds obs κ hp => by obtain ⟨x, y, _, _, h⟩ := hp; cases h⟩
 | k + 1 => zq55_okF (zq55_okn k)
theorem zq55_ok : FnOK Try.prog tJ 267 zq55_M.S := zq55_okn 4294967296
noncomputable def zq73_M : MS (Line × Int) Int := ⟨.x .r .r, fun x => zq73 x.1 x.2, fun y => dV y, fun _ => [], fun _ _ => []⟩
theorem zq73_ok : FnOK Try.prog tJ 118 zq73_M.S := by
 refine fm tt zq73_M [] call118 func118 rfl results118 ntmps118 ?_
 rintro ⟨x, stop⟩ y cx G (Z : zq73 x stop = some y)
 unfold zq73 at Z
 refine rg G (Ok_seq (rg G (tF Z (fun _ => ⟨[], [], 32⟩) (fun v1 hr Z => ?_) ?_)))
 ·refine Ok_block (lp G Z (fun v => ⟨[(1, dV stop), (2, .ref 16 0), (5, dV v)], [bX 16 177 [dV x.Name, dV x.Stops, dV x.Runs]], 48⟩) ?_)
  rintro v r0 hb Z
  rw [zq73_L1] at Z
  refine Ok_seq (rs G (hN 3 x.Stops h0) ?_)
  refine cd Z ?_ ?_ <;> intro Z
  ·refine X_skip (thN (Ok_seq (Ok_block ?_)))
   obtain ⟨e, h, Z⟩ := obind Z
   refine rs G (hD 3 h h0) ?_
   refine cd Z ?_ ?_ <;> intro Z
   ·refine rg G ?_
    have Z := eL Z hb hr
    cases Z
    exact rt [] []
   ·exact X_skip (ibN (thN (rh G (wL G Z))))
  ·exact Ok_exit (thE (thE (ibE (wE G Z hb))))
 rintro ⟨⟩ Z s hw
 refine thN (Ok_weak hw ?_)
 refine rg G ?_
 cases Z
 exact rt [] []
noncomputable def zq42_M : MS (l1Cur × ByteArray × Int) (Line × l1Cur) := ⟨.x (.b 150) (.x .r .r), fun x => zq42 x.1 x.2.1 x.2.2, fun y => .aggv [dV y.1.Name, .own 0, .own 1], fun y => [arO 3 y.1.Stops, arO 3 y.1.Runs], fun _ y => [bxO 150 y.2]⟩
theorem zq42_ok : FnOK Try.prog tJ 266 zq42_M.S := by
 refine fm tt zq42_M [fo zq50_ok, fo zq73_ok] call266 func266 rfl results266 ntmps266 ?_
 rintro ⟨c, name, stops⟩ y cx G (Z : zq42 c name stops = some y)
 unfold zq42 at Z
 refine rg G (rg G ?_)
 obtain ⟨r, h, Z⟩ := obind Z
 refine rs G (hC 2 (zq50_c h) h0) ?_
 refine Ok_seq ?_
 obtain ⟨r1, h1, Z⟩ := obind Z
 refine rs G (hC 1 (zq50_c h1) h0) ?_
 refine tl Z (fun (v7, v8, v9, v10) => ⟨[(0, .ref 0 0), (2, dV stops), (6, .ref 32 0), (7, .ref 48 0)], [bX 0 150 [dV v7, dV v8, kV .u64 v9], bX 32 177 [dV ByteArray.empty, .dat (.sc (.slice none 0 0)), .dat (.sc (.slice none 0 0))], bX 48 177 [dV name, .own 64, .dat (.sc (.slice none 0 0))], aX 64 3 v10], 96⟩) (fun vv1 Z => ?_) ?_
 ·refine Ok_block (lpP Z (fun (v, v1, v2, v3, v4, v5) => ⟨[(0, .ref 0 0), (2, dV stops), (6, .ref 32 0), (7, .ref 48 0), (8, dV v), (9, dV v1)], [bX 0 150 [dV v2, dV v3, kV .u64 v4], bX 32 177 [dV ByteArray.empty, .dat (.sc (.slice none 0 0)), .dat (.sc (.slice none 0 0))], bX 48 177 [dV name, .own 64, .dat (.sc (.slice none 0 0))], aX 64 3 v5], 96⟩) (Wk_J G.hL ⟨[(0, []), (2, []), (6, []), (7, []), (8, []), (9, [])], [(0, 0, []), (32, 16, []), (48, 64, [.k, .o 64])], [(64, 3, 1, [])], 96⟩ (by kernel_rfl)) ?_)
  rintro ⟨v, v1, v2, v3, v4, v5⟩ r0 hb Z
  rw [zq42_L1] at Z
  refine Ok_seq (rg G (cd Z ?_ ?_)) <;> intro Z
  ·refine X_skip (thN (Ok_seq (Ok_block (jn Z (fun v6 => ⟨[(0, .ref 0 0), (2, dV stops), (6, .ref 32 0), (7, .ref 48 0), (8, dV v), (9, dV v1)], [bX 0 150 [dV v2, dV v3, kV .u64 v4], bX 32 177 [dV ByteArray.empty, .dat (.sc (.slice none 0 0)), .dat (.sc (.slice none 0 0))], bX 48 177 [dV name, .own 64, .dat (.sc (.slice none 0 0))], aX 64 3 v6], 96⟩) (fun v6 Z => ?_) ?_))))
   ·obtain ⟨r2, h2, Z⟩ := obind Z
    refine rs G (hC 2 (zq73_M.c (_, _) h2) h0) ?_
    refine cd Z ?_ ?_ <;> intro Z
    ·obtain ⟨u, h3, Z⟩ := obind Z
     refine re G (hA 4 8 h3 h0) ?_
     exact wJ G Z
    ·exact X_skip (wJ G Z)
   rintro v6 Z
   obtain ⟨r3, h4, u1, h5, Z⟩ := ob2 Z
   refine re G (hC 3 (zq50_c h4) (hK h5 h0)) ?_
   exact ibN (thN (rh G (wL G Z)))
  ·exact Ok_exit (thE (thE (ibE (wD G Z hb))))
 rintro ⟨v7, v8, v9, v10⟩ Z s hw
 refine thN (Ok_weak hw ?_)
 refine jn Z (fun v11 => ⟨[(0, .ref 0 0), (6, .ref 32 0), (7, .ref 48 0)], [bX 0 150 [dV v7, dV v8, kV .u64 v9], bX 32 177 [dV ByteArray.empty, .dat (.sc (.slice none 0 0)), .dat (.sc (.slice none 0 0))], bX 48 177 [dV name, .own 64, .dat (.sc (.slice none 0 0))], aX 64 3 v11], 96⟩) (fun v11 Z => ?_) ?_
 ·refine rs G (hN 2 v10 h0) ?_
  refine cd Z ?_ ?_ <;> intro Z
  ·obtain ⟨e1, h9, u4, h10, u5, h11, Z⟩ := ob3 Z
   refine de G [(10, [64, 304]), (12, [48, 320])] (hD 4 h9 (hE 5 h9 (hK h10 (hA 10 8 h11 h0)))) ?_
   exact wJ G Z
  ·exact X_skip (wJ G Z)
 rintro v11 Z
 refine Ok_seq (rg G (tl Z (fun (v17, v18, v19, v20) => ⟨[(0, .ref 0 0), (6, .ref 32 0), (7, .ref 48 0)], [bX 0 150 [dV v17, dV v18, kV .u64 v19], bX 32 177 [dV ByteArray.empty, .dat (.sc (.slice none 0 0)), .dat (.sc (.slice none 0 0))], bX 48 177 [dV name, .own 64, .own 80], aX 64 3 v11, aX 80 3 v20], 112⟩) (fun vv Z => ?_) ?_))
 ·refine Ok_block (lpP Z (fun (v12, v13, v14, v15, v16) => ⟨[(0, .ref 0 0), (6, .ref 32 0), (7, .ref 48 0), (10, dV v12)], [bX 0 150 [dV v13, dV v14, kV .u64 v15], bX 32 177 [dV ByteArray.empty, .dat (.sc (.slice none 0 0)), .dat (.sc (.slice none 0 0))], bX 48 177 [dV name, .own 64, .own 80], aX 64 3 v11, aX 80 3 v16], 112⟩) (Wk_J G.hL ⟨[(0, []), (6, []), (7, []), (10, [])], [(0, 0, []), (32, 32, []), (48, 48, [.k, .k, .o 80]), (64, 64, [])], [(80, 3, 1, [])], 112⟩ (by kernel_rfl)) ?_)
  rintro ⟨v12, v13, v14, v15, v16⟩ r0 hb1 Z
  rw [zq42_L2] at Z
  refine Ok_seq (rs G (hN 3 v11 h0) ?_)
  refine cd Z ?_ ?_ <;> intro Z
  ·refine X_skip (thN (Ok_seq (Ok_block ?_)))
   obtain ⟨r5, h14, u7, h15, Z⟩ := ob2 Z
   refine de G [(3, [0]), (6, [80, 272]), (8, [48, 288])] (hC 3 (zq50_c h14) (hA 6 8 h15 h0)) ?_
   exact ibN (thN (rh G (wL G Z)))
  ·exact Ok_exit (thE (thE (ibE (wD G Z hb1))))
 rintro ⟨v17, v18, v19, v20⟩ Z s1 hw1
 refine thN (Ok_weak hw1 ?_)
 refine rg G ?_
 cases Z
 exact rt [64, 80] []
noncomputable def zq43_M : MS (l1Cur × ByteArray × Int) (Line × l1Cur) := ⟨.x (.b 150) (.x .r .r), fun x => zq43 x.1 x.2.1 x.2.2, fun y => dV y.1, fun _ => [], fun _ y => [bxO 150 y.2]⟩
theorem zq43_ok : FnOK Try.prog tJ 266 zq43_M.S := by
 refine fm tt zq43_M [fo zq50_ok, fo zq73_ok] call266 func266 rfl results266 ntmps266 ?_
 rintro ⟨c, name, stops⟩ y cx G (Z : zq43 c name stops = some y)
 unfold zq43 at Z
 refine rg G (rg G ?_)
 obtain ⟨r, h, Z⟩ := obind Z
 refine rs G (hC 2 (zq50_c h) h0) ?_
 refine Ok_seq ?_
 obtain ⟨r1, h1, Z⟩ := obind Z
 refine rs G (hC 1 (zq50_c h1) h0) ?_
 refine tl Z (fun (v7, v8, v9, v10) => ⟨[(0, .ref 0 0), (2, dV stops), (6, .ref 32 0), (7, .ref 48 0)], [bX 0 150 [dV v7, dV v8, kV .u64 v9], bX 32 177 [dV ByteArray.empty, .dat (.sc (.slice none 0 0)), .dat (.sc (.slice none 0 0))], bX 48 177 [dV name, .own 64, .dat (.sc (.slice none 0 0))], aX 64 3 v10], 96⟩) (fun vv1 Z => ?_) ?_
 ·refine Ok_block (lpP Z (fun (v, v1, v2, v3, v4, v5) => ⟨[(0, .ref 0 0), (2, dV stops), (6, .ref 32 0), (7, .ref 48 0), (8, dV v), (9, dV v1)], [bX 0 150 [dV v2, dV v3, kV .u64 v4], bX 32 177 [dV ByteArray.empty, .dat (.sc (.slice none 0 0)), .dat (.sc (.slice none 0 0))], bX 48 177 [dV name, .own 64, .dat (.sc (.slice none 0 0))], aX 64 3 v5], 96⟩) (Wk_J G.hL ⟨[(0, []), (2, []), (6, []), (7, []), (8, []), (9, [])], [(0, 0, []), (32, 16, []), (48, 64, [.k, .o 64])], [(64, 3, 1, [])], 96⟩ (by kernel_rfl)) ?_)
  rintro ⟨v, v1, v2, v3, v4, v5⟩ r0 hb Z
  rw [zq43_L1] at Z
  refine Ok_seq (rg G (cd Z ?_ ?_)) <;> intro Z
  ·refine X_skip (thN (Ok_seq (Ok_block (jn Z (fun v6 => ⟨[(0, .ref 0 0), (2, dV stops), (6, .ref 32 0), (7, .ref 48 0), (8, dV v), (9, dV v1)], [bX 0 150 [dV v2, dV v3, kV .u64 v4], bX 32 177 [dV ByteArray.empty, .dat (.sc (.slice none 0 0)), .dat (.sc (.slice none 0 0))], bX 48 177 [dV name, .own 64, .dat (.sc (.slice none 0 0))], aX 64 3 v6], 96⟩) (fun v6 Z => ?_) ?_))))
   ·obtain ⟨r2, h2, Z⟩ := obind Z
    refine rs G (hC 2 (zq73_M.c (_, _) h2) h0) ?_
    refine cd Z ?_ ?_ <;> intro Z
    ·obtain ⟨u, h3, Z⟩ := obind Z
     refine re G (hA 4 8 h3 h0) ?_
     exact wJ G Z
    ·exact X_skip (wJ G Z)
   rintro v6 Z
   obtain ⟨r3, h4, u1, h5, Z⟩ := ob2 Z
   refine re G (hC 3 (zq50_c h4) (hK h5 h0)) ?_
   exact ibN (thN (rh G (wL G Z)))
  ·exact Ok_exit (thE (thE (ibE (wD G Z hb))))
 rintro ⟨v7, v8, v9, v10⟩ Z s hw
 refine thN (Ok_weak hw ?_)
 refine jn Z (fun v11 => ⟨[(0, .ref 0 0), (6, .ref 32 0), (7, .ref 48 0)], [bX 0 150 [dV v7, dV v8, kV .u64 v9], bX 32 177 [dV ByteArray.empty, .dat (.sc (.slice none 0 0)), .dat (.sc (.slice none 0 0))], bX 48 177 [dV name, .own 64, .dat (.sc (.slice none 0 0))], aX 64 3 v11], 96⟩) (fun v11 Z => ?_) ?_
 ·refine rs G (hN 2 v10 h0) ?_
  refine cd Z ?_ ?_ <;> intro Z
  ·obtain ⟨e1, h9, u4, h10, u5, h11, Z⟩ := ob3 Z
   refine de G [(10, [64, 304]), (12, [48, 320])] (hD 4 h9 (hE 5 h9 (hK h10 (hA 10 8 h11 h0)))) ?_
   exact wJ G Z
  ·exact X_skip (wJ G Z)
 rintro v11 Z
 refine Ok_seq (rg G (tl Z (fun (v17, v18, v19, v20) => ⟨[(0, .ref 0 0), (6, .ref 32 0), (7, .ref 48 0)], [bX 0 150 [dV v17, dV v18, kV .u64 v19], bX 32 177 [dV ByteArray.empty, .dat (.sc (.slice none 0 0)), .dat (.sc (.slice none 0 0))], bX 48 177 [dV name, .own 64, .own 80], aX 64 3 v11, aX 80 3 v20], 112⟩) (fun vv Z => ?_) ?_))
 ·refine Ok_block (lpP Z (fun (v12, v13, v14, v15, v16) => ⟨[(0, .ref 0 0), (6, .ref 32 0), (7, .ref 48 0), (10, dV v12)], [bX 0 150 [dV v13, dV v14, kV .u64 v15], bX 32 177 [dV ByteArray.empty, .dat (.sc (.slice none 0 0)), .dat (.sc (.slice none 0 0))], bX 48 177 [dV name, .own 64, .own 80], aX 64 3 v11, aX 80 3 v16], 112⟩) (Wk_J G.hL ⟨[(0, []), (6, []), (7, []), (10, [])], [(0, 0, []), (32, 32, []), (48, 48, [.k, .k, .o 80]), (64, 64, [])], [(80, 3, 1, [])], 112⟩ (by kernel_rfl)) ?_)
  rintro ⟨v12, v13, v14, v15, v16⟩ r0 hb1 Z
  rw [zq43_L2] at Z
  refine Ok_seq (rs G (hN 3 v11 h0) ?_)
  refine cd Z ?_ ?_ <;> intro Z
  ·refine X_skip (thN (Ok_seq (Ok_block ?_)))
   obtain ⟨r5, h14, u7, h15, Z⟩ := ob2 Z
   refine de G [(3, [0]), (6, [80, 272]), (8, [48, 288])] (hC 3 (zq50_c h14) (hA 6 8 h15 h0)) ?_
   exact ibN (thN (rh G (wL G Z)))
  ·exact Ok_exit (thE (thE (ibE (wD G Z hb1))))
 rintro ⟨v17, v18, v19, v20⟩ Z s1 hw1
 refine thN (Ok_weak hw1 ?_)
 refine rg G ?_
 cases Z
 exact rt [] []
noncomputable def zq49_M : MS (l1Cur × Int) (Bool × l1Cur) := ⟨.x (.b 150) .r, fun x => zq49 x.1 x.2, fun y => dV y.1, fun _ => [], fun _ y => [bxO 150 y.2]⟩
theorem zq49_c {c n y} (Z : zq49 c n = some y) : zq49_M.C (c, n) y := zq49_M.c (c, n) Z
theorem zq49_ok : FnOK Try.prog tJ 153 zq49_M.S := by
 refine fm tt zq49_M [fo zq50_ok] call153 func153 rfl results153 ntmps153 ?_
 rintro ⟨c, n⟩ y cx G (Z : zq49 c n = some y)
 unfold zq49 at Z
 refine rg G ?_
 obtain ⟨r, h, Z⟩ := obind Z
 refine rs G (hC 2 (zq50_c h) h0) ?_
 cases Z
 exact rt [] []
noncomputable def zq65_M : MS ((List Int)) ((List Int)) := ⟨.r, zq65, fun y => dV y, fun _ => [], fun _ _ => []⟩
theorem zq65_c {list y} (Z : zq65 list = some y) : zq65_M.C list y := zq65_M.c list Z
theorem zq65_ok : FnOK Try.prog tJ 296 zq65_M.S := by
 refine fm tt zq65_M [] call296 func296 rfl results296 ntmps296 ?_
 rintro list y cx G (Z : zq65 list = some y)
 unfold zq65 at Z
 refine rg G (rg G (Ok_seq (rs G (hN 1 list h0) ?_)))
 refine tl Z (fun i1 => ⟨[(3, .own 16)], [aX 16 3 i1], 48⟩) (fun i1 Z => ?_) ?_
 ·refine Ok_block (lp G Z (fun (v, i) => ⟨[(0, dV list), (3, .own 16), (4, dV v)], [aX 16 3 i], 48⟩) ?_)
  rintro ⟨v, i⟩ r0 hb Z
  rw [zq65_L1] at Z
  refine Ok_seq (rg G (cd Z ?_ ?_)) <;> intro Z
  ·refine X_skip (thN (Ok_seq (Ok_block ?_)))
   obtain ⟨e, h, u, h1, Z⟩ := ob2 Z
   refine re G (hD 3 h (hA 6 8 h1 h0)) ?_
   exact ibN (thN (rh G (wL G Z)))
  ·exact Ok_exit (thE (thE (ibE (wD G Z hb))))
 rintro i1 Z s hw
 refine thN (Ok_weak hw ?_)
 refine rg G ?_
 cases Z
 exact rt [] []
noncomputable def zq56_M : MS ((List Int)) ((List Int)) := ⟨.r, zq56, fun _ => .own 0, fun y => [arO 3 y], fun _ _ => []⟩
theorem zq56_c {l y} (Z : zq56 l = some y) : zq56_M.C l y := zq56_M.c l Z
theorem zq56_ok : FnOK Try.prog tJ 199 zq56_M.S := by
 refine fm tt zq56_M [] call199 func199 rfl results199 ntmps199 ?_
 rintro l y cx G (Z : zq56 l = some y)
 unfold zq56 at Z
 refine rg G ?_
 obtain ⟨u, h, Z⟩ := obind Z
 refine rs G (hA 2 8 h h0) ?_
 cases Z
 exact rt [64] []
noncomputable def zq57_M : MS ((List Int)) ((List Int)) := ⟨.r, zq57, fun y => dV y, fun _ => [], fun _ _ => []⟩
theorem zq57_c {l y} (Z : zq57 l = some y) : zq57_M.C l y := zq57_M.c l Z
theorem zq57_ok : FnOK Try.prog tJ 199 zq57_M.S := by
 refine fm tt zq57_M [] call199 func199 rfl results199 ntmps199 ?_
 rintro l y cx G (Z : zq57 l = some y)
 unfold zq57 at Z
 refine rg G ?_
 obtain ⟨u, h, Z⟩ := obind Z
 refine rs G (hA 2 8 h h0) ?_
 cases Z
 exact rt [] []
noncomputable def zq71_M : MS Network Network := ⟨.r, zq71, fun _ => .aggv [.own 0, .own 1], fun y => [arO 9 y.Stops, arO 177 y.Lines], fun _ _ => []⟩
theorem zq71_ok : FnOK Try.prog tJ 226 zq71_M.S := by
 refine fm tt zq71_M [fo zq57_ok] call226 func226 rfl results226 ntmps226 ?_
 rintro n y cx G (Z : zq71 n = some y)
 unfold zq71 at Z
 refine rg G ?_
 obtain ⟨u, h, Z⟩ := obind Z
 refine rs G (hA 3 16 h h0) ?_
 refine Ok_seq (rg G (tl Z (fun v2 => ⟨[(2, .ref 16 0), (3, .ref 32 0)], [bX 16 27 [.dat (.sc (.slice none 0 0)), .dat (.sc (.slice none 0 0))], bX 32 27 [.own 48, .own 64], aX 48 9 (([] : List ByteArray) ++ n.Stops), aX 64 177 v2], 96⟩) (fun v2 Z => ?_) ?_))
 ·refine Ok_block (lpP Z (fun (v, v1) => ⟨[(1, .ref 16 0), (2, .ref 32 0), (3, .ref 48 0), (4, dV v)], [bX 16 27 [dV n.Stops, dV n.Lines], bX 32 27 [.dat (.sc (.slice none 0 0)), .dat (.sc (.slice none 0 0))], bX 48 27 [.own 64, .own 80], aX 64 9 (([] : List ByteArray) ++ n.Stops), aX 80 177 v1], 112⟩) (Wk_J G.hL ⟨[(1, []), (2, []), (3, []), (4, [])], [(16, 16, []), (32, 32, []), (48, 128, [.k, .o 80]), (64, 96, [])], [(80, 177, 3, [])], 112⟩ (by kernel_rfl)) ?_)
  rintro ⟨v, v1⟩ r0 hb Z
  rw [zq71_L1] at Z
  refine Ok_seq (rs G (hN 3 n.Lines h0) ?_)
  refine cd Z ?_ ?_ <;> intro Z
  ·refine X_skip (thN (Ok_seq (Ok_block ?_)))
   obtain ⟨e3, h7, e4, h8, r2, h9, Z⟩ := ob3 Z
   obtain ⟨e5, h10, r3, h11, u2, h12, Z⟩ := ob3 Z
   refine de G [(23, []), (24, [80, 560]), (26, [48, 576])] (hD 5 h7 (hD 11 h8 (hC 14 (zq57_c h9) (hD 18 h10 (hC 21 (zq57_c h11) (hA 24 64 h12 h0)))))) ?_
   exact ibN (thN (rh G (wL G Z)))
  ·exact Ok_exit (thE (thE (ibE (wD G Z hb))))
 rintro v2 Z s hw
 refine thN (Ok_weak hw ?_)
 refine rg G ?_
 cases Z
 exact rt [48, 64] []
noncomputable def zq44_M : MS l1Cur (Network × l1Cur) := ⟨.b 150, zq44, fun _ => .aggv [.own 0, .own 1], fun y => [arO 9 y.1.Stops, arO 177 y.1.Lines], fun _ y => [bxO 150 y.2]⟩
theorem zq44_ok : FnOK Try.prog tJ 246 zq44_M.S := by
 refine fm tt zq44_M [fo zq50_ok, fo zq55_ok, fo zq43_ok, fo zq49_ok, fo zq65_ok, fo zq71_ok] call246 func246 rfl results246 ntmps246 ?_
 rintro c y cx G (Z : zq44 c = some y)
 unfold zq44 at Z
 refine rg G ?_
 obtain ⟨r, h, Z⟩ := obind Z
 refine rs G (hC 1 (zq50_c h) h0) ?_
 obtain ⟨u, h1, Z⟩ := obind Z
 refine rs G (hO 2 (.fz [96] [] []) (hU 2 h1 h0)) ?_
 refine Ok_seq ?_
 obtain ⟨r1, h2, Z⟩ := obind Z
 refine rs G (hC 1 (zq50_c h2) h0) ?_
 refine tl Z (fun (v4, v5, v6, v7) => ⟨[(0, .ref 0 0), (2, .ref 32 0), (4, .ref 48 0)], [bX 0 150 [dV v4, dV v5, kV .u64 v6], bX 32 27 [.dat (.sc (.slice none 0 0)), .dat (.sc (.slice none 0 0))], bX 48 27 [dV ((([(str [112, 111, 114, 116]), (str [109, 105, 108, 108]), (str [112, 97, 114, 107]), (str [104, 97, 108, 108]), (str [100, 111, 99, 107]), (str [102, 97, 105, 114])] : List ByteArray).take (w64 (2 + r.1)).toNat).drop (0 : Int).toNat), .own 64], aX 64 177 v7], 96⟩) (fun vv1 Z => ?_) ?_
 ·refine Ok_block (lpP Z (fun (x, v, v1, v2, v3) => ⟨[(0, .ref 0 0), (2, .ref 32 0), (3, dV (w64 (2 + r.1))), (4, .ref 48 0), (5, dV x)], [bX 0 150 [dV v, dV v1, kV .u64 v2], bX 32 27 [.dat (.sc (.slice none 0 0)), .dat (.sc (.slice none 0 0))], bX 48 27 [dV ((([(str [112, 111, 114, 116]), (str [109, 105, 108, 108]), (str [112, 97, 114, 107]), (str [104, 97, 108, 108]), (str [100, 111, 99, 107]), (str [102, 97, 105, 114])] : List ByteArray).take (w64 (2 + r.1)).toNat).drop (0 : Int).toNat), .own 64], aX 64 177 v3], 96⟩) (Wk_J G.hL ⟨[(0, []), (2, []), (3, []), (4, []), (5, [])], [(0, 0, []), (32, 16, []), (48, 160, [.k, .o 64])], [(64, 177, 3, [])], 96⟩ (by kernel_rfl)) ?_)
  rintro ⟨x, v, v1, v2, v3⟩ r0 hb Z
  rw [zq44_L1] at Z
  refine Ok_seq (rg G (cd Z ?_ ?_)) <;> intro Z
  ·refine X_skip (thN (Ok_seq (Ok_block ?_)))
   obtain ⟨r4, h7, u3, h8, r5, h9, Z⟩ := ob3 Z
   obtain ⟨u4, h10, Z⟩ := obind Z
   refine de G [(7, [0]), (8, []), (9, [64, 256]), (11, [48, 272])] (hC 4 (zq55_M.c _ h7) (hP (cat_p (chk_t h8)) (hC 7 (zq43_M.c (_, _, _) h9) (hA 9 64 h10 h0)))) ?_
   exact ibN (thN (rh G (wL G Z)))
  ·exact Ok_exit (thE (thE (ibE (wD G Z hb))))
 rintro ⟨v4, v5, v6, v7⟩ Z s hw
 refine thN (Ok_weak hw ?_)
 refine jn Z (fun (v8, v9, v10, v11) => ⟨[(0, .ref 0 0), (2, .ref 32 0), (4, .ref 48 0)], [bX 0 150 [dV v8, dV v9, kV .u64 v10], bX 32 27 [.dat (.sc (.slice none 0 0)), .dat (.sc (.slice none 0 0))], bX 48 27 [dV ((([(str [112, 111, 114, 116]), (str [109, 105, 108, 108]), (str [112, 97, 114, 107]), (str [104, 97, 108, 108]), (str [100, 111, 99, 107]), (str [102, 97, 105, 114])] : List ByteArray).take (w64 (2 + r.1)).toNat).drop (0 : Int).toNat), .own 64], aX 64 177 v11], 96⟩) (fun vv Z => ?_) ?_
 ·obtain ⟨r6, h11, Z⟩ := obind Z
  refine rs G (hC 1 (zq49_c h11) h0) ?_
  refine cd Z ?_ ?_ <;> intro Z
  ·obtain ⟨e, h12, Z⟩ := obind Z
   refine rs G (hD 2 h12 (hE 3 h12 h0)) ?_
   obtain ⟨r9, h16, r10, h17, u6, h18, Z⟩ := ob3 Z
   refine de G [(9, []), (10, [64, 368]), (12, [48, 384])] (hC 4 (zq65_c h16) (hC 7 (zq65_c h17) (hA 10 64 h18 h0))) ?_
   exact wJ G Z
  ·exact X_skip (wJ G Z)
 rintro ⟨v8, v9, v10, v11⟩ Z
 obtain ⟨r11, h19, Z⟩ := obind Z
 refine rs G (hO 1 (.fz [64] [] []) (hC 1 (zq71_M.c _ h19) h0)) ?_
 cases Z
 exact rt [112, 113] []
noncomputable def zq51_M : MS l1Cur (Timetable × l1Cur) := ⟨.b 150, zq51, fun _ => .aggv [.own 0, .own 1, .own 2], fun y => [arO 9 y.1.Network.Stops, arO 177 y.1.Network.Lines, arO 159 y.1.Trips], fun _ y => [bxO 150 y.2]⟩
theorem zq51_ok : FnOK Try.prog tJ 207 zq51_M.S := by
 refine fm tt zq51_M [fo zq44_ok, fo zq50_ok] call207 func207 rfl results207 ntmps207 ?_
 rintro c y cx G (Z : zq51 c = some y)
 unfold zq51 at Z
 refine rg G ?_
 obtain ⟨r, h, Z⟩ := obind Z
 refine rs G (hC 1 (zq44_M.c _ h) h0) ?_
 refine rg G (Ok_seq ?_)
 obtain ⟨r1, h1, Z⟩ := obind Z
 refine rs G (hC 1 (zq50_c h1) h0) ?_
 refine tl Z (fun (v5, v6, v7, v8) => ⟨[(0, .ref 0 0), (2, .ref 32 0), (3, .ref 48 0)], [bX 0 150 [dV v5, dV v6, kV .u64 v7], bX 32 30 [.dat (.sc (.slice none 0 0)), .dat (.sc (.slice none 0 0)), .dat (.sc (.slice none 0 0))], bX 48 30 [.own 64, .own 80, .own 96], aX 64 9 r.1.Stops, aX 80 177 r.1.Lines, aX 96 159 v8], 128⟩) (fun vv Z => ?_) ?_
 ·refine Ok_block (lpP Z (fun (n, v, v1, v2, v3, v4) => ⟨[(0, .ref 0 0), (2, .ref 32 0), (3, .ref 48 0), (4, dV n), (5, dV v)], [bX 0 150 [dV v1, dV v2, kV .u64 v3], bX 32 30 [.dat (.sc (.slice none 0 0)), .dat (.sc (.slice none 0 0)), .dat (.sc (.slice none 0 0))], bX 48 30 [.own 64, .own 80, .own 96], aX 64 9 r.1.Stops, aX 80 177 r.1.Lines, aX 96 159 v4], 128⟩) (Wk_J G.hL ⟨[(0, []), (2, []), (3, []), (4, []), (5, [])], [(0, 0, []), (32, 16, []), (48, 80, [.k, .k, .o 96]), (64, 48, []), (80, 49, [])], [(96, 159, 3, [])], 128⟩ (by kernel_rfl)) ?_)
  rintro ⟨n, v, v1, v2, v3, v4⟩ r0 hb Z
  rw [zq51_L1] at Z
  refine Ok_seq (rg G (cd Z ?_ ?_)) <;> intro Z
  ·refine X_skip (thN (Ok_seq (Ok_block ?_)))
   obtain ⟨r2, h2, Z⟩ := obind Z
   refine rs G (hC 3 (zq50_c h2) h0) ?_
   obtain ⟨r5, h6, r6, h7, u1, h8, Z⟩ := ob3 Z
   refine de G [(8, [0]), (10, [0]), (15, [96, 480]), (17, [48, 496])] (hN 7 r.1.Lines (hC 8 (zq50_c h6) (hC 10 (zq50_c h7) (hA 15 24 h8 h0)))) ?_
   exact ibN (thN (rh G (wL G Z)))
  ·exact Ok_exit (thE (thE (ibE (wD G Z hb))))
 rintro ⟨v5, v6, v7, v8⟩ Z s hw
 refine thN (Ok_weak hw ?_)
 refine rg G ?_
 cases Z
 exact rt [64, 80, 96] []
noncomputable def zq36_M : MS (l1Cur × (List Int)) (Int × l1Cur) := ⟨.x (.b 150) .r, fun x => zq36 x.1 x.2, fun y => dV y.1, fun _ => [], fun _ y => [bxO 150 y.2]⟩
theorem zq36_ok : FnOK Try.prog tJ 96 zq36_M.S := by
 refine fm tt zq36_M [fo zq50_ok] call96 func96 rfl results96 ntmps96 ?_
 rintro ⟨c, list⟩ y cx G (Z : zq36 c list = some y)
 unfold zq36 at Z
 refine rg G ?_
 obtain ⟨r, h, e, h1, Z⟩ := ob2 Z
 refine rs G (hN 3 list (hC 4 (zq50_c h) (hD 5 h1 h0))) ?_
 cases Z
 exact rt [] []
noncomputable def zq48_M : MS (l1Cur × (List ByteArray)) (ByteArray × l1Cur) := ⟨.x (.b 150) (.s 9), fun x => zq48 x.1 x.2, fun y => dV y.1, fun _ => [], fun x y => [bxO 150 y.2, arO 9 x.2]⟩
theorem zq48_ok : FnOK Try.prog tJ 265 zq48_M.S := by
 refine fm tt zq48_M [fo zq50_ok] call265 func265 rfl results265 ntmps265 ?_
 rintro ⟨c, list⟩ y cx G (Z : zq48 c list = some y)
 unfold zq48 at Z
 refine rg G ?_
 obtain ⟨r, h, e, h1, Z⟩ := ob2 Z
 refine rs G (hN 3 list (hC 4 (zq50_c h) (hD 5 h1 (hE 6 h1 h0)))) ?_
 cases Z
 exact rt [] []
noncomputable def zq72_M : MS Network Network := ⟨.r, zq72, fun _ => .aggv [.own 0, .own 1], fun y => [arO 9 y.Stops, taO 177 [none, some 3, some 3] y.Lines], fun _ _ => []⟩
theorem zq72_ok : FnOK Try.prog tJ 226 zq72_M.S := by
 refine fm tt zq72_M [fo zq56_ok] call226 func226 rfl results226 ntmps226 ?_
 rintro n y cx G (Z : zq72 n = some y)
 unfold zq72 at Z
 refine rg G ?_
 obtain ⟨u, h, Z⟩ := obind Z
 refine rs G (hA 3 16 h h0) ?_
 refine Ok_seq (rg G (tl Z (fun v2 => ⟨[(2, .ref 16 0), (3, .ref 32 0)], [bX 16 27 [.dat (.sc (.slice none 0 0)), .dat (.sc (.slice none 0 0))], bX 32 27 [.own 48, .own 64], aX 48 9 (([] : List ByteArray) ++ n.Stops), tX 64 177 [none, some 3, some 3] v2 64 none], 96⟩) (fun v2 Z => ?_) ?_))
 ·refine Ok_block (lpP Z (fun (v, v1) => ⟨[(1, .ref 16 0), (2, .ref 32 0), (3, .ref 48 0), (4, dV v)], [bX 16 27 [dV n.Stops, dV n.Lines], bX 32 27 [.dat (.sc (.slice none 0 0)), .dat (.sc (.slice none 0 0))], bX 48 27 [.own 64, .own 80], aX 64 9 (([] : List ByteArray) ++ n.Stops), tX 80 177 [none, some 3, some 3] v1 80 none], 112⟩) (Wk_J G.hL ⟨[(1, []), (2, []), (3, []), (4, [])], [(16, 16, []), (32, 32, []), (48, 128, [.k, .o 80]), (64, 96, [])], [(80, 177, 3, [none, some 3, some 3])], 112⟩ (by kernel_rfl)) ?_)
  rintro ⟨v, v1⟩ r0 hb Z
  rw [zq72_L1] at Z
  refine Ok_seq (rs G (hN 3 n.Lines h0) ?_)
  refine cd Z ?_ ?_ <;> intro Z
  ·refine X_skip (thN (Ok_seq (Ok_block ?_)))
   obtain ⟨e3, h7, e4, h8, r2, h9, Z⟩ := ob3 Z
   obtain ⟨e5, h10, r3, h11, u2, h12, Z⟩ := ob3 Z
   refine de G [(23, [416, 528]), (24, [80, 560]), (26, [48, 576])] (hD 5 h7 (hD 11 h8 (hC 14 (zq56_c h9) (hD 18 h10 (hC 21 (zq56_c h11) (hP (nodupB_ok (l := [416, 528]) rfl) (hA 24 64 h12 h0))))))) ?_
   exact ibN (thN (rh G (wL G Z)))
  ·exact Ok_exit (thE (thE (ibE (wD G Z hb))))
 rintro v2 Z s hw
 refine thN (Ok_weak hw ?_)
 refine rg G ?_
 cases Z
 exact rt [48, 64] []
noncomputable def zq45_M : MS l1Cur (Network × l1Cur) := ⟨.b 150, zq45, fun _ => .aggv [.own 0, .own 1], fun y => [arO 9 y.1.Stops, taO 177 [none, some 3, some 3] y.1.Lines], fun _ y => [bxO 150 y.2]⟩
theorem zq45_ok : FnOK Try.prog tJ 246 zq45_M.S := by
 refine fm tt zq45_M [fo zq50_ok, fo zq55_ok, fo zq43_ok, fo zq49_ok, fo zq65_ok, fo zq72_ok] call246 func246 rfl results246 ntmps246 ?_
 rintro c y cx G (Z : zq45 c = some y)
 unfold zq45 at Z
 refine rg G ?_
 obtain ⟨r, h, Z⟩ := obind Z
 refine rs G (hC 1 (zq50_c h) h0) ?_
 obtain ⟨u, h1, Z⟩ := obind Z
 refine rs G (hO 2 (.fz [96] [] []) (hU 2 h1 h0)) ?_
 refine Ok_seq ?_
 obtain ⟨r1, h2, Z⟩ := obind Z
 refine rs G (hC 1 (zq50_c h2) h0) ?_
 refine tl Z (fun (v4, v5, v6, v7) => ⟨[(0, .ref 0 0), (2, .ref 32 0), (4, .ref 48 0)], [bX 0 150 [dV v4, dV v5, kV .u64 v6], bX 32 27 [.dat (.sc (.slice none 0 0)), .dat (.sc (.slice none 0 0))], bX 48 27 [dV ((([(str [112, 111, 114, 116]), (str [109, 105, 108, 108]), (str [112, 97, 114, 107]), (str [104, 97, 108, 108]), (str [100, 111, 99, 107]), (str [102, 97, 105, 114])] : List ByteArray).take (w64 (2 + r.1)).toNat).drop (0 : Int).toNat), .own 64], aX 64 177 v7], 96⟩) (fun vv1 Z => ?_) ?_
 ·refine Ok_block (lpP Z (fun (x, v, v1, v2, v3) => ⟨[(0, .ref 0 0), (2, .ref 32 0), (3, dV (w64 (2 + r.1))), (4, .ref 48 0), (5, dV x)], [bX 0 150 [dV v, dV v1, kV .u64 v2], bX 32 27 [.dat (.sc (.slice none 0 0)), .dat (.sc (.slice none 0 0))], bX 48 27 [dV ((([(str [112, 111, 114, 116]), (str [109, 105, 108, 108]), (str [112, 97, 114, 107]), (str [104, 97, 108, 108]), (str [100, 111, 99, 107]), (str [102, 97, 105, 114])] : List ByteArray).take (w64 (2 + r.1)).toNat).drop (0 : Int).toNat), .own 64], aX 64 177 v3], 96⟩) (Wk_J G.hL ⟨[(0, []), (2, []), (3, []), (4, []), (5, [])], [(0, 0, []), (32, 16, []), (48, 160, [.k, .o 64])], [(64, 177, 3, [])], 96⟩ (by kernel_rfl)) ?_)
  rintro ⟨x, v, v1, v2, v3⟩ r0 hb Z
  rw [zq45_L1] at Z
  refine Ok_seq (rg G (cd Z ?_ ?_)) <;> intro Z
  ·refine X_skip (thN (Ok_seq (Ok_block ?_)))
   obtain ⟨r4, h7, u3, h8, r5, h9, Z⟩ := ob3 Z
   obtain ⟨u4, h10, Z⟩ := obind Z
   refine de G [(7, [0]), (8, []), (9, [64, 256]), (11, [48, 272])] (hC 4 (zq55_M.c _ h7) (hP (cat_p (chk_t h8)) (hC 7 (zq43_M.c (_, _, _) h9) (hA 9 64 h10 h0)))) ?_
   exact ibN (thN (rh G (wL G Z)))
  ·exact Ok_exit (thE (thE (ibE (wD G Z hb))))
 rintro ⟨v4, v5, v6, v7⟩ Z s hw
 refine thN (Ok_weak hw ?_)
 refine jn Z (fun (v8, v9, v10, v11) => ⟨[(0, .ref 0 0), (2, .ref 32 0), (4, .ref 48 0)], [bX 0 150 [dV v8, dV v9, kV .u64 v10], bX 32 27 [.dat (.sc (.slice none 0 0)), .dat (.sc (.slice none 0 0))], bX 48 27 [dV ((([(str [112, 111, 114, 116]), (str [109, 105, 108, 108]), (str [112, 97, 114, 107]), (str [104, 97, 108, 108]), (str [100, 111, 99, 107]), (str [102, 97, 105, 114])] : List ByteArray).take (w64 (2 + r.1)).toNat).drop (0 : Int).toNat), .own 64], aX 64 177 v11], 96⟩) (fun vv Z => ?_) ?_
 ·obtain ⟨r6, h11, Z⟩ := obind Z
  refine rs G (hC 1 (zq49_c h11) h0) ?_
  refine cd Z ?_ ?_ <;> intro Z
  ·obtain ⟨e, h12, Z⟩ := obind Z
   refine rs G (hD 2 h12 (hE 3 h12 h0)) ?_
   obtain ⟨r9, h16, r10, h17, u6, h18, Z⟩ := ob3 Z
   refine de G [(9, []), (10, [64, 368]), (12, [48, 384])] (hC 4 (zq65_c h16) (hC 7 (zq65_c h17) (hA 10 64 h18 h0))) ?_
   exact wJ G Z
  ·exact X_skip (wJ G Z)
 rintro ⟨v8, v9, v10, v11⟩ Z
 obtain ⟨r11, h19, Z⟩ := obind Z
 refine rs G (hO 1 (.fz [64] [] []) (hC 1 (zq72_M.c _ h19) h0)) ?_
 cases Z
 exact rt [112, 113] []
noncomputable def zq37_M : MS (l1Cur × (List Int)) (Int × l1Cur) := ⟨.x (.b 150) (.s 3), fun x => zq37 x.1 x.2, fun y => dV y.1, fun _ => [], fun x y => [bxO 150 y.2, arO 3 x.2]⟩
theorem zq37_ok : FnOK Try.prog tJ 96 zq37_M.S := by
 refine fm tt zq37_M [fo zq50_ok] call96 func96 rfl results96 ntmps96 ?_
 rintro ⟨c, list⟩ y cx G (Z : zq37 c list = some y)
 unfold zq37 at Z
 refine rg G ?_
 obtain ⟨r, h, e, h1, Z⟩ := ob2 Z
 refine rs G (hN 3 list (hC 4 (zq50_c h) (hD 5 h1 (hE 6 h1 h0)))) ?_
 cases Z
 exact rt [] []
noncomputable def zq38_M : MS l1Cur (Network × l1Cur) := ⟨.b 150, zq38, fun y => .aggv [.own 0, dV y.1.Lines], fun y => [arO 9 y.1.Stops], fun _ y => [bxO 150 y.2]⟩
theorem zq38_ok : FnOK Try.prog tJ 208 zq38_M.S := by
 refine fm tt zq38_M [fo zq45_ok, fo zq50_ok, fo zq48_ok, fo zq37_ok, fo zq55_ok, fo zq42_ok] call208 func208 rfl results208 ntmps208 ?_
 rintro c y cx G (Z : zq38 c = some y)
 unfold zq38 at Z
 refine rg G ?_
 obtain ⟨r, h, Z⟩ := obind Z
 refine rs G (hC 1 (zq45_M.c _ h) h0) ?_
 obtain ⟨r1, h1, Z⟩ := obind Z
 refine rs G (hN 3 r.1.Lines (hC 4 (zq50_c h1) h0)) ?_
 obtain ⟨e, h2, Z⟩ := obind Z
 refine rs G (hD 3 h2 (hE 4 h2 h0)) ?_
 refine jF Z (fun (v, v1, v2, v3, v4, v5, v6) => ⟨[(0, .ref 0 0), (2, .ref 32 0), (3, .ref 48 0), (4, dV r1.1), (5, .ref 64 0)], [bX 0 150 [dV v, dV v1, kV .u64 v2], bX 32 27 [.dat (.sc (.slice none 0 0)), .dat (.sc (.slice none 0 0))], bX 48 27 [.own 80, .own 96], bX 64 177 [dV v3, .row 96 96 r1.1.toNat 1, .own 112], aX 80 9 v4, tX 96 177 [none, some 3, some 3] v5 96 (some (r1.1.toNat, 2)), aX 112 3 v6], 144⟩) (fun v17 hr Z => ?_) ?_
 ·obtain ⟨r2, h3, Z⟩ := obind Z
  refine rs G (hC 1 (zq50_c h3) h0) ?_
  refine Ok_block (rg G (cd Z ?_ ?_)) <;> intro Z
  ·obtain ⟨r4, h6, e2, h7, Z⟩ := ob2 Z
   refine de G [(4, [0, 416]), (6, [48])] (hC 4 (zq48_M.c (_, _) h6) (hD 5 h7 (hS 6 h7 r4.1 h0))) ?_
   exact ibN (wFp Z (Wk.trans (Wk_S (.c 272 2) (Enc.e e) (.cons (idx_m2 (f := Enc.e) (l := r.1.Lines) (i := r1.1) h2) .nil) (by kernel_rfl)) (Wk_J G.hL ⟨[(0, []), (2, []), (3, []), (4, []), (5, [])], [(0, 0, []), (32, 16, []), (48, 64, []), (64, 272, []), (80, 48, []), (96, 49, []), (112, 480, [])], [], 144⟩ (by kernel_rfl))))
  ·refine rg G (cd Z ?_ ?_) <;> intro Z
   ·obtain ⟨r5, h8, Z⟩ := obind Z
    refine re G (hC 2 (zq48_M.c (_, _) h8) h0) ?_
    exact ibN (wFp Z (Wk.trans (Wk_S (.c 272 2) (Enc.e e) (.cons (idx_m2 (f := Enc.e) (l := r.1.Lines) (i := r1.1) h2) .nil) (by kernel_rfl)) (Wk_J G.hL ⟨[(0, []), (2, []), (3, []), (4, []), (5, [])], [(0, 0, []), (32, 16, []), (48, 64, []), (64, 272, []), (80, 48, []), (96, 49, []), (112, 480, [])], [], 144⟩ (by kernel_rfl))))
   ·refine rg G (cd Z ?_ ?_) <;> intro Z
    ·obtain ⟨r8, h12, r9, h13, e4, h14, Z⟩ := ob3 Z
     refine de G [(6, [0]), (8, [0]), (11, [49])] (hO 5 (.dn (Enc.e e) (e.Stops.length : Int)) (hP (idx_m2 (f := Enc.e) h2) (hP (len_m Enc.e e.Stops) (hC 6 (zq50_c h12) (hC 8 (zq50_c h13) (hE 10 h2 (hP (idx_b (f := Enc.e) h14) (hO 11 (.sd2 (Enc.e e) (Enc.e e4) (List.map Enc.e (e.Stops.set r8.1.toNat (w64 (r9.1 - 1)))) (List.map Enc.e (r.1.Lines.set r1.1.toNat (⟨e.Name, (e.Stops.set r8.1.toNat (w64 (r9.1 - 1))), e.Runs⟩ : Line)))) (hP (idx_m2 (f := Enc.e) h2) (hP (idx_m2 (f := Enc.e) h14) (hP (set_m Enc.e e.Stops r8.1.toNat (w64 (r9.1 - 1))) (hP (set_m Enc.e r.1.Lines r1.1.toNat (⟨e.Name, (e.Stops.set r8.1.toNat (w64 (r9.1 - 1))), e.Runs⟩ : Line)) h0)))))))))))) ?_
     exact ibN (wFp Z (Wk.trans (Wk_S (.c 272 2) (Enc.e (⟨e.Name, (e.Stops.set r8.1.toNat (w64 (r9.1 - 1))), e.Runs⟩ : Line)) (.cons (idx_m2 (f := Enc.e) (l := (r.1.Lines.set r1.1.toNat (⟨e.Name, (e.Stops.set r8.1.toNat (w64 (r9.1 - 1))), e.Runs⟩ : Line))) (i := r1.1) (idx_set (y := (⟨e.Name, (e.Stops.set r8.1.toNat (w64 (r9.1 - 1))), e.Runs⟩ : Line)) h2)) .nil) (by kernel_rfl)) (Wk_J G.hL ⟨[(0, []), (2, []), (3, []), (4, []), (5, [])], [(0, 0, []), (32, 16, []), (48, 64, []), (64, 272, []), (80, 48, []), (96, 49, []), (112, 624, [])], [], 144⟩ (by kernel_rfl))))
    ·refine rg G (cd Z ?_ ?_) <;> intro Z
     ·obtain ⟨r12, h18, r13, h19, e6, h20, Z⟩ := ob3 Z
      refine de G [(6, [0]), (9, [0, 592]), (11, [49])] (hO 5 (.dn (Enc.e e) (e.Runs.length : Int)) (hP (idx_m2 (f := Enc.e) h2) (hP (len_m Enc.e e.Runs) (hC 6 (zq50_c h18) (hC 9 (zq37_M.c (_, _) h19) (hE 10 h2 (hP (idx_b (f := Enc.e) h20) (hO 11 (.sd2 (Enc.e e) (Enc.e e6) (List.map Enc.e (e.Runs.set r12.1.toNat r13.1)) (List.map Enc.e (r.1.Lines.set r1.1.toNat (⟨e.Name, e.Stops, (e.Runs.set r12.1.toNat r13.1)⟩ : Line)))) (hP (idx_m2 (f := Enc.e) h2) (hP (idx_m2 (f := Enc.e) h20) (hP (set_m Enc.e e.Runs r12.1.toNat r13.1) (hP (set_m Enc.e r.1.Lines r1.1.toNat (⟨e.Name, e.Stops, (e.Runs.set r12.1.toNat r13.1)⟩ : Line)) h0)))))))))))) ?_
      exact ibN (wFp Z (Wk.trans (Wk_S (.c 272 2) (Enc.e (⟨e.Name, e.Stops, (e.Runs.set r12.1.toNat r13.1)⟩ : Line)) (.cons (idx_m2 (f := Enc.e) (l := (r.1.Lines.set r1.1.toNat (⟨e.Name, e.Stops, (e.Runs.set r12.1.toNat r13.1)⟩ : Line))) (i := r1.1) (idx_set (y := (⟨e.Name, e.Stops, (e.Runs.set r12.1.toNat r13.1)⟩ : Line)) h2)) .nil) (by kernel_rfl)) (Wk_J G.hL ⟨[(0, []), (2, []), (3, []), (4, []), (5, [])], [(0, 0, []), (32, 16, []), (48, 64, []), (64, 272, []), (80, 48, []), (96, 49, []), (112, 656, [])], [], 144⟩ (by kernel_rfl))))
     ·refine rg G (cd Z ?_ ?_) <;> intro Z
      ·obtain ⟨u, h21, Z⟩ := obind Z
       refine re G (hO 3 (.sd (Enc.e e) (List.map Enc.e (e.Runs ++ ([3] : List Int)))) (hP (idx_m2 (f := Enc.e) h2) (hP (app_p (f := Enc.e) (g := Enc.e) (l := e.Runs) (r := ([3] : List Int)) (b := 8) (chk_t h21) rfl) (hP (app_m Enc.e e.Runs ([3] : List Int)) h0)))) ?_
       exact ibN (wF G Z)
      ·refine rg G (cd Z ?_ ?_) <;> intro Z
       ·refine rg G (rg G ?_)
        have Z := eR Z hr
        cases Z
        exact rt [48] []
       ·refine rg G (cd Z ?_ ?_) <;> intro Z
        ·refine Ok_seq (rg G (tl Z (fun (v13, v14, v15, v16) => ⟨[(0, .ref 0 0), (2, .ref 32 0), (3, .ref 48 0)], [bX 0 150 [dV v13, dV v14, kV .u64 v15], bX 32 27 [.dat (.sc (.slice none 0 0)), .dat (.sc (.slice none 0 0))], bX 48 27 [.own 64, .own 80], aX 64 9 r.1.Stops, tX 80 177 [none, some 3, some 3] v16 80 none], 112⟩) (fun vv Z => ?_) ?_))
         ·refine Ok_block (lp G Z (fun (v7, v8, v9, v10, v11) => ⟨[(0, .ref 0 0), (2, .ref 32 0), (3, .ref 48 0), (6, dV v7)], [bX 0 150 [dV v8, dV v9, kV .u64 v10], bX 32 27 [.dat (.sc (.slice none 0 0)), .dat (.sc (.slice none 0 0))], bX 48 27 [.own 64, .own 80], aX 64 9 r.1.Stops, tX 80 177 [none, some 3, some 3] v11 80 none], 112⟩) ?_)
          rintro ⟨v7, v8, v9, v10, v11⟩ r0 hb Z
          rw [zq38_L1] at Z
          refine Ok_seq ?_
          obtain ⟨r16, h23, Z⟩ := obind Z
          refine jn Z (fun v12 => ⟨[(0, .ref 0 0), (2, .ref 32 0), (3, .ref 48 0), (6, dV v7), (85, dV v12)], [bX 0 150 [dV r16.2.code_, dV r16.2.at_, kV .u64 r16.2.seed_.v], bX 32 27 [.dat (.sc (.slice none 0 0)), .dat (.sc (.slice none 0 0))], bX 48 27 [.own 64, .own 80], aX 64 9 r.1.Stops, tX 80 177 [none, some 3, some 3] v11 80 none], 112⟩) (fun v12 Z => ?_) ?_
          ·rcases bf Z with ⟨hb1, Z⟩ | ⟨hb1, Z⟩
           ·refine de G [(4, [0])] (hN 2 v11 (hC 4 (zq50_c h23) (hO 7 (.b true) (hP hb1 h0)))) ?_
            exact wJ G Z
           ·refine de G [(4, [0])] (hN 2 v11 (hC 4 (zq50_c h23) (hO 7 (.b false) (hP hb1 h0)))) ?_
            exact wJ G Z
          rintro v12 Z
          refine cd Z ?_ ?_ <;> intro Z
          ·refine X_skip (thN (Ok_seq (Ok_block ?_)))
           obtain ⟨r19, h28, u3, h29, r20, h30, Z⟩ := ob3 Z
           obtain ⟨u4, h31, Z⟩ := obind Z
           refine de G [(9, [0]), (10, [256, 257]), (11, [80, 272]), (13, [48, 288])] (hC 4 (zq55_M.c _ h28) (hP (cat_p (chk_t h29)) (hN 8 r.1.Stops (hC 9 (zq42_M.c (_, _, _) h30) (hP (nodupB_ok (l := [256, 257]) rfl) (hA 11 64 h31 h0)))))) ?_
           exact ibN (thN (rh G (wL G Z)))
          ·exact Ok_exit (thE (thE (ibE (wD G Z hb))))
         rintro ⟨v13, v14, v15, v16⟩ Z s hw
         refine thN (Ok_weak hw ?_)
         refine rg G ?_
         have Z := eR Z hr
         cases Z
         exact rt [64] []
        ·exact X_skip (ibN (wFp Z (Wk.trans (Wk_S (.c 272 2) (Enc.e e) (.cons (idx_m2 (f := Enc.e) (l := r.1.Lines) (i := r1.1) h2) .nil) (by kernel_rfl)) (Wk_J G.hL ⟨[(0, []), (2, []), (3, []), (4, []), (5, [])], [(0, 0, []), (32, 16, []), (48, 64, []), (64, 272, []), (80, 48, []), (96, 49, []), (112, 560, [])], [], 144⟩ (by kernel_rfl)))))
 rintro ⟨v, v1, v2, v3, v4, v5, v6⟩ Z
 obtain ⟨e9, h32, Z⟩ := obind Z
 refine rs G (hD 4 h32 (hS 5 h32 (⟨v3, e9.Stops, v6⟩ : Line) (hP (Eq.refl r1.1.toNat) (hP (Eq.refl r1.1.toNat) h0)))) ?_
 refine rg G ?_
 cases Z
 exact rt [80] []
noncomputable def zq39_M : MS l1Cur (Timetable × l1Cur) := ⟨.b 150, zq39, fun y => .aggv [.own 0, dV y.1.Network.Lines, .own 1], fun y => [arO 9 y.1.Network.Stops, arO 159 y.1.Trips], fun _ y => [bxO 150 y.2]⟩
theorem zq39_ok : FnOK Try.prog tJ 94 zq39_M.S := by
 refine fm tt zq39_M [fo zq51_ok, fo zq50_ok, fo zq36_ok, fo zq38_ok] call94 func94 rfl results94 ntmps94 ?_
 rintro c y cx G (Z : zq39 c = some y)
 unfold zq39 at Z
 refine rg G ?_
 obtain ⟨r, h, Z⟩ := obind Z
 refine rs G (hC 1 (zq51_M.c _ h) h0) ?_
 refine Ok_seq (rs G (hN 2 r.1.Trips h0) ?_)
 refine cd Z ?_ ?_ <;> intro Z
 ·refine rg G ?_
  cases Z
  exact rt [48, 50] []
 ·refine X_skip (thN ?_)
  obtain ⟨r1, h1, Z⟩ := obind Z
  refine rs G (hN 3 r.1.Trips (hC 4 (zq50_c h1) h0)) ?_
  obtain ⟨e, h2, Z⟩ := obind Z
  refine rs G (hD 3 h2 (hE 4 h2 h0)) ?_
  refine jF Z (fun (v, v1, v2, v3, v4, v5, v6, v7) => ⟨[(0, .ref 0 0), (2, .ref 32 0), (3, .ref 48 0), (4, dV r1.1), (5, .ref 64 0)], [bX 0 150 [dV v, dV v1, kV .u64 v2], bX 32 30 [.dat (.sc (.slice none 0 0)), .dat (.sc (.slice none 0 0)), .dat (.sc (.slice none 0 0))], bX 48 30 [.own 80, dV v3, .own 96], bX 64 159 [dV v4, dV v5, dV v6], aX 80 9 v7, aX 96 159 r.1.Trips], 128⟩) (fun v18 hr Z => ?_) ?_
  ·obtain ⟨r2, h3, Z⟩ := obind Z
   refine rs G (hC 1 (zq50_c h3) h0) ?_
   refine Ok_block (rg G (cd Z ?_ ?_)) <;> intro Z
   ·obtain ⟨r3, h4, Z⟩ := obind Z
    refine re G (hO 2 (.fz [448] [] []) (hC 2 (zq36_M.c (_, _) h4) h0)) ?_
    exact ibN (wF G Z)
   ·refine rg G (cd Z ?_ ?_) <;> intro Z
    ·obtain ⟨r4, h5, Z⟩ := obind Z
     refine re G (hC 1 (zq50_c h5) h0) ?_
     exact ibN (wF G Z)
    ·refine rg G (cd Z ?_ ?_) <;> intro Z
     ·obtain ⟨r5, h6, Z⟩ := obind Z
      refine re G (hO 2 (.fz [512] [] []) (hC 2 (zq36_M.c (_, _) h6) h0)) ?_
      exact ibN (wF G Z)
     ·refine rg G (cd Z ?_ ?_) <;> intro Z
      ·obtain ⟨r6, h7, Z⟩ := obind Z
       refine re G (hC 1 (zq38_M.c _ h7) h0) ?_
       exact ibN (wF G Z)
      ·refine rg G (cd Z ?_ ?_) <;> intro Z
       ·refine Ok_seq (rg G (tl Z (fun (v14, v15, v16, v17) => ⟨[(0, .ref 0 0), (2, .ref 32 0), (3, .ref 48 0)], [bX 0 150 [dV v14, dV v15, kV .u64 v16], bX 32 30 [.dat (.sc (.slice none 0 0)), .dat (.sc (.slice none 0 0)), .dat (.sc (.slice none 0 0))], bX 48 30 [.own 64, .own 80, .own 96], aX 64 9 r.1.Network.Stops, aX 80 177 r.1.Network.Lines, aX 96 159 v17], 128⟩) (fun vv Z => ?_) ?_))
        ·refine Ok_block (lp G Z (fun (v8, v9, v10, v11, v12) => ⟨[(0, .ref 0 0), (2, .ref 32 0), (3, .ref 48 0), (6, dV v8)], [bX 0 150 [dV v9, dV v10, kV .u64 v11], bX 32 30 [.dat (.sc (.slice none 0 0)), .dat (.sc (.slice none 0 0)), .dat (.sc (.slice none 0 0))], bX 48 30 [.own 64, .own 80, .own 96], aX 64 9 r.1.Network.Stops, aX 80 177 r.1.Network.Lines, aX 96 159 v12], 128⟩) ?_)
         rintro ⟨v8, v9, v10, v11, v12⟩ r0 hb Z
         rw [zq39_L1] at Z
         refine Ok_seq ?_
         obtain ⟨r8, h9, Z⟩ := obind Z
         refine jn Z (fun v13 => ⟨[(0, .ref 0 0), (2, .ref 32 0), (3, .ref 48 0), (6, dV v8), (61, dV v13)], [bX 0 150 [dV r8.2.code_, dV r8.2.at_, kV .u64 r8.2.seed_.v], bX 32 30 [.dat (.sc (.slice none 0 0)), .dat (.sc (.slice none 0 0)), .dat (.sc (.slice none 0 0))], bX 48 30 [.own 64, .own 80, .own 96], aX 64 9 r.1.Network.Stops, aX 80 177 r.1.Network.Lines, aX 96 159 v12], 128⟩) (fun v13 Z => ?_) ?_
         ·rcases bf Z with ⟨hb1, Z⟩ | ⟨hb1, Z⟩
          ·refine de G [(4, [0])] (hN 2 v12 (hC 4 (zq50_c h9) (hO 7 (.b true) (hP hb1 h0)))) ?_
           exact wJ G Z
          ·refine de G [(4, [0])] (hN 2 v12 (hC 4 (zq50_c h9) (hO 7 (.b false) (hP hb1 h0)))) ?_
           exact wJ G Z
         rintro v13 Z
         refine cd Z ?_ ?_ <;> intro Z
         ·refine X_skip (thN (Ok_seq (Ok_block ?_)))
          obtain ⟨u, h10, Z⟩ := obind Z
          refine re G (hA 8 24 h10 h0) ?_
          exact ibN (thN (rh G (wL G Z)))
         ·exact Ok_exit (thE (thE (ibE (wD G Z hb))))
        rintro ⟨v14, v15, v16, v17⟩ Z s hw
        refine thN (Ok_weak hw ?_)
        refine rg G ?_
        have Z := eR Z hr
        cases Z
        exact rt [64, 96] []
       ·exact X_skip (ibN (wF G Z))
  rintro ⟨v, v1, v2, v3, v4, v5, v6, v7⟩ Z
  obtain ⟨e2, h11, Z⟩ := obind Z
  refine rs G (hD 4 h11 (hS 5 h11 (⟨v4, v5, v6⟩ : Trip) h0)) ?_
  refine rg G ?_
  cases Z
  exact rt [80, 96] []
noncomputable def zq54_M : MS (Int × Int) Int := ⟨.x .r .r, fun x => zq54 x.1 x.2, fun y => dV y, fun _ => [], fun _ _ => []⟩
theorem zq54_ok : FnOK Try.prog tJ 112 zq54_M.S := by
 refine fm tt zq54_M [] call112 func112 rfl results112 ntmps112 ?_
 rintro ⟨a, b⟩ y cx G (Z : zq54 a b = some y)
 unfold zq54 at Z
 refine rg G (Ok_seq (rg G (cd Z ?_ ?_))) <;> intro Z
 ·refine rg G ?_
  cases Z
  exact rt [] []
 ·refine X_skip (thN (rg G ?_))
  cases Z
  exact rt [] []
noncomputable def zq53_M : MS (Int × Int) Int := ⟨.x .r .r, fun x => zq53 x.1 x.2, fun y => dV y, fun _ => [], fun _ _ => []⟩
theorem zq53_c {a b y} (Z : zq53 a b = some y) : zq53_M.C (a, b) y := zq53_M.c (a, b) Z
theorem zq53_ok : FnOK Try.prog tJ 176 zq53_M.S := by
 refine fm tt zq53_M [] call176 func176 rfl results176 ntmps176 ?_
 rintro ⟨a, b⟩ y cx G (Z : zq53 a b = some y)
 unfold zq53 at Z
 refine rg G (Ok_seq (rg G (cd Z ?_ ?_))) <;> intro Z
 ·refine rg G ?_
  cases Z
  exact rt [] []
 ·refine X_skip (thN (rg G ?_))
  cases Z
  exact rt [] []
noncomputable def zq52_M : MS (Int × Int × Int) Bool := ⟨.x .r (.x .r .r), fun x => zq52 x.1 x.2.1 x.2.2, fun y => dV y, fun _ => [], fun _ _ => []⟩
theorem zq52_c {x a b y} (Z : zq52 x a b = some y) : zq52_M.C (x, a, b) y := zq52_M.c (x, a, b) Z
theorem zq52_ok : FnOK Try.prog tJ 117 zq52_M.S := by
 refine fm tt zq52_M [] call117 func117 rfl results117 ntmps117 ?_
 rintro ⟨x, a, b⟩ y cx G (Z : zq52 x a b = some y)
 unfold zq52 at Z
 refine rg G (jn Z (fun v => ⟨[(6, dV v)], [], 32⟩) (fun v Z => ?_) ?_)
 ·rcases bf Z with ⟨hb, Z⟩ | ⟨hb, Z⟩
  ·refine re G (hO 3 (.b true) (hP hb h0)) ?_
   exact wJ G Z
  ·refine re G (hO 3 (.b false) (hP hb h0)) ?_
   exact wJ G Z
 rintro v Z
 cases Z
 exact rt [] []
noncomputable def zq70_M : MS ByteArray Bool := ⟨.r, zq70, fun y => dV y, fun _ => [], fun _ _ => []⟩
theorem zq70_ok : FnOK Try.prog tJ 270 zq70_M.S := by
 refine fm tt zq70_M [fo zq52_ok] call270 func270 rfl results270 ntmps270 ?_
 rintro s y cx G (Z : zq70 s = some y)
 unfold zq70 at Z
 refine rg G (Ok_seq ?_)
 obtain ⟨r, h, Z⟩ := obind Z
 refine jn Z (fun v => ⟨[(0, dV s), (17, dV v)], [], 32⟩) (fun v Z => ?_) ?_
 ·rcases bf Z with ⟨hb, Z⟩ | ⟨hb, Z⟩
  ·refine re G (hC 2 (zq52_c h) (hO 4 (.b true) (hP hb h0))) ?_
   exact wJ G Z
  ·obtain ⟨u, h1, Z⟩ := obind Z
   rcases bf Z with ⟨hb1, Z⟩ | ⟨hb1, Z⟩
   ·refine re G (hC 2 (zq52_c h) (hO 4 (.b false) (hP hb (hK h1 (hO 9 (.b true) (hP hb1 h0)))))) ?_
    exact wJ G Z
   ·obtain ⟨u1, h2, Z⟩ := obind Z
    refine re G (hC 2 (zq52_c h) (hO 4 (.b false) (hP hb (hK h1 (hO 9 (.b false) (hP hb1 (hK h2 h0))))))) ?_
    exact wJ G Z
 rintro v Z
 refine cd Z ?_ ?_ <;> intro Z
 ·refine rg G ?_
  cases Z
  exact rt [] []
 ·refine X_skip (thN (Ok_seq (rg G (tF Z (fun _ => ⟨[], [], 32⟩) (fun v3 hr Z => ?_) ?_))))
  ·refine Ok_block (lp G Z (fun v1 => ⟨[(0, dV s), (3, dV v1)], [], 32⟩) ?_)
   rintro v1 r0 hb2 Z
   rw [zq70_L1] at Z
   refine Ok_seq (rg G (cd Z ?_ ?_)) <;> intro Z
   ·refine X_skip (thN (Ok_seq (Ok_block ?_)))
    obtain ⟨u2, h3, Z⟩ := obind Z
    refine jn Z (fun v2 => ⟨[(0, dV s), (3, dV v1), (45, dV v2)], [], 32⟩) (fun v2 Z => ?_) ?_
    ·rcases bf Z with ⟨hb3, Z⟩ | ⟨hb3, Z⟩
     ·obtain ⟨u3, h4, Z⟩ := obind Z
      rcases bf Z with ⟨hb4, Z⟩ | ⟨hb4, Z⟩
      ·refine re G (hK h3 (hO 4 (.b true) (hP hb3 (hK h4 (hO 15 (.b true) (hP hb4 h0)))))) ?_
       exact wJ G Z
      ·obtain ⟨u4, h5, Z⟩ := obind Z
       refine re G (hK h3 (hO 4 (.b true) (hP hb3 (hK h4 (hO 15 (.b false) (hP hb4 (hK h5 h0))))))) ?_
       exact wJ G Z
     ·obtain ⟨u5, h6, Z⟩ := obind Z
      rcases bf Z with ⟨hb5, Z⟩ | ⟨hb5, Z⟩
      ·obtain ⟨u6, h7, Z⟩ := obind Z
       rcases bf Z with ⟨hb6, Z⟩ | ⟨hb6, Z⟩
       ·refine re G (hK h3 (hO 4 (.b false) (hP hb3 (hK h6 (hO 10 (.b true) (hP hb5 (hK h7 (hO 15 (.b true) (hP hb6 h0))))))))) ?_
        exact wJ G Z
       ·obtain ⟨u7, h8, Z⟩ := obind Z
        refine re G (hK h3 (hO 4 (.b false) (hP hb3 (hK h6 (hO 10 (.b true) (hP hb5 (hK h7 (hO 15 (.b false) (hP hb6 (hK h8 h0)))))))))) ?_
        exact wJ G Z
      ·refine re G (hK h3 (hO 4 (.b false) (hP hb3 (hK h6 (hO 10 (.b false) (hP hb5 h0)))))) ?_
       exact wJ G Z
    rintro v2 Z
    refine cd Z ?_ ?_ <;> intro Z
    ·refine rg G ?_
     have Z := eL Z hb2 hr
     cases Z
     exact rt [] []
    ·exact X_skip (ibN (thN (rh G (wL G Z))))
   ·exact Ok_exit (thE (thE (ibE (wE G Z hb2))))
  rintro ⟨⟩ Z s1 hw
  refine thN (Ok_weak hw ?_)
  refine rg G ?_
  cases Z
  exact rt [] []
noncomputable def zq66_M : MS ((List ByteArray) × ByteArray) Int := ⟨.x .r .r, fun x => zq66 x.1 x.2, fun y => dV y, fun _ => [], fun _ _ => []⟩
theorem zq66_ok : FnOK Try.prog tJ 271 zq66_M.S := by
 refine fm tt zq66_M [] call271 func271 rfl results271 ntmps271 ?_
 rintro ⟨list, name⟩ y cx G (Z : zq66 list name = some y)
 unfold zq66 at Z
 refine rg G (Ok_seq (rg G (tF Z (fun _ => ⟨[], [], 32⟩) (fun v1 hr Z => ?_) ?_)))
 ·refine Ok_block (lp G Z (fun v => ⟨[(0, dV list), (1, dV name), (5, dV v)], [], 32⟩) ?_)
  rintro v r0 hb Z
  rw [zq66_L1] at Z
  refine Ok_seq (rs G (hN 2 list h0) ?_)
  refine cd Z ?_ ?_ <;> intro Z
  ·refine X_skip (thN (Ok_seq (Ok_block ?_)))
   obtain ⟨e, h, Z⟩ := obind Z
   refine rs G (hD 2 h h0) ?_
   refine cd Z ?_ ?_ <;> intro Z
   ·refine rg G ?_
    have Z := eL Z hb hr
    cases Z
    exact rt [] []
   ·exact X_skip (ibN (thN (rh G (wL G Z))))
  ·exact Ok_exit (thE (thE (ibE (wE G Z hb))))
 rintro ⟨⟩ Z s hw
 refine thN (Ok_weak hw ?_)
 refine rg G ?_
 cases Z
 exact rt [] []
noncomputable def zq68_M : MS (Line × Int) Bool := ⟨.x .r .r, fun x => zq68 x.1 x.2, fun y => dV y, fun _ => [], fun _ _ => []⟩
theorem zq68_ok : FnOK Try.prog tJ 272 zq68_M.S := by
 refine fm tt zq68_M [fo zq70_ok, fo zq52_ok, fo zq73_ok] call272 func272 rfl results272 ntmps272 ?_
 rintro ⟨x, stops⟩ y cx G (Z : zq68 x stops = some y)
 unfold zq68 at Z
 refine rg G (Ok_seq ?_)
 obtain ⟨r, h, Z⟩ := obind Z
 refine jn Z (fun v => ⟨[(1, dV stops), (2, .ref 16 0), (27, dV v)], [bX 16 177 [dV x.Name, dV x.Stops, dV x.Runs]], 48⟩) (fun v Z => ?_) ?_
 ·rcases bf Z with ⟨hb, Z⟩ | ⟨hb, Z⟩
  ·refine re G (hC 2 (zq70_M.c _ h) (hO 4 (.b true) (hP hb h0))) ?_
   exact wJ G Z
  ·obtain ⟨r1, h1, Z⟩ := obind Z
   rcases bf Z with ⟨hb1, Z⟩ | ⟨hb1, Z⟩
   ·refine re G (hC 2 (zq70_M.c _ h) (hO 4 (.b false) (hP hb (hN 7 x.Stops (hC 8 (zq52_c h1) (hO 11 (.b true) (hP hb1 h0))))))) ?_
    exact wJ G Z
   ·refine re G (hC 2 (zq70_M.c _ h) (hO 4 (.b false) (hP hb (hN 7 x.Stops (hC 8 (zq52_c h1) (hO 11 (.b false) (hP hb1 (hN 14 x.Runs (hN 17 x.Stops h0))))))))) ?_
    exact wJ G Z
 rintro v Z
 refine cd Z ?_ ?_ <;> intro Z
 ·refine rg G ?_
  cases Z
  exact rt [] []
 ·refine X_skip (thN (Ok_seq (rg G (tF Z (fun _ => ⟨[(2, .ref 16 0)], [bX 16 177 [dV x.Name, dV x.Stops, dV x.Runs]], 48⟩) (fun v5 hr Z => ?_) ?_))))
  ·refine Ok_block (lp G Z (fun v1 => ⟨[(1, dV stops), (2, .ref 16 0), (5, dV v1)], [bX 16 177 [dV x.Name, dV x.Stops, dV x.Runs]], 48⟩) ?_)
   rintro v1 r0 hb2 Z
   rw [zq68_L1] at Z
   refine Ok_seq (rs G (hN 3 x.Stops h0) ?_)
   refine cd Z ?_ ?_ <;> intro Z
   ·refine X_skip (thN (Ok_seq (Ok_block ?_)))
    obtain ⟨e2, h6, r4, h7, Z⟩ := ob2 Z
    refine jn Z (fun v2 => ⟨[(1, dV stops), (2, .ref 16 0), (5, dV v1), (54, dV v2)], [bX 16 177 [dV x.Name, dV x.Stops, dV x.Runs]], 48⟩) (fun v2 Z => ?_) ?_
    ·rcases bf Z with ⟨hb3, Z⟩ | ⟨hb3, Z⟩
     ·refine de G [] (hD 3 h6 (hC 7 (zq52_c h7) (hO 9 (.b true) (hP hb3 h0)))) ?_
      exact wJ G Z
     ·obtain ⟨e3, h8, r5, h9, Z⟩ := ob2 Z
      refine de G [] (hD 3 h6 (hC 7 (zq52_c h7) (hO 9 (.b false) (hP hb3 (hD 14 h8 (hC 16 (zq73_M.c (_, _) h9) h0)))))) ?_
      exact wJ G Z
    rintro v2 Z
    refine cd Z ?_ ?_ <;> intro Z
    ·refine rg G ?_
     have Z := eL Z hb2 hr
     cases Z
     exact rt [] []
    ·exact X_skip (ibN (thN (rh G (wL G Z))))
   ·exact Ok_exit (thE (thE (ibE (wE G Z hb2))))
  rintro ⟨⟩ Z s hw
  refine thN (Ok_weak hw ?_)
  refine Ok_seq (rg G (tF Z (fun _ => ⟨[], [], 32⟩) (fun v4 hr1 Z => ?_) ?_))
  ·refine Ok_block (lp G Z (fun v3 => ⟨[(2, .ref 16 0), (6, dV v3)], [bX 16 177 [dV x.Name, dV x.Stops, dV x.Runs]], 48⟩) ?_)
   rintro v3 r0 hb4 Z
   rw [zq68_L2] at Z
   refine Ok_seq (rs G (hN 3 x.Runs h0) ?_)
   refine cd Z ?_ ?_ <;> intro Z
   ·refine X_skip (thN (Ok_seq (Ok_block ?_)))
    obtain ⟨e5, h10, r7, h11, Z⟩ := ob2 Z
    refine rs G (hD 3 h10 (hC 5 (zq52_c h11) h0)) ?_
    refine cd Z ?_ ?_ <;> intro Z
    ·refine rg G ?_
     have Z := eL Z hb4 hr1
     cases Z
     exact rt [] []
    ·exact X_skip (ibN (thN (rh G (wL G Z))))
   ·exact Ok_exit (thE (thE (ibE (wE G Z hb4))))
  rintro ⟨⟩ Z s1 hw1
  refine thN (Ok_weak hw1 ?_)
  refine rg G ?_
  cases Z
  exact rt [] []
noncomputable def zq69_M : MS (Network × ByteArray) Int := ⟨.x .r .r, fun x => zq69 x.1 x.2, fun y => dV y, fun _ => [], fun _ _ => []⟩
theorem zq69_c {n name y} (Z : zq69 n name = some y) : zq69_M.C (n, name) y := zq69_M.c (n, name) Z
theorem zq69_ok : FnOK Try.prog tJ 273 zq69_M.S := by
 refine fm tt zq69_M [] call273 func273 rfl results273 ntmps273 ?_
 rintro ⟨n, name⟩ y cx G (Z : zq69 n name = some y)
 unfold zq69 at Z
 refine rg G (Ok_seq (rg G (tF Z (fun _ => ⟨[], [], 32⟩) (fun v1 hr Z => ?_) ?_)))
 ·refine Ok_block (lp G Z (fun v => ⟨[(1, dV name), (2, .ref 16 0), (5, dV v)], [bX 16 27 [dV n.Stops, dV n.Lines]], 48⟩) ?_)
  rintro v r0 hb Z
  rw [zq69_L1] at Z
  refine Ok_seq (rs G (hN 3 n.Lines h0) ?_)
  refine cd Z ?_ ?_ <;> intro Z
  ·refine X_skip (thN (Ok_seq (Ok_block ?_)))
   obtain ⟨e, h, Z⟩ := obind Z
   refine rs G (hD 3 h h0) ?_
   refine cd Z ?_ ?_ <;> intro Z
   ·refine rg G ?_
    have Z := eL Z hb hr
    cases Z
    exact rt [] []
   ·exact X_skip (ibN (thN (rh G (wL G Z))))
  ·exact Ok_exit (thE (thE (ibE (wE G Z hb))))
 rintro ⟨⟩ Z s hw
 refine thN (Ok_weak hw ?_)
 refine rg G ?_
 cases Z
 exact rt [] []
noncomputable def zq67_M : MS Network Bool := ⟨.r, zq67, fun y => dV y, fun _ => [], fun _ _ => []⟩
theorem zq67_ok : FnOK Try.prog tJ 218 zq67_M.S := by
 refine fm tt zq67_M [fo zq52_ok, fo zq70_ok, fo zq66_ok, fo zq68_ok, fo zq69_ok] call218 func218 rfl results218 ntmps218 ?_
 rintro n y cx G (Z : zq67 n = some y)
 unfold zq67 at Z
 refine rg G (Ok_seq ?_)
 obtain ⟨r, h, Z⟩ := obind Z
 refine jn Z (fun v => ⟨[(1, .ref 16 0), (16, dV v)], [bX 16 27 [dV n.Stops, dV n.Lines]], 48⟩) (fun v Z => ?_) ?_
 ·rcases bf Z with ⟨hb, Z⟩ | ⟨hb, Z⟩
  ·refine re G (hN 2 n.Stops (hC 3 (zq52_c h) (hO 5 (.b true) (hP hb h0)))) ?_
   exact wJ G Z
  ·obtain ⟨r1, h1, Z⟩ := obind Z
   refine re G (hN 2 n.Stops (hC 3 (zq52_c h) (hO 5 (.b false) (hP hb (hN 8 n.Lines (hC 9 (zq52_c h1) h0)))))) ?_
   exact wJ G Z
 rintro v Z
 refine cd Z ?_ ?_ <;> intro Z
 ·refine rg G ?_
  cases Z
  exact rt [] []
 ·refine X_skip (thN (Ok_seq (rg G (tF Z (fun _ => ⟨[(1, .ref 16 0)], [bX 16 27 [dV n.Stops, dV n.Lines]], 48⟩) (fun v5 hr Z => ?_) ?_))))
  ·refine Ok_block (lp G Z (fun i => ⟨[(1, .ref 16 0), (3, dV i)], [bX 16 27 [dV n.Stops, dV n.Lines]], 48⟩) ?_)
   rintro i r0 hb1 Z
   rw [zq67_L1] at Z
   refine Ok_seq (rs G (hN 3 n.Stops h0) ?_)
   refine cd Z ?_ ?_ <;> intro Z
   ·refine X_skip (thN (Ok_seq (Ok_block ?_)))
    obtain ⟨e2, h6, r4, h7, Z⟩ := ob2 Z
    refine jn Z (fun v1 => ⟨[(1, .ref 16 0), (3, dV i), (42, dV v1)], [bX 16 27 [dV n.Stops, dV n.Lines]], 48⟩) (fun v1 Z => ?_) ?_
    ·rcases bf Z with ⟨hb2, Z⟩ | ⟨hb2, Z⟩
     ·refine de G [] (hD 3 h6 (hC 5 (zq70_M.c _ h7) (hO 7 (.b true) (hP hb2 h0)))) ?_
      exact wJ G Z
     ·obtain ⟨e3, h8, r5, h9, Z⟩ := ob2 Z
      refine de G [] (hD 3 h6 (hC 5 (zq70_M.c _ h7) (hO 7 (.b false) (hP hb2 (hD 13 h8 (hC 15 (zq66_M.c (_, _) h9) h0)))))) ?_
      exact wJ G Z
    rintro v1 Z
    refine cd Z ?_ ?_ <;> intro Z
    ·refine rg G ?_
     have Z := eL Z hb1 hr
     cases Z
     exact rt [] []
    ·exact X_skip (ibN (thN (rh G (wL G Z))))
   ·exact Ok_exit (thE (thE (ibE (wE G Z hb1))))
  rintro ⟨⟩ Z s hw
  refine thN (Ok_weak hw ?_)
  refine Ok_seq (rg G (tF Z (fun _ => ⟨[], [], 32⟩) (fun v4 hr1 Z => ?_) ?_))
  ·refine Ok_block (lp G Z (fun v2 => ⟨[(1, .ref 16 0), (4, dV v2)], [bX 16 27 [dV n.Stops, dV n.Lines]], 48⟩) ?_)
   rintro v2 r0 hb3 Z
   rw [zq67_L2] at Z
   refine Ok_seq (rs G (hN 3 n.Lines h0) ?_)
   refine cd Z ?_ ?_ <;> intro Z
   ·refine X_skip (thN (Ok_seq (Ok_block ?_)))
    obtain ⟨e7, h14, r9, h15, Z⟩ := ob2 Z
    refine jn Z (fun v3 => ⟨[(1, .ref 16 0), (4, dV v2), (71, dV v3)], [bX 16 27 [dV n.Stops, dV n.Lines]], 48⟩) (fun v3 Z => ?_) ?_
    ·rcases bf Z with ⟨hb4, Z⟩ | ⟨hb4, Z⟩
     ·refine de G [] (hD 3 h14 (hN 7 n.Stops (hC 8 (zq68_M.c (_, _) h15) (hO 10 (.b true) (hP hb4 h0))))) ?_
      exact wJ G Z
     ·obtain ⟨e8, h16, r10, h17, Z⟩ := ob2 Z
      refine de G [] (hD 3 h14 (hN 7 n.Stops (hC 8 (zq68_M.c (_, _) h15) (hO 10 (.b false) (hP hb4 (hD 15 h16 (hC 18 (zq69_c h17) h0))))))) ?_
      exact wJ G Z
    rintro v3 Z
    refine cd Z ?_ ?_ <;> intro Z
    ·refine rg G ?_
     have Z := eL Z hb3 hr1
     cases Z
     exact rt [] []
    ·exact X_skip (ibN (thN (rh G (wL G Z))))
   ·exact Ok_exit (thE (thE (ibE (wE G Z hb3))))
  rintro ⟨⟩ Z s1 hw1
  refine thN (Ok_weak hw1 ?_)
  refine rg G ?_
  cases Z
  exact rt [] []
noncomputable def zq75_M : MS Int Bool := ⟨.r, zq75, fun y => dV y, fun _ => [], fun _ _ => []⟩
theorem zq75_c {t y} (Z : zq75 t = some y) : zq75_M.C t y := zq75_M.c t Z
theorem zq75_ok : FnOK Try.prog tJ 175 zq75_M.S := by
 refine fm tt zq75_M [fo zq52_ok] call175 func175 rfl results175 ntmps175 ?_
 rintro t y cx G (Z : zq75 t = some y)
 unfold zq75 at Z
 refine rg G ?_
 obtain ⟨r, h, Z⟩ := obind Z
 refine rs G (hC 1 (zq52_c h) h0) ?_
 cases Z
 exact rt [] []
noncomputable def zq79_M : MS (Timetable × Int) Line := ⟨.x .r .r, fun x => zq79 x.1 x.2, fun y => dV y, fun _ => [], fun _ _ => []⟩
theorem zq79_ok : FnOK Try.prog tJ 268 zq79_M.S := by
 refine fm tt zq79_M [] call268 func268 rfl results268 ntmps268 ?_
 rintro ⟨t, i⟩ y cx G (Z : zq79 t i = some y)
 unfold zq79 at Z
 refine rg G ?_
 obtain ⟨e2, h2, e3, h3, Z⟩ := ob2 Z
 refine ds G [(11, [32])] (hD 6 h2 (hD 9 h3 h0)) ?_
 cases Z
 exact rt [] []
noncomputable def zq80_M : MS (Timetable × Int) ((List Int)) := ⟨.x .r .r, fun x => zq80 x.1 x.2, fun y => dV y, fun _ => [], fun _ _ => []⟩
theorem zq80_ok : FnOK Try.prog tJ 209 zq80_M.S := by
 refine fm tt zq80_M [fo zq79_ok] call209 func209 rfl results209 ntmps209 ?_
 rintro ⟨t, i⟩ y cx G (Z : zq80 t i = some y)
 unfold zq80 at Z
 refine rg G ?_
 obtain ⟨r, h, Z⟩ := obind Z
 refine rs G (hC 2 (zq79_M.c (_, _) h) h0) ?_
 cases Z
 exact rt [] []
noncomputable def zq74_M : MS (Line × Int × Int) Int := ⟨.x .r (.x .r .r), fun x => zq74 x.1 x.2.1 x.2.2, fun y => dV y, fun _ => [], fun _ _ => []⟩
theorem zq74_c {x from_ to_ y} (Z : zq74 x from_ to_ = some y) : zq74_M.C (x, from_, to_) y := zq74_M.c (x, from_, to_) Z
theorem zq74_ok : FnOK Try.prog tJ 221 zq74_M.S := by
 refine fm tt zq74_M [] call221 func221 rfl results221 ntmps221 ?_
 rintro ⟨x, from_, to_⟩ y cx G (Z : zq74 x from_ to_ = some y)
 unfold zq74 at Z
 refine rg G (rg G (Ok_seq (rg G (tl Z (fun v2 => ⟨[(7, dV v2)], [], 32⟩) (fun v2 Z => ?_) ?_))))
 ·refine Ok_block (lp G Z (fun (v, v1) => ⟨[(2, dV to_), (3, .ref 16 0), (7, dV v), (8, dV v1)], [bX 16 177 [dV x.Name, dV x.Stops, dV x.Runs]], 48⟩) ?_)
  rintro ⟨v, v1⟩ r0 hb Z
  rw [zq74_L1] at Z
  refine Ok_seq (rg G (cd Z ?_ ?_)) <;> intro Z
  ·refine X_skip (thN (Ok_seq (Ok_block ?_)))
   obtain ⟨e, h, Z⟩ := obind Z
   refine re G (hD 4 h h0) ?_
   exact ibN (thN (rh G (wL G Z)))
  ·exact Ok_exit (thE (thE (ibE (wD G Z hb))))
 rintro v2 Z s hw
 refine thN (Ok_weak hw ?_)
 refine rg G ?_
 cases Z
 exact rt [] []
noncomputable def zq76_M : MS (Timetable × Int × Int) Int := ⟨.x .r (.x .r .r), fun x => zq76 x.1 x.2.1 x.2.2, fun y => dV y, fun _ => [], fun _ _ => []⟩
theorem zq76_ok : FnOK Try.prog tJ 216 zq76_M.S := by
 refine fm tt zq76_M [fo zq79_ok, fo zq74_ok] call216 func216 rfl results216 ntmps216 ?_
 rintro ⟨t, i, k⟩ y cx G (Z : zq76 t i k = some y)
 unfold zq76 at Z
 refine rg G ?_
 obtain ⟨e1, h3, r2, h4, r3, h5, Z⟩ := ob3 Z
 refine ds G [] (hD 3 h3 (hC 8 (zq79_M.c (_, _) h4) (hC 10 (zq74_c h5) h0))) ?_
 cases Z
 exact rt [] []
noncomputable def zq77_M : MS (Timetable × Int) Int := ⟨.x .r .r, fun x => zq77 x.1 x.2, fun y => dV y, fun _ => [], fun _ _ => []⟩
theorem zq77_ok : FnOK Try.prog tJ 225 zq77_M.S := by
 refine fm tt zq77_M [fo zq80_ok, fo zq76_ok] call225 func225 rfl results225 ntmps225 ?_
 rintro ⟨t, i⟩ y cx G (Z : zq77 t i = some y)
 unfold zq77 at Z
 refine rg G ?_
 obtain ⟨r2, h2, r3, h3, Z⟩ := ob2 Z
 refine ds G [] (hC 4 (zq80_M.c (_, _) h2) (hN 5 r2 (hC 7 (zq76_M.c (_, _, _) h3) h0))) ?_
 cases Z
 exact rt [] []
noncomputable def zq78_M : MS Timetable Bool := ⟨.r, zq78, fun y => dV y, fun _ => [], fun _ _ => []⟩
theorem zq78_ok : FnOK Try.prog tJ 125 zq78_M.S := by
 refine fm tt zq78_M [fo zq67_ok, fo zq52_ok, fo zq75_ok, fo zq77_ok] call125 func125 rfl results125 ntmps125 ?_
 rintro t y cx G (Z : zq78 t = some y)
 unfold zq78 at Z
 refine rg G (Ok_seq ?_)
 obtain ⟨r, h, Z⟩ := obind Z
 refine jn Z (fun v => ⟨[(1, .ref 16 0), (14, dV v)], [bX 16 30 [dV t.Network.Stops, dV t.Network.Lines, dV t.Trips]], 48⟩) (fun v Z => ?_) ?_
 ·rcases bf Z with ⟨hb, Z⟩ | ⟨hb, Z⟩
  ·refine re G (hC 2 (zq67_M.c _ h) (hO 4 (.b true) (hP hb h0))) ?_
   exact wJ G Z
  ·refine re G (hC 2 (zq67_M.c _ h) (hO 4 (.b false) (hP hb (hN 7 t.Trips h0)))) ?_
   exact wJ G Z
 rintro v Z
 refine cd Z ?_ ?_ <;> intro Z
 ·refine rg G ?_
  cases Z
  exact rt [] []
 ·refine X_skip (thN (Ok_seq (rg G (tF Z (fun _ => ⟨[], [], 32⟩) (fun v2 hr Z => ?_) ?_))))
  ·refine Ok_block (lp G Z (fun x => ⟨[(1, .ref 16 0), (3, dV x)], [bX 16 30 [dV t.Network.Stops, dV t.Network.Lines, dV t.Trips]], 48⟩) ?_)
   rintro x r0 hb1 Z
   rw [zq78_L1] at Z
   refine Ok_seq (rs G (hN 3 t.Trips h0) ?_)
   refine cd Z ?_ ?_ <;> intro Z
   ·refine X_skip (thN (Ok_seq (Ok_block ?_)))
    obtain ⟨e, h1, Z⟩ := obind Z
    refine rs G (hD 3 h1 h0) ?_
    obtain ⟨r6, h8, Z⟩ := obind Z
    refine jn Z (fun v1 => ⟨[(1, .ref 16 0), (3, dV x), (70, dV v1)], [bX 16 30 [dV t.Network.Stops, dV t.Network.Lines, dV t.Trips]], 48⟩) (fun v1 Z => ?_) ?_
    ·rcases bf Z with ⟨hb2, Z⟩ | ⟨hb2, Z⟩
     ·refine de G [] (hC 2 (zq52_c h8) (hO 4 (.b true) (hP hb2 h0))) ?_
      exact wJ G Z
     ·obtain ⟨r7, h9, Z⟩ := obind Z
      rcases bf Z with ⟨hb3, Z⟩ | ⟨hb3, Z⟩
      ·refine de G [] (hC 2 (zq52_c h8) (hO 4 (.b false) (hP hb2 (hN 10 t.Network.Lines (hC 12 (zq52_c h9) (hO 15 (.b true) (hP hb3 h0))))))) ?_
       exact wJ G Z
      ·obtain ⟨r8, h10, Z⟩ := obind Z
       rcases bf Z with ⟨hb4, Z⟩ | ⟨hb4, Z⟩
       ·refine de G [] (hC 2 (zq52_c h8) (hO 4 (.b false) (hP hb2 (hN 10 t.Network.Lines (hC 12 (zq52_c h9) (hO 15 (.b false) (hP hb3 (hC 18 (zq75_c h10) (hO 21 (.b true) (hP hb4 h0)))))))))) ?_
        exact wJ G Z
       ·obtain ⟨r9, h11, r10, h12, Z⟩ := ob2 Z
        rcases bf Z with ⟨hb5, Z⟩ | ⟨hb5, Z⟩
        ·refine de G [] (hC 2 (zq52_c h8) (hO 4 (.b false) (hP hb2 (hN 10 t.Network.Lines (hC 12 (zq52_c h9) (hO 15 (.b false) (hP hb3 (hC 18 (zq75_c h10) (hO 21 (.b false) (hP hb4 (hC 24 (zq77_M.c (_, _) h11) (hC 25 (zq75_c h12) (hO 28 (.b true) (hP hb5 h0)))))))))))))) ?_
         exact wJ G Z
        ·rcases bf Z with ⟨hb6, Z⟩ | ⟨hb6, Z⟩
         ·obtain ⟨e2, h13, Z⟩ := obind Z
          refine de G [] (hC 2 (zq52_c h8) (hO 4 (.b false) (hP hb2 (hN 10 t.Network.Lines (hC 12 (zq52_c h9) (hO 15 (.b false) (hP hb3 (hC 18 (zq75_c h10) (hO 21 (.b false) (hP hb4 (hC 24 (zq77_M.c (_, _) h11) (hC 25 (zq75_c h12) (hO 28 (.b false) (hP hb5 (hO 31 (.b true) (hP hb6 (hD 36 h13 h0))))))))))))))))) ?_
          exact wJ G Z
         ·refine de G [] (hC 2 (zq52_c h8) (hO 4 (.b false) (hP hb2 (hN 10 t.Network.Lines (hC 12 (zq52_c h9) (hO 15 (.b false) (hP hb3 (hC 18 (zq75_c h10) (hO 21 (.b false) (hP hb4 (hC 24 (zq77_M.c (_, _) h11) (hC 25 (zq75_c h12) (hO 28 (.b false) (hP hb5 (hO 31 (.b false) (hP hb6 h0)))))))))))))))) ?_
          exact wJ G Z
    rintro v1 Z
    refine cd Z ?_ ?_ <;> intro Z
    ·refine rg G ?_
     have Z := eL Z hb1 hr
     cases Z
     exact rt [] []
    ·exact X_skip (ibN (thN (rh G (wL G Z))))
   ·exact Ok_exit (thE (thE (ibE (wE G Z hb1))))
  rintro ⟨⟩ Z s hw
  refine thN (Ok_weak hw ?_)
  refine rg G ?_
  cases Z
  exact rt [] []
noncomputable def zq40_M : MS (l1Cur × Timetable × Int) (Flow × l1Cur) := ⟨.x (.b 150) (.x .r .r), fun x => zq40 x.1 x.2.1 x.2.2, fun y => dV y.1, fun _ => [], fun _ y => [bxO 150 y.2]⟩
theorem zq40_ok : FnOK Try.prog tJ 95 zq40_M.S := by
 refine fm tt zq40_M [fo zq50_ok, fo zq36_ok, fo zq54_ok, fo zq78_ok, fo zq49_ok, fo zq80_ok] call95 func95 rfl results95 ntmps95 ?_
 rintro ⟨c, t, from_⟩ y cx G (Z : zq40 c t from_ = some y)
 unfold zq40 at Z
 refine rg G ?_
 obtain ⟨r, h, r1, h1, Z⟩ := ob2 Z
 refine rs G (hN 4 t.Network.Stops (hC 5 (zq50_c h) (hO 9 (.fz [176] [] []) (hC 9 (zq36_M.c (_, _) h1) h0)))) ?_
 obtain ⟨r4, h5, r5, h6, u1, h7, Z⟩ := ob3 Z
 refine ds G [(10, [0]), (18, [224])] (hN 7 t.Network.Stops (hC 9 (zq54_M.c (_, _) h5) (hC 10 (zq50_c h6) (hN 15 t.Network.Stops (hK h7 h0))))) ?_
 refine jn Z (fun (v, v1, v2, v3, v4) => ⟨[(0, .ref 0 0), (6, .ref 32 0), (7, .ref 48 0)], [bX 0 150 [dV v, dV v1, kV .u64 v2], bX 32 44 [kV .i64 0, kV .i64 0, kV .i64 0, kV .i64 0], bX 48 44 [dV v3, dV v4, dV from_, dV r1.1]], 80⟩) (fun vv1 Z => ?_) ?_
 ·refine jn Z (fun (v5, v6, v7, v8) => ⟨[(0, .ref 0 0), (4, .ref 32 0), (6, .ref 48 0), (7, .ref 64 0), (51, dV v5)], [bX 0 150 [dV v6, dV v7, kV .u64 v8], bX 32 30 [dV t.Network.Stops, dV t.Network.Lines, dV t.Trips], bX 48 44 [kV .i64 0, kV .i64 0, kV .i64 0, kV .i64 0], bX 64 44 [dV r.1, dV ((w64 ((w64 (r.1 + 1)) + r5.1)).tmod (t.Network.Stops.length : Int)), dV from_, dV r1.1]], 96⟩) (fun vv Z => ?_) ?_
  ·rcases bf Z with ⟨hb, Z⟩ | ⟨hb, Z⟩
   ·obtain ⟨r6, h8, Z⟩ := obind Z
    rcases bf Z with ⟨hb1, Z⟩ | ⟨hb1, Z⟩
    ·obtain ⟨r7, h9, Z⟩ := obind Z
     refine re G (hN 2 t.Trips (hO 4 (.b true) (hP hb (hC 6 (zq78_M.c _ h8) (hO 8 (.b true) (hP hb1 (hC 10 (zq49_c h9) h0))))))) ?_
     exact wJ G Z
    ·refine re G (hN 2 t.Trips (hO 4 (.b true) (hP hb (hC 6 (zq78_M.c _ h8) (hO 8 (.b false) (hP hb1 h0)))))) ?_
     exact wJ G Z
   ·refine re G (hN 2 t.Trips (hO 4 (.b false) (hP hb h0))) ?_
    exact wJ G Z
  rintro ⟨v5, v6, v7, v8⟩ Z
  refine cd Z ?_ ?_ <;> intro Z
  ·obtain ⟨r10, h12, r11, h13, Z⟩ := ob2 Z
   refine ds G [(5, [0])] (hN 4 t.Trips (hC 5 (zq50_c h12) (hC 6 (zq80_M.c (_, _) h13) h0))) ?_
   obtain ⟨r12, h14, Z⟩ := obind Z
   refine rs G (hN 2 r11 (hC 4 (zq50_c h14) h0)) ?_
   obtain ⟨e, h15, Z⟩ := obind Z
   refine rs G (hD 2 h15 h0) ?_
   obtain ⟨r13, h16, e1, h17, Z⟩ := ob2 Z
   refine re G (hN 5 r11 (hC 9 (zq50_c h16) (hD 11 h17 h0))) ?_
   exact wJ G Z
  ·exact X_skip (wJ G Z)
 rintro ⟨v, v1, v2, v3, v4⟩ Z
 refine rg G ?_
 cases Z
 exact rt [] []
noncomputable def zq41_M : MS (l1Cur × Timetable) ((List Flow) × l1Cur) := ⟨.x (.b 150) .r, fun x => zq41 x.1 x.2, fun _ => .own 0, fun y => [arO 44 y.1], fun _ y => [bxO 150 y.2]⟩
theorem zq41_ok : FnOK Try.prog tJ 200 zq41_M.S := by
 refine fm tt zq41_M [fo zq50_ok, fo zq54_ok, fo zq53_ok, fo zq40_ok, fo zq36_ok, fo zq49_ok] call200 func200 rfl results200 ntmps200 ?_
 rintro ⟨c, t⟩ y cx G (Z : zq41 c t = some y)
 unfold zq41 at Z
 refine rg G (rg G (rg G (jn Z (fun (k, v, v1, v2) => ⟨[(0, .ref 0 0), (3, .ref 32 0), (5, .own 48), (6, dV k)], [bX 0 150 [dV v, dV v1, kV .u64 v2], bX 32 30 [dV t.Network.Stops, dV t.Network.Lines, dV t.Trips], aX 48 44 ([] : List Flow)], 80⟩) (fun vv3 Z => ?_) ?_)))
 ·refine rs G (hN 2 t.Trips h0) ?_
  refine cd Z ?_ ?_ <;> intro Z
  ·obtain ⟨e1, h4, r3, h5, r4, h6, Z⟩ := ob3 Z
   obtain ⟨r5, h7, Z⟩ := obind Z
   refine de G [(6, [0])] (hD 2 h4 (hC 6 (zq50_c h5) (hC 8 (zq54_M.c (_, _) h6) (hC 9 (zq53_c h7) h0)))) ?_
   exact wJ G Z
  ·exact X_skip (wJ G Z)
 rintro ⟨k, v, v1, v2⟩ Z
 refine Ok_seq ?_
 obtain ⟨r6, h8, Z⟩ := obind Z
 refine rs G (hC 1 (zq50_c h8) h0) ?_
 refine tl Z (fun (v6, v7, v8, n1) => ⟨[(0, .ref 0 0), (5, .own 32)], [bX 0 150 [dV v6, dV v7, kV .u64 v8], aX 32 44 n1], 64⟩) (fun vv2 Z => ?_) ?_
 ·refine Ok_block (lp G Z (fun (k1, x, v3, v4, v5, n) => ⟨[(0, .ref 0 0), (3, .ref 32 0), (5, .own 48), (6, dV k1), (7, dV x)], [bX 0 150 [dV v3, dV v4, kV .u64 v5], bX 32 30 [dV t.Network.Stops, dV t.Network.Lines, dV t.Trips], aX 48 44 n], 80⟩) ?_)
  rintro ⟨k1, x, v3, v4, v5, n⟩ r0 hb Z
  rw [zq41_L1] at Z
  refine Ok_seq (rg G (cd Z ?_ ?_)) <;> intro Z
  ·refine X_skip (thN (Ok_seq (Ok_block ?_)))
   obtain ⟨r7, h9, u, h10, Z⟩ := ob2 Z
   refine rs G (hC 4 (zq40_M.c (_, _, _) h9) (hA 6 32 h10 h0)) ?_
   obtain ⟨r8, h11, r9, h12, Z⟩ := ob2 Z
   refine re G (hO 3 (.fz [272] [] []) (hC 3 (zq36_M.c (_, _) h11) (hC 5 (zq53_c h12) h0))) ?_
   exact ibN (thN (rh G (wL G Z)))
  ·exact Ok_exit (thE (thE (ibE (wD G Z hb))))
 rintro ⟨v6, v7, v8, n1⟩ Z s hw
 refine thN (Ok_weak hw ?_)
 refine Ok_seq (rs G (hN 1 n1 h0) ?_)
 refine cd Z ?_ ?_ <;> intro Z
 ·refine rg G ?_
  cases Z
  exact rt [32] []
 ·refine X_skip (thN ?_)
  obtain ⟨r10, h13, Z⟩ := obind Z
  refine rs G (hN 2 n1 (hC 3 (zq50_c h13) h0)) ?_
  obtain ⟨e2, h14, Z⟩ := obind Z
  refine rs G (hD 2 h14 (hE 3 h14 h0)) ?_
  refine jn Z (fun (v9, v10, v11, v12, v13, v14) => ⟨[(0, .ref 0 0), (5, .own 32), (8, dV r10.1), (9, .ref 48 0)], [bX 0 150 [dV v9, dV v10, kV .u64 v11], aX 32 44 n1, bX 48 44 [dV e2.From, dV v12, dV v13, dV v14]], 80⟩) (fun vv1 Z => ?_) ?_
  ·obtain ⟨r11, h15, Z⟩ := obind Z
   refine rs G (hC 1 (zq50_c h15) h0) ?_
   refine Ok_block (rg G (cd Z ?_ ?_)) <;> intro Z
   ·obtain ⟨r12, h16, Z⟩ := obind Z
    refine re G (hO 2 (.fz [368] [] []) (hC 2 (zq36_M.c (_, _) h16) h0)) ?_
    exact ibN (wJ G Z)
   ·refine rg G (cd Z ?_ ?_) <;> intro Z
    ·obtain ⟨r13, h17, Z⟩ := obind Z
     refine re G (hO 4 (.fz [432] [] []) (hC 4 (zq36_M.c (_, _) h17) h0)) ?_
     exact ibN (wJ G Z)
    ·refine rg G (cd Z ?_ ?_) <;> intro Z
     ·obtain ⟨r14, h18, Z⟩ := obind Z
      refine re G (hO 2 (.fz [432] [] []) (hC 2 (zq36_M.c (_, _) h18) h0)) ?_
      exact ibN (wJ G Z)
     ·exact X_skip (ibN (wJ G Z))
  rintro ⟨v9, v10, v11, v12, v13, v14⟩ Z
  obtain ⟨e3, h19, Z⟩ := obind Z
  refine rs G (hD 3 h19 (hS 4 h19 (⟨e2.From, v12, v13, v14⟩ : Flow) h0)) ?_
  refine jn Z (fun (v15, v16, v17, n2) => ⟨[(0, .ref 0 0), (5, .own 32)], [bX 0 150 [dV v15, dV v16, kV .u64 v17], aX 32 44 n2], 64⟩) (fun vv Z => ?_) ?_
  ·obtain ⟨r15, h20, Z⟩ := obind Z
   refine jn Z (fun v18 => ⟨[(0, .ref 0 0), (5, .own 32), (88, dV v18)], [bX 0 150 [dV r15.2.code_, dV r15.2.at_, kV .u64 r15.2.seed_.v], aX 32 44 (n1.set r10.1.toNat (⟨e2.From, v12, v13, v14⟩ : Flow))], 64⟩) (fun v18 Z => ?_) ?_
   ·rcases bf Z with ⟨hb1, Z⟩ | ⟨hb1, Z⟩
    ·refine re G (hC 1 (zq49_c h20) (hO 2 (.b true) (hP hb1 (hN 4 (n1.set r10.1.toNat (⟨e2.From, v12, v13, v14⟩ : Flow)) h0)))) ?_
     exact wJ G Z
    ·refine re G (hC 1 (zq49_c h20) (hO 2 (.b false) (hP hb1 h0))) ?_
     exact wJ G Z
   rintro v18 Z
   refine cd Z ?_ ?_ <;> intro Z
   ·obtain ⟨e4, h21, u1, h22, Z⟩ := ob2 Z
    refine re G (hN 3 (n1.set r10.1.toNat (⟨e2.From, v12, v13, v14⟩ : Flow)) (hD 5 h21 (hE 6 h21 (hA 8 32 h22 h0)))) ?_
    exact wJ G Z
   ·exact X_skip (wJ G Z)
  rintro ⟨v15, v16, v17, n2⟩ Z
  refine rg G ?_
  cases Z
  exact rt [32] []
noncomputable def zq29_M : MS ((List UInt8)) (Timetable × (List Flow)) := ⟨.r, zq29, fun y => .tup [dV y.1, .own 0], fun y => [arO 44 y.2], fun _ _ => []⟩
theorem zq29_ok : FnOK Try.prog tJ 84 zq29_M.S := by
 refine fm tt zq29_M [fo zq39_ok, fo zq41_ok] call84 func84 rfl results84 ntmps84 ?_
 rintro code y cx G (Z : zq29 code = some y)
 unfold zq29 at Z
 refine rg G (rg G ?_)
 obtain ⟨r, h, Z⟩ := obind Z
 refine rs G (hC 1 (zq39_M.c _ h) h0) ?_
 refine Ok_weak (Wk_J (x' := (⟨[(2, .ref 16 0), (4, .ref 32 0), (5, .ref 48 0)], [bX 16 30 [.dat (.sc (.slice none 0 0)), .dat (.sc (.slice none 0 0)), .dat (.sc (.slice none 0 0))], bX 32 150 [dV r.2.code_, dV r.2.at_, kV .u64 r.2.seed_.v], bX 48 30 [dV r.1.Network.Stops, dV r.1.Network.Lines, dV r.1.Trips]], 80⟩ : X)) G.hL ⟨[(2, []), (4, []), (5, [])], [(16, 16, []), (32, 80, []), (48, 144, [])], [], 80⟩ (by kernel_rfl)) ?_
 obtain ⟨r2, h2, Z⟩ := obind Z
 refine ds G [(3, [32]), (4, [16])] (hC 3 (zq41_M.c (_, _) h2) h0) ?_
 cases Z
 exact rt [128] []
noncomputable def zq31_M : MS ((List UInt8)) (Timetable × (List Flow)) := ⟨.r, zq31, fun y => .tup [dV y.1, .own 0], fun y => [arO 44 y.2], fun _ _ => []⟩
theorem zq31_ok : FnOK Try.prog tJ 11 zq31_M.S := by
 refine fm tt zq31_M [fo zq29_ok] call11 func11 rfl results11 ntmps11 ?_
 rintro code y cx G (Z : zq31 code = some y)
 unfold zq31 at Z
 refine rg G ?_
 obtain ⟨r, h, Z⟩ := obind Z
 refine rs G (hC 1 (zq29_M.c _ h) h0) ?_
 cases Z
 exact rt [64] []
noncomputable def zq28_M : MS (Int × Int × Int) Bool := ⟨.x .r (.x .r .r), fun x => zq28 x.1 x.2.1 x.2.2, fun y => dV y, fun _ => [], fun _ _ => []⟩
theorem zq28_c {n lo hi y} (Z : zq28 n lo hi = some y) : zq28_M.C (n, lo, hi) y := zq28_M.c (n, lo, hi) Z
theorem zq28_ok : FnOK Try.prog tJ 114 zq28_M.S := by
 refine fm tt zq28_M [] call114 func114 rfl results114 ntmps114 ?_
 rintro ⟨n, lo, hi⟩ y cx G (Z : zq28 n lo hi = some y)
 unfold zq28 at Z
 refine rg G (jn Z (fun v => ⟨[(6, dV v)], [], 32⟩) (fun v Z => ?_) ?_)
 ·rcases bf Z with ⟨hb, Z⟩ | ⟨hb, Z⟩
  ·refine re G (hO 3 (.b true) (hP hb h0)) ?_
   exact wJ G Z
  ·refine re G (hO 3 (.b false) (hP hb h0)) ?_
   exact wJ G Z
 rintro v Z
 cases Z
 exact rt [] []
noncomputable def zq19_M : MS ByteArray Bool := ⟨.r, zq19, fun y => dV y, fun _ => [], fun _ _ => []⟩
theorem zq19_ok : FnOK Try.prog tJ 298 zq19_M.S := by
 refine fm tt zq19_M [] call298 func298 rfl results298 ntmps298 ?_
 rintro s y cx G (Z : zq19 s = some y)
 unfold zq19 at Z
 refine rg G (Ok_seq (jn Z (fun v => ⟨[(0, dV s), (12, dV v)], [], 32⟩) (fun v Z => ?_) ?_))
 ·rcases bf Z with ⟨hb, Z⟩ | ⟨hb, Z⟩
  ·refine re G (hO 3 (.b true) (hP hb h0)) ?_
   exact wJ G Z
  ·refine re G (hO 3 (.b false) (hP hb h0)) ?_
   exact wJ G Z
 rintro v Z
 refine cd Z ?_ ?_ <;> intro Z
 ·refine rg G ?_
  cases Z
  exact rt [] []
 ·refine X_skip (thN (Ok_seq (rg G (tF Z (fun _ => ⟨[], [], 32⟩) (fun v4 hr Z => ?_) ?_))))
  ·refine Ok_block (lp G Z (fun v1 => ⟨[(0, dV s), (14, dV (s.size : Int)), (15, dV v1)], [], 32⟩) ?_)
   rintro v1 r0 hb1 Z
   rw [zq19_L1] at Z
   refine rg G (Ok_seq (cd Z ?_ ?_)) <;> intro Z
   ·refine X_skip (thN (Ok_seq (Ok_block (rg G ?_))))
    obtain ⟨u, h, Z⟩ := obind Z
    refine jn Z (fun v2 => ⟨[(0, dV s), (3, dV v1), (4, dV v2), (14, dV (s.size : Int)), (15, dV v1)], [], 32⟩) (fun v2 Z => ?_) ?_
    ·rcases bf Z with ⟨hb2, Z⟩ | ⟨hb2, Z⟩
     ·obtain ⟨u1, h1, Z⟩ := obind Z
      refine re G (hK h (hO 4 (.b true) (hP hb2 (hK h1 h0)))) ?_
      exact wJ G Z
     ·refine re G (hK h (hO 4 (.b false) (hP hb2 h0))) ?_
      exact wJ G Z
    rintro v2 Z
    refine jn Z (fun v3 => ⟨[(0, dV s), (14, dV (s.size : Int)), (15, dV v1), (45, dV v3)], [], 32⟩) (fun v3 Z => ?_) ?_
    ·rcases bf Z with ⟨hb3, Z⟩ | ⟨hb3, Z⟩
     ·rcases bf Z with ⟨hb4, Z⟩ | ⟨hb4, Z⟩
      ·refine re G (hO 2 (.b true) (hP hb3 (hO 5 (.b true) (hP hb4 h0)))) ?_
       exact wJ G Z
      ·obtain ⟨u2, h2, Z⟩ := obind Z
       rcases bf Z with ⟨hb5, Z⟩ | ⟨hb5, Z⟩
       ·refine re G (hO 2 (.b true) (hP hb3 (hO 5 (.b false) (hP hb4 (hK h2 (hO 11 (.b true) (hP hb5 h0))))))) ?_
        exact wJ G Z
       ·obtain ⟨u3, h3, Z⟩ := obind Z
        refine re G (hO 2 (.b true) (hP hb3 (hO 5 (.b false) (hP hb4 (hK h2 (hO 11 (.b false) (hP hb5 (hK h3 h0)))))))) ?_
        exact wJ G Z
     ·refine re G (hO 2 (.b false) (hP hb3 h0)) ?_
      exact wJ G Z
    rintro v3 Z
    refine cd Z ?_ ?_ <;> intro Z
    ·refine rg G ?_
     have Z := eL Z hb1 hr
     cases Z
     exact rt [] []
    ·exact X_skip (ibN (thN (rh G (wL G Z))))
   ·exact Ok_exit (thE (thE (ibE (wE G Z hb1))))
  rintro ⟨⟩ Z s1 hw
  refine thN (Ok_weak hw ?_)
  refine rg G ?_
  cases Z
  exact rt [] []
noncomputable def zq84_M : MS ((List ByteArray) × ByteArray) Int := ⟨.x .r .r, fun x => zq84 x.1 x.2, fun y => dV y, fun _ => [], fun _ _ => []⟩
theorem zq84_ok : FnOK Try.prog tJ 299 zq84_M.S := by
 refine fm tt zq84_M [] call299 func299 rfl results299 ntmps299 ?_
 rintro ⟨s, v⟩ y cx G (Z : zq84 s v = some y)
 unfold zq84 at Z
 refine rg G (Ok_seq (rs G (hN 1 s h0) ?_))
 refine tF Z (fun _ => ⟨[], [], 32⟩) (fun v2 hr Z => ?_) ?_
 ·refine Ok_block (lp G Z (fun v1 => ⟨[(0, dV s), (1, dV v), (7, dV (s.length : Int)), (8, dV v1)], [], 32⟩) ?_)
  rintro v1 r0 hb Z
  rw [zq84_L1] at Z
  refine rg G (Ok_seq (cd Z ?_ ?_)) <;> intro Z
  ·refine X_skip (thN (Ok_seq (Ok_block (rg G ?_))))
   obtain ⟨e, h, Z⟩ := obind Z
   refine rs G (hD 3 h h0) ?_
   refine cd Z ?_ ?_ <;> intro Z
   ·refine rg G ?_
    have Z := eL Z hb hr
    cases Z
    exact rt [] []
   ·exact X_skip (ibN (thN (rh G (wL G Z))))
  ·exact Ok_exit (thE (thE (ibE (wE G Z hb))))
 rintro ⟨⟩ Z s1 hw
 refine thN (Ok_weak hw ?_)
 refine rg G ?_
 cases Z
 exact rt [] []
noncomputable def zq13_M : MS ((List ByteArray)) Bool := ⟨.r, zq13, fun y => dV y, fun _ => [], fun _ _ => []⟩
theorem zq13_ok : FnOK Try.prog tJ 262 zq13_M.S := by
 refine fm tt zq13_M [fo zq19_ok, fo zq84_ok] call262 func262 rfl results262 ntmps262 ?_
 rintro names y cx G (Z : zq13 names = some y)
 unfold zq13 at Z
 refine rg G (Ok_seq (rs G (hN 1 names h0) ?_))
 refine tF Z (fun _ => ⟨[], [], 32⟩) (fun v2 hr Z => ?_) ?_
 ·refine Ok_block (lp G Z (fun v => ⟨[(0, dV names), (5, dV names), (6, dV (names.length : Int)), (7, dV v)], [], 32⟩) ?_)
  rintro v r0 hb Z
  rw [zq13_L1] at Z
  refine rg G (Ok_seq (cd Z ?_ ?_)) <;> intro Z
  ·refine X_skip (thN (Ok_seq (Ok_block ?_)))
   obtain ⟨e, h, Z⟩ := obind Z
   refine rs G (hD 1 h h0) ?_
   obtain ⟨r, h1, Z⟩ := obind Z
   refine jn Z (fun v1 => ⟨[(0, dV names), (5, dV names), (6, dV (names.length : Int)), (7, dV v), (21, dV v1)], [], 32⟩) (fun v1 Z => ?_) ?_
   ·rcases bf Z with ⟨hb1, Z⟩ | ⟨hb1, Z⟩
    ·refine re G (hC 1 (zq19_M.c _ h1) (hO 3 (.b true) (hP hb1 h0))) ?_
     exact wJ G Z
    ·obtain ⟨r1, h2, Z⟩ := obind Z
     refine re G (hC 1 (zq19_M.c _ h1) (hO 3 (.b false) (hP hb1 (hC 6 (zq84_M.c (_, _) h2) h0)))) ?_
     exact wJ G Z
   rintro v1 Z
   refine cd Z ?_ ?_ <;> intro Z
   ·refine rg G ?_
    have Z := eL Z hb hr
    cases Z
    exact rt [] []
   ·exact X_skip (ibN (thN (rh G (wL G Z))))
  ·exact Ok_exit (thE (thE (ibE (wE G Z hb))))
 rintro ⟨⟩ Z s hw
 refine thN (Ok_weak hw ?_)
 refine rg G ?_
 cases Z
 exact rt [] []
noncomputable def zq22_M : MS Network ((List ByteArray)) := ⟨.r, zq22, fun _ => .own 0, fun y => [arO 9 y], fun _ _ => []⟩
theorem zq22_ok : FnOK Try.prog tJ 263 zq22_M.S := by
 refine fm tt zq22_M [] call263 func263 rfl results263 ntmps263 ?_
 rintro n y cx G (Z : zq22 n = some y)
 unfold zq22 at Z
 refine rg G ?_
 obtain ⟨u, h, Z⟩ := obind Z
 refine rs G (hN 2 n.Lines (hO 3 (.l (List.map Enc.e (List.replicate (n.Lines.length : Int).toNat (ByteArray.empty : ByteArray)))) (hP (mk_p (b := 16) (chk_t h) rfl) (hP (rep_m Enc.e (n.Lines.length : Int).toNat (ByteArray.empty : ByteArray)) h0)))) ?_
 refine Ok_seq (rs G (hN 2 n.Lines h0) ?_)
 refine tl Z (fun i1 => ⟨[(3, .own 16)], [aX 16 9 i1], 48⟩) (fun i1 Z => ?_) ?_
 ·refine Ok_block (lp G Z (fun (v, i) => ⟨[(3, .own 16), (11, dV n.Lines), (12, dV (n.Lines.length : Int)), (13, dV v)], [aX 16 9 i], 48⟩) ?_)
  rintro ⟨v, i⟩ r0 hb Z
  rw [zq22_L1] at Z
  refine rg G (Ok_seq (cd Z ?_ ?_)) <;> intro Z
  ·refine X_skip (thN (Ok_seq (Ok_block ?_)))
   obtain ⟨e, h1, Z⟩ := obind Z
   refine rs G (hD 1 h1 h0) ?_
   obtain ⟨e1, h2, Z⟩ := obind Z
   refine re G (hD 4 h2 (hS 5 h2 e.Name h0)) ?_
   exact ibN (thN (rh G (wL G Z)))
  ·exact Ok_exit (thE (thE (ibE (wD G Z hb))))
 rintro i1 Z s hw
 refine thN (Ok_weak hw ?_)
 refine rg G ?_
 cases Z
 exact rt [16] []
noncomputable def zq20_M : MS (Network × Int) Bool := ⟨.x .r .r, fun x => zq20 x.1 x.2, fun y => dV y, fun _ => [], fun _ _ => []⟩
theorem zq20_ok : FnOK Try.prog tJ 210 zq20_M.S := by
 refine fm tt zq20_M [] call210 func210 rfl results210 ntmps210 ?_
 rintro ⟨n, stop⟩ y cx G (Z : zq20 n stop = some y)
 unfold zq20 at Z
 refine rg G (jn Z (fun v => ⟨[(4, dV v)], [], 32⟩) (fun v Z => ?_) ?_)
 ·rcases bf Z with ⟨hb, Z⟩ | ⟨hb, Z⟩
  ·refine re G (hO 2 (.b true) (hP hb (hN 6 n.Stops h0))) ?_
   exact wJ G Z
  ·refine re G (hO 2 (.b false) (hP hb h0)) ?_
   exact wJ G Z
 rintro v Z
 cases Z
 exact rt [] []
noncomputable def zq83_M : MS ((List Int) × Int) Int := ⟨.x .r .r, fun x => zq83 x.1 x.2, fun y => dV y, fun _ => [], fun _ _ => []⟩
theorem zq83_ok : FnOK Try.prog tJ 212 zq83_M.S := by
 refine fm tt zq83_M [] call212 func212 rfl results212 ntmps212 ?_
 rintro ⟨s, v⟩ y cx G (Z : zq83 s v = some y)
 unfold zq83 at Z
 refine rg G (Ok_seq (rs G (hN 1 s h0) ?_))
 refine tF Z (fun _ => ⟨[], [], 32⟩) (fun v2 hr Z => ?_) ?_
 ·refine Ok_block (lp G Z (fun v1 => ⟨[(0, dV s), (1, dV v), (7, dV (s.length : Int)), (8, dV v1)], [], 32⟩) ?_)
  rintro v1 r0 hb Z
  rw [zq83_L1] at Z
  refine rg G (Ok_seq (cd Z ?_ ?_)) <;> intro Z
  ·refine X_skip (thN (Ok_seq (Ok_block (rg G ?_))))
   obtain ⟨e, h, Z⟩ := obind Z
   refine rs G (hD 3 h h0) ?_
   refine cd Z ?_ ?_ <;> intro Z
   ·refine rg G ?_
    have Z := eL Z hb hr
    cases Z
    exact rt [] []
   ·exact X_skip (ibN (thN (rh G (wL G Z))))
  ·exact Ok_exit (thE (thE (ibE (wE G Z hb))))
 rintro ⟨⟩ Z s1 hw
 refine thN (Ok_weak hw ?_)
 refine rg G ?_
 cases Z
 exact rt [] []
noncomputable def zq21_M : MS (Network × Line) Bool := ⟨.x .r .r, fun x => zq21 x.1 x.2, fun y => dV y, fun _ => [], fun _ _ => []⟩
theorem zq21_ok : FnOK Try.prog tJ 264 zq21_M.S := by
 refine fm tt zq21_M [fo zq28_ok, fo zq20_ok, fo zq83_ok] call264 func264 rfl results264 ntmps264 ?_
 rintro ⟨n, l⟩ y cx G (Z : zq21 n l = some y)
 unfold zq21 at Z
 refine rg G (Ok_seq ?_)
 obtain ⟨r, h, Z⟩ := obind Z
 refine jn Z (fun v => ⟨[(2, .ref 16 0), (3, .ref 32 0), (23, dV v)], [bX 16 27 [dV n.Stops, dV n.Lines], bX 32 177 [dV l.Name, dV l.Stops, dV l.Runs]], 64⟩) (fun v Z => ?_) ?_
 ·rcases bf Z with ⟨hb, Z⟩ | ⟨hb, Z⟩
  ·refine re G (hN 2 l.Stops (hC 3 (zq28_c h) (hO 5 (.b true) (hP hb h0)))) ?_
   exact wJ G Z
  ·refine re G (hN 2 l.Stops (hC 3 (zq28_c h) (hO 5 (.b false) (hP hb (hN 8 l.Runs (hN 11 l.Stops h0)))))) ?_
   exact wJ G Z
 rintro v Z
 refine cd Z ?_ ?_ <;> intro Z
 ·refine rg G ?_
  cases Z
  exact rt [] []
 ·refine X_skip (thN (Ok_seq (rs G (hN 2 l.Stops h0) ?_)))
  refine tF Z (fun _ => ⟨[(3, .ref 16 0)], [bX 16 177 [dV l.Name, dV l.Stops, dV l.Runs]], 48⟩) (fun v5 hr Z => ?_) ?_
  ·refine Ok_block (lp G Z (fun v1 => ⟨[(2, .ref 16 0), (3, .ref 32 0), (25, dV l.Stops), (26, dV (l.Stops.length : Int)), (27, dV v1)], [bX 16 27 [dV n.Stops, dV n.Lines], bX 32 177 [dV l.Name, dV l.Stops, dV l.Runs]], 64⟩) ?_)
   rintro v1 r0 hb1 Z
   rw [zq21_L1] at Z
   refine rg G (Ok_seq (cd Z ?_ ?_)) <;> intro Z
   ·refine X_skip (thN (Ok_seq (Ok_block ?_)))
    obtain ⟨e, h1, Z⟩ := obind Z
    refine rs G (hD 1 h1 h0) ?_
    obtain ⟨r1, h2, Z⟩ := obind Z
    refine jn Z (fun v2 => ⟨[(2, .ref 16 0), (3, .ref 32 0), (25, dV l.Stops), (26, dV (l.Stops.length : Int)), (27, dV v1), (43, dV v2)], [bX 16 27 [dV n.Stops, dV n.Lines], bX 32 177 [dV l.Name, dV l.Stops, dV l.Runs]], 64⟩) (fun v2 Z => ?_) ?_
    ·rcases bf Z with ⟨hb2, Z⟩ | ⟨hb2, Z⟩
     ·refine re G (hC 2 (zq20_M.c (_, _) h2) (hO 4 (.b true) (hP hb2 h0))) ?_
      exact wJ G Z
     ·obtain ⟨r2, h3, Z⟩ := obind Z
      refine re G (hC 2 (zq20_M.c (_, _) h2) (hO 4 (.b false) (hP hb2 (hC 8 (zq83_M.c (_, _) h3) h0)))) ?_
      exact wJ G Z
    rintro v2 Z
    refine cd Z ?_ ?_ <;> intro Z
    ·refine rg G ?_
     have Z := eL Z hb1 hr
     cases Z
     exact rt [] []
    ·exact X_skip (ibN (thN (rh G (wL G Z))))
   ·exact Ok_exit (thE (thE (ibE (wE G Z hb1))))
  rintro ⟨⟩ Z s hw
  refine thN (Ok_weak hw ?_)
  refine Ok_seq (rs G (hN 2 l.Runs h0) ?_)
  refine tF Z (fun _ => ⟨[], [], 32⟩) (fun v4 hr1 Z => ?_) ?_
  ·refine Ok_block (lp G Z (fun v3 => ⟨[(46, dV l.Runs), (47, dV (l.Runs.length : Int)), (48, dV v3)], [], 32⟩) ?_)
   rintro v3 r0 hb3 Z
   rw [zq21_L2] at Z
   refine rg G (Ok_seq (cd Z ?_ ?_)) <;> intro Z
   ·refine X_skip (thN (Ok_seq (Ok_block ?_)))
    obtain ⟨e2, h4, Z⟩ := obind Z
    refine rs G (hD 0 h4 h0) ?_
    obtain ⟨r4, h5, Z⟩ := obind Z
    refine rs G (hC 1 (zq28_c h5) h0) ?_
    refine cd Z ?_ ?_ <;> intro Z
    ·refine rg G ?_
     have Z := eL Z hb3 hr1
     cases Z
     exact rt [] []
    ·exact X_skip (ibN (thN (rh G (wL G Z))))
   ·exact Ok_exit (thE (thE (ibE (wE G Z hb3))))
  rintro ⟨⟩ Z s1 hw1
  refine thN (Ok_weak hw1 ?_)
  refine rg G ?_
  cases Z
  exact rt [] []
noncomputable def zq3_M : MS Network Bool := ⟨.r, zq3, fun y => dV y, fun _ => [], fun _ _ => []⟩
theorem zq3_ok : FnOK Try.prog tJ 205 zq3_M.S := by
 refine fm tt zq3_M [fo zq28_ok, fo zq13_ok, fo zq22_ok, fo zq21_ok] call205 func205 rfl results205 ntmps205 ?_
 rintro n y cx G (Z : zq3 n = some y)
 unfold zq3 at Z
 refine rg G (Ok_seq ?_)
 obtain ⟨r, h, Z⟩ := obind Z
 refine jn Z (fun v => ⟨[(1, .ref 16 0), (28, dV v)], [bX 16 27 [dV n.Stops, dV n.Lines]], 48⟩) (fun v Z => ?_) ?_
 ·rcases bf Z with ⟨hb, Z⟩ | ⟨hb, Z⟩
  ·refine re G (hN 2 n.Stops (hC 3 (zq28_c h) (hO 5 (.b true) (hP hb h0)))) ?_
   exact wJ G Z
  ·obtain ⟨r1, h1, Z⟩ := obind Z
   rcases bf Z with ⟨hb1, Z⟩ | ⟨hb1, Z⟩
   ·refine re G (hN 2 n.Stops (hC 3 (zq28_c h) (hO 5 (.b false) (hP hb (hN 8 n.Lines (hC 9 (zq28_c h1) (hO 12 (.b true) (hP hb1 h0)))))))) ?_
    exact wJ G Z
   ·obtain ⟨r2, h2, Z⟩ := obind Z
    rcases bf Z with ⟨hb2, Z⟩ | ⟨hb2, Z⟩
    ·refine re G (hN 2 n.Stops (hC 3 (zq28_c h) (hO 5 (.b false) (hP hb (hN 8 n.Lines (hC 9 (zq28_c h1) (hO 12 (.b false) (hP hb1 (hC 15 (zq13_M.c _ h2) (hO 18 (.b true) (hP hb2 h0))))))))))) ?_
     exact wJ G Z
    ·obtain ⟨r3, h3, r4, h4, Z⟩ := ob2 Z
     refine re G (hN 2 n.Stops (hC 3 (zq28_c h) (hO 5 (.b false) (hP hb (hN 8 n.Lines (hC 9 (zq28_c h1) (hO 12 (.b false) (hP hb1 (hC 15 (zq13_M.c _ h2) (hO 18 (.b false) (hP hb2 (hC 20 (zq22_M.c _ h3) (hC 21 (zq13_M.c _ h4) h0))))))))))))) ?_
     exact wJ G Z
 rintro v Z
 refine cd Z ?_ ?_ <;> intro Z
 ·refine rg G ?_
  cases Z
  exact rt [] []
 ·refine X_skip (thN (Ok_seq (rs G (hN 2 n.Lines h0) ?_)))
  refine tF Z (fun _ => ⟨[], [], 32⟩) (fun v2 hr Z => ?_) ?_
  ·refine Ok_block (lp G Z (fun v1 => ⟨[(1, .ref 16 0), (30, dV n.Lines), (31, dV (n.Lines.length : Int)), (32, dV v1)], [bX 16 27 [dV n.Stops, dV n.Lines]], 48⟩) ?_)
   rintro v1 r0 hb3 Z
   rw [zq3_L1] at Z
   refine rg G (Ok_seq (cd Z ?_ ?_)) <;> intro Z
   ·refine X_skip (thN (Ok_seq (Ok_block ?_)))
    obtain ⟨e, h5, Z⟩ := obind Z
    refine rs G (hD 0 h5 h0) ?_
    obtain ⟨r5, h6, Z⟩ := obind Z
    refine rs G (hC 2 (zq21_M.c (_, _) h6) h0) ?_
    refine cd Z ?_ ?_ <;> intro Z
    ·refine rg G ?_
     have Z := eL Z hb3 hr
     cases Z
     exact rt [] []
    ·exact X_skip (ibN (thN (rh G (wL G Z))))
   ·exact Ok_exit (thE (thE (ibE (wE G Z hb3))))
  rintro ⟨⟩ Z s hw
  refine thN (Ok_weak hw ?_)
  refine rg G ?_
  cases Z
  exact rt [] []
noncomputable def zq18_M : MS (Network × Int) Bool := ⟨.x .r .r, fun x => zq18 x.1 x.2, fun y => dV y, fun _ => [], fun _ _ => []⟩
theorem zq18_c {n line y} (Z : zq18 n line = some y) : zq18_M.C (n, line) y := zq18_M.c (n, line) Z
theorem zq18_ok : FnOK Try.prog tJ 222 zq18_M.S := by
 refine fm tt zq18_M [] call222 func222 rfl results222 ntmps222 ?_
 rintro ⟨n, line⟩ y cx G (Z : zq18 n line = some y)
 unfold zq18 at Z
 refine rg G (jn Z (fun v => ⟨[(4, dV v)], [], 32⟩) (fun v Z => ?_) ?_)
 ·rcases bf Z with ⟨hb, Z⟩ | ⟨hb, Z⟩
  ·refine re G (hO 2 (.b true) (hP hb (hN 6 n.Lines h0))) ?_
   exact wJ G Z
  ·refine re G (hO 2 (.b false) (hP hb h0)) ?_
   exact wJ G Z
 rintro v Z
 cases Z
 exact rt [] []
noncomputable def zq4_M : MS Int Bool := ⟨.r, zq4, fun y => dV y, fun _ => [], fun _ _ => []⟩
theorem zq4_c {t y} (Z : zq4 t = some y) : zq4_M.C t y := zq4_M.c t Z
theorem zq4_ok : FnOK Try.prog tJ 172 zq4_M.S := by
 refine fm tt zq4_M [fo zq28_ok] call172 func172 rfl results172 ntmps172 ?_
 rintro t y cx G (Z : zq4 t = some y)
 unfold zq4 at Z
 refine rg G ?_
 obtain ⟨r, h, Z⟩ := obind Z
 refine rs G (hC 1 (zq28_c h) h0) ?_
 cases Z
 exact rt [] []
noncomputable def zq27_M : MS ((List Int)) Int := ⟨.r, zq27, fun y => dV y, fun _ => [], fun _ _ => []⟩
theorem zq27_c {list y} (Z : zq27 list = some y) : zq27_M.C list y := zq27_M.c list Z
theorem zq27_ok : FnOK Try.prog tJ 85 zq27_M.S := by
 refine fm tt zq27_M [] call85 func85 rfl results85 ntmps85 ?_
 rintro list y cx G (Z : zq27 list = some y)
 unfold zq27 at Z
 refine rg G (rg G (Ok_seq (rs G (hN 1 list h0) ?_)))
 refine tl Z (fun v2 => ⟨[(3, dV v2)], [], 32⟩) (fun v2 Z => ?_) ?_
 ·refine Ok_block (lp G Z (fun (v, v1) => ⟨[(3, dV v), (6, dV list), (7, dV (list.length : Int)), (8, dV v1)], [], 32⟩) ?_)
  rintro ⟨v, v1⟩ r0 hb Z
  rw [zq27_L1] at Z
  refine rg G (Ok_seq (cd Z ?_ ?_)) <;> intro Z
  ·refine X_skip (thN (Ok_seq (Ok_block ?_)))
   obtain ⟨e, h, Z⟩ := obind Z
   refine rs G (hD 0 h h0) ?_
   exact rh G (ibN (thN (rh G (wL G Z))))
  ·exact Ok_exit (thE (thE (ibE (wD G Z hb))))
 rintro v2 Z s hw
 refine thN (Ok_weak hw ?_)
 refine rg G ?_
 cases Z
 exact rt [] []
noncomputable def zq16_M : MS (Timetable × Trip) Int := ⟨.x .r .r, fun x => zq16 x.1 x.2, fun y => dV y, fun _ => [], fun _ _ => []⟩
theorem zq16_ok : FnOK Try.prog tJ 256 zq16_M.S := by
 refine fm tt zq16_M [fo zq27_ok] call256 func256 rfl results256 ntmps256 ?_
 rintro ⟨t, x⟩ y cx G (Z : zq16 t x = some y)
 unfold zq16 at Z
 refine rg G ?_
 obtain ⟨e1, h2, r1, h3, Z⟩ := ob2 Z
 refine ds G [] (hD 7 h2 (hC 10 (zq27_c h3) h0)) ?_
 cases Z
 exact rt [] []
noncomputable def zq14_M : MS Timetable Bool := ⟨.r, zq14, fun y => dV y, fun _ => [], fun _ _ => []⟩
theorem zq14_ok : FnOK Try.prog tJ 206 zq14_M.S := by
 refine fm tt zq14_M [fo zq18_ok, fo zq4_ok, fo zq16_ok] call206 func206 rfl results206 ntmps206 ?_
 rintro t y cx G (Z : zq14 t = some y)
 unfold zq14 at Z
 refine rg G (Ok_seq (rs G (hN 2 t.Trips h0) ?_))
 refine cd Z ?_ ?_ <;> intro Z
 ·refine rg G ?_
  cases Z
  exact rt [] []
 ·refine X_skip (thN (rg G (Ok_seq (rs G (hN 2 t.Trips h0) ?_))))
  refine tF Z (fun _ => ⟨[], [], 32⟩) (fun v3 hr Z => ?_) ?_
  ·refine Ok_block (lp G Z (fun (v, v1) => ⟨[(1, .ref 16 0), (3, dV v), (11, dV t.Trips), (12, dV (t.Trips.length : Int)), (13, dV v1)], [bX 16 30 [dV t.Network.Stops, dV t.Network.Lines, dV t.Trips]], 48⟩) ?_)
   rintro ⟨v, v1⟩ r0 hb Z
   rw [zq14_L1] at Z
   refine rg G (Ok_seq (cd Z ?_ ?_)) <;> intro Z
   ·refine X_skip (thN (Ok_seq (Ok_block ?_)))
    obtain ⟨e, h, Z⟩ := obind Z
    refine rs G (hD 0 h h0) ?_
    refine Ok_seq (jn Z (fun v2 => ⟨[(1, .ref 16 0), (5, .ref 32 0), (11, dV t.Trips), (12, dV (t.Trips.length : Int)), (13, dV v1), (46, dV v2)], [bX 16 30 [dV t.Network.Stops, dV t.Network.Lines, dV t.Trips], bX 32 159 [dV e.Id, dV e.Line, dV e.Start]], 64⟩) (fun v2 Z => ?_) ?_)
    ·rcases bf Z with ⟨hb1, Z⟩ | ⟨hb1, Z⟩
     ·refine re G (hO 4 (.b true) (hP hb1 h0)) ?_
      exact wJ G Z
     ·rcases bf Z with ⟨hb2, Z⟩ | ⟨hb2, Z⟩
      ·refine re G (hO 4 (.b false) (hP hb1 (hO 9 (.b true) (hP hb2 h0)))) ?_
       exact wJ G Z
      ·obtain ⟨r, h1, Z⟩ := obind Z
       rcases bf Z with ⟨hb3, Z⟩ | ⟨hb3, Z⟩
       ·refine re G (hO 4 (.b false) (hP hb1 (hO 9 (.b false) (hP hb2 (hC 14 (zq18_c h1) (hO 17 (.b true) (hP hb3 h0))))))) ?_
        exact wJ G Z
       ·obtain ⟨r1, h2, Z⟩ := obind Z
        rcases bf Z with ⟨hb4, Z⟩ | ⟨hb4, Z⟩
        ·refine re G (hO 4 (.b false) (hP hb1 (hO 9 (.b false) (hP hb2 (hC 14 (zq18_c h1) (hO 17 (.b false) (hP hb3 (hC 20 (zq4_c h2) (hO 23 (.b true) (hP hb4 h0)))))))))) ?_
         exact wJ G Z
        ·obtain ⟨r2, h3, r3, h4, Z⟩ := ob2 Z
         refine re G (hO 4 (.b false) (hP hb1 (hO 9 (.b false) (hP hb2 (hC 14 (zq18_c h1) (hO 17 (.b false) (hP hb3 (hC 20 (zq4_c h2) (hO 23 (.b false) (hP hb4 (hC 26 (zq16_M.c (_, _) h3) (hC 27 (zq4_c h4) h0)))))))))))) ?_
         exact wJ G Z
    rintro v2 Z
    refine cd Z ?_ ?_ <;> intro Z
    ·refine rg G ?_
     have Z := eL Z hb hr
     cases Z
     exact rt [] []
    ·exact X_skip (thN (rh G (ibN (thN (rh G (wL G Z))))))
   ·exact Ok_exit (thE (thE (ibE (wE G Z hb))))
  rintro ⟨⟩ Z s hw
  refine thN (Ok_weak hw ?_)
  refine rg G ?_
  cases Z
  exact rt [] []
noncomputable def zq5_M : MS Timetable Bool := ⟨.r, zq5, fun y => dV y, fun _ => [], fun _ _ => []⟩
theorem zq5_ok : FnOK Try.prog tJ 89 zq5_M.S := by
 refine fm tt zq5_M [fo zq3_ok, fo zq14_ok] call89 func89 rfl results89 ntmps89 ?_
 rintro t y cx G (Z : zq5 t = some y)
 unfold zq5 at Z
 refine rg G ?_
 obtain ⟨r, h, Z⟩ := obind Z
 refine jn Z (fun v => ⟨[(2, dV v)], [], 32⟩) (fun v Z => ?_) ?_
 ·rcases bf Z with ⟨hb, Z⟩ | ⟨hb, Z⟩
  ·obtain ⟨r1, h1, Z⟩ := obind Z
   refine re G (hC 2 (zq3_M.c _ h) (hO 3 (.b true) (hP hb (hC 5 (zq14_M.c _ h1) h0)))) ?_
   exact wJ G Z
  ·refine re G (hC 2 (zq3_M.c _ h) (hO 3 (.b false) (hP hb h0))) ?_
   exact wJ G Z
 rintro v Z
 cases Z
 exact rt [] []
noncomputable def zq17_M : MS (Timetable × Flow) Bool := ⟨.x .r .r, fun x => zq17 x.1 x.2, fun y => dV y, fun _ => [], fun _ _ => []⟩
theorem zq17_ok : FnOK Try.prog tJ 97 zq17_M.S := by
 refine fm tt zq17_M [fo zq20_ok, fo zq4_ok, fo zq28_ok] call97 func97 rfl results97 ntmps97 ?_
 rintro ⟨t, f⟩ y cx G (Z : zq17 t f = some y)
 unfold zq17 at Z
 refine rg G ?_
 obtain ⟨r, h, Z⟩ := obind Z
 refine jn Z (fun v => ⟨[(4, dV v)], [], 32⟩) (fun v Z => ?_) ?_
 ·rcases bf Z with ⟨hb, Z⟩ | ⟨hb, Z⟩
  ·obtain ⟨r1, h1, Z⟩ := obind Z
   rcases bf Z with ⟨hb1, Z⟩ | ⟨hb1, Z⟩
   ·rcases bf Z with ⟨hb2, Z⟩ | ⟨hb2, Z⟩
    ·obtain ⟨r2, h2, Z⟩ := obind Z
     rcases bf Z with ⟨hb3, Z⟩ | ⟨hb3, Z⟩
     ·obtain ⟨r3, h3, Z⟩ := obind Z
      refine re G (hC 4 (zq20_M.c (_, _) h) (hO 5 (.b true) (hP hb (hC 10 (zq20_M.c (_, _) h1) (hO 12 (.b true) (hP hb1 (hO 19 (.b true) (hP hb2 (hC 22 (zq4_c h2) (hO 24 (.b true) (hP hb3 (hC 27 (zq28_c h3) h0)))))))))))) ?_
      exact wJ G Z
     ·refine re G (hC 4 (zq20_M.c (_, _) h) (hO 5 (.b true) (hP hb (hC 10 (zq20_M.c (_, _) h1) (hO 12 (.b true) (hP hb1 (hO 19 (.b true) (hP hb2 (hC 22 (zq4_c h2) (hO 24 (.b false) (hP hb3 h0))))))))))) ?_
      exact wJ G Z
    ·refine re G (hC 4 (zq20_M.c (_, _) h) (hO 5 (.b true) (hP hb (hC 10 (zq20_M.c (_, _) h1) (hO 12 (.b true) (hP hb1 (hO 19 (.b false) (hP hb2 h0)))))))) ?_
     exact wJ G Z
   ·refine re G (hC 4 (zq20_M.c (_, _) h) (hO 5 (.b true) (hP hb (hC 10 (zq20_M.c (_, _) h1) (hO 12 (.b false) (hP hb1 h0)))))) ?_
    exact wJ G Z
  ·refine re G (hC 4 (zq20_M.c (_, _) h) (hO 5 (.b false) (hP hb h0))) ?_
   exact wJ G Z
 rintro v Z
 cases Z
 exact rt [] []
noncomputable def zq12_M : MS (Timetable × (List Flow)) Bool := ⟨.x .r .r, fun x => zq12 x.1 x.2, fun y => dV y, fun _ => [], fun _ _ => []⟩
theorem zq12_ok : FnOK Try.prog tJ 90 zq12_M.S := by
 refine fm tt zq12_M [fo zq17_ok] call90 func90 rfl results90 ntmps90 ?_
 rintro ⟨t, list⟩ y cx G (Z : zq12 t list = some y)
 unfold zq12 at Z
 refine rg G (Ok_seq (rs G (hN 1 list h0) ?_))
 refine cd Z ?_ ?_ <;> intro Z
 ·refine rg G ?_
  cases Z
  exact rt [] []
 ·refine X_skip (thN (Ok_seq (rs G (hN 1 list h0) ?_)))
  refine tF Z (fun _ => ⟨[], [], 32⟩) (fun v2 hr Z => ?_) ?_
  ·refine Ok_block (lp G Z (fun v => ⟨[(1, dV list), (2, .ref 16 0), (10, dV list), (11, dV (list.length : Int)), (12, dV v)], [bX 16 30 [dV t.Network.Stops, dV t.Network.Lines, dV t.Trips]], 48⟩) ?_)
   rintro v r0 hb Z
   rw [zq12_L1] at Z
   refine rg G (Ok_seq (cd Z ?_ ?_)) <;> intro Z
   ·refine X_skip (thN (Ok_seq (Ok_block ?_)))
    obtain ⟨e, h, Z⟩ := obind Z
    refine rs G (hD 1 h h0) ?_
    obtain ⟨r1, h3, Z⟩ := obind Z
    refine jn Z (fun v1 => ⟨[(1, dV list), (2, .ref 16 0), (10, dV list), (11, dV (list.length : Int)), (12, dV v), (35, dV v1)], [bX 16 30 [dV t.Network.Stops, dV t.Network.Lines, dV t.Trips]], 48⟩) (fun v1 Z => ?_) ?_
    ·rcases bf Z with ⟨hb1, Z⟩ | ⟨hb1, Z⟩
     ·refine de G [] (hC 2 (zq17_M.c (_, _) h3) (hO 4 (.b true) (hP hb1 h0))) ?_
      exact wJ G Z
     ·rcases bf Z with ⟨hb2, Z⟩ | ⟨hb2, Z⟩
      ·obtain ⟨e2, h4, Z⟩ := obind Z
       refine de G [] (hC 2 (zq17_M.c (_, _) h3) (hO 4 (.b false) (hP hb1 (hO 7 (.b true) (hP hb2 (hD 13 h4 h0)))))) ?_
       exact wJ G Z
      ·refine de G [] (hC 2 (zq17_M.c (_, _) h3) (hO 4 (.b false) (hP hb1 (hO 7 (.b false) (hP hb2 h0))))) ?_
       exact wJ G Z
    rintro v1 Z
    refine cd Z ?_ ?_ <;> intro Z
    ·refine rg G ?_
     have Z := eL Z hb hr
     cases Z
     exact rt [] []
    ·exact X_skip (ibN (thN (rh G (wL G Z))))
   ·exact Ok_exit (thE (thE (ibE (wE G Z hb))))
  rintro ⟨⟩ Z s hw
  refine thN (Ok_weak hw ?_)
  refine rg G ?_
  cases Z
  exact rt [] []
noncomputable def zq2_M : MS (Timetable × (List Flow)) Bool := ⟨.x .r .r, fun x => zq2 x.1 x.2, fun y => dV y, fun _ => [], fun _ _ => []⟩
theorem zq2_ok : FnOK Try.prog tJ 14 zq2_M.S := by
 refine fm tt zq2_M [fo zq5_ok, fo zq12_ok] call14 func14 rfl results14 ntmps14 ?_
 rintro ⟨t, list⟩ y cx G (Z : zq2 t list = some y)
 unfold zq2 at Z
 refine rg G ?_
 obtain ⟨r, h, Z⟩ := obind Z
 refine jn Z (fun v => ⟨[(4, dV v)], [], 32⟩) (fun v Z => ?_) ?_
 ·rcases bf Z with ⟨hb, Z⟩ | ⟨hb, Z⟩
  ·obtain ⟨r1, h1, Z⟩ := obind Z
   refine re G (hC 1 (zq5_M.c _ h) (hO 2 (.b true) (hP hb (hC 5 (zq12_M.c (_, _) h1) h0)))) ?_
   exact wJ G Z
  ·refine re G (hC 1 (zq5_M.c _ h) (hO 2 (.b false) (hP hb h0))) ?_
   exact wJ G Z
 rintro v Z
 cases Z
 exact rt [] []
noncomputable def zq23_M : MS (Timetable × Trip) Line := ⟨.x .r .r, fun x => zq23 x.1 x.2, fun y => dV y, fun _ => [], fun _ _ => []⟩
theorem zq23_ok : FnOK Try.prog tJ 201 zq23_M.S := by
 refine fm tt zq23_M [] call201 func201 rfl results201 ntmps201 ?_
 rintro ⟨t, x⟩ y cx G (Z : zq23 t x = some y)
 unfold zq23 at Z
 refine rg G ?_
 obtain ⟨e, h, Z⟩ := obind Z
 refine rs G (hD 5 h h0) ?_
 cases Z
 exact rt [] []
noncomputable def zq26_M : MS (Timetable × Trip) ((List Int)) := ⟨.x .r .r, fun x => zq26 x.1 x.2, fun _ => .own 0, fun y => [arO 3 y], fun _ _ => []⟩
theorem zq26_ok : FnOK Try.prog tJ 211 zq26_M.S := by
 refine fm tt zq26_M [fo zq23_ok] call211 func211 rfl results211 ntmps211 ?_
 rintro ⟨t, x⟩ y cx G (Z : zq26 t x = some y)
 unfold zq26 at Z
 refine rg G (rg G (Ok_seq ?_))
 obtain ⟨r, h, Z⟩ := obind Z
 refine rs G (hC 2 (zq23_M.c (_, _) h) (hN 4 r.Runs h0)) ?_
 refine tl Z (fun r2 => ⟨[(5, .own 16)], [aX 16 3 r2], 48⟩) (fun r2 Z => ?_) ?_
 ·refine Ok_block (lp G Z (fun (v, r1) => ⟨[(5, .own 16), (14, dV r.Runs), (15, dV (r.Runs.length : Int)), (16, dV v)], [aX 16 3 r1], 48⟩) ?_)
  rintro ⟨v, r1⟩ r0 hb Z
  rw [zq26_L1] at Z
  refine rg G (Ok_seq (cd Z ?_ ?_)) <;> intro Z
  ·refine X_skip (thN (Ok_seq (Ok_block ?_)))
   obtain ⟨e, h1, Z⟩ := obind Z
   refine rs G (hD 1 h1 h0) ?_
   obtain ⟨e1, h2, u, h3, Z⟩ := ob2 Z
   refine re G (hD 3 h2 (hE 4 h2 (hA 8 8 h3 h0))) ?_
   exact ibN (thN (rh G (wL G Z)))
  ·exact Ok_exit (thE (thE (ibE (wD G Z hb))))
 rintro r2 Z s hw
 refine thN (Ok_weak hw ?_)
 refine rg G ?_
 cases Z
 exact rt [16] []
noncomputable def zq1_M : MS Int Bool := ⟨.r, zq1, fun y => dV y, fun _ => [], fun _ _ => []⟩
theorem zq1_ok : FnOK Try.prog tJ 243 zq1_M.S := by
 refine fm tt zq1_M [] call243 func243 rfl results243 ntmps243 ?_
 rintro x y cx G (Z : zq1 x = some y)
 unfold zq1 at Z
 refine rg G (rg G ?_)
 cases Z
 exact rt [] []
noncomputable def zq0_M : MS (Int × Int) Int := ⟨.x .r .r, fun x => zq0 x.1 x.2, fun y => dV y, fun _ => [], fun _ _ => []⟩
theorem zq0_ok : FnOK Try.prog tJ 169 zq0_M.S := by
 refine fm tt zq0_M [fo zq1_ok] call169 func169 rfl results169 ntmps169 ?_
 rintro ⟨x, y_⟩ y cx G (Z : zq0 x y_ = some y)
 unfold zq0 at Z
 refine rg G ?_
 obtain ⟨r, h, Z⟩ := obind Z
 refine rs G (hC 1 (zq1_M.c _ h) h0) ?_
 obtain ⟨r1, h1, Z⟩ := obind Z
 refine rs G (hC 1 (zq1_M.c _ h1) h0) ?_
 refine Ok_seq (rg G (cd Z ?_ ?_)) <;> intro Z
 ·refine Ok_seq (rg G (cd Z ?_ ?_)) <;> intro Z
  ·refine rg G ?_
   cases Z
   exact rt [] []
  ·refine X_skip (thN (rg G ?_))
   cases Z
   exact rt [] []
 ·refine X_skip (thN (Ok_seq (rg G (cd Z ?_ ?_)))) <;> intro Z
  ·refine rg G ?_
   cases Z
   exact rt [] []
  ·refine X_skip (thN (Ok_seq (rg G (cd Z ?_ ?_)))) <;> intro Z
   ·refine rg G ?_
    cases Z
    exact rt [] []
   ·refine X_skip (thN (Ok_seq (rg G (cd Z ?_ ?_)))) <;> intro Z
    ·refine rg G ?_
     cases Z
     exact rt [] []
    ·refine X_skip (thN (rg G ?_))
     cases Z
     exact rt [] []
noncomputable def zq25_M : MS (service × service) Int := ⟨.x .r .r, fun x => zq25 x.1 x.2, fun y => dV y, fun _ => [], fun _ _ => []⟩
theorem zq25_ok : FnOK Try.prog tJ 214 zq25_M.S := by
 refine fm tt zq25_M [fo zq0_ok] call214 func214 rfl results214 ntmps214 ?_
 rintro ⟨a, b⟩ y cx G (Z : zq25 a b = some y)
 unfold zq25 at Z
 refine rg G ?_
 obtain ⟨r, h, Z⟩ := obind Z
 refine rs G (hC 4 (zq0_M.c (_, _) h) h0) ?_
 cases Z
 exact rt [] []
noncomputable def zq88_M : MS ((List service) × Int × Int) ((List service)) := ⟨⟨[.sl, .rd, .rd, .fn 214 []], fun x => [.sc undef, Enc.e x.2.1, Enc.e x.2.2, .agg []], fun x => [arO 157 x.1], 1, 1, fun _ => rfl, fun _ => rfl, rfl, (by
  rintro ⟨a0, a1, a2⟩ ⟨b0, b1, b2⟩ h hO
  have q0 : a0 = b0 := Enc.inj _ _ (congrArg (fun l => D.sl 4 (obL l 0)) hO)
  have q1 : a1 = b1 := qI 1 h
  have q2 : a2 = b2 := qI 2 h
  subst q0; subst q1; subst q2; rfl)⟩, fun x => zq88 x.1 x.2.1 x.2.2, fun _ => .tup [], fun _ => [], fun _ y => [arO 157 y]⟩
theorem zq88_ok : FnOK Try.prog tJ 300 zq88_M.S := by
 refine fm tt zq88_M [fo zq25_ok] call300 func300 rfl results300 ntmps300 ?_
 rintro ⟨data, a, b⟩ y cx G (Z : zq88 data a b = some y)
 obtain ⟨cmp, hf_cmp⟩ : ∃ q, (fun (z0 : service) (z1 : service) => zq25 z0 z1) = q := ⟨_, rfl⟩
 have Z : zq87 data a b cmp = some y := by rw [← hf_cmp]; exact Z
 unfold zq87 at Z
 refine rg G (Ok_block (lp G Z (fun (v, data1) => ⟨[(0, .own 0), (1, dV a), (2, dV b), (3, .fn 214 []), (8, dV v)], [aX 0 157 data1], 48⟩) ?_))
 rintro ⟨v, data1⟩ r0 hb Z
 rw [zq87_L2] at Z
 refine Ok_seq (rg G (cd Z ?_ ?_)) <;> intro Z
 ·refine X_skip (thN (Ok_seq (Ok_block (rg G (tl Z (fun data3 => ⟨[(0, .own 0), (1, dV a), (2, dV b), (3, .fn 214 []), (8, dV v)], [aX 0 157 data3], 48⟩) (fun data3 Z => ?_) ?_)))))
  ·refine Ok_block (lp G Z (fun (v1, data2) => ⟨[(0, .own 0), (1, dV a), (2, dV b), (3, .fn 214 []), (8, dV v), (9, dV v1)], [aX 0 157 data2], 48⟩) ?_)
   rintro ⟨v1, data2⟩ r0 hb1 Z
   rw [zq87_L1] at Z
   refine Ok_seq (jn Z (fun v2 => ⟨[(0, .own 0), (1, dV a), (2, dV b), (3, .fn 214 []), (8, dV v), (9, dV v1), (34, dV v2)], [aX 0 157 data2], 48⟩) (fun v2 Z => ?_) ?_)
   ·rcases bf Z with ⟨hb2, Z⟩ | ⟨hb2, Z⟩
    ·obtain ⟨e2, h3, e3, h4, r1, h5, Z⟩ := ob3 Z
     have h5 : zq25 e2 e3 = some r1 := by rw [← hf_cmp] at h5; exact h5
     refine de G [(14, [])] (hO 3 (.b true) (hP hb2 (hD 7 h3 (hE 8 h3 (hD 12 h4 (hE 13 h4 (hC 14 (zq25_M.c (_, _) h5) h0))))))) ?_
     exact wJ G Z
    ·refine de G [(14, [])] (hO 3 (.b false) (hP hb2 h0)) ?_
     exact wJ G Z
   rintro v2 Z
   refine cd Z ?_ ?_ <;> intro Z
   ·refine X_skip (thN (Ok_seq (Ok_block ?_)))
    obtain ⟨e8, h10, e9, h11, e10, h12, Z⟩ := ob3 Z
    obtain ⟨e11, h13, Z⟩ := obind Z
    refine de G [(15, [0]), (17, [0])] (hD 8 h10 (hE 9 h10 (hD 12 h11 (hE 13 h11 (hD 14 h12 (hS 15 h12 e8 (hD 16 h13 (hS 17 h13 e9 h0)))))))) ?_
    exact ibN (thN (rh G (wL G Z)))
   ·exact Ok_exit (thE (thE (ibE (wD G Z hb1))))
  rintro data3 Z s hw
  refine ibN (thN (Ok_weak hw ?_))
  exact rh G (wL G Z)
 ·have Z := eD Z hb
  refine Ok_exit (thE (thE (ibE ?_)))
  cases Z
  exact fN [] []
noncomputable def zq93_M : MS ((List service) × Int × Int × Int) ((List service)) := ⟨⟨[.sl, .rd, .rd, .rd, .fn 214 []], fun x => [.sc undef, Enc.e x.2.1, Enc.e x.2.2.1, Enc.e x.2.2.2, .agg []], fun x => [arO 157 x.1], 1, 1, fun _ => rfl, fun _ => rfl, rfl, (by
  rintro ⟨a0, a1, a2, a3⟩ ⟨b0, b1, b2, b3⟩ h hO
  have q0 : a0 = b0 := Enc.inj _ _ (congrArg (fun l => D.sl 4 (obL l 0)) hO)
  have q1 : a1 = b1 := qI 1 h
  have q2 : a2 = b2 := qI 2 h
  have q3 : a3 = b3 := qI 3 h
  subst q0; subst q1; subst q2; subst q3; rfl)⟩, fun x => zq93 x.1 x.2.1 x.2.2.1 x.2.2.2, fun _ => .tup [], fun _ => [], fun _ y => [arO 157 y]⟩
theorem zq93_ok : FnOK Try.prog tJ 315 zq93_M.S := by
 refine fm tt zq93_M [] call315 func315 rfl results315 ntmps315 ?_
 rintro ⟨data, a, b, n⟩ y cx G (Z : zq93 data a b n = some y)
 obtain ⟨cmp, hf_cmp⟩ : ∃ q, (fun (z0 : service) (z1 : service) => zq25 z0 z1) = q := ⟨_, rfl⟩
 have Z : zq92 data a b n cmp = some y := by rw [← hf_cmp]; exact Z
 unfold zq92 at Z
 refine rg G (Ok_block (lp G Z (fun (v, data1) => ⟨[(0, .own 0), (1, dV a), (2, dV b), (3, dV n), (4, .fn 214 []), (10, dV v)], [aX 0 157 data1], 48⟩) ?_))
 rintro ⟨v, data1⟩ r0 hb Z
 rw [zq92_L1] at Z
 refine Ok_seq (rg G (cd Z ?_ ?_)) <;> intro Z
 ·refine X_skip (thN (Ok_seq (Ok_block ?_)))
  obtain ⟨e4, h4, e5, h5, e6, h6, Z⟩ := ob3 Z
  obtain ⟨e7, h7, Z⟩ := obind Z
  refine de G [(21, [0]), (23, [0])] (hD 12 h4 (hE 13 h4 (hD 18 h5 (hE 19 h5 (hD 20 h6 (hS 21 h6 e4 (hD 22 h7 (hS 23 h7 e5 h0)))))))) ?_
  exact ibN (thN (rh G (wL G Z)))
 ·have Z := eD Z hb
  refine Ok_exit (thE (thE (ibE ?_)))
  cases Z
  exact fN [] []
noncomputable def zq90_M : MS ((List service) × Int × Int × Int) ((List service)) := ⟨⟨[.sl, .rd, .rd, .rd, .fn 214 []], fun x => [.sc undef, Enc.e x.2.1, Enc.e x.2.2.1, Enc.e x.2.2.2, .agg []], fun x => [arO 157 x.1], 1, 1, fun _ => rfl, fun _ => rfl, rfl, (by
  rintro ⟨a0, a1, a2, a3⟩ ⟨b0, b1, b2, b3⟩ h hO
  have q0 : a0 = b0 := Enc.inj _ _ (congrArg (fun l => D.sl 4 (obL l 0)) hO)
  have q1 : a1 = b1 := qI 1 h
  have q2 : a2 = b2 := qI 2 h
  have q3 : a3 = b3 := qI 3 h
  subst q0; subst q1; subst q2; subst q3; rfl)⟩, fun x => zq90 x.1 x.2.1 x.2.2.1 x.2.2.2, fun _ => .tup [], fun _ => [], fun _ y => [arO 157 y]⟩
theorem zq90_ok : FnOK Try.prog tJ 312 zq90_M.S := by
 refine fm tt zq90_M [fo zq93_ok] call312 func312 rfl results312 ntmps312 ?_
 rintro ⟨data, a, m, b⟩ y cx G (Z : zq90 data a m b = some y)
 obtain ⟨cmp, hf_cmp⟩ : ∃ q, (fun (z0 : service) (z1 : service) => zq25 z0 z1) = q := ⟨_, rfl⟩
 have Z : zq89 data a m b cmp = some y := by rw [← hf_cmp]; exact Z
 unfold zq89 at Z
 refine rg G (rg G (jn Z (fun (v2, data2) => ⟨[(0, .own 0), (2, dV m), (4, .fn 214 []), (10, dV v2)], [aX 0 157 data2], 48⟩) (fun vv Z => ?_) ?_))
 ·refine Ok_block (lp G Z (fun (v, v1, data1) => ⟨[(0, .own 0), (2, dV m), (4, .fn 214 []), (10, dV v), (11, dV v1)], [aX 0 157 data1], 48⟩) ?_)
  rintro ⟨v, v1, data1⟩ r0 hb Z
  rw [zq89_L1] at Z
  refine Ok_seq (rg G (cd Z ?_ ?_)) <;> intro Z
  ·refine X_skip (thN (Ok_block (rg G (cd Z ?_ ?_)))) <;> intro Z
   ·obtain ⟨r, h, Z⟩ := obind Z
    have h : zq93 data1 (w64 (m - v)) m v1 = some r := by rw [← hf_cmp] at h; exact h
    refine rs G (hC 7 (zq93_M.c (_, _, _, _) h) h0) ?_
    exact rh G (ibN (wL G Z))
   ·obtain ⟨r1, h1, Z⟩ := obind Z
    have h1 : zq93 data1 (w64 (m - v)) (w64 ((w64 (m + v1)) - v)) v = some r1 := by rw [← hf_cmp] at h1; exact h1
    refine rs G (hC 11 (zq93_M.c (_, _, _, _) h1) h0) ?_
    exact rh G (ibN (wL G Z))
  ·exact Ok_exit (thE (thE (ibE (wD G Z hb))))
 rintro ⟨v2, data2⟩ Z
 obtain ⟨r2, h2, Z⟩ := obind Z
 have h2 : zq93 data2 (w64 (m - v2)) m v2 = some r2 := by rw [← hf_cmp] at h2; exact h2
 refine re G (hC 7 (zq93_M.c (_, _, _, _) h2) h0) ?_
 cases Z
 exact fN [] []
noncomputable def zq94_MR (rec_ : (List service) → Int → Int → Int → Option ((List service))) : MS ((List service) × Int × Int × Int) ((List service)) := ⟨⟨[.sl, .rd, .rd, .rd, .fn 214 []], fun x => [.sc undef, Enc.e x.2.1, Enc.e x.2.2.1, Enc.e x.2.2.2, .agg []], fun x => [arO 157 x.1], 1, 1, fun _ => rfl, fun _ => rfl, rfl, (by
  rintro ⟨a0, a1, a2, a3⟩ ⟨b0, b1, b2, b3⟩ h hO
  have q0 : a0 = b0 := Enc.inj _ _ (congrArg (fun l => D.sl 4 (obL l 0)) hO)
  have q1 : a1 = b1 := qI 1 h
  have q2 : a2 = b2 := qI 2 h
  have q3 : a3 = b3 := qI 3 h
  subst q0; subst q1; subst q2; subst q3; rfl)⟩, fun x => rec_ x.1 x.2.1 x.2.2.1 x.2.2.2, fun _ => .tup [], fun _ => [], fun _ y => [arO 157 y]⟩
noncomputable def zq94_M : MS ((List service) × Int × Int × Int) ((List service)) := zq94_MR zq94
theorem zq94_cR {rec_ : (List service) → Int → Int → Int → Option ((List service))} {data a m b y} (Z : rec_ data a m b = some y) : (zq94_MR rec_).C (data, a, m, b) y := (zq94_MR rec_).c (data, a, m, b) Z
theorem zq94_okF {rec_ : (List service) → Int → Int → Int → Option ((List service))} (hrec : FnOK Try.prog tJ 301 (zq94_MR rec_).S) : FnOK Try.prog tJ 301 (zq94_MR (zq94_F rec_)).S := by
 refine fm tt (zq94_MR (zq94_F rec_)) [fo hrec, fo zq25_ok, fo zq90_ok] call301 func301 rfl results301 ntmps301 ?_
 rintro ⟨data, a, m, b⟩ y cx G (Z : zq94_F rec_ data a m b = some y)
 unfold zq94_F at Z
 refine Ok_seq (rg G (cd Z ?_ ?_)) <;> intro Z
 ·refine rg G (rg G (jn Z (fun j1 => ⟨[(0, .own 0), (1, dV a), (4, .fn 214 []), (10, dV j1)], [aX 0 157 data], 48⟩) (fun j1 Z => ?_) ?_))
  ·refine Ok_block (lp G Z (fun (j, h) => ⟨[(0, .own 0), (1, dV a), (4, .fn 214 []), (10, dV j), (11, dV h)], [aX 0 157 data], 48⟩) ?_)
   rintro ⟨j, h⟩ r0 hb Z
   rw [zq94_L1] at Z
   refine Ok_seq (rg G (cd Z ?_ ?_)) <;> intro Z
   ·refine X_skip (thN (Ok_block ?_))
    obtain ⟨u, h1, Z⟩ := obind Z
    refine rs G (hK h1 h0) ?_
    obtain ⟨e2, h5, e3, h6, r1, h7, Z⟩ := ob3 Z
    refine ds G [(9, [])] (hD 3 h5 (hE 4 h5 (hD 7 h6 (hE 8 h6 (hC 9 (zq25_M.c (_, _) h7) h0))))) ?_
    refine cd Z ?_ ?_ <;> intro Z
    ·exact rh G (ibN (wL G Z))
    ·exact rh G (ibN (wL G Z))
   ·exact Ok_exit (thE (thE (ibE (wD G Z hb))))
  rintro j1 Z
  refine Ok_seq (rg G (tl Z (fun data2 => ⟨[(0, .own 0), (4, .fn 214 [])], [aX 0 157 data2], 48⟩) (fun data2 Z => ?_) ?_))
  ·refine Ok_block (lp G Z (fun (mid, data1) => ⟨[(0, .own 0), (4, .fn 214 []), (10, dV j1), (13, dV mid)], [aX 0 157 data1], 48⟩) ?_)
   rintro ⟨mid, data1⟩ r0 hb1 Z
   rw [zq94_L2] at Z
   refine Ok_seq (rg G (cd Z ?_ ?_)) <;> intro Z
   ·refine X_skip (thN (Ok_seq (Ok_block ?_)))
    obtain ⟨e8, h12, e9, h13, e10, h14, Z⟩ := ob3 Z
    obtain ⟨e11, h15, Z⟩ := obind Z
    refine de G [(15, [0]), (17, [0])] (hD 8 h12 (hE 9 h12 (hD 12 h13 (hE 13 h13 (hD 14 h14 (hS 15 h14 e8 (hD 16 h15 (hS 17 h15 e9 h0)))))))) ?_
    exact ibN (thN (rh G (wL G Z)))
   ·exact Ok_exit (thE (thE (ibE (wD G Z hb1))))
  rintro data2 Z s hw
  refine thN (Ok_weak hw ?_)
  cases Z
  exact rt [] []
 ·refine X_skip (thN (Ok_seq (rg G (cd Z ?_ ?_)))) <;> intro Z
  ·refine rg G (rg G (jn Z (fun n1 => ⟨[(0, .own 0), (2, dV m), (4, .fn 214 []), (14, dV n1)], [aX 0 157 data], 48⟩) (fun n1 Z => ?_) ?_))
   ·refine Ok_block (lp G Z (fun (n, start) => ⟨[(0, .own 0), (2, dV m), (4, .fn 214 []), (14, dV n), (15, dV start)], [aX 0 157 data], 48⟩) ?_)
    rintro ⟨n, start⟩ r0 hb2 Z
    rw [zq94_L3] at Z
    refine Ok_seq (rg G (cd Z ?_ ?_)) <;> intro Z
    ·refine X_skip (thN (Ok_block ?_))
     obtain ⟨u1, h16, Z⟩ := obind Z
     refine rs G (hK h16 h0) ?_
     obtain ⟨e14, h20, e15, h21, r3, h22, Z⟩ := ob3 Z
     refine ds G [(9, [])] (hD 3 h20 (hE 4 h20 (hD 7 h21 (hE 8 h21 (hC 9 (zq25_M.c (_, _) h22) h0))))) ?_
     refine cd Z ?_ ?_ <;> intro Z
     ·exact rh G (ibN (wL G Z))
     ·exact rh G (ibN (wL G Z))
    ·exact Ok_exit (thE (thE (ibE (wD G Z hb2))))
   rintro n1 Z
   refine Ok_seq (rg G (tl Z (fun data4 => ⟨[(0, .own 0), (4, .fn 214 [])], [aX 0 157 data4], 48⟩) (fun data4 Z => ?_) ?_))
   ·refine Ok_block (lp G Z (fun (p, data3) => ⟨[(0, .own 0), (4, .fn 214 []), (14, dV n1), (17, dV p)], [aX 0 157 data3], 48⟩) ?_)
    rintro ⟨p, data3⟩ r0 hb3 Z
    rw [zq94_L4] at Z
    refine Ok_seq (rg G (cd Z ?_ ?_)) <;> intro Z
    ·refine X_skip (thN (Ok_seq (Ok_block ?_)))
     obtain ⟨e20, h27, e21, h28, e22, h29, Z⟩ := ob3 Z
     obtain ⟨e23, h30, Z⟩ := obind Z
     refine de G [(15, [0]), (17, [0])] (hD 8 h27 (hE 9 h27 (hD 12 h28 (hE 13 h28 (hD 14 h29 (hS 15 h29 e20 (hD 16 h30 (hS 17 h30 e21 h0)))))))) ?_
     exact ibN (thN (rh G (wL G Z)))
    ·exact Ok_exit (thE (thE (ibE (wD G Z hb3))))
   rintro data4 Z s1 hw1
   refine thN (Ok_weak hw1 ?_)
   cases Z
   exact rt [] []
  ·refine X_skip (thN ?_)
   obtain ⟨u2, h31, Z⟩ := obind Z
   refine rs G (hK h31 h0) ?_
   refine rg G (rg G (jn Z (fun (v, v1) => ⟨[(0, .own 0), (1, dV a), (2, dV m), (3, dV b), (4, .fn 214 []), (18, dV (w64 (((IntKind.u64.wrap ((w64 (a + b)))).fdiv (2 ^ (min (1 : Int).toNat (IntKind.u64).bits)))))), (19, dV (w64 ((w64 (((IntKind.u64.wrap ((w64 (a + b)))).fdiv (2 ^ (min (1 : Int).toNat (IntKind.u64).bits))))) + m))), (20, dV v), (21, dV v1)], [aX 0 157 data], 48⟩) (fun vv Z => ?_) ?_))
   ·refine rg G (cd Z ?_ ?_) <;> intro Z
    ·exact rg G (rh G (wJ G Z))
    ·exact rg G (rh G (wJ G Z))
   rintro ⟨v, v1⟩ Z
   refine rg G (jn Z (fun v4 => ⟨[(0, .own 0), (1, dV a), (2, dV m), (3, dV b), (4, .fn 214 []), (18, dV (w64 (((IntKind.u64.wrap ((w64 (a + b)))).fdiv (2 ^ (min (1 : Int).toNat (IntKind.u64).bits)))))), (19, dV (w64 ((w64 (((IntKind.u64.wrap ((w64 (a + b)))).fdiv (2 ^ (min (1 : Int).toNat (IntKind.u64).bits))))) + m))), (20, dV v4)], [aX 0 157 data], 48⟩) (fun v4 Z => ?_) ?_)
   ·refine Ok_block (lp G Z (fun (v2, v3) => ⟨[(0, .own 0), (1, dV a), (2, dV m), (3, dV b), (4, .fn 214 []), (18, dV (w64 (((IntKind.u64.wrap ((w64 (a + b)))).fdiv (2 ^ (min (1 : Int).toNat (IntKind.u64).bits)))))), (19, dV (w64 ((w64 (((IntKind.u64.wrap ((w64 (a + b)))).fdiv (2 ^ (min (1 : Int).toNat (IntKind.u64).bits))))) + m))), (20, dV v2), (21, dV v3), (22, dV (w64 ((w64 ((w64 (((IntKind.u64.wrap ((w64 (a + b)))).fdiv (2 ^ (min (1 : Int).toNat (IntKind.u64).bits))))) + m)) - 1)))], [aX 0 157 data], 48⟩) ?_)
    rintro ⟨v2, v3⟩ r0 hb4 Z
    rw [zq94_L5] at Z
    refine Ok_seq (rg G (cd Z ?_ ?_)) <;> intro Z
    ·refine X_skip (thN (Ok_block ?_))
     obtain ⟨u3, h32, Z⟩ := obind Z
     refine rs G (hK h32 h0) ?_
     obtain ⟨e26, h36, e27, h37, r5, h38, Z⟩ := ob3 Z
     refine ds G [(11, [])] (hD 5 h36 (hE 6 h36 (hD 9 h37 (hE 10 h37 (hC 11 (zq25_M.c (_, _) h38) h0))))) ?_
     refine cd Z ?_ ?_ <;> intro Z
     ·exact rh G (ibN (wL G Z))
     ·exact rh G (ibN (wL G Z))
    ·exact Ok_exit (thE (thE (ibE (wD G Z hb4))))
   rintro v4 Z
   refine rg G (jn Z (fun data5 => ⟨[(0, .own 0), (1, dV a), (3, dV b), (4, .fn 214 []), (18, dV (w64 (((IntKind.u64.wrap ((w64 (a + b)))).fdiv (2 ^ (min (1 : Int).toNat (IntKind.u64).bits)))))), (20, dV v4), (24, dV (w64 ((w64 ((w64 (((IntKind.u64.wrap ((w64 (a + b)))).fdiv (2 ^ (min (1 : Int).toNat (IntKind.u64).bits))))) + m)) - v4)))], [aX 0 157 data5], 48⟩) (fun data5 Z => ?_) ?_)
   ·refine jn Z (fun v5 => ⟨[(0, .own 0), (1, dV a), (2, dV m), (3, dV b), (4, .fn 214 []), (18, dV (w64 (((IntKind.u64.wrap ((w64 (a + b)))).fdiv (2 ^ (min (1 : Int).toNat (IntKind.u64).bits)))))), (20, dV v4), (24, dV (w64 ((w64 ((w64 (((IntKind.u64.wrap ((w64 (a + b)))).fdiv (2 ^ (min (1 : Int).toNat (IntKind.u64).bits))))) + m)) - v4))), (185, dV v5)], [aX 0 157 data], 48⟩) (fun v5 Z => ?_) ?_
    ·rcases bf Z with ⟨hb5, Z⟩ | ⟨hb5, Z⟩
     ·refine re G (hO 3 (.b true) (hP hb5 h0)) ?_
      exact wJ G Z
     ·refine re G (hO 3 (.b false) (hP hb5 h0)) ?_
      exact wJ G Z
    rintro v5 Z
    refine cd Z ?_ ?_ <;> intro Z
    ·obtain ⟨r6, h39, Z⟩ := obind Z
     refine re G (hC 5 (zq90_M.c (_, _, _, _) h39) h0) ?_
     exact wJ G Z
    ·exact X_skip (wJ G Z)
   rintro data5 Z
   refine jn Z (fun data6 => ⟨[(0, .own 0), (3, dV b), (4, .fn 214 []), (18, dV (w64 (((IntKind.u64.wrap ((w64 (a + b)))).fdiv (2 ^ (min (1 : Int).toNat (IntKind.u64).bits)))))), (24, dV (w64 ((w64 ((w64 (((IntKind.u64.wrap ((w64 (a + b)))).fdiv (2 ^ (min (1 : Int).toNat (IntKind.u64).bits))))) + m)) - v4)))], [aX 0 157 data6], 48⟩) (fun data6 Z => ?_) ?_
   ·refine jn Z (fun v6 => ⟨[(0, .own 0), (1, dV a), (3, dV b), (4, .fn 214 []), (18, dV (w64 (((IntKind.u64.wrap ((w64 (a + b)))).fdiv (2 ^ (min (1 : Int).toNat (IntKind.u64).bits)))))), (20, dV v4), (24, dV (w64 ((w64 ((w64 (((IntKind.u64.wrap ((w64 (a + b)))).fdiv (2 ^ (min (1 : Int).toNat (IntKind.u64).bits))))) + m)) - v4))), (199, dV v6)], [aX 0 157 data5], 48⟩) (fun v6 Z => ?_) ?_
    ·rcases bf Z with ⟨hb6, Z⟩ | ⟨hb6, Z⟩
     ·refine re G (hO 3 (.b true) (hP hb6 h0)) ?_
      exact wJ G Z
     ·refine re G (hO 3 (.b false) (hP hb6 h0)) ?_
      exact wJ G Z
    rintro v6 Z
    refine cd Z ?_ ?_ <;> intro Z
    ·obtain ⟨r7, h40, Z⟩ := obind Z
     refine re G (hC 5 (zq94_cR h40) h0) ?_
     exact wJ G Z
    ·exact X_skip (wJ G Z)
   rintro data6 Z
   refine jn Z (fun v7 => ⟨[(0, .own 0), (3, dV b), (4, .fn 214 []), (18, dV (w64 (((IntKind.u64.wrap ((w64 (a + b)))).fdiv (2 ^ (min (1 : Int).toNat (IntKind.u64).bits)))))), (24, dV (w64 ((w64 ((w64 (((IntKind.u64.wrap ((w64 (a + b)))).fdiv (2 ^ (min (1 : Int).toNat (IntKind.u64).bits))))) + m)) - v4))), (213, dV v7)], [aX 0 157 data6], 48⟩) (fun v7 Z => ?_) ?_
   ·rcases bf Z with ⟨hb7, Z⟩ | ⟨hb7, Z⟩
    ·refine re G (hO 3 (.b true) (hP hb7 h0)) ?_
     exact wJ G Z
    ·refine re G (hO 3 (.b false) (hP hb7 h0)) ?_
     exact wJ G Z
   rintro v7 Z
   refine cd Z ?_ ?_ <;> intro Z
   ·obtain ⟨r8, h41, Z⟩ := obind Z
    refine re G (hC 5 (zq94_cR h41) h0) ?_
    cases Z
    exact fN [] []
   ·refine X_skip ?_
    cases Z
    exact fN [] []
theorem zq94_okn : ∀ k, FnOK Try.prog tJ 301 (zq94_MR (zq94_k k)).S
 | 0 => ⟨fun args w => call301 args w, fun vs w F ds obs κ hp => by obtain ⟨x, y, _, _, h⟩ := hp; cases h⟩
 | k + 1 => zq94_okF (zq94_okn k)
theorem zq94_ok : FnOK Try.prog tJ 301 zq94_M.S := zq94_okn 4294967296
noncomputable def zq91_M : MS ((List service) × Int) ((List service)) := ⟨⟨[.sl, .rd, .fn 214 []], fun x => [.sc undef, Enc.e x.2, .agg []], fun x => [arO 157 x.1], 1, 1, fun _ => rfl, fun _ => rfl, rfl, (by
  rintro ⟨a0, a1⟩ ⟨b0, b1⟩ h hO
  have q0 : a0 = b0 := Enc.inj _ _ (congrArg (fun l => D.sl 4 (obL l 0)) hO)
  have q1 : a1 = b1 := qI 1 h
  subst q0; subst q1; rfl)⟩, fun x => zq91 x.1 x.2, fun _ => .tup [], fun _ => [], fun _ y => [arO 157 y]⟩
theorem zq91_ok : FnOK Try.prog tJ 269 zq91_M.S := by
 refine fm tt zq91_M [fo zq88_ok, fo zq94_ok] call269 func269 rfl results269 ntmps269 ?_
 rintro ⟨data, n⟩ y cx G (Z : zq91 data n = some y)
 unfold zq91 at Z
 refine rg G (rg G (jn Z (fun (v2, data2) => ⟨[(0, .own 0), (1, dV n), (2, .fn 214 []), (6, kV .i64 20), (7, dV v2)], [aX 0 157 data2], 48⟩) (fun vv1 Z => ?_) ?_))
 ·refine Ok_block (lp G Z (fun (v, v1, data1) => ⟨[(0, .own 0), (1, dV n), (2, .fn 214 []), (6, kV .i64 20), (7, dV v), (8, dV v1)], [aX 0 157 data1], 48⟩) ?_)
  rintro ⟨v, v1, data1⟩ r0 hb Z
  rw [zq91_L1] at Z
  refine Ok_seq (rg G (cd Z ?_ ?_)) <;> intro Z
  ·refine X_skip (thN (Ok_block ?_))
   obtain ⟨r, h, Z⟩ := obind Z
   refine rs G (hC 4 (zq88_M.c (_, _, _) h) h0) ?_
   exact rg G (rh G (ibN (wL G Z)))
  ·exact Ok_exit (thE (thE (ibE (wD G Z hb))))
 rintro ⟨v2, data2⟩ Z
 obtain ⟨r1, h1, Z⟩ := obind Z
 refine rs G (hC 4 (zq88_M.c (_, _, _) h1) h0) ?_
 refine Ok_block (lp G Z (fun (m, data3) => ⟨[(0, .own 0), (1, dV n), (2, .fn 214 []), (6, dV m)], [aX 0 157 data3], 48⟩) ?_)
 rintro ⟨m, data3⟩ r0 hb1 Z
 rw [zq91_L3] at Z
 refine Ok_seq (rg G (cd Z ?_ ?_)) <;> intro Z
 ·refine X_skip (thN (Ok_block (rg G (jn Z (fun (v5, data5) => ⟨[(0, .own 0), (1, dV n), (2, .fn 214 []), (6, dV m), (7, dV v5)], [aX 0 157 data5], 48⟩) (fun vv Z => ?_) ?_))))
  ·refine Ok_block (lp G Z (fun (v3, v4, data4) => ⟨[(0, .own 0), (1, dV n), (2, .fn 214 []), (6, dV m), (7, dV v3), (8, dV v4)], [aX 0 157 data4], 48⟩) ?_)
   rintro ⟨v3, v4, data4⟩ r0 hb2 Z
   rw [zq91_L2] at Z
   refine Ok_seq (rg G (cd Z ?_ ?_)) <;> intro Z
   ·refine X_skip (thN (Ok_block ?_))
    obtain ⟨r2, h2, Z⟩ := obind Z
    refine rs G (hC 7 (zq94_M.c (_, _, _, _) h2) h0) ?_
    exact rg G (rh G (ibN (wL G Z)))
   ·exact Ok_exit (thE (thE (ibE (wD G Z hb2))))
  rintro ⟨v5, data5⟩ Z
  refine jn Z (fun data6 => ⟨[(0, .own 0), (1, dV n), (2, .fn 214 []), (6, dV m)], [aX 0 157 data6], 48⟩) (fun data6 Z => ?_) ?_
  ·refine rg G (rg G (cd Z ?_ ?_)) <;> intro Z
   ·obtain ⟨r3, h3, Z⟩ := obind Z
    refine re G (hC 5 (zq94_M.c (_, _, _, _) h3) h0) ?_
    exact wJ G Z
   ·exact X_skip (wJ G Z)
  rintro data6 Z
  exact rh G (ibN (wL G Z))
 ·have Z := eD Z hb1
  refine Ok_exit (thE (thE (ibE ?_)))
  cases Z
  exact fN [] []
noncomputable def zq86_M : MS ((List service)) ((List service)) := ⟨⟨[.sl, .fn 214 []], fun x => [.sc undef, .agg []], fun x => [arO 157 x], 1, 1, fun _ => rfl, fun _ => rfl, rfl, (by
  rintro a0 b0 h hO
  have q0 : a0 = b0 := Enc.inj _ _ (congrArg (fun l => D.sl 4 (obL l 0)) hO)
  subst q0; rfl)⟩, zq86, fun _ => .tup [], fun _ => [], fun _ y => [arO 157 y]⟩
theorem zq86_ok : FnOK Try.prog tJ 213 zq86_M.S := by
 refine fm tt zq86_M [fo zq91_ok] call213 func213 rfl results213 ntmps213 ?_
 rintro x y cx G (Z : zq86 x = some y)
 unfold zq86 at Z
 obtain ⟨r, h, Z⟩ := obind Z
 refine re G (hN 2 x (hC 4 (zq91_M.c (_, _) h) h0)) ?_
 cases Z
 exact fN [] []
noncomputable def zq24_M : MS (Timetable × Flow) ((List service)) := ⟨.x .r .r, fun x => zq24 x.1 x.2, fun _ => .own 0, fun y => [arO 157 y], fun _ _ => []⟩
theorem zq24_ok : FnOK Try.prog tJ 98 zq24_M.S := by
 refine fm tt zq24_M [fo zq23_ok, fo zq26_ok, fo zq83_ok, fo zq86_ok] call98 func98 rfl results98 ntmps98 ?_
 rintro ⟨t, f⟩ y cx G (Z : zq24 t f = some y)
 unfold zq24 at Z
 refine rg G (rg G (Ok_seq (rs G (hN 2 t.Trips h0) ?_)))
 refine tl Z (fun x2 => ⟨[(5, .own 16)], [aX 16 157 x2], 48⟩) (fun x2 Z => ?_) ?_
 ·refine Ok_block (lpP Z (fun (v, x) => ⟨[(2, .ref 16 0), (3, .ref 32 0), (5, .own 48), (13, dV t.Trips), (14, dV (t.Trips.length : Int)), (15, dV v)], [bX 16 30 [dV t.Network.Stops, dV t.Network.Lines, dV t.Trips], bX 32 44 [dV f.From, dV f.To, dV f.Time, dV f.Persons], aX 48 157 x], 80⟩) (Wk_J G.hL ⟨[(2, []), (3, []), (5, [.o 48]), (13, []), (14, []), (15, [])], [(16, 16, []), (32, 32, [])], [(48, 157, 4, [])], 80⟩ (by kernel_rfl)) ?_)
  rintro ⟨v, x⟩ r0 hb Z
  rw [zq24_L1] at Z
  refine rg G (Ok_seq (cd Z ?_ ?_)) <;> intro Z
  ·refine X_skip (thN (jn Z (fun x1 => ⟨[(2, .ref 16 0), (3, .ref 32 0), (5, .own 48), (13, dV t.Trips), (14, dV (t.Trips.length : Int)), (15, dV v)], [bX 16 30 [dV t.Network.Stops, dV t.Network.Lines, dV t.Trips], bX 32 44 [dV f.From, dV f.To, dV f.Time, dV f.Persons], aX 48 157 x1], 80⟩) (fun x1 Z => ?_) ?_))
   ·refine Ok_block ?_
    obtain ⟨e, h, Z⟩ := obind Z
    refine rs G (hD 1 h h0) ?_
    obtain ⟨r2, h3, r3, h4, Z⟩ := ob2 Z
    refine ds G [] (hC 2 (zq23_M.c (_, _) h3) (hC 6 (zq26_M.c (_, _) h4) h0)) ?_
    obtain ⟨r6, h7, r7, h8, Z⟩ := ob2 Z
    refine ds G [] (hC 3 (zq83_M.c (_, _) h7) (hC 7 (zq83_M.c (_, _) h8) h0)) ?_
    refine jn Z (fun v1 => ⟨[(2, .ref 16 0), (3, .ref 32 0), (5, .own 48), (6, dV v), (9, .own 64), (10, dV r6), (11, dV r7), (13, dV t.Trips), (14, dV (t.Trips.length : Int)), (15, dV v), (50, dV v1)], [bX 16 30 [dV t.Network.Stops, dV t.Network.Lines, dV t.Trips], bX 32 44 [dV f.From, dV f.To, dV f.Time, dV f.Persons], aX 48 157 x, aX 64 3 r3], 96⟩) (fun v1 Z => ?_) ?_
    ·rcases bf Z with ⟨hb1, Z⟩ | ⟨hb1, Z⟩
     ·rcases bf Z with ⟨hb2, Z⟩ | ⟨hb2, Z⟩
      ·obtain ⟨e2, h10, Z⟩ := obind Z
       refine de G [] (hO 2 (.b true) (hP hb1 (hO 7 (.b true) (hP hb2 (hD 10 h10 (hE 11 h10 h0)))))) ?_
       exact wJ G Z
      ·refine de G [] (hO 2 (.b true) (hP hb1 (hO 7 (.b false) (hP hb2 h0)))) ?_
       exact wJ G Z
     ·refine de G [] (hO 2 (.b false) (hP hb1 h0)) ?_
      exact wJ G Z
    rintro v1 Z
    refine cd Z ?_ ?_ <;> intro Z
    ·obtain ⟨e3, h11, u, h12, Z⟩ := ob2 Z
     refine re G (hD 6 h11 (hE 7 h11 (hA 10 32 h12 h0))) ?_
     exact ibN (wJ G Z)
    ·exact X_skip (ibN (wJ G Z))
   rintro x1 Z
   exact rh G (wL G Z)
  ·exact Ok_exit (thE (thE (ibE (wD G Z hb))))
 rintro x2 Z s hw
 refine thN (Ok_weak hw ?_)
 obtain ⟨r8, h13, Z⟩ := obind Z
 refine rs G (hC 1 (zq86_M.c _ h13) h0) ?_
 refine rg G ?_
 cases Z
 exact rt [16] []
noncomputable def zq85_M : MS ((List Int)) Int := ⟨.r, zq85, fun y => dV y, fun _ => [], fun _ _ => []⟩
theorem zq85_ok : FnOK Try.prog tJ 202 zq85_M.S := by
 refine fm tt zq85_M [] call202 func202 rfl results202 ntmps202 ?_
 rintro x y cx G (Z : zq85 x = some y)
 unfold zq85 at Z
 refine rg G (Ok_seq (rs G (hN 1 x h0) ?_))
 refine cd Z ?_ ?_ <;> intro Z
 ·cases Z
 ·refine X_skip (thN ?_)
  obtain ⟨e, h, Z⟩ := obind Z
  refine rs G (hD 1 h h0) ?_
  refine Ok_seq (rg G (tl Z (fun i1 => ⟨[(3, dV i1)], [], 32⟩) (fun i1 Z => ?_) ?_))
  ·refine Ok_block (lp G Z (fun (i, v) => ⟨[(0, dV x), (3, dV i), (4, dV v)], [], 32⟩) ?_)
   rintro ⟨i, v⟩ r0 hb Z
   rw [zq85_L1] at Z
   refine Ok_seq (rs G (hN 2 x h0) ?_)
   refine cd Z ?_ ?_ <;> intro Z
   ·refine X_skip (thN (Ok_seq (Ok_block ?_)))
    obtain ⟨e1, h1, Z⟩ := obind Z
    refine re G (hD 3 h1 h0) ?_
    exact ibN (thN (rh G (wL G Z)))
   ·exact Ok_exit (thE (thE (ibE (wD G Z hb))))
  rintro i1 Z s hw
  refine thN (Ok_weak hw ?_)
  refine rg G ?_
  cases Z
  exact rt [] []
noncomputable def zq15_M : MS (Timetable × (List Flow) × Int) boards := ⟨.x .r (.x .r .r), fun x => zq15 x.1 x.2.1 x.2.2, fun _ => .aggv [.own 0, .own 1, .own 2], fun y => [arO 241 y.list_, taO 37 [some 3] y.loads_, arO 3 y.left_], fun _ _ => []⟩
theorem zq15_c {t list capacity y} (Z : zq15 t list capacity = some y) : zq15_M.C (t, list, capacity) y := zq15_M.c (t, list, capacity) Z
theorem zq15_ok : FnOK Try.prog tJ 86 zq15_M.S := by
 refine fm tt zq15_M [fo zq23_ok, fo zq24_ok, fo zq85_ok] call86 func86 rfl results86 ntmps86 ?_
 rintro ⟨t, list, capacity⟩ y cx G (Z : zq15 t list capacity = some y)
 unfold zq15 at Z
 refine rg G ?_
 obtain ⟨u2, h2, u3, h3, Z⟩ := ob2 Z
 refine ds G [(9, [96, 144, 176])] (hN 2 t.Trips (hO 3 (.l (List.map Enc.e (List.replicate (t.Trips.length : Int).toNat (([] : List Int) : List Int)))) (hP (mk_p (b := 24) (chk_t h2) rfl) (hP (rep_m Enc.e (t.Trips.length : Int).toNat (([] : List Int) : List Int)) (hN 5 list (hO 6 (.l (List.map Enc.e (List.replicate (list.length : Int).toNat (0 : Int)))) (hP (mk_p (b := 8) (chk_t h3) rfl) (hP (rep_m Enc.e (list.length : Int).toNat (0 : Int)) h0)))))))) ?_
 refine Ok_seq (rs G (hN 2 t.Trips h0) ?_)
 refine tl Z (fun v2 => ⟨[(1, dV list), (2, dV capacity), (3, .ref 16 0), (6, .ref 32 0), (7, .ref 48 0)], [bX 16 30 [dV t.Network.Stops, dV t.Network.Lines, dV t.Trips], bX 32 140 [.dat (.sc (.slice none 0 0)), .dat (.sc (.slice none 0 0)), .dat (.sc (.slice none 0 0))], bX 48 140 [.dat (.sc (.slice none 0 0)), .own 64, .own 80], tX 64 37 [some 3] v2 64 none, aX 80 3 (List.replicate (list.length : Int).toNat (0 : Int))], 112⟩) (fun v2 Z => ?_) ?_
 ·refine Ok_block (lp G Z (fun (v, v1) => ⟨[(1, dV list), (2, dV capacity), (3, .ref 16 0), (6, .ref 32 0), (7, .ref 48 0), (27, dV t.Trips), (28, dV (t.Trips.length : Int)), (29, dV v)], [bX 16 30 [dV t.Network.Stops, dV t.Network.Lines, dV t.Trips], bX 32 140 [.dat (.sc (.slice none 0 0)), .dat (.sc (.slice none 0 0)), .dat (.sc (.slice none 0 0))], bX 48 140 [.dat (.sc (.slice none 0 0)), .own 64, .own 80], tX 64 37 [some 3] v1 64 none, aX 80 3 (List.replicate (list.length : Int).toNat (0 : Int))], 112⟩) ?_)
  rintro ⟨v, v1⟩ r0 hb Z
  rw [zq15_L1] at Z
  refine rg G (Ok_seq (cd Z ?_ ?_)) <;> intro Z
  ·refine X_skip (thN (Ok_seq (Ok_block ?_)))
   obtain ⟨e, h4, Z⟩ := obind Z
   refine rs G (hD 1 h4 h0) ?_
   obtain ⟨r1, h8, u5, h9, e2, h10, Z⟩ := ob3 Z
   refine de G [(10, [64, 352])] (hC 5 (zq23_M.c (_, _) h8) (hN 7 r1.Runs (hO 8 (.l (List.map Enc.e (List.replicate (r1.Runs.length : Int).toNat (0 : Int)))) (hP (mk_p (b := 8) (chk_t h9) rfl) (hP (rep_m Enc.e (r1.Runs.length : Int).toNat (0 : Int)) (hD 9 h10 (hS 10 h10 (List.replicate (r1.Runs.length : Int).toNat (0 : Int)) h0))))))) ?_
   exact ibN (thN (rh G (wL G Z)))
  ·exact Ok_exit (thE (thE (ibE (wD G Z hb))))
 rintro v2 Z s hw
 refine thN (Ok_weak hw ?_)
 refine Ok_seq (rs G (hN 1 list h0) ?_)
 refine tl Z (fun (v17, v18, v19) => ⟨[(6, .ref 16 0), (7, .ref 32 0)], [bX 16 140 [.dat (.sc (.slice none 0 0)), .dat (.sc (.slice none 0 0)), .dat (.sc (.slice none 0 0))], bX 32 140 [.own 48, .own 64, .own 80], aX 48 241 v17, tX 64 37 [some 3] v18 64 none, aX 80 3 v19], 112⟩) (fun vv2 Z => ?_) ?_
 ·refine Ok_block (lpP Z (fun (v3, v4, v5, v6) => ⟨[(2, dV capacity), (3, .ref 16 0), (6, .ref 32 0), (7, .ref 48 0), (45, dV list), (46, dV (list.length : Int)), (47, dV v3)], [bX 16 30 [dV t.Network.Stops, dV t.Network.Lines, dV t.Trips], bX 32 140 [.dat (.sc (.slice none 0 0)), .dat (.sc (.slice none 0 0)), .dat (.sc (.slice none 0 0))], bX 48 140 [.own 64, .own 80, .own 96], aX 64 241 v4, tX 80 37 [some 3] v5 80 none, aX 96 3 v6], 128⟩) (Wk_J G.hL ⟨[(2, []), (3, []), (6, []), (7, []), (45, []), (46, []), (47, [])], [(16, 16, []), (32, 32, []), (48, 48, [.o 64]), (80, 64, []), (96, 80, [])], [(64, 241, 6, [])], 128⟩ (by kernel_rfl)) ?_)
  rintro ⟨v3, v4, v5, v6⟩ r0 hb1 Z
  rw [zq15_L4] at Z
  refine rg G (Ok_seq (cd Z ?_ ?_)) <;> intro Z
  ·refine X_skip (thN (Ok_seq (Ok_block ?_)))
   obtain ⟨e3, h11, Z⟩ := obind Z
   refine rs G (hD 1 h11 h0) ?_
   refine rg G (Ok_seq ?_)
   obtain ⟨r2, h12, Z⟩ := obind Z
   refine rs G (hC 2 (zq24_M.c (_, _) h12) (hN 3 r2 h0)) ?_
   refine tl Z (fun (way2, v15, v16) => ⟨[(2, dV capacity), (3, .ref 16 0), (6, .ref 32 0), (7, .ref 48 0), (10, dV v3), (12, dV way2), (45, dV list), (46, dV (list.length : Int)), (47, dV v3)], [bX 16 30 [dV t.Network.Stops, dV t.Network.Lines, dV t.Trips], bX 32 140 [.dat (.sc (.slice none 0 0)), .dat (.sc (.slice none 0 0)), .dat (.sc (.slice none 0 0))], bX 48 140 [.own 64, .own 80, .own 96], aX 64 241 v15, tX 80 37 [some 3] v16 80 none, aX 96 3 v6], 128⟩) (fun vv1 Z => ?_) ?_
   ·refine Ok_block (lp G Z (fun (way, v7, v8, v9) => ⟨[(2, dV capacity), (3, .ref 16 0), (6, .ref 32 0), (7, .ref 48 0), (10, dV v3), (12, dV way), (45, dV list), (46, dV (list.length : Int)), (47, dV v3), (56, .own 64), (57, dV (r2.length : Int)), (58, dV v7)], [bX 16 30 [dV t.Network.Stops, dV t.Network.Lines, dV t.Trips], bX 32 140 [.dat (.sc (.slice none 0 0)), .dat (.sc (.slice none 0 0)), .dat (.sc (.slice none 0 0))], bX 48 140 [.own 80, .own 96, .own 112], aX 64 157 r2, aX 80 241 v8, tX 96 37 [some 3] v9 96 none, aX 112 3 v6], 144⟩) ?_)
    rintro ⟨way, v7, v8, v9⟩ r0 hb2 Z
    rw [zq15_L3] at Z
    refine rg G (Ok_seq (cd Z ?_ ?_)) <;> intro Z
    ·refine X_skip (thN (jn Z (fun (way1, v10, v11) => ⟨[(2, dV capacity), (3, .ref 16 0), (6, .ref 32 0), (7, .ref 48 0), (10, dV v3), (12, dV way1), (45, dV list), (46, dV (list.length : Int)), (47, dV v3), (56, .own 64), (57, dV (r2.length : Int)), (58, dV v7)], [bX 16 30 [dV t.Network.Stops, dV t.Network.Lines, dV t.Trips], bX 32 140 [.dat (.sc (.slice none 0 0)), .dat (.sc (.slice none 0 0)), .dat (.sc (.slice none 0 0))], bX 48 140 [.own 80, .own 96, .own 112], aX 64 157 r2, aX 80 241 v10, tX 96 37 [some 3] v11 96 none, aX 112 3 v6], 144⟩) (fun vv Z => ?_) ?_))
     ·refine Ok_block ?_
      obtain ⟨e4, h13, Z⟩ := obind Z
      refine rs G (hD 0 h13 (hE 1 h13 h0)) ?_
      obtain ⟨e6, h16, u7, h17, Z⟩ := ob2 Z
      refine ds G [(10, [96])] (hD 4 h16 (hE 5 h16 (hP (vw_p (j := 0) (lo := e4.from_) (hi := e4.to_) h16 rfl (chk_t h17)) h0))) ?_
      obtain ⟨u8, h18, r3, h19, Z⟩ := ob2 Z
      refine rs G (hW 3 (vw_c (zq85_M.c _ h19)) (idx_m2 (f := Enc.e) h16) (vw_r (chk_t h18)) h0) ?_
      refine Ok_seq (rg G (cd Z ?_ ?_)) <;> intro Z
      ·exact Ok_exit (thE (ibE (wJ G Z)))
      ·refine X_skip (thN (Ok_seq (rs G (hO 1 (.n (e4.to_ - e4.from_)) (hP (vw_l (chk_t h17)) h0)) ?_)))
       refine tl Z (fun v14 => ⟨[(2, dV capacity), (3, .ref 16 0), (6, .ref 32 0), (7, .ref 48 0), (10, dV v3), (12, dV way), (14, .ref 64 0), (16, dV (if (w64 (capacity - r3)) < way then (w64 (capacity - r3)) else way)), (45, dV list), (46, dV (list.length : Int)), (47, dV v3), (56, .own 80), (57, dV (r2.length : Int)), (58, dV v7)], [bX 16 30 [dV t.Network.Stops, dV t.Network.Lines, dV t.Trips], bX 32 140 [.dat (.sc (.slice none 0 0)), .dat (.sc (.slice none 0 0)), .dat (.sc (.slice none 0 0))], bX 48 140 [.own 96, .own 112, .own 128], bX 64 157 [dV e4.trip_, dV e4.from_, dV e4.to_, dV e4.arrive_], aX 80 157 r2, aX 96 241 v8, tX 112 37 [some 3] v14 112 none, aX 128 3 v6], 160⟩) (fun v14 Z => ?_) ?_
       ·refine Ok_block (lp G Z (fun (v12, v13) => ⟨[(2, dV capacity), (3, .ref 16 0), (6, .ref 32 0), (7, .ref 48 0), (10, dV v3), (12, dV way), (14, .ref 64 0), (15, .vw 80 80 e4.trip_.toNat 0 1 e4.from_.toNat (e4.to_ - e4.from_).toNat), (16, dV (if (w64 (capacity - r3)) < way then (w64 (capacity - r3)) else way)), (45, dV list), (46, dV (list.length : Int)), (47, dV v3), (56, .own 96), (57, dV (r2.length : Int)), (58, dV v7), (82, dV (e4.to_ - e4.from_)), (83, dV v12)], [bX 16 30 [dV t.Network.Stops, dV t.Network.Lines, dV t.Trips], bX 32 140 [.dat (.sc (.slice none 0 0)), .dat (.sc (.slice none 0 0)), .dat (.sc (.slice none 0 0))], bX 48 140 [.own 112, .own 80, .own 128], bX 64 157 [dV e4.trip_, dV e4.from_, dV e4.to_, dV e4.arrive_], tX 80 37 [some 3] v13 80 none, aX 96 157 r2, aX 112 241 v8, aX 128 3 v6], 160⟩) ?_)
        rintro ⟨v12, v13⟩ r0 hb3 Z
        rw [zq15_L2] at Z
        refine rg G (Ok_seq (cd Z ?_ ?_)) <;> intro Z
        ·refine X_skip (thN (Ok_seq (Ok_block (rg G ?_))))
         obtain ⟨e7, h20, u9, h21, e8, h22, Z⟩ := ob3 Z
         obtain ⟨u10, h23, e9, h24, Z⟩ := ob2 Z
         refine re G (hP (vw_i (chk_t h21)) (hO 3 (.d2 (Enc.e e7) (Enc.e e8)) (hP (idx_m2 (f := Enc.e) h20) (hP (vw_x (chk_t h17) (chk_t h21) h22) (hP (vw_i (chk_t h23)) (hO 7 (.sd2 (Enc.e e7) (Enc.e e9) (List.map Enc.e (e7.set (e4.from_.toNat + v12.toNat) (w64 (e8 + (if (w64 (capacity - r3)) < way then (w64 (capacity - r3)) else way))))) (List.map Enc.e (v13.set e4.trip_.toNat (e7.set (e4.from_.toNat + v12.toNat) (w64 (e8 + (if (w64 (capacity - r3)) < way then (w64 (capacity - r3)) else way))))))) (hP (idx_m2 (f := Enc.e) h20) (hP (vw_x (chk_t h17) (chk_t h23) h24) (hP (set_m Enc.e e7 (e4.from_.toNat + v12.toNat) (w64 (e8 + (if (w64 (capacity - r3)) < way then (w64 (capacity - r3)) else way)))) (hP (set_m Enc.e v13 e4.trip_.toNat (e7.set (e4.from_.toNat + v12.toNat) (w64 (e8 + (if (w64 (capacity - r3)) < way then (w64 (capacity - r3)) else way))))) h0)))))))))) ?_
         exact ibN (thN (rh G (wL G Z)))
        ·exact Ok_exit (thE (thE (ibE (wD G Z hb3))))
       rintro v14 Z s1 hw1
       refine thN (Ok_weak hw1 ?_)
       obtain ⟨u11, h25, Z⟩ := obind Z
       refine rs G (hA 7 48 h25 h0) ?_
       exact rh G (ibN (wJ G Z))
     rintro ⟨way1, v10, v11⟩ Z
     exact rh G (wL G Z)
    ·exact Ok_exit (thE (thE (ibE (wD G Z hb2))))
   rintro ⟨way2, v15, v16⟩ Z s2 hw2
   refine thN (Ok_weak hw2 ?_)
   obtain ⟨e10, h26, Z⟩ := obind Z
   refine re G (hD 4 h26 (hS 5 h26 way2 h0)) ?_
   exact ibN (thN (rh G (wL G Z)))
  ·exact Ok_exit (thE (thE (ibE (wD G Z hb1))))
 rintro ⟨v17, v18, v19⟩ Z s3 hw3
 refine thN (Ok_weak hw3 ?_)
 refine rg G ?_
 cases Z
 exact rt [48, 64, 80] []
noncomputable def zq9_M : MS (Timetable × (List Flow)) (Int × Bool) := ⟨.x .r .r, fun x => zq9 x.1 x.2, fun y => .tup [dV y.1, dV y.2], fun _ => [], fun _ _ => []⟩
theorem zq9_ok : FnOK Try.prog tJ 12 zq9_M.S := by
 refine fm tt zq9_M [fo zq2_ok, fo zq15_ok, fo zq27_ok] call12 func12 rfl results12 ntmps12 ?_
 rintro ⟨t, list⟩ y cx G (Z : zq9 t list = some y)
 unfold zq9 at Z
 refine rg G (Ok_seq ?_)
 obtain ⟨r, h, Z⟩ := obind Z
 refine rs G (hC 2 (zq2_M.c (_, _) h) h0) ?_
 refine cd Z ?_ ?_ <;> intro Z
 ·refine rg G ?_
  cases Z
  exact rt [] []
 ·refine X_skip (thN ?_)
  obtain ⟨r1, h1, r2, h2, Z⟩ := ob2 Z
  refine rs G (hC 2 (zq15_c h1) (hC 4 (zq27_c h2) h0)) ?_
  refine rg G (jn Z (fun v1 => ⟨[(7, dV v1)], [], 32⟩) (fun v1 Z => ?_) ?_)
  ·refine Ok_block (lp G Z (fun v => ⟨[(1, dV list), (2, .ref 16 0), (6, dV r2), (7, dV v)], [bX 16 30 [dV t.Network.Stops, dV t.Network.Lines, dV t.Trips]], 48⟩) ?_)
   rintro v r0 hb Z
   rw [zq9_L1] at Z
   refine Ok_seq ?_
   obtain ⟨r3, h3, r4, h4, Z⟩ := ob2 Z
   refine rs G (hC 3 (zq15_c h3) (hC 5 (zq27_c h4) h0)) ?_
   refine cd Z ?_ ?_ <;> intro Z
   ·exact X_skip (thN (Ok_block (rh G (ibN (wL G Z)))))
   ·exact Ok_exit (thE (thE (ibE (wD G Z hb))))
  rintro v1 Z
  refine rg G ?_
  cases Z
  exact rt [] []
noncomputable def zq59_M : MS (Timetable × Flow) Bool := ⟨.x .r .r, fun x => zq59 x.1 x.2, fun y => dV y, fun _ => [], fun _ _ => []⟩
theorem zq59_ok : FnOK Try.prog tJ 203 zq59_M.S := by
 refine fm tt zq59_M [fo zq52_ok, fo zq75_ok] call203 func203 rfl results203 ntmps203 ?_
 rintro ⟨t, f⟩ y cx G (Z : zq59 t f = some y)
 unfold zq59 at Z
 refine rg G (rs G (hN 3 t.Network.Stops h0) ?_)
 obtain ⟨r, h, Z⟩ := obind Z
 refine jn Z (fun v => ⟨[(4, dV v)], [], 32⟩) (fun v Z => ?_) ?_
 ·rcases bf Z with ⟨hb, Z⟩ | ⟨hb, Z⟩
  ·obtain ⟨r1, h1, Z⟩ := obind Z
   rcases bf Z with ⟨hb1, Z⟩ | ⟨hb1, Z⟩
   ·rcases bf Z with ⟨hb2, Z⟩ | ⟨hb2, Z⟩
    ·obtain ⟨r2, h2, Z⟩ := obind Z
     rcases bf Z with ⟨hb3, Z⟩ | ⟨hb3, Z⟩
     ·obtain ⟨r3, h3, Z⟩ := obind Z
      refine re G (hC 4 (zq52_c h) (hO 5 (.b true) (hP hb (hC 10 (zq52_c h1) (hO 12 (.b true) (hP hb1 (hO 19 (.b true) (hP hb2 (hC 22 (zq75_c h2) (hO 24 (.b true) (hP hb3 (hC 27 (zq52_c h3) h0)))))))))))) ?_
      exact wJ G Z
     ·refine re G (hC 4 (zq52_c h) (hO 5 (.b true) (hP hb (hC 10 (zq52_c h1) (hO 12 (.b true) (hP hb1 (hO 19 (.b true) (hP hb2 (hC 22 (zq75_c h2) (hO 24 (.b false) (hP hb3 h0))))))))))) ?_
      exact wJ G Z
    ·refine re G (hC 4 (zq52_c h) (hO 5 (.b true) (hP hb (hC 10 (zq52_c h1) (hO 12 (.b true) (hP hb1 (hO 19 (.b false) (hP hb2 h0)))))))) ?_
     exact wJ G Z
   ·refine re G (hC 4 (zq52_c h) (hO 5 (.b true) (hP hb (hC 10 (zq52_c h1) (hO 12 (.b false) (hP hb1 h0)))))) ?_
    exact wJ G Z
  ·refine re G (hC 4 (zq52_c h) (hO 5 (.b false) (hP hb h0))) ?_
   exact wJ G Z
 rintro v Z
 cases Z
 exact rt [] []
noncomputable def zq60_M : MS (Timetable × (List Flow)) Bool := ⟨.x .r .r, fun x => zq60 x.1 x.2, fun y => dV y, fun _ => [], fun _ _ => []⟩
theorem zq60_ok : FnOK Try.prog tJ 87 zq60_M.S := by
 refine fm tt zq60_M [fo zq78_ok, fo zq59_ok] call87 func87 rfl results87 ntmps87 ?_
 rintro ⟨t, list⟩ y cx G (Z : zq60 t list = some y)
 unfold zq60 at Z
 refine rg G (Ok_seq ?_)
 obtain ⟨r, h, Z⟩ := obind Z
 refine jn Z (fun v => ⟨[(1, dV list), (2, .ref 16 0), (13, dV v)], [bX 16 30 [dV t.Network.Stops, dV t.Network.Lines, dV t.Trips]], 48⟩) (fun v Z => ?_) ?_
 ·rcases bf Z with ⟨hb, Z⟩ | ⟨hb, Z⟩
  ·refine re G (hC 1 (zq78_M.c _ h) (hO 3 (.b true) (hP hb h0))) ?_
   exact wJ G Z
  ·refine re G (hC 1 (zq78_M.c _ h) (hO 3 (.b false) (hP hb (hN 5 list h0)))) ?_
   exact wJ G Z
 rintro v Z
 refine cd Z ?_ ?_ <;> intro Z
 ·refine rg G ?_
  cases Z
  exact rt [] []
 ·refine X_skip (thN (Ok_seq (rg G (tF Z (fun _ => ⟨[], [], 32⟩) (fun v3 hr Z => ?_) ?_))))
  ·refine Ok_block (lp G Z (fun v1 => ⟨[(1, dV list), (2, .ref 16 0), (5, dV v1)], [bX 16 30 [dV t.Network.Stops, dV t.Network.Lines, dV t.Trips]], 48⟩) ?_)
   rintro v1 r0 hb1 Z
   rw [zq60_L1] at Z
   refine Ok_seq (rs G (hN 2 list h0) ?_)
   refine cd Z ?_ ?_ <;> intro Z
   ·refine X_skip (thN (Ok_seq (Ok_block ?_)))
    obtain ⟨e3, h5, r2, h6, Z⟩ := ob2 Z
    refine jn Z (fun v2 => ⟨[(1, dV list), (2, .ref 16 0), (5, dV v1), (44, dV v2)], [bX 16 30 [dV t.Network.Stops, dV t.Network.Lines, dV t.Trips]], 48⟩) (fun v2 Z => ?_) ?_
    ·rcases bf Z with ⟨hb2, Z⟩ | ⟨hb2, Z⟩
     ·refine de G [] (hD 3 h5 (hC 5 (zq59_M.c (_, _) h6) (hO 7 (.b true) (hP hb2 h0)))) ?_
      exact wJ G Z
     ·rcases bf Z with ⟨hb3, Z⟩ | ⟨hb3, Z⟩
      ·obtain ⟨e4, h7, e5, h8, Z⟩ := ob2 Z
       refine de G [] (hD 3 h5 (hC 5 (zq59_M.c (_, _) h6) (hO 7 (.b false) (hP hb2 (hO 10 (.b true) (hP hb3 (hD 14 h7 (hD 19 h8 h0)))))))) ?_
       exact wJ G Z
      ·refine de G [] (hD 3 h5 (hC 5 (zq59_M.c (_, _) h6) (hO 7 (.b false) (hP hb2 (hO 10 (.b false) (hP hb3 h0)))))) ?_
       exact wJ G Z
    rintro v2 Z
    refine cd Z ?_ ?_ <;> intro Z
    ·refine rg G ?_
     have Z := eL Z hb1 hr
     cases Z
     exact rt [] []
    ·exact X_skip (ibN (thN (rh G (wL G Z))))
   ·exact Ok_exit (thE (thE (ibE (wE G Z hb1))))
  rintro ⟨⟩ Z s hw
  refine thN (Ok_weak hw ?_)
  refine rg G ?_
  cases Z
  exact rt [] []
noncomputable def zq62_M : MS (Timetable × Int × Flow) (Int × Int) := ⟨.x .r (.x .r .r), fun x => zq62 x.1 x.2.1 x.2.2, fun y => .tup [dV y.1, dV y.2], fun _ => [], fun _ _ => []⟩
theorem zq62_ok : FnOK Try.prog tJ 215 zq62_M.S := by
 refine fm tt zq62_M [fo zq79_ok, fo zq73_ok, fo zq76_ok] call215 func215 rfl results215 ntmps215 ?_
 rintro ⟨t, i, f⟩ y cx G (Z : zq62 t i f = some y)
 unfold zq62 at Z
 refine rg G ?_
 obtain ⟨r4, h4, r5, h5, r6, h6, Z⟩ := ob3 Z
 obtain ⟨r7, h7, Z⟩ := obind Z
 refine ds G [] (hC 2 (zq79_M.c (_, _) h4) (hC 5 (zq73_M.c (_, _) h5) (hC 8 (zq79_M.c (_, _) h6) (hC 11 (zq73_M.c (_, _) h7) h0)))) ?_
 refine Ok_seq (jn Z (fun v => ⟨[(8, dV r5), (9, dV r7), (37, dV v)], [], 32⟩) (fun v Z => ?_) ?_)
 ·rcases bf Z with ⟨hb, Z⟩ | ⟨hb, Z⟩
  ·refine de G [] (hO 2 (.b true) (hP hb h0)) ?_
   exact wJ G Z
  ·rcases bf Z with ⟨hb1, Z⟩ | ⟨hb1, Z⟩
   ·refine de G [] (hO 2 (.b false) (hP hb (hO 7 (.b true) (hP hb1 h0)))) ?_
    exact wJ G Z
   ·obtain ⟨r9, h9, Z⟩ := obind Z
    refine de G [] (hO 2 (.b false) (hP hb (hO 7 (.b false) (hP hb1 (hC 11 (zq76_M.c (_, _, _) h9) h0))))) ?_
    exact wJ G Z
 rintro v Z
 refine cd Z ?_ ?_ <;> intro Z
 ·refine rg G ?_
  cases Z
  exact rt [] []
 ·refine X_skip (thN (rg G ?_))
  cases Z
  exact rt [] []
noncomputable def zq63_M : MS (Timetable × Flow) ((List Int)) := ⟨.x .r .r, fun x => zq63 x.1 x.2, fun _ => .own 0, fun y => [arO 3 y], fun _ _ => []⟩
theorem zq63_ok : FnOK Try.prog tJ 99 zq63_M.S := by
 refine fm tt zq63_M [fo zq62_ok, fo zq76_ok] call99 func99 rfl results99 ntmps99 ?_
 rintro ⟨t, f⟩ y cx G (Z : zq63 t f = some y)
 unfold zq63 at Z
 refine rg G (rg G (rg G (Ok_seq (rg G (tl Z (fun i2 => ⟨[(5, .own 16)], [aX 16 3 i2], 48⟩) (fun i2 Z => ?_) ?_)))))
 ·refine Ok_block (lp G Z (fun (b, i, a) => ⟨[(2, .ref 16 0), (3, .ref 32 0), (5, .own 48), (6, .own 64), (7, dV b)], [bX 16 30 [dV t.Network.Stops, dV t.Network.Lines, dV t.Trips], bX 32 44 [dV f.From, dV f.To, dV f.Time, dV f.Persons], aX 48 3 i, aX 64 3 a], 96⟩) ?_)
  rintro ⟨b, i, a⟩ r0 hb Z
  rw [zq63_L2] at Z
  refine Ok_seq (rs G (hN 3 t.Trips h0) ?_)
  refine cd Z ?_ ?_ <;> intro Z
  ·refine X_skip (thN (jn Z (fun (i1, a1) => ⟨[(2, .ref 16 0), (3, .ref 32 0), (5, .own 48), (6, .own 64), (7, dV b)], [bX 16 30 [dV t.Network.Stops, dV t.Network.Lines, dV t.Trips], bX 32 44 [dV f.From, dV f.To, dV f.Time, dV f.Persons], aX 48 3 i1, aX 64 3 a1], 96⟩) (fun vv Z => ?_) ?_))
   ·refine Ok_block ?_
    obtain ⟨r, h, Z⟩ := obind Z
    refine rs G (hC 3 (zq62_M.c (_, _, _) h) h0) ?_
    refine Ok_seq (rg G (cd Z ?_ ?_)) <;> intro Z
    ·exact Ok_exit (thE (ibE (wJ G Z)))
    ·refine X_skip (thN ?_)
     obtain ⟨r1, h1, Z⟩ := obind Z
     refine rs G (hC 3 (zq76_M.c (_, _, _) h1) h0) ?_
     refine rs G (hN 1 i h0) ?_
     refine jn Z (fun v2 => ⟨[(2, .ref 16 0), (3, .ref 32 0), (5, .own 48), (6, .own 64), (7, dV b), (10, dV r1), (11, dV v2)], [bX 16 30 [dV t.Network.Stops, dV t.Network.Lines, dV t.Trips], bX 32 44 [dV f.From, dV f.To, dV f.Time, dV f.Persons], aX 48 3 i, aX 64 3 a], 96⟩) (fun v2 Z => ?_) ?_
     ·refine Ok_block (lp G Z (fun v => ⟨[(2, .ref 16 0), (3, .ref 32 0), (5, .own 48), (6, .own 64), (7, dV b), (10, dV r1), (11, dV v)], [bX 16 30 [dV t.Network.Stops, dV t.Network.Lines, dV t.Trips], bX 32 44 [dV f.From, dV f.To, dV f.Time, dV f.Persons], aX 48 3 i, aX 64 3 a], 96⟩) ?_)
      rintro v r0 hb1 Z
      rw [zq63_L1] at Z
      refine Ok_seq (jn Z (fun v1 => ⟨[(2, .ref 16 0), (3, .ref 32 0), (5, .own 48), (6, .own 64), (7, dV b), (10, dV r1), (11, dV v), (46, dV v1)], [bX 16 30 [dV t.Network.Stops, dV t.Network.Lines, dV t.Trips], bX 32 44 [dV f.From, dV f.To, dV f.Time, dV f.Persons], aX 48 3 i, aX 64 3 a], 96⟩) (fun v1 Z => ?_) ?_)
      ·rcases bf Z with ⟨hb2, Z⟩ | ⟨hb2, Z⟩
       ·obtain ⟨e, h2, Z⟩ := obind Z
        refine re G (hO 2 (.b true) (hP hb2 (hD 6 h2 (hE 7 h2 h0)))) ?_
        exact wJ G Z
       ·refine re G (hO 2 (.b false) (hP hb2 h0)) ?_
        exact wJ G Z
      rintro v1 Z
      refine cd Z ?_ ?_ <;> intro Z
      ·exact X_skip (thN (Ok_block (rh G (ibN (wL G Z)))))
      ·exact Ok_exit (thE (thE (ibE (wD G Z hb1))))
     rintro v2 Z
     refine Ok_weak (Wk_J (x' := (⟨[(2, .ref 16 0), (3, .ref 32 0), (5, dV i), (6, .own 48), (7, dV b), (10, dV r1), (11, dV v2)], [bX 16 30 [dV t.Network.Stops, dV t.Network.Lines, dV t.Trips], bX 32 44 [dV f.From, dV f.To, dV f.Time, dV f.Persons], aX 48 3 a], 80⟩ : X)) G.hL ⟨[(2, []), (3, []), (5, []), (6, []), (7, []), (10, []), (11, [])], [(16, 16, []), (32, 32, []), (48, 64, [])], [], 80⟩ (by kernel_rfl)) ?_
     obtain ⟨u5, h8, u6, h9, u7, h10, Z⟩ := ob3 Z
     obtain ⟨u8, h11, u9, h12, Z⟩ := ob2 Z
     refine ds G [(3, []), (4, [80]), (7, [144, 176]), (10, []), (11, [192])] (hU 3 h8 (hA 4 8 h9 (hA 7 8 h10 (hV 10 h11 (hA 11 8 h12 h0))))) ?_
     refine Ok_weak (Wk_J (x' := (⟨[(2, .ref 16 0), (3, .ref 32 0), (5, .own 48), (6, dV a), (7, dV b), (10, dV r1), (11, dV v2)], [bX 16 30 [dV t.Network.Stops, dV t.Network.Lines, dV t.Trips], bX 32 44 [dV f.From, dV f.To, dV f.Time, dV f.Persons], aX 48 3 (((([] : List Int) ++ ((i.take v2.toNat).drop (0 : Int).toNat)) ++ ([b] : List Int)) ++ (i.drop v2.toNat))], 80⟩ : X)) G.hL ⟨[(2, []), (3, []), (5, []), (6, []), (7, []), (10, []), (11, [])], [(16, 16, []), (32, 32, []), (48, 256, [])], [], 80⟩ (by kernel_rfl)) ?_
     obtain ⟨u15, h18, u16, h19, u17, h20, Z⟩ := ob3 Z
     obtain ⟨u18, h21, u19, h22, Z⟩ := ob2 Z
     refine de G [(3, []), (4, [80]), (7, [144, 176]), (10, []), (11, [192])] (hU 3 h18 (hA 4 8 h19 (hA 7 8 h20 (hV 10 h21 (hA 11 8 h22 h0))))) ?_
     exact ibN (wJ G Z)
   rintro ⟨i1, a1⟩ Z
   exact rh G (wL G Z)
  ·exact Ok_exit (thE (thE (ibE (wD G Z hb))))
 rintro i2 Z s hw
 refine thN (Ok_weak hw ?_)
 refine rg G ?_
 cases Z
 exact rt [16] []
noncomputable def zq58_M : MS (Timetable × (List Flow) × Int) l20State := ⟨.x .r (.x .r .r), fun x => zq58 x.1 x.2.1 x.2.2, fun y => .aggv [.own 0, .own 1, dV y.minutes_, dV y.persons_, .own 2, .own 3], fun y => [taO 37 [some 3] y.loads_, arO 3 y.left_, arO 3 y.on_, arO 3 y.off_], fun _ _ => []⟩
theorem zq58_ok : FnOK Try.prog tJ 204 zq58_M.S := by
 refine fm tt zq58_M [fo zq80_ok, fo zq63_ok, fo zq62_ok, fo zq53_ok, fo zq76_ok] call204 func204 rfl results204 ntmps204 ?_
 rintro ⟨t, list, capacity⟩ y cx G (Z : zq58 t list capacity = some y)
 unfold zq58 at Z
 refine rg G ?_
 obtain ⟨u2, h2, u3, h3, Z⟩ := ob2 Z
 refine ds G [(13, [112, 192, 208, 240])] (hN 3 t.Network.Stops (hO 4 (.l (List.map Enc.e (List.replicate (t.Network.Stops.length : Int).toNat (0 : Int)))) (hP (mk_p (b := 8) (chk_t h2) rfl) (hP (rep_m Enc.e (t.Network.Stops.length : Int).toNat (0 : Int)) (hN 8 t.Network.Stops (hO 9 (.l (List.map Enc.e (List.replicate (t.Network.Stops.length : Int).toNat (0 : Int)))) (hP (mk_p (b := 8) (chk_t h3) rfl) (hP (rep_m Enc.e (t.Network.Stops.length : Int).toNat (0 : Int)) h0)))))))) ?_
 refine Ok_seq (rg G (tl Z (fun v1 => ⟨[(1, dV list), (2, dV capacity), (3, .ref 16 0), (6, .ref 32 0), (7, .ref 48 0)], [bX 16 30 [dV t.Network.Stops, dV t.Network.Lines, dV t.Trips], bX 32 243 [.dat (.sc (.slice none 0 0)), .dat (.sc (.slice none 0 0)), kV .i64 0, kV .i64 0, .dat (.sc (.slice none 0 0)), .dat (.sc (.slice none 0 0))], bX 48 243 [.own 64, .own 80, kV .i64 0, kV .i64 0, .own 96, .own 112], tX 64 37 [some 3] v1 64 none, aX 80 3 ([] : List Int), aX 96 3 (List.replicate (t.Network.Stops.length : Int).toNat (0 : Int)), aX 112 3 (List.replicate (t.Network.Stops.length : Int).toNat (0 : Int))], 144⟩) (fun v1 Z => ?_) ?_))
 ·refine Ok_block (lpP Z (fun (left, v) => ⟨[(1, dV list), (2, dV capacity), (3, .ref 16 0), (6, .ref 32 0), (7, .ref 48 0), (8, dV left)], [bX 16 30 [dV t.Network.Stops, dV t.Network.Lines, dV t.Trips], bX 32 243 [.dat (.sc (.slice none 0 0)), .dat (.sc (.slice none 0 0)), kV .i64 0, kV .i64 0, .dat (.sc (.slice none 0 0)), .dat (.sc (.slice none 0 0))], bX 48 243 [.own 64, .own 80, kV .i64 0, kV .i64 0, .own 96, .own 112], tX 64 37 [some 3] v 64 none, aX 80 3 ([] : List Int), aX 96 3 (List.replicate (t.Network.Stops.length : Int).toNat (0 : Int)), aX 112 3 (List.replicate (t.Network.Stops.length : Int).toNat (0 : Int))], 144⟩) (Wk_J G.hL ⟨[(1, []), (2, []), (3, []), (6, []), (7, []), (8, [])], [(16, 16, []), (32, 32, []), (48, 240, [.o 64]), (80, 208, []), (96, 112, []), (112, 192, [])], [(64, 37, 1, [some 3])], 144⟩ (by kernel_rfl)) ?_)
  rintro ⟨left, v⟩ r0 hb Z
  rw [zq58_L1] at Z
  refine Ok_seq (rs G (hN 3 t.Trips h0) ?_)
  refine cd Z ?_ ?_ <;> intro Z
  ·refine X_skip (thN (Ok_seq (Ok_block ?_)))
   obtain ⟨r1, h7, u6, h8, u7, h9, Z⟩ := ob3 Z
   refine de G [(8, [336]), (9, [64, 352]), (11, [48, 368])] (hC 4 (zq80_M.c (_, _) h7) (hN 5 r1 (hO 7 (.l (List.map Enc.e (List.replicate (w64 ((r1.length : Int) - 1)).toNat (0 : Int)))) (hP (mk_p (b := 8) (chk_t h8) rfl) (hP (rep_m Enc.e (w64 ((r1.length : Int) - 1)).toNat (0 : Int)) (hP (nodupB_ok (l := [336]) rfl) (hA 9 24 h9 h0))))))) ?_
   exact ibN (thN (rh G (wL G Z)))
  ·exact Ok_exit (thE (thE (ibE (wD G Z hb))))
 rintro v1 Z s hw
 refine thN (Ok_weak hw ?_)
 refine Ok_seq (rg G (tl Z (fun (v24, v25, v26, v27, v28, v29) => ⟨[(6, .ref 16 0), (7, .ref 32 0)], [bX 16 243 [.dat (.sc (.slice none 0 0)), .dat (.sc (.slice none 0 0)), kV .i64 0, kV .i64 0, .dat (.sc (.slice none 0 0)), .dat (.sc (.slice none 0 0))], bX 32 243 [.own 48, .own 64, dV v24, dV v25, .own 80, .own 96], tX 48 37 [some 3] v26 48 none, aX 64 3 v27, aX 80 3 v28, aX 96 3 v29], 128⟩) (fun vv1 Z => ?_) ?_))
 ·refine Ok_block (lp G Z (fun (trips, v2, v3, v4, v5, v6, v7) => ⟨[(1, dV list), (2, dV capacity), (3, .ref 16 0), (6, .ref 32 0), (7, .ref 48 0), (9, dV trips)], [bX 16 30 [dV t.Network.Stops, dV t.Network.Lines, dV t.Trips], bX 32 243 [.dat (.sc (.slice none 0 0)), .dat (.sc (.slice none 0 0)), kV .i64 0, kV .i64 0, .dat (.sc (.slice none 0 0)), .dat (.sc (.slice none 0 0))], bX 48 243 [.own 64, .own 80, dV v2, dV v3, .own 96, .own 112], tX 64 37 [some 3] v4 64 none, aX 80 3 v5, aX 96 3 v6, aX 112 3 v7], 144⟩) ?_)
  rintro ⟨trips, v2, v3, v4, v5, v6, v7⟩ r0 hb1 Z
  rw [zq58_L5] at Z
  refine Ok_seq (rs G (hN 2 list h0) ?_)
  refine cd Z ?_ ?_ <;> intro Z
  ·refine X_skip (thN (Ok_seq (Ok_block ?_)))
   obtain ⟨e, h10, Z⟩ := obind Z
   refine rs G (hD 2 h10 h0) ?_
   refine rg G ?_
   obtain ⟨r2, h11, Z⟩ := obind Z
   refine rs G (hC 2 (zq63_M.c (_, _) h11) h0) ?_
   refine Ok_seq (rg G (tl Z (fun (i1, v19, v20, v21, v22, v23) => ⟨[(1, dV list), (2, dV capacity), (3, .ref 16 0), (6, .ref 32 0), (7, .ref 48 0), (9, dV trips), (11, dV i1)], [bX 16 30 [dV t.Network.Stops, dV t.Network.Lines, dV t.Trips], bX 32 243 [.dat (.sc (.slice none 0 0)), .dat (.sc (.slice none 0 0)), kV .i64 0, kV .i64 0, .dat (.sc (.slice none 0 0)), .dat (.sc (.slice none 0 0))], bX 48 243 [.own 64, .own 80, dV v19, dV v20, .own 96, .own 112], tX 64 37 [some 3] v21 64 none, aX 80 3 v5, aX 96 3 v22, aX 112 3 v23], 144⟩) (fun vv Z => ?_) ?_))
   ·refine Ok_block (lp G Z (fun (i, b, v8, v9, v10, v11, v12) => ⟨[(1, dV list), (2, dV capacity), (3, .ref 16 0), (6, .ref 32 0), (7, .ref 48 0), (9, dV trips), (10, .ref 64 0), (11, dV i), (12, .own 80), (13, dV b)], [bX 16 30 [dV t.Network.Stops, dV t.Network.Lines, dV t.Trips], bX 32 243 [.dat (.sc (.slice none 0 0)), .dat (.sc (.slice none 0 0)), kV .i64 0, kV .i64 0, .dat (.sc (.slice none 0 0)), .dat (.sc (.slice none 0 0))], bX 48 243 [.own 96, .own 112, dV v8, dV v9, .own 128, .own 144], bX 64 44 [dV e.From, dV e.To, dV e.Time, dV e.Persons], aX 80 3 r2, tX 96 37 [some 3] v10 96 none, aX 112 3 v5, aX 128 3 v11, aX 144 3 v12], 176⟩) ?_)
    rintro ⟨i, b, v8, v9, v10, v11, v12⟩ r0 hb2 Z
    rw [zq58_L4] at Z
    refine Ok_seq (rs G (hN 2 r2 h0) ?_)
    refine cd Z ?_ ?_ <;> intro Z
    ·refine X_skip (thN (Ok_seq (Ok_block ?_)))
     obtain ⟨e1, h12, Z⟩ := obind Z
     refine rs G (hD 2 h12 (hE 3 h12 h0)) ?_
     obtain ⟨r3, h13, Z⟩ := obind Z
     refine rs G (hC 3 (zq62_M.c (_, _, _) h13) h0) ?_
     refine rg G (Ok_seq (rg G (tl Z (fun v15 => ⟨[(1, dV list), (2, dV capacity), (3, .ref 16 0), (6, .ref 32 0), (7, .ref 48 0), (9, dV trips), (10, .ref 64 0), (11, dV i), (12, .own 80), (13, dV b), (14, dV e1), (15, dV r3.1), (16, dV r3.2), (17, dV v15)], [bX 16 30 [dV t.Network.Stops, dV t.Network.Lines, dV t.Trips], bX 32 243 [.dat (.sc (.slice none 0 0)), .dat (.sc (.slice none 0 0)), kV .i64 0, kV .i64 0, .dat (.sc (.slice none 0 0)), .dat (.sc (.slice none 0 0))], bX 48 243 [.own 96, .own 112, dV v8, dV v9, .own 128, .own 144], bX 64 44 [dV e.From, dV e.To, dV e.Time, dV e.Persons], aX 80 3 r2, tX 96 37 [some 3] v10 96 none, aX 112 3 v5, aX 128 3 v11, aX 144 3 v12], 176⟩) (fun v15 Z => ?_) ?_)))
     ·refine Ok_block (lp G Z (fun (v13, v14) => ⟨[(1, dV list), (2, dV capacity), (3, .ref 16 0), (6, .ref 32 0), (7, .ref 48 0), (9, dV trips), (10, .ref 64 0), (11, dV i), (12, .own 80), (13, dV b), (14, dV e1), (15, dV r3.1), (16, dV r3.2), (17, dV v13), (18, dV v14)], [bX 16 30 [dV t.Network.Stops, dV t.Network.Lines, dV t.Trips], bX 32 243 [.dat (.sc (.slice none 0 0)), .dat (.sc (.slice none 0 0)), kV .i64 0, kV .i64 0, .dat (.sc (.slice none 0 0)), .dat (.sc (.slice none 0 0))], bX 48 243 [.own 96, .own 112, dV v8, dV v9, .own 128, .own 144], bX 64 44 [dV e.From, dV e.To, dV e.Time, dV e.Persons], aX 80 3 r2, tX 96 37 [some 3] v10 96 none, aX 112 3 v5, aX 128 3 v11, aX 144 3 v12], 176⟩) ?_)
      rintro ⟨v13, v14⟩ r0 hb3 Z
      rw [zq58_L2] at Z
      refine Ok_seq (rg G (cd Z ?_ ?_)) <;> intro Z
      ·refine X_skip (thN (Ok_seq (Ok_block ?_)))
       obtain ⟨e2, h14, e3, h15, r4, h16, Z⟩ := ob3 Z
       refine re G (hD 5 h14 (hE 6 h14 (hE 8 h14 (hP (idx_b (f := Enc.e) h15) (hO 9 (.d2 (Enc.e e2) (Enc.e e3)) (hP (idx_m2 (f := Enc.e) h14) (hP (idx_m2 (f := Enc.e) h15) (hC 11 (zq53_c h16) h0)))))))) ?_
       exact ibN (thN (rh G (wL G Z)))
      ·exact Ok_exit (thE (thE (ibE (wD G Z hb3))))
     rintro v15 Z s1 hw1
     refine thN (Ok_weak hw1 ?_)
     refine Ok_seq (rg G (tl Z (fun v18 => ⟨[(1, dV list), (2, dV capacity), (3, .ref 16 0), (6, .ref 32 0), (7, .ref 48 0), (9, dV trips), (10, .ref 64 0), (11, dV i), (12, .own 80), (13, dV b), (14, dV e1), (16, dV r3.2), (17, dV v15)], [bX 16 30 [dV t.Network.Stops, dV t.Network.Lines, dV t.Trips], bX 32 243 [.dat (.sc (.slice none 0 0)), .dat (.sc (.slice none 0 0)), kV .i64 0, kV .i64 0, .dat (.sc (.slice none 0 0)), .dat (.sc (.slice none 0 0))], bX 48 243 [.own 96, .own 112, dV v8, dV v9, .own 128, .own 144], bX 64 44 [dV e.From, dV e.To, dV e.Time, dV e.Persons], aX 80 3 r2, tX 96 37 [some 3] v18 96 none, aX 112 3 v5, aX 128 3 v11, aX 144 3 v12], 176⟩) (fun v18 Z => ?_) ?_))
     ·refine Ok_block (lp G Z (fun (v16, v17) => ⟨[(1, dV list), (2, dV capacity), (3, .ref 16 0), (6, .ref 32 0), (7, .ref 48 0), (9, dV trips), (10, .ref 64 0), (11, dV i), (12, .own 80), (13, dV b), (14, dV e1), (16, dV r3.2), (17, dV v15), (19, dV v16)], [bX 16 30 [dV t.Network.Stops, dV t.Network.Lines, dV t.Trips], bX 32 243 [.dat (.sc (.slice none 0 0)), .dat (.sc (.slice none 0 0)), kV .i64 0, kV .i64 0, .dat (.sc (.slice none 0 0)), .dat (.sc (.slice none 0 0))], bX 48 243 [.own 96, .own 112, dV v8, dV v9, .own 128, .own 144], bX 64 44 [dV e.From, dV e.To, dV e.Time, dV e.Persons], aX 80 3 r2, tX 96 37 [some 3] v17 96 none, aX 112 3 v5, aX 128 3 v11, aX 144 3 v12], 176⟩) ?_)
      rintro ⟨v16, v17⟩ r0 hb4 Z
      rw [zq58_L3] at Z
      refine Ok_seq (rg G (cd Z ?_ ?_)) <;> intro Z
      ·refine X_skip (thN (Ok_seq (Ok_block ?_)))
       obtain ⟨e8, h21, e9, h22, e10, h23, Z⟩ := ob3 Z
       obtain ⟨e11, h24, Z⟩ := obind Z
       refine de G [(17, [96])] (hD 3 h21 (hE 4 h21 (hD 9 h22 (hE 10 h21 (hE 12 h21 (hP (idx_b (f := Enc.e) h23) (hO 13 (.d2 (Enc.e e8) (Enc.e e10)) (hP (idx_m2 (f := Enc.e) h21) (hP (idx_m2 (f := Enc.e) h23) (hE 16 h21 (hP (idx_b (f := Enc.e) h24) (hO 17 (.sd2 (Enc.e e8) (Enc.e e11) (List.map Enc.e (e8.set v16.toNat (w64 (e10 + v15)))) (List.map Enc.e (v17.set e1.toNat (e8.set v16.toNat (w64 (e10 + v15)))))) (hP (idx_m2 (f := Enc.e) h21) (hP (idx_m2 (f := Enc.e) h24) (hP (set_m Enc.e e8 v16.toNat (w64 (e10 + v15))) (hP (set_m Enc.e v17 e1.toNat (e8.set v16.toNat (w64 (e10 + v15)))) h0)))))))))))))))) ?_
       exact ibN (thN (rh G (wL G Z)))
      ·exact Ok_exit (thE (thE (ibE (wD G Z hb4))))
     rintro v18 Z s2 hw2
     refine thN (Ok_weak hw2 ?_)
     refine rg G (rg G ?_)
     obtain ⟨r6, h26, Z⟩ := obind Z
     refine ds G [(13, [48])] (hC 6 (zq76_M.c (_, _, _) h26) h0) ?_
     obtain ⟨e14, h29, e15, h30, Z⟩ := ob2 Z
     refine ds G [(13, [128])] (hD 8 h29 (hE 9 h29 (hD 12 h30 (hS 13 h30 (w64 (e14 + v15)) h0)))) ?_
     obtain ⟨e18, h33, e19, h34, Z⟩ := ob2 Z
     refine de G [(13, [144])] (hD 8 h33 (hE 9 h33 (hD 12 h34 (hS 13 h34 (w64 (e18 + v15)) h0)))) ?_
     exact ibN (thN (rh G (wL G Z)))
    ·exact Ok_exit (thE (thE (ibE (wD G Z hb2))))
   rintro ⟨i1, v19, v20, v21, v22, v23⟩ Z s3 hw3
   refine thN (Ok_weak hw3 ?_)
   obtain ⟨u8, h35, Z⟩ := obind Z
   refine re G (hA 4 8 h35 h0) ?_
   exact ibN (thN (rh G (wL G Z)))
  ·exact Ok_exit (thE (thE (ibE (wD G Z hb1))))
 rintro ⟨v24, v25, v26, v27, v28, v29⟩ Z s4 hw4
 refine thN (Ok_weak hw4 ?_)
 refine rg G ?_
 cases Z
 exact rt [48, 64, 80, 96] []
noncomputable def zq61_M : MS (Timetable × (List Flow) × Int) Int := ⟨.x .r (.x .r .r), fun x => zq61 x.1 x.2.1 x.2.2, fun y => dV y, fun _ => [], fun _ _ => []⟩
theorem zq61_c {t list capacity y} (Z : zq61 t list capacity = some y) : zq61_M.C (t, list, capacity) y := zq61_M.c (t, list, capacity) Z
theorem zq61_ok : FnOK Try.prog tJ 88 zq61_M.S := by
 refine fm tt zq61_M [fo zq58_ok] call88 func88 rfl results88 ntmps88 ?_
 rintro ⟨t, list, capacity⟩ y cx G (Z : zq61 t list capacity = some y)
 unfold zq61 at Z
 refine rg G (rg G ?_)
 obtain ⟨r, h, Z⟩ := obind Z
 refine rs G (hC 3 (zq58_M.c (_, _, _) h) h0) ?_
 refine Ok_seq (rg G (tl Z (fun v2 => ⟨[(7, dV v2)], [], 32⟩) (fun v2 Z => ?_) ?_))
 ·refine Ok_block (lp G Z (fun (v, v1) => ⟨[(7, dV v), (8, .own 16), (9, dV v1)], [aX 16 3 r.left_], 48⟩) ?_)
  rintro ⟨v, v1⟩ r0 hb Z
  rw [zq61_L1] at Z
  refine Ok_seq (rs G (hN 2 r.left_ h0) ?_)
  refine cd Z ?_ ?_ <;> intro Z
  ·refine X_skip (thN (Ok_seq (Ok_block ?_)))
   obtain ⟨e, h1, Z⟩ := obind Z
   refine re G (hD 3 h1 (hE 4 h1 h0)) ?_
   exact ibN (thN (rh G (wL G Z)))
  ·exact Ok_exit (thE (thE (ibE (wD G Z hb))))
 rintro v2 Z s hw
 refine thN (Ok_weak hw ?_)
 refine rg G ?_
 cases Z
 exact rt [] []
noncomputable def zq34_M : MS (Timetable × (List Flow)) (Int × Bool) := ⟨.x .r .r, fun x => zq34 x.1 x.2, fun y => .tup [dV y.1, dV y.2], fun _ => [], fun _ _ => []⟩
theorem zq34_ok : FnOK Try.prog tJ 13 zq34_M.S := by
 refine fm tt zq34_M [fo zq60_ok, fo zq61_ok] call13 func13 rfl results13 ntmps13 ?_
 rintro ⟨t, list⟩ y cx G (Z : zq34 t list = some y)
 unfold zq34 at Z
 refine rg G (Ok_seq ?_)
 obtain ⟨r, h, Z⟩ := obind Z
 refine rs G (hC 2 (zq60_M.c (_, _) h) h0) ?_
 refine cd Z ?_ ?_ <;> intro Z
 ·refine rg G ?_
  cases Z
  exact rt [] []
 ·refine X_skip (thN ?_)
  obtain ⟨r1, h1, Z⟩ := obind Z
  refine rs G (hC 2 (zq61_c h1) h0) ?_
  refine rg G (jn Z (fun v1 => ⟨[(7, dV v1)], [], 32⟩) (fun v1 Z => ?_) ?_)
  ·refine Ok_block (lp G Z (fun v => ⟨[(1, dV list), (2, .ref 16 0), (6, dV r1), (7, dV v)], [bX 16 30 [dV t.Network.Stops, dV t.Network.Lines, dV t.Trips]], 48⟩) ?_)
   rintro v r0 hb Z
   rw [zq34_L1] at Z
   refine Ok_seq ?_
   obtain ⟨r2, h2, Z⟩ := obind Z
   refine rs G (hC 3 (zq61_c h2) h0) ?_
   refine cd Z ?_ ?_ <;> intro Z
   ·exact X_skip (thN (Ok_block (rh G (ibN (wL G Z)))))
   ·exact Ok_exit (thE (thE (ibE (wD G Z hb))))
  rintro v1 Z
  refine rg G ?_
  cases Z
  exact rt [] []
noncomputable def zq11_M : MS (Timetable × (List Flow) × Int) Bool := ⟨.x .r (.x .r .r), fun x => zq11 x.1 x.2.1 x.2.2, fun y => dV y, fun _ => [], fun _ _ => []⟩
theorem zq11_ok : FnOK Try.prog tJ 91 zq11_M.S := by
 refine fm tt zq11_M [fo zq2_ok, fo zq28_ok] call91 func91 rfl results91 ntmps91 ?_
 rintro ⟨t, list, capacity⟩ y cx G (Z : zq11 t list capacity = some y)
 unfold zq11 at Z
 refine rg G ?_
 obtain ⟨r, h, Z⟩ := obind Z
 refine jn Z (fun v => ⟨[(6, dV v)], [], 32⟩) (fun v Z => ?_) ?_
 ·rcases bf Z with ⟨hb, Z⟩ | ⟨hb, Z⟩
  ·obtain ⟨r1, h1, Z⟩ := obind Z
   refine re G (hC 2 (zq2_M.c (_, _) h) (hO 3 (.b true) (hP hb (hC 5 (zq28_c h1) h0)))) ?_
   exact wJ G Z
  ·refine re G (hC 2 (zq2_M.c (_, _) h) (hO 3 (.b false) (hP hb h0))) ?_
   exact wJ G Z
 rintro v Z
 cases Z
 exact rt [] []
end Go.Proofs.Ytmmffjenpfeapaa
