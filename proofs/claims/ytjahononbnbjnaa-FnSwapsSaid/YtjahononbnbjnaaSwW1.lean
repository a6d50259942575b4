/- Each function computes what its model says. Made by program (dec.py). -/
import Derived.Test.YtjahononbnbjnaaTy
import Derived.Test.YtjahononbnbjnaaAbC
import Derived.Test.YtjahononbnbjnaaSwM
import Derived.Test.YtjahononbnbjnaaAbLd
namespace Go.Proofs.Ytjahononbnbjnaa
open Go Go.Ab Try
set_option maxRecDepth 100000
set_option maxHeartbeats 4000000
set_option linter.unusedVariables false
set_option linter.unusedSimpArgs false
theorem tt : TT Try.prog ty := ⟨by kernel_rfl, ty_ok⟩
abbrev tJ : Inv := .none
noncomputable def zq98_M : MS ((List UInt8)) Bool := ⟨.r, zq98, fun y => dV y, fun _ => [], fun _ _ => []⟩
theorem zq98_ok : FnOK Try.prog tJ 34 zq98_M.S := by
 refine fm tt zq98_M [] call34 func34 rfl results34 ntmps34 ?_
 rintro code y cx G (p : zq98 code = some y)
 unfold zq98 at p
 refine rg G (rs G (hN 1 code h0) ?_)
 cases p
 exact rt [] []
noncomputable def zq58_M : MS l1Cur (Int × l1Cur) := ⟨.b 118, zq58, fun y => dV y.1, fun _ => [], fun _ y => [bxO 118 y.2]⟩
theorem zq58_ok : FnOK Try.prog tJ 154 zq58_M.S := by
 refine fm tt zq58_M [] call154 func154 rfl results154 ntmps154 ?_
 rintro c y cx G (p : zq58 c = some y)
 unfold zq58 at p
 refine rg G (rg G (jn p (fun v => ⟨[(0, .ref 0 0), (3, dV v)], [bX 0 118 [dV c.code_, dV c.at_, kV .u64 c.seed_.v]], 48⟩) (fun v p => ?_) ?_))
 ·refine ds G [] (hN 8 c.code_ h0) ?_
  refine cd p ?_ ?_ <;> intro p
  ·obtain ⟨e1, h1, p⟩ := obind p
   refine de G [] (hD 8 h1 h0) ?_
   exact wJ G p
  ·exact X_skip (wJ G p)
 rintro v p
 refine rg G (rg G (Ok_seq (ds G [] (hN 8 c.code_ h0) ?_)))
 refine cd p ?_ ?_ <;> intro p
 ·refine rg G ?_
  cases p
  exact rt [] []
 ·refine X_skip (thN ?_)
  obtain ⟨u, h2, p⟩ := obind p
  refine rs G (hK h2 h0) ?_
  cases p
  exact rt [] []
noncomputable def zq62_M : MS (l1Cur × Int) (Int × l1Cur) := ⟨.x (.b 118) .r, fun x => zq62 x.1 x.2, fun y => dV y.1, fun _ => [], fun _ y => [bxO 118 y.2]⟩
theorem zq62_c {c n y} (p : zq62 c n = some y) : zq62_M.C (c, n) y := zq62_M.c (c, n) p
theorem zq62_ok : FnOK Try.prog tJ 81 zq62_M.S := by
 refine fm tt zq62_M [fo zq58_ok] call81 func81 rfl results81 ntmps81 ?_
 rintro ⟨c, n⟩ y cx G (p : zq62 c n = some y)
 unfold zq62 at p
 refine rg G (Ok_seq (rg G (cd p ?_ ?_))) <;> intro p
 ·refine rg G ?_
  cases p
  exact rt [] []
 ·refine X_skip (thN ?_)
  obtain ⟨r, h, p⟩ := obind p
  refine rs G (hC 1 (zq58_M.c _ h) h0) ?_
  refine jn p (fun (v, v1, v2, v3) => ⟨[(0, .ref 0 0), (1, dV n), (5, dV v)], [bX 0 118 [dV v1, dV v2, kV .u64 v3]], 48⟩) (fun vv p => ?_) ?_
  ·refine rg G (cd p ?_ ?_) <;> intro p
   ·obtain ⟨r1, h1, p⟩ := obind p
    refine re G (hC 3 (zq58_M.c _ h1) h0) ?_
    exact wJ G p
   ·exact X_skip (wJ G p)
  rintro ⟨v, v1, v2, v3⟩ p
  obtain ⟨u, h2, p⟩ := obind p
  refine rs G (hK h2 h0) ?_
  cases p
  exact rt [] []
noncomputable def zq61_M : MS (l1Cur × Int) (Bool × l1Cur) := ⟨.x (.b 118) .r, fun x => zq61 x.1 x.2, fun y => dV y.1, fun _ => [], fun _ y => [bxO 118 y.2]⟩
theorem zq61_c {c n y} (p : zq61 c n = some y) : zq61_M.C (c, n) y := zq61_M.c (c, n) p
theorem zq61_ok : FnOK Try.prog tJ 79 zq61_M.S := by
 refine fm tt zq61_M [fo zq62_ok] call79 func79 rfl results79 ntmps79 ?_
 rintro ⟨c, n⟩ y cx G (p : zq61 c n = some y)
 unfold zq61 at p
 refine rg G ?_
 obtain ⟨r, h, p⟩ := obind p
 refine rs G (hC 2 (zq62_c h) h0) ?_
 cases p
 exact rt [] []
noncomputable def zq70_MR (rec_ : Int → Option (ByteArray)) : MS Int ByteArray := ⟨.r, rec_, fun y => dV y, fun _ => [], fun _ _ => []⟩
noncomputable def zq70_M : MS Int ByteArray := zq70_MR zq70
theorem zq70_cR {rec_ : Int → Option (ByteArray)} {n y} (p : rec_ n = some y) : (zq70_MR rec_).C n y := (zq70_MR rec_).c n p
theorem zq70_okF {rec_ : Int → Option (ByteArray)} (hrec : FnOK Try.prog tJ 222 (zq70_MR rec_).S) : FnOK Try.prog tJ 222 (zq70_MR (zq70_F rec_)).S := by
 refine fm tt (zq70_MR (zq70_F rec_)) [fo hrec] call222 func222 rfl results222 ntmps222 ?_
 rintro n y cx G (p : zq70_F rec_ n = some y)
 unfold zq70_F at p
 refine rg G (Ok_seq (rg G (cd p ?_ ?_))) <;> intro p
 ·obtain ⟨r, h, u, h1, p⟩ := ob2 p
  refine rs G (hC 2 (zq70_cR h) (hP (cat_p (chk_t h1)) h0)) ?_
  cases p
  exact rt [] []
 ·refine X_skip (thN (Ok_seq (rg G (cd p ?_ ?_)))) <;> intro p
  ·obtain ⟨u1, h2, p⟩ := obind p
   refine rs G (hK h2 h0) ?_
   cases p
   exact rt [] []
  ·refine X_skip (thN ?_)
   obtain ⟨u7, h9, r2, h10, u8, h11, p⟩ := ob3 p
   obtain ⟨u9, h12, u10, h13, u11, h14, p⟩ := ob3 p
   refine ds G [] (hK h9 (hC 2 (zq70_cR h10) (hK h11 (hK h12 (hK h13 (hP (cat_p (chk_t h14)) h0)))))) ?_
   cases p
   exact rt [] []
theorem zq70_okn : ∀ k, FnOK Try.prog tJ 222 (zq70_MR (zq70_k k)).S
 | 0 => ⟨fun args w => call222 args w, fun vs w F ds obs κ hp => by obtain ⟨x, y, _, _, h⟩ := hp; cases h⟩
 | k + 1 => zq70_okF (zq70_okn k)
theorem zq70_ok : FnOK Try.prog tJ 222 zq70_M.S := zq70_okn 4294967296
noncomputable def zq82_M : MS (Line × Int) Int := ⟨.x .r .r, fun x => zq82 x.1 x.2, fun y => dV y, fun _ => [], fun _ _ => []⟩
theorem zq82_ok : FnOK Try.prog tJ 147 zq82_M.S := by
 refine fm tt zq82_M [] call147 func147 rfl results147 ntmps147 ?_
 rintro ⟨x, stop⟩ y cx G (p : zq82 x stop = some y)
 unfold zq82 at p
 refine rg G (Ok_seq (rg G (tF p (fun _ => ⟨[], [], 32⟩) (fun v1 hr p => ?_) ?_)))
 ·refine Ok_block (lp G p (fun v => ⟨[(1, dV stop), (2, .ref 16 0), (5, dV v)], [bX 16 194 [dV x.Name, dV x.Stops, dV x.Runs]], 48⟩) ?_)
  rintro v r0 hb p
  rw [zq82_L1] at p
  refine Ok_seq (rs G (hN 3 x.Stops h0) ?_)
  refine cd p ?_ ?_ <;> intro p
  ·refine X_skip (thN (Ok_seq (Ok_block ?_)))
   obtain ⟨e, h, p⟩ := obind p
   refine rs G (hD 3 h h0) ?_
   refine cd p ?_ ?_ <;> intro p
   ·refine rg G ?_
    have p := eL p hb hr
    cases p
    exact rt [] []
   ·exact X_skip (ibN (thN (rh G (wL G p))))
  ·exact Ok_exit (thE (thE (ibE (wE G p hb))))
 rintro ⟨⟩ p s hw
 refine thN (Ok_weak hw ?_)
 refine rg G ?_
 cases p
 exact rt [] []
noncomputable def zq54_M : MS (l1Cur × ByteArray × Int) (Line × l1Cur) := ⟨.x (.b 118) (.x .r .r), fun x => zq54 x.1 x.2.1 x.2.2, fun y => .aggv [dV y.1.Name, .own 0, .own 1], fun y => [arO 3 y.1.Stops, arO 3 y.1.Runs], fun _ y => [bxO 118 y.2]⟩
theorem zq54_ok : FnOK Try.prog tJ 221 zq54_M.S := by
 refine fm tt zq54_M [fo zq62_ok, fo zq82_ok] call221 func221 rfl results221 ntmps221 ?_
 rintro ⟨c, name, stops⟩ y cx G (p : zq54 c name stops = some y)
 unfold zq54 at p
 refine rg G (rg G ?_)
 obtain ⟨r, h, p⟩ := obind p
 refine rs G (hC 2 (zq62_c h) h0) ?_
 refine Ok_seq ?_
 obtain ⟨r1, h1, p⟩ := obind p
 refine rs G (hC 1 (zq62_c h1) h0) ?_
 refine tl p (fun (v7, v8, v9, v10) => ⟨[(0, .ref 0 0), (2, dV stops), (6, .ref 32 0), (7, .ref 48 0)], [bX 0 118 [dV v7, dV v8, kV .u64 v9], bX 32 194 [dV ByteArray.empty, .dat (.sc (.slice none 0 0)), .dat (.sc (.slice none 0 0))], bX 48 194 [dV name, .own 64, .dat (.sc (.slice none 0 0))], aX 64 3 v10], 96⟩) (fun vv1 p => ?_) ?_
 ·refine Ok_block (lpP p (fun (v, v1, v2, v3, v4, v5) => ⟨[(0, .ref 0 0), (2, dV stops), (6, .ref 32 0), (7, .ref 48 0), (8, dV v), (9, dV v1)], [bX 0 118 [dV v2, dV v3, kV .u64 v4], bX 32 194 [dV ByteArray.empty, .dat (.sc (.slice none 0 0)), .dat (.sc (.slice none 0 0))], bX 48 194 [dV name, .own 64, .dat (.sc (.slice none 0 0))], aX 64 3 v5], 96⟩) (Wk_J G.hL ⟨[(0, []), (2, []), (6, []), (7, []), (8, []), (9, [])], [(0, 0, []), (32, 16, []), (48, 64, [.k, .o 64])], [(64, 3, 1, [])], 96⟩ (by kernel_rfl)) ?_)
  rintro ⟨v, v1, v2, v3, v4, v5⟩ r0 hb p
  rw [zq54_L1] at p
  refine Ok_seq (rg G (cd p ?_ ?_)) <;> intro p
  ·refine X_skip (thN (Ok_seq (Ok_block (jn p (fun v6 => ⟨[(0, .ref 0 0), (2, dV stops), (6, .ref 32 0), (7, .ref 48 0), (8, dV v), (9, dV v1)], [bX 0 118 [dV v2, dV v3, kV .u64 v4], bX 32 194 [dV ByteArray.empty, .dat (.sc (.slice none 0 0)), .dat (.sc (.slice none 0 0))], bX 48 194 [dV name, .own 64, .dat (.sc (.slice none 0 0))], aX 64 3 v6], 96⟩) (fun v6 p => ?_) ?_))))
   ·obtain ⟨r2, h2, p⟩ := obind p
    refine rs G (hC 2 (zq82_M.c (_, _) h2) h0) ?_
    refine cd p ?_ ?_ <;> intro p
    ·obtain ⟨u, h3, p⟩ := obind p
     refine re G (hA 4 8 h3 h0) ?_
     exact wJ G p
    ·exact X_skip (wJ G p)
   rintro v6 p
   obtain ⟨r3, h4, u1, h5, p⟩ := ob2 p
   refine re G (hC 3 (zq62_c h4) (hK h5 h0)) ?_
   exact ibN (thN (rh G (wL G p)))
  ·exact Ok_exit (thE (thE (ibE (wD G p hb))))
 rintro ⟨v7, v8, v9, v10⟩ p s hw
 refine thN (Ok_weak hw ?_)
 refine jn p (fun v11 => ⟨[(0, .ref 0 0), (6, .ref 32 0), (7, .ref 48 0)], [bX 0 118 [dV v7, dV v8, kV .u64 v9], bX 32 194 [dV ByteArray.empty, .dat (.sc (.slice none 0 0)), .dat (.sc (.slice none 0 0))], bX 48 194 [dV name, .own 64, .dat (.sc (.slice none 0 0))], aX 64 3 v11], 96⟩) (fun v11 p => ?_) ?_
 ·refine rs G (hN 2 v10 h0) ?_
  refine cd p ?_ ?_ <;> intro p
  ·obtain ⟨e1, h9, u4, h10, u5, h11, p⟩ := ob3 p
   refine de G [(10, [64, 304]), (12, [48, 320])] (hD 4 h9 (hE 5 h9 (hK h10 (hA 10 8 h11 h0)))) ?_
   exact wJ G p
  ·exact X_skip (wJ G p)
 rintro v11 p
 refine Ok_seq (rg G (tl p (fun (v17, v18, v19, v20) => ⟨[(0, .ref 0 0), (6, .ref 32 0), (7, .ref 48 0)], [bX 0 118 [dV v17, dV v18, kV .u64 v19], bX 32 194 [dV ByteArray.empty, .dat (.sc (.slice none 0 0)), .dat (.sc (.slice none 0 0))], bX 48 194 [dV name, .own 64, .own 80], aX 64 3 v11, aX 80 3 v20], 112⟩) (fun vv p => ?_) ?_))
 ·refine Ok_block (lpP p (fun (v12, v13, v14, v15, v16) => ⟨[(0, .ref 0 0), (6, .ref 32 0), (7, .ref 48 0), (10, dV v12)], [bX 0 118 [dV v13, dV v14, kV .u64 v15], bX 32 194 [dV ByteArray.empty, .dat (.sc (.slice none 0 0)), .dat (.sc (.slice none 0 0))], bX 48 194 [dV name, .own 64, .own 80], aX 64 3 v11, aX 80 3 v16], 112⟩) (Wk_J G.hL ⟨[(0, []), (6, []), (7, []), (10, [])], [(0, 0, []), (32, 32, []), (48, 48, [.k, .k, .o 80]), (64, 64, [])], [(80, 3, 1, [])], 112⟩ (by kernel_rfl)) ?_)
  rintro ⟨v12, v13, v14, v15, v16⟩ r0 hb1 p
  rw [zq54_L2] at p
  refine Ok_seq (rs G (hN 3 v11 h0) ?_)
  refine cd p ?_ ?_ <;> intro p
  ·refine X_skip (thN (Ok_seq (Ok_block ?_)))
   obtain ⟨r5, h14, u7, h15, p⟩ := ob2 p
   refine de G [(3, [0]), (6, [80, 272]), (8, [48, 288])] (hC 3 (zq62_c h14) (hA 6 8 h15 h0)) ?_
   exact ibN (thN (rh G (wL G p)))
  ·exact Ok_exit (thE (thE (ibE (wD G p hb1))))
 rintro ⟨v17, v18, v19, v20⟩ p s1 hw1
 refine thN (Ok_weak hw1 ?_)
 refine rg G ?_
 cases p
 exact rt [64, 80] []
noncomputable def zq55_M : MS (l1Cur × ByteArray × Int) (Line × l1Cur) := ⟨.x (.b 118) (.x .r .r), fun x => zq55 x.1 x.2.1 x.2.2, fun y => dV y.1, fun _ => [], fun _ y => [bxO 118 y.2]⟩
theorem zq55_ok : FnOK Try.prog tJ 221 zq55_M.S := by
 refine fm tt zq55_M [fo zq62_ok, fo zq82_ok] call221 func221 rfl results221 ntmps221 ?_
 rintro ⟨c, name, stops⟩ y cx G (p : zq55 c name stops = some y)
 unfold zq55 at p
 refine rg G (rg G ?_)
 obtain ⟨r, h, p⟩ := obind p
 refine rs G (hC 2 (zq62_c h) h0) ?_
 refine Ok_seq ?_
 obtain ⟨r1, h1, p⟩ := obind p
 refine rs G (hC 1 (zq62_c h1) h0) ?_
 refine tl p (fun (v7, v8, v9, v10) => ⟨[(0, .ref 0 0), (2, dV stops), (6, .ref 32 0), (7, .ref 48 0)], [bX 0 118 [dV v7, dV v8, kV .u64 v9], bX 32 194 [dV ByteArray.empty, .dat (.sc (.slice none 0 0)), .dat (.sc (.slice none 0 0))], bX 48 194 [dV name, .own 64, .dat (.sc (.slice none 0 0))], aX 64 3 v10], 96⟩) (fun vv1 p => ?_) ?_
 ·refine Ok_block (lpP p (fun (v, v1, v2, v3, v4, v5) => ⟨[(0, .ref 0 0), (2, dV stops), (6, .ref 32 0), (7, .ref 48 0), (8, dV v), (9, dV v1)], [bX 0 118 [dV v2, dV v3, kV .u64 v4], bX 32 194 [dV ByteArray.empty, .dat (.sc (.slice none 0 0)), .dat (.sc (.slice none 0 0))], bX 48 194 [dV name, .own 64, .dat (.sc (.slice none 0 0))], aX 64 3 v5], 96⟩) (Wk_J G.hL ⟨[(0, []), (2, []), (6, []), (7, []), (8, []), (9, [])], [(0, 0, []), (32, 16, []), (48, 64, [.k, .o 64])], [(64, 3, 1, [])], 96⟩ (by kernel_rfl)) ?_)
  rintro ⟨v, v1, v2, v3, v4, v5⟩ r0 hb p
  rw [zq55_L1] at p
  refine Ok_seq (rg G (cd p ?_ ?_)) <;> intro p
  ·refine X_skip (thN (Ok_seq (Ok_block (jn p (fun v6 => ⟨[(0, .ref 0 0), (2, dV stops), (6, .ref 32 0), (7, .ref 48 0), (8, dV v), (9, dV v1)], [bX 0 118 [dV v2, dV v3, kV .u64 v4], bX 32 194 [dV ByteArray.empty, .dat (.sc (.slice none 0 0)), .dat (.sc (.slice none 0 0))], bX 48 194 [dV name, .own 64, .dat (.sc (.slice none 0 0))], aX 64 3 v6], 96⟩) (fun v6 p => ?_) ?_))))
   ·obtain ⟨r2, h2, p⟩ := obind p
    refine rs G (hC 2 (zq82_M.c (_, _) h2) h0) ?_
    refine cd p ?_ ?_ <;> intro p
    ·obtain ⟨u, h3, p⟩ := obind p
     refine re G (hA 4 8 h3 h0) ?_
     exact wJ G p
    ·exact X_skip (wJ G p)
   rintro v6 p
   obtain ⟨r3, h4, u1, h5, p⟩ := ob2 p
   refine re G (hC 3 (zq62_c h4) (hK h5 h0)) ?_
   exact ibN (thN (rh G (wL G p)))
  ·exact Ok_exit (thE (thE (ibE (wD G p hb))))
 rintro ⟨v7, v8, v9, v10⟩ p s hw
 refine thN (Ok_weak hw ?_)
 refine jn p (fun v11 => ⟨[(0, .ref 0 0), (6, .ref 32 0), (7, .ref 48 0)], [bX 0 118 [dV v7, dV v8, kV .u64 v9], bX 32 194 [dV ByteArray.empty, .dat (.sc (.slice none 0 0)), .dat (.sc (.slice none 0 0))], bX 48 194 [dV name, .own 64, .dat (.sc (.slice none 0 0))], aX 64 3 v11], 96⟩) (fun v11 p => ?_) ?_
 ·refine rs G (hN 2 v10 h0) ?_
  refine cd p ?_ ?_ <;> intro p
  ·obtain ⟨e1, h9, u4, h10, u5, h11, p⟩ := ob3 p
   refine de G [(10, [64, 304]), (12, [48, 320])] (hD 4 h9 (hE 5 h9 (hK h10 (hA 10 8 h11 h0)))) ?_
   exact wJ G p
  ·exact X_skip (wJ G p)
 rintro v11 p
 refine Ok_seq (rg G (tl p (fun (v17, v18, v19, v20) => ⟨[(0, .ref 0 0), (6, .ref 32 0), (7, .ref 48 0)], [bX 0 118 [dV v17, dV v18, kV .u64 v19], bX 32 194 [dV ByteArray.empty, .dat (.sc (.slice none 0 0)), .dat (.sc (.slice none 0 0))], bX 48 194 [dV name, .own 64, .own 80], aX 64 3 v11, aX 80 3 v20], 112⟩) (fun vv p => ?_) ?_))
 ·refine Ok_block (lpP p (fun (v12, v13, v14, v15, v16) => ⟨[(0, .ref 0 0), (6, .ref 32 0), (7, .ref 48 0), (10, dV v12)], [bX 0 118 [dV v13, dV v14, kV .u64 v15], bX 32 194 [dV ByteArray.empty, .dat (.sc (.slice none 0 0)), .dat (.sc (.slice none 0 0))], bX 48 194 [dV name, .own 64, .own 80], aX 64 3 v11, aX 80 3 v16], 112⟩) (Wk_J G.hL ⟨[(0, []), (6, []), (7, []), (10, [])], [(0, 0, []), (32, 32, []), (48, 48, [.k, .k, .o 80]), (64, 64, [])], [(80, 3, 1, [])], 112⟩ (by kernel_rfl)) ?_)
  rintro ⟨v12, v13, v14, v15, v16⟩ r0 hb1 p
  rw [zq55_L2] at p
  refine Ok_seq (rs G (hN 3 v11 h0) ?_)
  refine cd p ?_ ?_ <;> intro p
  ·refine X_skip (thN (Ok_seq (Ok_block ?_)))
   obtain ⟨r5, h14, u7, h15, p⟩ := ob2 p
   refine de G [(3, [0]), (6, [80, 272]), (8, [48, 288])] (hC 3 (zq62_c h14) (hA 6 8 h15 h0)) ?_
   exact ibN (thN (rh G (wL G p)))
  ·exact Ok_exit (thE (thE (ibE (wD G p hb1))))
 rintro ⟨v17, v18, v19, v20⟩ p s1 hw1
 refine thN (Ok_weak hw1 ?_)
 refine rg G ?_
 cases p
 exact rt [] []
noncomputable def zq74_M : MS ((List Int)) ((List Int)) := ⟨.r, zq74, fun y => dV y, fun _ => [], fun _ _ => []⟩
theorem zq74_c {list y} (p : zq74 list = some y) : zq74_M.C list y := zq74_M.c list p
theorem zq74_ok : FnOK Try.prog tJ 223 zq74_M.S := by
 refine fm tt zq74_M [] call223 func223 rfl results223 ntmps223 ?_
 rintro list y cx G (p : zq74 list = some y)
 unfold zq74 at p
 refine rg G (rg G (Ok_seq (rs G (hN 1 list h0) ?_)))
 refine tl p (fun i1 => ⟨[(3, .own 16)], [aX 16 3 i1], 48⟩) (fun i1 p => ?_) ?_
 ·refine Ok_block (lp G p (fun (v, i) => ⟨[(0, dV list), (3, .own 16), (4, dV v)], [aX 16 3 i], 48⟩) ?_)
  rintro ⟨v, i⟩ r0 hb p
  rw [zq74_L1] at p
  refine Ok_seq (rg G (cd p ?_ ?_)) <;> intro p
  ·refine X_skip (thN (Ok_seq (Ok_block ?_)))
   obtain ⟨e, h, u, h1, p⟩ := ob2 p
   refine re G (hD 3 h (hA 6 8 h1 h0)) ?_
   exact ibN (thN (rh G (wL G p)))
  ·exact Ok_exit (thE (thE (ibE (wD G p hb))))
 rintro i1 p s hw
 refine thN (Ok_weak hw ?_)
 refine rg G ?_
 cases p
 exact rt [] []
noncomputable def zq71_M : MS ((List Int)) ((List Int)) := ⟨.r, zq71, fun _ => .own 0, fun y => [arO 3 y], fun _ _ => []⟩
theorem zq71_c {l y} (p : zq71 l = some y) : zq71_M.C l y := zq71_M.c l p
theorem zq71_ok : FnOK Try.prog tJ 128 zq71_M.S := by
 refine fm tt zq71_M [] call128 func128 rfl results128 ntmps128 ?_
 rintro l y cx G (p : zq71 l = some y)
 unfold zq71 at p
 refine rg G ?_
 obtain ⟨u, h, p⟩ := obind p
 refine rs G (hA 2 8 h h0) ?_
 cases p
 exact rt [64] []
noncomputable def zq72_M : MS ((List Int)) ((List Int)) := ⟨.r, zq72, fun y => dV y, fun _ => [], fun _ _ => []⟩
theorem zq72_c {l y} (p : zq72 l = some y) : zq72_M.C l y := zq72_M.c l p
theorem zq72_ok : FnOK Try.prog tJ 128 zq72_M.S := by
 refine fm tt zq72_M [] call128 func128 rfl results128 ntmps128 ?_
 rintro l y cx G (p : zq72 l = some y)
 unfold zq72 at p
 refine rg G ?_
 obtain ⟨u, h, p⟩ := obind p
 refine rs G (hA 2 8 h h0) ?_
 cases p
 exact rt [] []
noncomputable def zq80_M : MS Network Network := ⟨.r, zq80, fun _ => .aggv [.own 0, .own 1], fun y => [arO 9 y.Stops, arO 194 y.Lines], fun _ _ => []⟩
theorem zq80_ok : FnOK Try.prog tJ 161 zq80_M.S := by
 refine fm tt zq80_M [fo zq72_ok] call161 func161 rfl results161 ntmps161 ?_
 rintro n y cx G (p : zq80 n = some y)
 unfold zq80 at p
 refine rg G ?_
 obtain ⟨u, h, p⟩ := obind p
 refine rs G (hA 3 16 h h0) ?_
 refine Ok_seq (rg G (tl p (fun v2 => ⟨[(2, .ref 16 0), (3, .ref 32 0)], [bX 16 60 [.dat (.sc (.slice none 0 0)), .dat (.sc (.slice none 0 0))], bX 32 60 [.own 48, .own 64], aX 48 9 (([] : List ByteArray) ++ n.Stops), aX 64 194 v2], 96⟩) (fun v2 p => ?_) ?_))
 ·refine Ok_block (lpP p (fun (v, v1) => ⟨[(1, .ref 16 0), (2, .ref 32 0), (3, .ref 48 0), (4, dV v)], [bX 16 60 [dV n.Stops, dV n.Lines], bX 32 60 [.dat (.sc (.slice none 0 0)), .dat (.sc (.slice none 0 0))], bX 48 60 [.own 64, .own 80], aX 64 9 (([] : List ByteArray) ++ n.Stops), aX 80 194 v1], 112⟩) (Wk_J G.hL ⟨[(1, []), (2, []), (3, []), (4, [])], [(16, 16, []), (32, 32, []), (48, 128, [.k, .o 80]), (64, 96, [])], [(80, 194, 3, [])], 112⟩ (by kernel_rfl)) ?_)
  rintro ⟨v, v1⟩ r0 hb p
  rw [zq80_L1] at p
  refine Ok_seq (rs G (hN 3 n.Lines h0) ?_)
  refine cd p ?_ ?_ <;> intro p
  ·refine X_skip (thN (Ok_seq (Ok_block ?_)))
   obtain ⟨e3, h7, e4, h8, r2, h9, p⟩ := ob3 p
   obtain ⟨e5, h10, r3, h11, u2, h12, p⟩ := ob3 p
   refine de G [(23, []), (24, [80, 560]), (26, [48, 576])] (hD 5 h7 (hD 11 h8 (hC 14 (zq72_c h9) (hD 18 h10 (hC 21 (zq72_c h11) (hA 24 64 h12 h0)))))) ?_
   exact ibN (thN (rh G (wL G p)))
  ·exact Ok_exit (thE (thE (ibE (wD G p hb))))
 rintro v2 p s hw
 refine thN (Ok_weak hw ?_)
 refine rg G ?_
 cases p
 exact rt [48, 64] []
noncomputable def zq56_M : MS l1Cur (Network × l1Cur) := ⟨.b 118, zq56, fun _ => .aggv [.own 0, .own 1], fun y => [arO 9 y.1.Stops, arO 194 y.1.Lines], fun _ y => [bxO 118 y.2]⟩
theorem zq56_ok : FnOK Try.prog tJ 177 zq56_M.S := by
 refine fm tt zq56_M [fo zq62_ok, fo zq70_ok, fo zq55_ok, fo zq61_ok, fo zq74_ok, fo zq80_ok] call177 func177 rfl results177 ntmps177 ?_
 rintro c y cx G (p : zq56 c = some y)
 unfold zq56 at p
 refine rg G ?_
 obtain ⟨r, h, p⟩ := obind p
 refine rs G (hC 1 (zq62_c h) h0) ?_
 obtain ⟨u, h1, p⟩ := obind p
 refine rs G (hO 2 (.fz [96] [] []) (hU 2 h1 h0)) ?_
 refine Ok_seq ?_
 obtain ⟨r1, h2, p⟩ := obind p
 refine rs G (hC 1 (zq62_c h2) h0) ?_
 refine tl p (fun (v4, v5, v6, v7) => ⟨[(0, .ref 0 0), (2, .ref 32 0), (4, .ref 48 0)], [bX 0 118 [dV v4, dV v5, kV .u64 v6], bX 32 60 [.dat (.sc (.slice none 0 0)), .dat (.sc (.slice none 0 0))], bX 48 60 [dV ((([(str [112, 111, 114, 116]), (str [109, 105, 108, 108]), (str [112, 97, 114, 107]), (str [104, 97, 108, 108]), (str [100, 111, 99, 107]), (str [102, 97, 105, 114])] : List ByteArray).take (w64 (2 + r.1)).toNat).drop (0 : Int).toNat), .own 64], aX 64 194 v7], 96⟩) (fun vv1 p => ?_) ?_
 ·refine Ok_block (lpP p (fun (x, v, v1, v2, v3) => ⟨[(0, .ref 0 0), (2, .ref 32 0), (3, dV (w64 (2 + r.1))), (4, .ref 48 0), (5, dV x)], [bX 0 118 [dV v, dV v1, kV .u64 v2], bX 32 60 [.dat (.sc (.slice none 0 0)), .dat (.sc (.slice none 0 0))], bX 48 60 [dV ((([(str [112, 111, 114, 116]), (str [109, 105, 108, 108]), (str [112, 97, 114, 107]), (str [104, 97, 108, 108]), (str [100, 111, 99, 107]), (str [102, 97, 105, 114])] : List ByteArray).take (w64 (2 + r.1)).toNat).drop (0 : Int).toNat), .own 64], aX 64 194 v3], 96⟩) (Wk_J G.hL ⟨[(0, []), (2, []), (3, []), (4, []), (5, [])], [(0, 0, []), (32, 16, []), (48, 160, [.k, .o 64])], [(64, 194, 3, [])], 96⟩ (by kernel_rfl)) ?_)
  rintro ⟨x, v, v1, v2, v3⟩ r0 hb p
  rw [zq56_L1] at p
  refine Ok_seq (rg G (cd p ?_ ?_)) <;> intro p
  ·refine X_skip (thN (Ok_seq (Ok_block ?_)))
   obtain ⟨r4, h7, u3, h8, r5, h9, p⟩ := ob3 p
   obtain ⟨u4, h10, p⟩ := obind p
   refine de G [(7, [0]), (8, []), (9, [64, 256]), (11, [48, 272])] (hC 4 (zq70_M.c _ h7) (hP (cat_p (chk_t h8)) (hC 7 (zq55_M.c (_, _, _) h9) (hA 9 64 h10 h0)))) ?_
   exact ibN (thN (rh G (wL G p)))
  ·exact Ok_exit (thE (thE (ibE (wD G p hb))))
 rintro ⟨v4, v5, v6, v7⟩ p s hw
 refine thN (Ok_weak hw ?_)
 refine jn p (fun (v8, v9, v10, v11) => ⟨[(0, .ref 0 0), (2, .ref 32 0), (4, .ref 48 0)], [bX 0 118 [dV v8, dV v9, kV .u64 v10], bX 32 60 [.dat (.sc (.slice none 0 0)), .dat (.sc (.slice none 0 0))], bX 48 60 [dV ((([(str [112, 111, 114, 116]), (str [109, 105, 108, 108]), (str [112, 97, 114, 107]), (str [104, 97, 108, 108]), (str [100, 111, 99, 107]), (str [102, 97, 105, 114])] : List ByteArray).take (w64 (2 + r.1)).toNat).drop (0 : Int).toNat), .own 64], aX 64 194 v11], 96⟩) (fun vv p => ?_) ?_
 ·obtain ⟨r6, h11, p⟩ := obind p
  refine rs G (hC 1 (zq61_c h11) h0) ?_
  refine cd p ?_ ?_ <;> intro p
  ·obtain ⟨e, h12, p⟩ := obind p
   refine rs G (hD 2 h12 (hE 3 h12 h0)) ?_
   obtain ⟨r9, h16, r10, h17, u6, h18, p⟩ := ob3 p
   refine de G [(9, []), (10, [64, 368]), (12, [48, 384])] (hC 4 (zq74_c h16) (hC 7 (zq74_c h17) (hA 10 64 h18 h0))) ?_
   exact wJ G p
  ·exact X_skip (wJ G p)
 rintro ⟨v8, v9, v10, v11⟩ p
 obtain ⟨r11, h19, p⟩ := obind p
 refine rs G (hO 1 (.fz [64] [] []) (hC 1 (zq80_M.c _ h19) h0)) ?_
 cases p
 exact rt [112, 113] []
noncomputable def zq64_M : MS l1Cur (Timetable × l1Cur) := ⟨.b 118, zq64, fun _ => .aggv [.own 0, .own 1, .own 2], fun y => [arO 9 y.1.Network.Stops, arO 194 y.1.Network.Lines, arO 168 y.1.Trips], fun _ y => [bxO 118 y.2]⟩
theorem zq64_ok : FnOK Try.prog tJ 220 zq64_M.S := by
 refine fm tt zq64_M [fo zq56_ok, fo zq62_ok] call220 func220 rfl results220 ntmps220 ?_
 rintro c y cx G (p : zq64 c = some y)
 unfold zq64 at p
 refine rg G ?_
 obtain ⟨r, h, p⟩ := obind p
 refine rs G (hC 1 (zq56_M.c _ h) h0) ?_
 refine rg G (Ok_seq ?_)
 obtain ⟨r1, h1, p⟩ := obind p
 refine rs G (hC 1 (zq62_c h1) h0) ?_
 refine tl p (fun (v5, v6, v7, v8) => ⟨[(0, .ref 0 0), (2, .ref 32 0), (3, .ref 48 0)], [bX 0 118 [dV v5, dV v6, kV .u64 v7], bX 32 63 [.dat (.sc (.slice none 0 0)), .dat (.sc (.slice none 0 0)), .dat (.sc (.slice none 0 0))], bX 48 63 [.own 64, .own 80, .own 96], aX 64 9 r.1.Stops, aX 80 194 r.1.Lines, aX 96 168 v8], 128⟩) (fun vv p => ?_) ?_
 ·refine Ok_block (lpP p (fun (n, v, v1, v2, v3, v4) => ⟨[(0, .ref 0 0), (2, .ref 32 0), (3, .ref 48 0), (4, dV n), (5, dV v)], [bX 0 118 [dV v1, dV v2, kV .u64 v3], bX 32 63 [.dat (.sc (.slice none 0 0)), .dat (.sc (.slice none 0 0)), .dat (.sc (.slice none 0 0))], bX 48 63 [.own 64, .own 80, .own 96], aX 64 9 r.1.Stops, aX 80 194 r.1.Lines, aX 96 168 v4], 128⟩) (Wk_J G.hL ⟨[(0, []), (2, []), (3, []), (4, []), (5, [])], [(0, 0, []), (32, 16, []), (48, 80, [.k, .k, .o 96]), (64, 48, []), (80, 49, [])], [(96, 168, 3, [])], 128⟩ (by kernel_rfl)) ?_)
  rintro ⟨n, v, v1, v2, v3, v4⟩ r0 hb p
  rw [zq64_L1] at p
  refine Ok_seq (rg G (cd p ?_ ?_)) <;> intro p
  ·refine X_skip (thN (Ok_seq (Ok_block ?_)))
   obtain ⟨r2, h2, p⟩ := obind p
   refine rs G (hC 3 (zq62_c h2) h0) ?_
   obtain ⟨r5, h6, r6, h7, u1, h8, p⟩ := ob3 p
   refine de G [(8, [0]), (10, [0]), (15, [96, 480]), (17, [48, 496])] (hN 7 r.1.Lines (hC 8 (zq62_c h6) (hC 10 (zq62_c h7) (hA 15 24 h8 h0)))) ?_
   exact ibN (thN (rh G (wL G p)))
  ·exact Ok_exit (thE (thE (ibE (wD G p hb))))
 rintro ⟨v5, v6, v7, v8⟩ p s hw
 refine thN (Ok_weak hw ?_)
 refine rg G ?_
 cases p
 exact rt [64, 80, 96] []
noncomputable def zq48_M : MS (l1Cur × (List Int)) (Int × l1Cur) := ⟨.x (.b 118) .r, fun x => zq48 x.1 x.2, fun y => dV y.1, fun _ => [], fun _ y => [bxO 118 y.2]⟩
theorem zq48_ok : FnOK Try.prog tJ 141 zq48_M.S := by
 refine fm tt zq48_M [fo zq62_ok] call141 func141 rfl results141 ntmps141 ?_
 rintro ⟨c, list⟩ y cx G (p : zq48 c list = some y)
 unfold zq48 at p
 refine rg G ?_
 obtain ⟨r, h, e, h1, p⟩ := ob2 p
 refine rs G (hN 3 list (hC 4 (zq62_c h) (hD 5 h1 h0))) ?_
 cases p
 exact rt [] []
noncomputable def zq60_M : MS (l1Cur × (List ByteArray)) (ByteArray × l1Cur) := ⟨.x (.b 118) (.s 9), fun x => zq60 x.1 x.2, fun y => dV y.1, fun _ => [], fun x y => [bxO 118 y.2, arO 9 x.2]⟩
theorem zq60_ok : FnOK Try.prog tJ 228 zq60_M.S := by
 refine fm tt zq60_M [fo zq62_ok] call228 func228 rfl results228 ntmps228 ?_
 rintro ⟨c, list⟩ y cx G (p : zq60 c list = some y)
 unfold zq60 at p
 refine rg G ?_
 obtain ⟨r, h, e, h1, p⟩ := ob2 p
 refine rs G (hN 3 list (hC 4 (zq62_c h) (hD 5 h1 (hE 6 h1 h0)))) ?_
 cases p
 exact rt [] []
noncomputable def zq81_M : MS Network Network := ⟨.r, zq81, fun _ => .aggv [.own 0, .own 1], fun y => [arO 9 y.Stops, taO 194 [none, some 3, some 3] y.Lines], fun _ _ => []⟩
theorem zq81_ok : FnOK Try.prog tJ 161 zq81_M.S := by
 refine fm tt zq81_M [fo zq71_ok] call161 func161 rfl results161 ntmps161 ?_
 rintro n y cx G (p : zq81 n = some y)
 unfold zq81 at p
 refine rg G ?_
 obtain ⟨u, h, p⟩ := obind p
 refine rs G (hA 3 16 h h0) ?_
 refine Ok_seq (rg G (tl p (fun v2 => ⟨[(2, .ref 16 0), (3, .ref 32 0)], [bX 16 60 [.dat (.sc (.slice none 0 0)), .dat (.sc (.slice none 0 0))], bX 32 60 [.own 48, .own 64], aX 48 9 (([] : List ByteArray) ++ n.Stops), tX 64 194 [none, some 3, some 3] v2 64 none], 96⟩) (fun v2 p => ?_) ?_))
 ·refine Ok_block (lpP p (fun (v, v1) => ⟨[(1, .ref 16 0), (2, .ref 32 0), (3, .ref 48 0), (4, dV v)], [bX 16 60 [dV n.Stops, dV n.Lines], bX 32 60 [.dat (.sc (.slice none 0 0)), .dat (.sc (.slice none 0 0))], bX 48 60 [.own 64, .own 80], aX 64 9 (([] : List ByteArray) ++ n.Stops), tX 80 194 [none, some 3, some 3] v1 80 none], 112⟩) (Wk_J G.hL ⟨[(1, []), (2, []), (3, []), (4, [])], [(16, 16, []), (32, 32, []), (48, 128, [.k, .o 80]), (64, 96, [])], [(80, 194, 3, [none, some 3, some 3])], 112⟩ (by kernel_rfl)) ?_)
  rintro ⟨v, v1⟩ r0 hb p
  rw [zq81_L1] at p
  refine Ok_seq (rs G (hN 3 n.Lines h0) ?_)
  refine cd p ?_ ?_ <;> intro p
  ·refine X_skip (thN (Ok_seq (Ok_block ?_)))
   obtain ⟨e3, h7, e4, h8, r2, h9, p⟩ := ob3 p
   obtain ⟨e5, h10, r3, h11, u2, h12, p⟩ := ob3 p
   refine de G [(23, [416, 528]), (24, [80, 560]), (26, [48, 576])] (hD 5 h7 (hD 11 h8 (hC 14 (zq71_c h9) (hD 18 h10 (hC 21 (zq71_c h11) (hP (nodupB_ok (l := [416, 528]) rfl) (hA 24 64 h12 h0))))))) ?_
   exact ibN (thN (rh G (wL G p)))
  ·exact Ok_exit (thE (thE (ibE (wD G p hb))))
 rintro v2 p s hw
 refine thN (Ok_weak hw ?_)
 refine rg G ?_
 cases p
 exact rt [48, 64] []
noncomputable def zq57_M : MS l1Cur (Network × l1Cur) := ⟨.b 118, zq57, fun _ => .aggv [.own 0, .own 1], fun y => [arO 9 y.1.Stops, taO 194 [none, some 3, some 3] y.1.Lines], fun _ y => [bxO 118 y.2]⟩
theorem zq57_ok : FnOK Try.prog tJ 177 zq57_M.S := by
 refine fm tt zq57_M [fo zq62_ok, fo zq70_ok, fo zq55_ok, fo zq61_ok, fo zq74_ok, fo zq81_ok] call177 func177 rfl results177 ntmps177 ?_
 rintro c y cx G (p : zq57 c = some y)
 unfold zq57 at p
 refine rg G ?_
 obtain ⟨r, h, p⟩ := obind p
 refine rs G (hC 1 (zq62_c h) h0) ?_
 obtain ⟨u, h1, p⟩ := obind p
 refine rs G (hO 2 (.fz [96] [] []) (hU 2 h1 h0)) ?_
 refine Ok_seq ?_
 obtain ⟨r1, h2, p⟩ := obind p
 refine rs G (hC 1 (zq62_c h2) h0) ?_
 refine tl p (fun (v4, v5, v6, v7) => ⟨[(0, .ref 0 0), (2, .ref 32 0), (4, .ref 48 0)], [bX 0 118 [dV v4, dV v5, kV .u64 v6], bX 32 60 [.dat (.sc (.slice none 0 0)), .dat (.sc (.slice none 0 0))], bX 48 60 [dV ((([(str [112, 111, 114, 116]), (str [109, 105, 108, 108]), (str [112, 97, 114, 107]), (str [104, 97, 108, 108]), (str [100, 111, 99, 107]), (str [102, 97, 105, 114])] : List ByteArray).take (w64 (2 + r.1)).toNat).drop (0 : Int).toNat), .own 64], aX 64 194 v7], 96⟩) (fun vv1 p => ?_) ?_
 ·refine Ok_block (lpP p (fun (x, v, v1, v2, v3) => ⟨[(0, .ref 0 0), (2, .ref 32 0), (3, dV (w64 (2 + r.1))), (4, .ref 48 0), (5, dV x)], [bX 0 118 [dV v, dV v1, kV .u64 v2], bX 32 60 [.dat (.sc (.slice none 0 0)), .dat (.sc (.slice none 0 0))], bX 48 60 [dV ((([(str [112, 111, 114, 116]), (str [109, 105, 108, 108]), (str [112, 97, 114, 107]), (str [104, 97, 108, 108]), (str [100, 111, 99, 107]), (str [102, 97, 105, 114])] : List ByteArray).take (w64 (2 + r.1)).toNat).drop (0 : Int).toNat), .own 64], aX 64 194 v3], 96⟩) (Wk_J G.hL ⟨[(0, []), (2, []), (3, []), (4, []), (5, [])], [(0, 0, []), (32, 16, []), (48, 160, [.k, .o 64])], [(64, 194, 3, [])], 96⟩ (by kernel_rfl)) ?_)
  rintro ⟨x, v, v1, v2, v3⟩ r0 hb p
  rw [zq57_L1] at p
  refine Ok_seq (rg G (cd p ?_ ?_)) <;> intro p
  ·refine X_skip (thN (Ok_seq (Ok_block ?_)))
   obtain ⟨r4, h7, u3, h8, r5, h9, p⟩ := ob3 p
   obtain ⟨u4, h10, p⟩ := obind p
   refine de G [(7, [0]), (8, []), (9, [64, 256]), (11, [48, 272])] (hC 4 (zq70_M.c _ h7) (hP (cat_p (chk_t h8)) (hC 7 (zq55_M.c (_, _, _) h9) (hA 9 64 h10 h0)))) ?_
   exact ibN (thN (rh G (wL G p)))
  ·exact Ok_exit (thE (thE (ibE (wD G p hb))))
 rintro ⟨v4, v5, v6, v7⟩ p s hw
 refine thN (Ok_weak hw ?_)
 refine jn p (fun (v8, v9, v10, v11) => ⟨[(0, .ref 0 0), (2, .ref 32 0), (4, .ref 48 0)], [bX 0 118 [dV v8, dV v9, kV .u64 v10], bX 32 60 [.dat (.sc (.slice none 0 0)), .dat (.sc (.slice none 0 0))], bX 48 60 [dV ((([(str [112, 111, 114, 116]), (str [109, 105, 108, 108]), (str [112, 97, 114, 107]), (str [104, 97, 108, 108]), (str [100, 111, 99, 107]), (str [102, 97, 105, 114])] : List ByteArray).take (w64 (2 + r.1)).toNat).drop (0 : Int).toNat), .own 64], aX 64 194 v11], 96⟩) (fun vv p => ?_) ?_
 ·obtain ⟨r6, h11, p⟩ := obind p
  refine rs G (hC 1 (zq61_c h11) h0) ?_
  refine cd p ?_ ?_ <;> intro p
  ·obtain ⟨e, h12, p⟩ := obind p
   refine rs G (hD 2 h12 (hE 3 h12 h0)) ?_
   obtain ⟨r9, h16, r10, h17, u6, h18, p⟩ := ob3 p
   refine de G [(9, []), (10, [64, 368]), (12, [48, 384])] (hC 4 (zq74_c h16) (hC 7 (zq74_c h17) (hA 10 64 h18 h0))) ?_
   exact wJ G p
  ·exact X_skip (wJ G p)
 rintro ⟨v8, v9, v10, v11⟩ p
 obtain ⟨r11, h19, p⟩ := obind p
 refine rs G (hF 1 (zq81_M.c _ h19) ⟨(flat_cons flat_arr (flat_cons (flat_tab fun _ => flatT_agg (fT_d trivial (fT_s (fT_s fT_n)))) flat_nil)), flat_nil⟩ h0) ?_
 cases p
 exact rt [112, 113] []
noncomputable def zq49_M : MS (l1Cur × (List Int)) (Int × l1Cur) := ⟨.x (.b 118) (.s 3), fun x => zq49 x.1 x.2, fun y => dV y.1, fun _ => [], fun x y => [bxO 118 y.2, arO 3 x.2]⟩
theorem zq49_ok : FnOK Try.prog tJ 141 zq49_M.S := by
 refine fm tt zq49_M [fo zq62_ok] call141 func141 rfl results141 ntmps141 ?_
 rintro ⟨c, list⟩ y cx G (p : zq49 c list = some y)
 unfold zq49 at p
 refine rg G ?_
 obtain ⟨r, h, e, h1, p⟩ := ob2 p
 refine rs G (hN 3 list (hC 4 (zq62_c h) (hD 5 h1 (hE 6 h1 h0)))) ?_
 cases p
 exact rt [] []
noncomputable def zq50_M : MS l1Cur (Network × l1Cur) := ⟨.b 118, zq50, fun y => .aggv [.own 0, dV y.1.Lines], fun y => [arO 9 y.1.Stops], fun _ y => [bxO 118 y.2]⟩
theorem zq50_ok : FnOK Try.prog tJ 193 zq50_M.S := by
 refine fm tt zq50_M [fo zq57_ok, fo zq62_ok, fo zq60_ok, fo zq49_ok, fo zq70_ok, fo zq54_ok] call193 func193 rfl results193 ntmps193 ?_
 rintro c y cx G (p : zq50 c = some y)
 unfold zq50 at p
 refine rg G ?_
 obtain ⟨r, h, p⟩ := obind p
 refine rs G (hC 1 (zq57_M.c _ h) h0) ?_
 obtain ⟨r1, h1, p⟩ := obind p
 refine rs G (hN 3 r.1.Lines (hC 4 (zq62_c h1) h0)) ?_
 obtain ⟨e, h2, p⟩ := obind p
 refine rs G (hD 3 h2 (hE 4 h2 h0)) ?_
 refine jF p (fun (v, v1, v2, v3, v4, v5, v6) => ⟨[(0, .ref 0 0), (2, .ref 32 0), (3, .ref 48 0), (4, dV r1.1), (5, .ref 64 0)], [bX 0 118 [dV v, dV v1, kV .u64 v2], bX 32 60 [.dat (.sc (.slice none 0 0)), .dat (.sc (.slice none 0 0))], bX 48 60 [.own 80, .own 96], bX 64 194 [dV v3, .row 96 96 r1.1.toNat 1, .own 112], aX 80 9 v4, tX 96 194 [none, some 3, some 3] v5 96 (some (r1.1.toNat, 2)), aX 112 3 v6], 144⟩) (fun v17 hr p => ?_) ?_
 ·obtain ⟨r2, h3, p⟩ := obind p
  refine rs G (hC 1 (zq62_c h3) h0) ?_
  refine Ok_block (rg G (cd p ?_ ?_)) <;> intro p
  ·obtain ⟨r4, h6, e2, h7, p⟩ := ob2 p
   refine de G [(4, [0, 416]), (6, [48])] (hC 4 (zq60_M.c (_, _) h6) (hD 5 h7 (hS 6 h7 r4.1 h0))) ?_
   exact ibN (wFp p (Wk.trans (Wk_S (.c 272 2) (Enc.e e) (.cons (idx_m2 (f := Enc.e) (l := r.1.Lines) (i := r1.1) h2) .nil) (by kernel_rfl)) (Wk_J G.hL ⟨[(0, []), (2, []), (3, []), (4, []), (5, [])], [(0, 0, []), (32, 16, []), (48, 64, []), (64, 272, []), (80, 48, []), (96, 49, []), (112, 480, [])], [], 144⟩ (by kernel_rfl))))
  ·refine rg G (cd p ?_ ?_) <;> intro p
   ·obtain ⟨r5, h8, p⟩ := obind p
    refine re G (hC 2 (zq60_M.c (_, _) h8) h0) ?_
    exact ibN (wFp p (Wk.trans (Wk_S (.c 272 2) (Enc.e e) (.cons (idx_m2 (f := Enc.e) (l := r.1.Lines) (i := r1.1) h2) .nil) (by kernel_rfl)) (Wk_J G.hL ⟨[(0, []), (2, []), (3, []), (4, []), (5, [])], [(0, 0, []), (32, 16, []), (48, 64, []), (64, 272, []), (80, 48, []), (96, 49, []), (112, 480, [])], [], 144⟩ (by kernel_rfl))))
   ·refine rg G (cd p ?_ ?_) <;> intro p
    ·obtain ⟨r8, h12, r9, h13, e4, h14, p⟩ := ob3 p
     refine de G [(6, [0]), (8, [0]), (11, [49])] (hO 5 (.dn (Enc.e e) (e.Stops.length : Int)) (hP (idx_m2 (f := Enc.e) h2) (hP (len_m Enc.e e.Stops) (hC 6 (zq62_c h12) (hC 8 (zq62_c h13) (hE 10 h2 (hP (idx_b (f := Enc.e) h14) (hO 11 (.sd2 (Enc.e e) (Enc.e e4) (List.map Enc.e (e.Stops.set r8.1.toNat (w64 (r9.1 - 1)))) (List.map Enc.e (r.1.Lines.set r1.1.toNat (⟨e.Name, (e.Stops.set r8.1.toNat (w64 (r9.1 - 1))), e.Runs⟩ : Line)))) (hP (idx_m2 (f := Enc.e) h2) (hP (idx_m2 (f := Enc.e) h14) (hP (set_m Enc.e e.Stops r8.1.toNat (w64 (r9.1 - 1))) (hP (set_m Enc.e r.1.Lines r1.1.toNat (⟨e.Name, (e.Stops.set r8.1.toNat (w64 (r9.1 - 1))), e.Runs⟩ : Line)) h0)))))))))))) ?_
     exact ibN (wFp p (Wk.trans (Wk_S (.c 272 2) (Enc.e (⟨e.Name, (e.Stops.set r8.1.toNat (w64 (r9.1 - 1))), e.Runs⟩ : Line)) (.cons (idx_m2 (f := Enc.e) (l := (r.1.Lines.set r1.1.toNat (⟨e.Name, (e.Stops.set r8.1.toNat (w64 (r9.1 - 1))), e.Runs⟩ : Line))) (i := r1.1) (idx_set (y := (⟨e.Name, (e.Stops.set r8.1.toNat (w64 (r9.1 - 1))), e.Runs⟩ : Line)) h2)) .nil) (by kernel_rfl)) (Wk_J G.hL ⟨[(0, []), (2, []), (3, []), (4, []), (5, [])], [(0, 0, []), (32, 16, []), (48, 64, []), (64, 272, []), (80, 48, []), (96, 49, []), (112, 624, [])], [], 144⟩ (by kernel_rfl))))
    ·refine rg G (cd p ?_ ?_) <;> intro p
     ·obtain ⟨r12, h18, r13, h19, e6, h20, p⟩ := ob3 p
      refine de G [(6, [0]), (9, [0, 592]), (11, [49])] (hO 5 (.dn (Enc.e e) (e.Runs.length : Int)) (hP (idx_m2 (f := Enc.e) h2) (hP (len_m Enc.e e.Runs) (hC 6 (zq62_c h18) (hC 9 (zq49_M.c (_, _) h19) (hE 10 h2 (hP (idx_b (f := Enc.e) h20) (hO 11 (.sd2 (Enc.e e) (Enc.e e6) (List.map Enc.e (e.Runs.set r12.1.toNat r13.1)) (List.map Enc.e (r.1.Lines.set r1.1.toNat (⟨e.Name, e.Stops, (e.Runs.set r12.1.toNat r13.1)⟩ : Line)))) (hP (idx_m2 (f := Enc.e) h2) (hP (idx_m2 (f := Enc.e) h20) (hP (set_m Enc.e e.Runs r12.1.toNat r13.1) (hP (set_m Enc.e r.1.Lines r1.1.toNat (⟨e.Name, e.Stops, (e.Runs.set r12.1.toNat r13.1)⟩ : Line)) h0)))))))))))) ?_
      exact ibN (wFp p (Wk.trans (Wk_S (.c 272 2) (Enc.e (⟨e.Name, e.Stops, (e.Runs.set r12.1.toNat r13.1)⟩ : Line)) (.cons (idx_m2 (f := Enc.e) (l := (r.1.Lines.set r1.1.toNat (⟨e.Name, e.Stops, (e.Runs.set r12.1.toNat r13.1)⟩ : Line))) (i := r1.1) (idx_set (y := (⟨e.Name, e.Stops, (e.Runs.set r12.1.toNat r13.1)⟩ : Line)) h2)) .nil) (by kernel_rfl)) (Wk_J G.hL ⟨[(0, []), (2, []), (3, []), (4, []), (5, [])], [(0, 0, []), (32, 16, []), (48, 64, []), (64, 272, []), (80, 48, []), (96, 49, []), (112, 656, [])], [], 144⟩ (by kernel_rfl))))
     ·refine rg G (cd p ?_ ?_) <;> intro p
      ·obtain ⟨u, h21, p⟩ := obind p
       refine re G (hO 3 (.sd (Enc.e e) (List.map Enc.e (e.Runs ++ ([3] : List Int)))) (hP (idx_m2 (f := Enc.e) h2) (hP (app_p (f := Enc.e) (g := Enc.e) (l := e.Runs) (r := ([3] : List Int)) (b := 8) (chk_t h21) rfl) (hP (app_m Enc.e e.Runs ([3] : List Int)) h0)))) ?_
       exact ibN (wF G p)
      ·refine rg G (cd p ?_ ?_) <;> intro p
       ·refine rg G (rg G ?_)
        have p := eR p hr
        cases p
        exact rt [48] []
       ·refine rg G (cd p ?_ ?_) <;> intro p
        ·refine Ok_seq (rg G (tl p (fun (v13, v14, v15, v16) => ⟨[(0, .ref 0 0), (2, .ref 32 0), (3, .ref 48 0)], [bX 0 118 [dV v13, dV v14, kV .u64 v15], bX 32 60 [.dat (.sc (.slice none 0 0)), .dat (.sc (.slice none 0 0))], bX 48 60 [.own 64, .own 80], aX 64 9 r.1.Stops, tX 80 194 [none, some 3, some 3] v16 80 none], 112⟩) (fun vv p => ?_) ?_))
         ·refine Ok_block (lp G p (fun (v7, v8, v9, v10, v11) => ⟨[(0, .ref 0 0), (2, .ref 32 0), (3, .ref 48 0), (6, dV v7)], [bX 0 118 [dV v8, dV v9, kV .u64 v10], bX 32 60 [.dat (.sc (.slice none 0 0)), .dat (.sc (.slice none 0 0))], bX 48 60 [.own 64, .own 80], aX 64 9 r.1.Stops, tX 80 194 [none, some 3, some 3] v11 80 none], 112⟩) ?_)
          rintro ⟨v7, v8, v9, v10, v11⟩ r0 hb p
          rw [zq50_L1] at p
          refine Ok_seq ?_
          obtain ⟨r16, h23, p⟩ := obind p
          refine jn p (fun v12 => ⟨[(0, .ref 0 0), (2, .ref 32 0), (3, .ref 48 0), (6, dV v7), (85, dV v12)], [bX 0 118 [dV r16.2.code_, dV r16.2.at_, kV .u64 r16.2.seed_.v], bX 32 60 [.dat (.sc (.slice none 0 0)), .dat (.sc (.slice none 0 0))], bX 48 60 [.own 64, .own 80], aX 64 9 r.1.Stops, tX 80 194 [none, some 3, some 3] v11 80 none], 112⟩) (fun v12 p => ?_) ?_
          ·rcases bf p with ⟨hb1, p⟩ | ⟨hb1, p⟩
           ·refine de G [(4, [0])] (hN 2 v11 (hC 4 (zq62_c h23) (hO 7 (.b true) (hP hb1 h0)))) ?_
            exact wJ G p
           ·refine de G [(4, [0])] (hN 2 v11 (hC 4 (zq62_c h23) (hO 7 (.b false) (hP hb1 h0)))) ?_
            exact wJ G p
          rintro v12 p
          refine cd p ?_ ?_ <;> intro p
          ·refine X_skip (thN (Ok_seq (Ok_block ?_)))
           obtain ⟨r19, h28, u3, h29, r20, h30, p⟩ := ob3 p
           obtain ⟨u4, h31, p⟩ := obind p
           refine de G [(9, [0]), (10, [256, 257]), (11, [80, 272]), (13, [48, 288])] (hC 4 (zq70_M.c _ h28) (hP (cat_p (chk_t h29)) (hN 8 r.1.Stops (hC 9 (zq54_M.c (_, _, _) h30) (hP (nodupB_ok (l := [256, 257]) rfl) (hA 11 64 h31 h0)))))) ?_
           exact ibN (thN (rh G (wL G p)))
          ·exact Ok_exit (thE (thE (ibE (wD G p hb))))
         rintro ⟨v13, v14, v15, v16⟩ p s hw
         refine thN (Ok_weak hw ?_)
         refine rg G ?_
         have p := eR p hr
         cases p
         exact rt [64] []
        ·exact X_skip (ibN (wFp p (Wk.trans (Wk_S (.c 272 2) (Enc.e e) (.cons (idx_m2 (f := Enc.e) (l := r.1.Lines) (i := r1.1) h2) .nil) (by kernel_rfl)) (Wk_J G.hL ⟨[(0, []), (2, []), (3, []), (4, []), (5, [])], [(0, 0, []), (32, 16, []), (48, 64, []), (64, 272, []), (80, 48, []), (96, 49, []), (112, 560, [])], [], 144⟩ (by kernel_rfl)))))
 rintro ⟨v, v1, v2, v3, v4, v5, v6⟩ p
 obtain ⟨e9, h32, p⟩ := obind p
 refine rs G (hD 4 h32 (hS 5 h32 (⟨v3, e9.Stops, v6⟩ : Line) (hP (Eq.refl r1.1.toNat) (hP (Eq.refl r1.1.toNat) h0)))) ?_
 refine rg G ?_
 cases p
 exact rt [80] []
noncomputable def zq51_M : MS l1Cur (Timetable × l1Cur) := ⟨.b 118, zq51, fun y => .aggv [.own 0, dV y.1.Network.Lines, .own 1], fun y => [arO 9 y.1.Network.Stops, arO 168 y.1.Trips], fun _ y => [bxO 118 y.2]⟩
theorem zq51_ok : FnOK Try.prog tJ 176 zq51_M.S := by
 refine fm tt zq51_M [fo zq64_ok, fo zq62_ok, fo zq48_ok, fo zq50_ok] call176 func176 rfl results176 ntmps176 ?_
 rintro c y cx G (p : zq51 c = some y)
 unfold zq51 at p
 refine rg G ?_
 obtain ⟨r, h, p⟩ := obind p
 refine rs G (hC 1 (zq64_M.c _ h) h0) ?_
 refine Ok_seq (rs G (hN 2 r.1.Trips h0) ?_)
 refine cd p ?_ ?_ <;> intro p
 ·refine rg G ?_
  cases p
  exact rt [48, 50] []
 ·refine X_skip (thN ?_)
  obtain ⟨r1, h1, p⟩ := obind p
  refine rs G (hN 3 r.1.Trips (hC 4 (zq62_c h1) h0)) ?_
  obtain ⟨e, h2, p⟩ := obind p
  refine rs G (hD 3 h2 (hE 4 h2 h0)) ?_
  refine jF p (fun (v, v1, v2, v3, v4, v5, v6, v7) => ⟨[(0, .ref 0 0), (2, .ref 32 0), (3, .ref 48 0), (4, dV r1.1), (5, .ref 64 0)], [bX 0 118 [dV v, dV v1, kV .u64 v2], bX 32 63 [.dat (.sc (.slice none 0 0)), .dat (.sc (.slice none 0 0)), .dat (.sc (.slice none 0 0))], bX 48 63 [.own 80, dV v3, .own 96], bX 64 168 [dV v4, dV v5, dV v6], aX 80 9 v7, aX 96 168 r.1.Trips], 128⟩) (fun v18 hr p => ?_) ?_
  ·obtain ⟨r2, h3, p⟩ := obind p
   refine rs G (hC 1 (zq62_c h3) h0) ?_
   refine Ok_block (rg G (cd p ?_ ?_)) <;> intro p
   ·obtain ⟨r3, h4, p⟩ := obind p
    refine re G (hO 2 (.fz [448] [] []) (hC 2 (zq48_M.c (_, _) h4) h0)) ?_
    exact ibN (wF G p)
   ·refine rg G (cd p ?_ ?_) <;> intro p
    ·obtain ⟨r4, h5, p⟩ := obind p
     refine re G (hC 1 (zq62_c h5) h0) ?_
     exact ibN (wF G p)
    ·refine rg G (cd p ?_ ?_) <;> intro p
     ·obtain ⟨r5, h6, p⟩ := obind p
      refine re G (hO 2 (.fz [512] [] []) (hC 2 (zq48_M.c (_, _) h6) h0)) ?_
      exact ibN (wF G p)
     ·refine rg G (cd p ?_ ?_) <;> intro p
      ·obtain ⟨r6, h7, p⟩ := obind p
       refine re G (hC 1 (zq50_M.c _ h7) h0) ?_
       exact ibN (wF G p)
      ·refine rg G (cd p ?_ ?_) <;> intro p
       ·refine Ok_seq (rg G (tl p (fun (v14, v15, v16, v17) => ⟨[(0, .ref 0 0), (2, .ref 32 0), (3, .ref 48 0)], [bX 0 118 [dV v14, dV v15, kV .u64 v16], bX 32 63 [.dat (.sc (.slice none 0 0)), .dat (.sc (.slice none 0 0)), .dat (.sc (.slice none 0 0))], bX 48 63 [.own 64, .own 80, .own 96], aX 64 9 r.1.Network.Stops, aX 80 194 r.1.Network.Lines, aX 96 168 v17], 128⟩) (fun vv p => ?_) ?_))
        ·refine Ok_block (lp G p (fun (v8, v9, v10, v11, v12) => ⟨[(0, .ref 0 0), (2, .ref 32 0), (3, .ref 48 0), (6, dV v8)], [bX 0 118 [dV v9, dV v10, kV .u64 v11], bX 32 63 [.dat (.sc (.slice none 0 0)), .dat (.sc (.slice none 0 0)), .dat (.sc (.slice none 0 0))], bX 48 63 [.own 64, .own 80, .own 96], aX 64 9 r.1.Network.Stops, aX 80 194 r.1.Network.Lines, aX 96 168 v12], 128⟩) ?_)
         rintro ⟨v8, v9, v10, v11, v12⟩ r0 hb p
         rw [zq51_L1] at p
         refine Ok_seq ?_
         obtain ⟨r8, h9, p⟩ := obind p
         refine jn p (fun v13 => ⟨[(0, .ref 0 0), (2, .ref 32 0), (3, .ref 48 0), (6, dV v8), (61, dV v13)], [bX 0 118 [dV r8.2.code_, dV r8.2.at_, kV .u64 r8.2.seed_.v], bX 32 63 [.dat (.sc (.slice none 0 0)), .dat (.sc (.slice none 0 0)), .dat (.sc (.slice none 0 0))], bX 48 63 [.own 64, .own 80, .own 96], aX 64 9 r.1.Network.Stops, aX 80 194 r.1.Network.Lines, aX 96 168 v12], 128⟩) (fun v13 p => ?_) ?_
         ·rcases bf p with ⟨hb1, p⟩ | ⟨hb1, p⟩
          ·refine de G [(4, [0])] (hN 2 v12 (hC 4 (zq62_c h9) (hO 7 (.b true) (hP hb1 h0)))) ?_
           exact wJ G p
          ·refine de G [(4, [0])] (hN 2 v12 (hC 4 (zq62_c h9) (hO 7 (.b false) (hP hb1 h0)))) ?_
           exact wJ G p
         rintro v13 p
         refine cd p ?_ ?_ <;> intro p
         ·refine X_skip (thN (Ok_seq (Ok_block ?_)))
          obtain ⟨u, h10, p⟩ := obind p
          refine re G (hA 8 24 h10 h0) ?_
          exact ibN (thN (rh G (wL G p)))
         ·exact Ok_exit (thE (thE (ibE (wD G p hb))))
        rintro ⟨v14, v15, v16, v17⟩ p s hw
        refine thN (Ok_weak hw ?_)
        refine rg G ?_
        have p := eR p hr
        cases p
        exact rt [64, 96] []
       ·exact X_skip (ibN (wF G p))
  rintro ⟨v, v1, v2, v3, v4, v5, v6, v7⟩ p
  obtain ⟨e2, h11, p⟩ := obind p
  refine rs G (hD 4 h11 (hS 5 h11 (⟨v4, v5, v6⟩ : Trip) h0)) ?_
  refine rg G ?_
  cases p
  exact rt [80, 96] []
noncomputable def zq69_M : MS (Int × Int) Int := ⟨.x .r .r, fun x => zq69 x.1 x.2, fun y => dV y, fun _ => [], fun _ _ => []⟩
theorem zq69_c {a b y} (p : zq69 a b = some y) : zq69_M.C (a, b) y := zq69_M.c (a, b) p
theorem zq69_ok : FnOK Try.prog tJ 140 zq69_M.S := by
 refine fm tt zq69_M [] call140 func140 rfl results140 ntmps140 ?_
 rintro ⟨a, b⟩ y cx G (p : zq69 a b = some y)
 unfold zq69 at p
 refine rg G (Ok_seq (rg G (cd p ?_ ?_))) <;> intro p
 ·refine rg G ?_
  cases p
  exact rt [] []
 ·refine X_skip (thN (rg G ?_))
  cases p
  exact rt [] []
noncomputable def zq65_M : MS l1Cur (Timetable × l1Cur) := ⟨.b 118, zq65, fun y => .aggv [.own 0, dV y.1.Network.Lines, .own 1], fun y => [arO 9 y.1.Network.Stops, arO 168 y.1.Trips], fun _ y => [bxO 118 y.2]⟩
theorem zq65_ok : FnOK Try.prog tJ 106 zq65_M.S := by
 refine fm tt zq65_M [fo zq61_ok, fo zq51_ok, fo zq56_ok, fo zq62_ok, fo zq69_ok] call106 func106 rfl results106 ntmps106 ?_
 rintro c y cx G (p : zq65 c = some y)
 unfold zq65 at p
 refine rg G (Ok_seq ?_)
 obtain ⟨r, h, p⟩ := obind p
 refine rs G (hC 1 (zq61_c h) h0) ?_
 refine cd p ?_ ?_ <;> intro p
 ·obtain ⟨r1, h1, p⟩ := obind p
  refine rs G (hC 1 (zq51_M.c _ h1) h0) ?_
  cases p
  exact rt [80, 81] []
 ·refine X_skip (thN ?_)
  obtain ⟨r2, h2, p⟩ := obind p
  refine rs G (hC 1 (zq56_M.c _ h2) h0) ?_
  refine Ok_seq ?_
  obtain ⟨r3, h3, p⟩ := obind p
  refine rs G (hC 1 (zq62_c h3) h0) ?_
  refine tl p (fun (v4, v5, v6, v7) => ⟨[(0, .ref 0 0), (2, .ref 32 0), (3, .ref 48 0)], [bX 0 118 [dV v4, dV v5, kV .u64 v6], bX 32 63 [.dat (.sc (.slice none 0 0)), .dat (.sc (.slice none 0 0)), .dat (.sc (.slice none 0 0))], bX 48 63 [.own 64, .own 80, .own 96], aX 64 9 r2.1.Stops, aX 80 194 r2.1.Lines, aX 96 168 v7], 128⟩) (fun vv p => ?_) ?_
  ·refine Ok_block (lpP p (fun (i, v, v1, v2, v3) => ⟨[(0, .ref 0 0), (2, .ref 32 0), (3, .ref 48 0), (4, dV i)], [bX 0 118 [dV v, dV v1, kV .u64 v2], bX 32 63 [.dat (.sc (.slice none 0 0)), .dat (.sc (.slice none 0 0)), .dat (.sc (.slice none 0 0))], bX 48 63 [.own 64, .own 80, .own 96], aX 64 9 r2.1.Stops, aX 80 194 r2.1.Lines, aX 96 168 v3], 128⟩) (Wk_J G.hL ⟨[(0, []), (2, []), (3, []), (4, [])], [(0, 0, []), (32, 16, []), (48, 112, [.k, .k, .o 96]), (64, 80, []), (80, 81, [])], [(96, 168, 3, [])], 128⟩ (by kernel_rfl)) ?_)
   rintro ⟨i, v, v1, v2, v3⟩ r0 hb p
   rw [zq65_L1] at p
   refine Ok_seq (rg G (cd p ?_ ?_)) <;> intro p
   ·refine X_skip (thN (Ok_seq (Ok_block ?_)))
    obtain ⟨r7, h8, r8, h9, r9, h10, p⟩ := ob3 p
    obtain ⟨u1, h11, p⟩ := obind p
    refine de G [(11, [0]), (19, [0]), (21, [0]), (26, [96, 560]), (28, [48, 576])] (hN 4 v3 (hN 8 v3 (hC 11 (zq62_c h8) (hN 18 r2.1.Lines (hC 19 (zq62_c h9) (hC 21 (zq62_c h10) (hA 26 24 h11 h0))))))) ?_
    exact ibN (thN (rh G (wL G p)))
   ·exact Ok_exit (thE (thE (ibE (wD G p hb))))
  rintro ⟨v4, v5, v6, v7⟩ p s hw
  refine thN (Ok_weak hw ?_)
  refine Ok_seq (rg G (tl p (fun v9 => ⟨[(0, .ref 0 0), (2, .ref 32 0), (3, .ref 48 0)], [bX 0 118 [dV v4, dV v5, kV .u64 v6], bX 32 63 [.dat (.sc (.slice none 0 0)), .dat (.sc (.slice none 0 0)), .dat (.sc (.slice none 0 0))], bX 48 63 [.own 64, .own 80, .own 96], aX 64 9 r2.1.Stops, aX 80 194 r2.1.Lines, aX 96 168 v9], 128⟩) (fun v9 p => ?_) ?_))
  ·refine Ok_block (lp G p (fun (x, v8) => ⟨[(0, .ref 0 0), (2, .ref 32 0), (3, .ref 48 0), (5, dV x)], [bX 0 118 [dV v4, dV v5, kV .u64 v6], bX 32 63 [.dat (.sc (.slice none 0 0)), .dat (.sc (.slice none 0 0)), .dat (.sc (.slice none 0 0))], bX 48 63 [.own 64, .own 80, .own 96], aX 64 9 r2.1.Stops, aX 80 194 r2.1.Lines, aX 96 168 v8], 128⟩) ?_)
   rintro ⟨x, v8⟩ r0 hb1 p
   rw [zq65_L2] at p
   refine Ok_seq (rs G (hN 3 v8 h0) ?_)
   refine cd p ?_ ?_ <;> intro p
   ·refine X_skip (thN (Ok_seq (Ok_block ?_)))
    obtain ⟨e, h12, p⟩ := obind p
    refine rs G (hD 3 h12 (hE 4 h12 h0)) ?_
    obtain ⟨e2, h15, r11, h16, p⟩ := ob2 p
    refine ds G [(12, [288])] (hD 6 h15 (hE 8 h15 (hC 10 (zq69_c h16) h0))) ?_
    obtain ⟨e3, h17, p⟩ := obind p
    refine re G (hD 4 h17 (hS 5 h17 (⟨r11, e.Line, e.Start⟩ : Trip) h0)) ?_
    exact ibN (thN (rh G (wL G p)))
   ·exact Ok_exit (thE (thE (ibE (wD G p hb1))))
  rintro v9 p s1 hw1
  refine thN (Ok_weak hw1 ?_)
  refine rg G ?_
  cases p
  exact rt [64, 96] []
noncomputable def zq52_M : MS (l1Cur × Network) (Fleet × l1Cur) := ⟨.x (.b 118) .r, fun x => zq52 x.1 x.2, fun y => dV y.1, fun _ => [], fun _ y => [bxO 118 y.2]⟩
theorem zq52_ok : FnOK Try.prog tJ 107 zq52_M.S := by
 refine fm tt zq52_M [fo zq49_ok, fo zq69_ok, fo zq62_ok] call107 func107 rfl results107 ntmps107 ?_
 rintro ⟨c, n⟩ y cx G (p : zq52 c n = some y)
 unfold zq52 at p
 refine rg G ?_
 obtain ⟨r, h, p⟩ := obind p
 refine rs G (hC 2 (zq49_M.c (_, _) h) h0) ?_
 refine Ok_seq (rg G (tl p (fun (v13, v14, v15, v16) => ⟨[(0, .ref 0 0), (3, .ref 32 0), (4, .ref 48 0), (5, .ref 64 0)], [bX 0 118 [dV v13, dV v14, kV .u64 v15], bX 32 60 [dV n.Stops, dV n.Lines], bX 48 77 [.dat (.sc (.slice none 0 0)), kV .i64 0], bX 64 77 [.own 80, dV r.1], tX 80 24 [some 3] v16 80 none], 112⟩) (fun vv2 p => ?_) ?_))
 ·refine Ok_block (lpP p (fun (k, v, v1, v2, v3) => ⟨[(0, .ref 0 0), (3, .ref 32 0), (4, .ref 48 0), (5, .ref 64 0), (6, dV k)], [bX 0 118 [dV v, dV v1, kV .u64 v2], bX 32 60 [dV n.Stops, dV n.Lines], bX 48 77 [.dat (.sc (.slice none 0 0)), kV .i64 0], bX 64 77 [.own 80, dV r.1], tX 80 24 [some 3] v3 80 none], 112⟩) (Wk_J G.hL ⟨[(0, []), (3, []), (4, []), (5, []), (6, [])], [(0, 0, []), (32, 16, []), (48, 32, []), (64, 112, [.o 80])], [(80, 24, 1, [some 3])], 112⟩ (by kernel_rfl)) ?_)
  rintro ⟨k, v, v1, v2, v3⟩ r0 hb p
  rw [zq52_L2] at p
  refine Ok_seq (rs G (hN 3 n.Stops h0) ?_)
  refine cd p ?_ ?_ <;> intro p
  ·refine X_skip (thN (Ok_seq (Ok_block (rg G (Ok_seq (rg G (tl p (fun (v9, v10, v11, v12) => ⟨[(0, .ref 0 0), (3, .ref 32 0), (4, .ref 48 0), (5, .ref 64 0), (6, dV k), (7, .own 80)], [bX 0 118 [dV v9, dV v10, kV .u64 v11], bX 32 60 [dV n.Stops, dV n.Lines], bX 48 77 [.dat (.sc (.slice none 0 0)), kV .i64 0], bX 64 77 [.own 96, dV r.1], aX 80 3 v12, tX 96 24 [some 3] v3 96 none], 128⟩) (fun vv p => ?_) ?_)))))))
   ·refine Ok_block (lp G p (fun (v4, v5, v6, v7, v8) => ⟨[(0, .ref 0 0), (3, .ref 32 0), (4, .ref 48 0), (5, .ref 64 0), (6, dV k), (7, .own 80), (8, dV v4)], [bX 0 118 [dV v5, dV v6, kV .u64 v7], bX 32 60 [dV n.Stops, dV n.Lines], bX 48 77 [.dat (.sc (.slice none 0 0)), kV .i64 0], bX 64 77 [.own 96, dV r.1], aX 80 3 v8, tX 96 24 [some 3] v3 96 none], 128⟩) ?_)
    rintro ⟨v4, v5, v6, v7, v8⟩ r0 hb1 p
    rw [zq52_L1] at p
    refine Ok_seq (rs G (hN 3 n.Stops h0) ?_)
    refine cd p ?_ ?_ <;> intro p
    ·refine X_skip (thN (Ok_seq (Ok_block ?_)))
     obtain ⟨r1, h1, r2, h2, u, h3, p⟩ := ob3 p
     refine re G (hC 7 (zq69_c h1) (hC 9 (zq62_c h2) (hA 13 8 h3 h0))) ?_
     exact ibN (thN (rh G (wL G p)))
    ·exact Ok_exit (thE (thE (ibE (wD G p hb1))))
   rintro ⟨v9, v10, v11, v12⟩ p s hw
   refine thN (Ok_weak hw ?_)
   obtain ⟨u1, h4, p⟩ := obind p
   refine re G (hP (nodupB_ok (l := [80]) rfl) (hA 4 24 h4 h0)) ?_
   exact ibN (thN (rh G (wL G p)))
  ·exact Ok_exit (thE (thE (ibE (wD G p hb))))
 rintro ⟨v13, v14, v15, v16⟩ p s1 hw1
 refine thN (Ok_weak hw1 ?_)
 refine jn p (fun (v17, v18, v19, v20, v21) => ⟨[(0, .ref 0 0), (4, .ref 32 0), (5, .ref 48 0)], [bX 0 118 [dV v17, dV v18, kV .u64 v19], bX 32 77 [.dat (.sc (.slice none 0 0)), kV .i64 0], bX 48 77 [dV v20, dV v21]], 80⟩) (fun vv1 p => ?_) ?_
 ·obtain ⟨r3, h5, p⟩ := obind p
  refine rs G (hC 1 (zq62_c h5) h0) ?_
  refine Ok_block (rg G (cd p ?_ ?_)) <;> intro p
  ·obtain ⟨r4, h6, p⟩ := obind p
   refine re G (hC 2 (zq49_M.c (_, _) h6) h0) ?_
   exact ibN (wJ G p)
  ·refine rg G (cd p ?_ ?_) <;> intro p
   ·obtain ⟨e, h7, e1, h8, p⟩ := ob2 p
    refine re G (hD 2 h7 (hE 3 h7 (hE 4 h7 (hP (idx_b (f := Enc.e) h8) (hO 5 (.sd2 (Enc.e e) (Enc.e e1) (List.map Enc.e (e.set (0 : Int).toNat 1)) (List.map Enc.e (v16.set (0 : Int).toNat (e.set (0 : Int).toNat 1)))) (hP (idx_m2 (f := Enc.e) h7) (hP (idx_m2 (f := Enc.e) h8) (hP (set_m Enc.e e (0 : Int).toNat 1) (hP (set_m Enc.e v16 (0 : Int).toNat (e.set (0 : Int).toNat 1)) h0))))))))) ?_
    exact ibN (wJ G p)
   ·refine rg G (cd p ?_ ?_) <;> intro p
    ·obtain ⟨e4, h12, r6, h13, e5, h14, p⟩ := ob3 p
     refine de G [(10, [0, 384]), (12, [80])] (hD 2 h12 (hE 3 h12 (hN 6 n.Stops (hC 10 (zq49_M.c (_, _) h13) (hE 11 h12 (hP (idx_b (f := Enc.e) h14) (hO 12 (.sd2 (Enc.e e4) (Enc.e e5) (List.map Enc.e (e4.set (w64 ((n.Stops.length : Int) - 1)).toNat r6.1)) (List.map Enc.e (v16.set (0 : Int).toNat (e4.set (w64 ((n.Stops.length : Int) - 1)).toNat r6.1)))) (hP (idx_m2 (f := Enc.e) h12) (hP (idx_m2 (f := Enc.e) h14) (hP (set_m Enc.e e4 (w64 ((n.Stops.length : Int) - 1)).toNat r6.1) (hP (set_m Enc.e v16 (0 : Int).toNat (e4.set (w64 ((n.Stops.length : Int) - 1)).toNat r6.1)) h0))))))))))) ?_
     exact ibN (wJ G p)
    ·refine rg G (cd p ?_ ?_) <;> intro p
     ·obtain ⟨u2, h15, p⟩ := obind p
      refine re G (hO 2 (.fz [80] [] []) (hV 2 h15 h0)) ?_
      exact ibN (wJ G p)
     ·exact X_skip (ibN (wJ G p))
 rintro ⟨v17, v18, v19, v20, v21⟩ p
 refine rg G ?_
 cases p
 exact rt [] []
noncomputable def zq67_M : MS (Int × Int × Int) Bool := ⟨.x .r (.x .r .r), fun x => zq67 x.1 x.2.1 x.2.2, fun y => dV y, fun _ => [], fun _ _ => []⟩
theorem zq67_c {x a b y} (p : zq67 x a b = some y) : zq67_M.C (x, a, b) y := zq67_M.c (x, a, b) p
theorem zq67_ok : FnOK Try.prog tJ 146 zq67_M.S := by
 refine fm tt zq67_M [] call146 func146 rfl results146 ntmps146 ?_
 rintro ⟨x, a, b⟩ y cx G (p : zq67 x a b = some y)
 unfold zq67 at p
 refine rg G (jn p (fun v => ⟨[(6, dV v)], [], 32⟩) (fun v p => ?_) ?_)
 ·rcases bf p with ⟨hb, p⟩ | ⟨hb, p⟩
  ·refine re G (hO 3 (.b true) (hP hb h0)) ?_
   exact wJ G p
  ·refine re G (hO 3 (.b false) (hP hb h0)) ?_
   exact wJ G p
 rintro v p
 cases p
 exact rt [] []
noncomputable def zq79_M : MS ByteArray Bool := ⟨.r, zq79, fun y => dV y, fun _ => [], fun _ _ => []⟩
theorem zq79_ok : FnOK Try.prog tJ 202 zq79_M.S := by
 refine fm tt zq79_M [fo zq67_ok] call202 func202 rfl results202 ntmps202 ?_
 rintro s y cx G (p : zq79 s = some y)
 unfold zq79 at p
 refine rg G (Ok_seq ?_)
 obtain ⟨r, h, p⟩ := obind p
 refine jn p (fun v => ⟨[(0, dV s), (17, dV v)], [], 32⟩) (fun v p => ?_) ?_
 ·rcases bf p with ⟨hb, p⟩ | ⟨hb, p⟩
  ·refine re G (hC 2 (zq67_c h) (hO 4 (.b true) (hP hb h0))) ?_
   exact wJ G p
  ·obtain ⟨u, h1, p⟩ := obind p
   rcases bf p with ⟨hb1, p⟩ | ⟨hb1, p⟩
   ·refine re G (hC 2 (zq67_c h) (hO 4 (.b false) (hP hb (hK h1 (hO 9 (.b true) (hP hb1 h0)))))) ?_
    exact wJ G p
   ·obtain ⟨u1, h2, p⟩ := obind p
    refine re G (hC 2 (zq67_c h) (hO 4 (.b false) (hP hb (hK h1 (hO 9 (.b false) (hP hb1 (hK h2 h0))))))) ?_
    exact wJ G p
 rintro v p
 refine cd p ?_ ?_ <;> intro p
 ·refine rg G ?_
  cases p
  exact rt [] []
 ·refine X_skip (thN (Ok_seq (rg G (tF p (fun _ => ⟨[], [], 32⟩) (fun v3 hr p => ?_) ?_))))
  ·refine Ok_block (lp G p (fun v1 => ⟨[(0, dV s), (3, dV v1)], [], 32⟩) ?_)
   rintro v1 r0 hb2 p
   rw [zq79_L1] at p
   refine Ok_seq (rg G (cd p ?_ ?_)) <;> intro p
   ·refine X_skip (thN (Ok_seq (Ok_block ?_)))
    obtain ⟨u2, h3, p⟩ := obind p
    refine jn p (fun v2 => ⟨[(0, dV s), (3, dV v1), (45, dV v2)], [], 32⟩) (fun v2 p => ?_) ?_
    ·rcases bf p with ⟨hb3, p⟩ | ⟨hb3, p⟩
     ·obtain ⟨u3, h4, p⟩ := obind p
      rcases bf p with ⟨hb4, p⟩ | ⟨hb4, p⟩
      ·refine re G (hK h3 (hO 4 (.b true) (hP hb3 (hK h4 (hO 15 (.b true) (hP hb4 h0)))))) ?_
       exact wJ G p
      ·obtain ⟨u4, h5, p⟩ := obind p
       refine re G (hK h3 (hO 4 (.b true) (hP hb3 (hK h4 (hO 15 (.b false) (hP hb4 (hK h5 h0))))))) ?_
       exact wJ G p
     ·obtain ⟨u5, h6, p⟩ := obind p
      rcases bf p with ⟨hb5, p⟩ | ⟨hb5, p⟩
      ·obtain ⟨u6, h7, p⟩ := obind p
       rcases bf p with ⟨hb6, p⟩ | ⟨hb6, p⟩
       ·refine re G (hK h3 (hO 4 (.b false) (hP hb3 (hK h6 (hO 10 (.b true) (hP hb5 (hK h7 (hO 15 (.b true) (hP hb6 h0))))))))) ?_
        exact wJ G p
       ·obtain ⟨u7, h8, p⟩ := obind p
        refine re G (hK h3 (hO 4 (.b false) (hP hb3 (hK h6 (hO 10 (.b true) (hP hb5 (hK h7 (hO 15 (.b false) (hP hb6 (hK h8 h0)))))))))) ?_
        exact wJ G p
      ·refine re G (hK h3 (hO 4 (.b false) (hP hb3 (hK h6 (hO 10 (.b false) (hP hb5 h0)))))) ?_
       exact wJ G p
    rintro v2 p
    refine cd p ?_ ?_ <;> intro p
    ·refine rg G ?_
     have p := eL p hb2 hr
     cases p
     exact rt [] []
    ·exact X_skip (ibN (thN (rh G (wL G p))))
   ·exact Ok_exit (thE (thE (ibE (wE G p hb2))))
  rintro ⟨⟩ p s1 hw
  refine thN (Ok_weak hw ?_)
  refine rg G ?_
  cases p
  exact rt [] []
noncomputable def zq75_M : MS ((List ByteArray) × ByteArray) Int := ⟨.x .r .r, fun x => zq75 x.1 x.2, fun y => dV y, fun _ => [], fun _ _ => []⟩
theorem zq75_ok : FnOK Try.prog tJ 203 zq75_M.S := by
 refine fm tt zq75_M [] call203 func203 rfl results203 ntmps203 ?_
 rintro ⟨list, name⟩ y cx G (p : zq75 list name = some y)
 unfold zq75 at p
 refine rg G (Ok_seq (rg G (tF p (fun _ => ⟨[], [], 32⟩) (fun v1 hr p => ?_) ?_)))
 ·refine Ok_block (lp G p (fun v => ⟨[(0, dV list), (1, dV name), (5, dV v)], [], 32⟩) ?_)
  rintro v r0 hb p
  rw [zq75_L1] at p
  refine Ok_seq (rs G (hN 2 list h0) ?_)
  refine cd p ?_ ?_ <;> intro p
  ·refine X_skip (thN (Ok_seq (Ok_block ?_)))
   obtain ⟨e, h, p⟩ := obind p
   refine rs G (hD 2 h h0) ?_
   refine cd p ?_ ?_ <;> intro p
   ·refine rg G ?_
    have p := eL p hb hr
    cases p
    exact rt [] []
   ·exact X_skip (ibN (thN (rh G (wL G p))))
  ·exact Ok_exit (thE (thE (ibE (wE G p hb))))
 rintro ⟨⟩ p s hw
 refine thN (Ok_weak hw ?_)
 refine rg G ?_
 cases p
 exact rt [] []
noncomputable def zq77_M : MS (Line × Int) Bool := ⟨.x .r .r, fun x => zq77 x.1 x.2, fun y => dV y, fun _ => [], fun _ _ => []⟩
theorem zq77_ok : FnOK Try.prog tJ 204 zq77_M.S := by
 refine fm tt zq77_M [fo zq79_ok, fo zq67_ok, fo zq82_ok] call204 func204 rfl results204 ntmps204 ?_
 rintro ⟨x, stops⟩ y cx G (p : zq77 x stops = some y)
 unfold zq77 at p
 refine rg G (Ok_seq ?_)
 obtain ⟨r, h, p⟩ := obind p
 refine jn p (fun v => ⟨[(1, dV stops), (2, .ref 16 0), (27, dV v)], [bX 16 194 [dV x.Name, dV x.Stops, dV x.Runs]], 48⟩) (fun v p => ?_) ?_
 ·rcases bf p with ⟨hb, p⟩ | ⟨hb, p⟩
  ·refine re G (hC 2 (zq79_M.c _ h) (hO 4 (.b true) (hP hb h0))) ?_
   exact wJ G p
  ·obtain ⟨r1, h1, p⟩ := obind p
   rcases bf p with ⟨hb1, p⟩ | ⟨hb1, p⟩
   ·refine re G (hC 2 (zq79_M.c _ h) (hO 4 (.b false) (hP hb (hN 7 x.Stops (hC 8 (zq67_c h1) (hO 11 (.b true) (hP hb1 h0))))))) ?_
    exact wJ G p
   ·refine re G (hC 2 (zq79_M.c _ h) (hO 4 (.b false) (hP hb (hN 7 x.Stops (hC 8 (zq67_c h1) (hO 11 (.b false) (hP hb1 (hN 14 x.Runs (hN 17 x.Stops h0))))))))) ?_
    exact wJ G p
 rintro v p
 refine cd p ?_ ?_ <;> intro p
 ·refine rg G ?_
  cases p
  exact rt [] []
 ·refine X_skip (thN (Ok_seq (rg G (tF p (fun _ => ⟨[(2, .ref 16 0)], [bX 16 194 [dV x.Name, dV x.Stops, dV x.Runs]], 48⟩) (fun v5 hr p => ?_) ?_))))
  ·refine Ok_block (lp G p (fun v1 => ⟨[(1, dV stops), (2, .ref 16 0), (5, dV v1)], [bX 16 194 [dV x.Name, dV x.Stops, dV x.Runs]], 48⟩) ?_)
   rintro v1 r0 hb2 p
   rw [zq77_L1] at p
   refine Ok_seq (rs G (hN 3 x.Stops h0) ?_)
   refine cd p ?_ ?_ <;> intro p
   ·refine X_skip (thN (Ok_seq (Ok_block ?_)))
    obtain ⟨e2, h6, r4, h7, p⟩ := ob2 p
    refine jn p (fun v2 => ⟨[(1, dV stops), (2, .ref 16 0), (5, dV v1), (54, dV v2)], [bX 16 194 [dV x.Name, dV x.Stops, dV x.Runs]], 48⟩) (fun v2 p => ?_) ?_
    ·rcases bf p with ⟨hb3, p⟩ | ⟨hb3, p⟩
     ·refine de G [] (hD 3 h6 (hC 7 (zq67_c h7) (hO 9 (.b true) (hP hb3 h0)))) ?_
      exact wJ G p
     ·obtain ⟨e3, h8, r5, h9, p⟩ := ob2 p
      refine de G [] (hD 3 h6 (hC 7 (zq67_c h7) (hO 9 (.b false) (hP hb3 (hD 14 h8 (hC 16 (zq82_M.c (_, _) h9) h0)))))) ?_
      exact wJ G p
    rintro v2 p
    refine cd p ?_ ?_ <;> intro p
    ·refine rg G ?_
     have p := eL p hb2 hr
     cases p
     exact rt [] []
    ·exact X_skip (ibN (thN (rh G (wL G p))))
   ·exact Ok_exit (thE (thE (ibE (wE G p hb2))))
  rintro ⟨⟩ p s hw
  refine thN (Ok_weak hw ?_)
  refine Ok_seq (rg G (tF p (fun _ => ⟨[], [], 32⟩) (fun v4 hr1 p => ?_) ?_))
  ·refine Ok_block (lp G p (fun v3 => ⟨[(2, .ref 16 0), (6, dV v3)], [bX 16 194 [dV x.Name, dV x.Stops, dV x.Runs]], 48⟩) ?_)
   rintro v3 r0 hb4 p
   rw [zq77_L2] at p
   refine Ok_seq (rs G (hN 3 x.Runs h0) ?_)
   refine cd p ?_ ?_ <;> intro p
   ·refine X_skip (thN (Ok_seq (Ok_block ?_)))
    obtain ⟨e5, h10, r7, h11, p⟩ := ob2 p
    refine rs G (hD 3 h10 (hC 5 (zq67_c h11) h0)) ?_
    refine cd p ?_ ?_ <;> intro p
    ·refine rg G ?_
     have p := eL p hb4 hr1
     cases p
     exact rt [] []
    ·exact X_skip (ibN (thN (rh G (wL G p))))
   ·exact Ok_exit (thE (thE (ibE (wE G p hb4))))
  rintro ⟨⟩ p s1 hw1
  refine thN (Ok_weak hw1 ?_)
  refine rg G ?_
  cases p
  exact rt [] []
noncomputable def zq78_M : MS (Network × ByteArray) Int := ⟨.x .r .r, fun x => zq78 x.1 x.2, fun y => dV y, fun _ => [], fun _ _ => []⟩
theorem zq78_c {n name y} (p : zq78 n name = some y) : zq78_M.C (n, name) y := zq78_M.c (n, name) p
theorem zq78_ok : FnOK Try.prog tJ 205 zq78_M.S := by
 refine fm tt zq78_M [] call205 func205 rfl results205 ntmps205 ?_
 rintro ⟨n, name⟩ y cx G (p : zq78 n name = some y)
 unfold zq78 at p
 refine rg G (Ok_seq (rg G (tF p (fun _ => ⟨[], [], 32⟩) (fun v1 hr p => ?_) ?_)))
 ·refine Ok_block (lp G p (fun v => ⟨[(1, dV name), (2, .ref 16 0), (5, dV v)], [bX 16 60 [dV n.Stops, dV n.Lines]], 48⟩) ?_)
  rintro v r0 hb p
  rw [zq78_L1] at p
  refine Ok_seq (rs G (hN 3 n.Lines h0) ?_)
  refine cd p ?_ ?_ <;> intro p
  ·refine X_skip (thN (Ok_seq (Ok_block ?_)))
   obtain ⟨e, h, p⟩ := obind p
   refine rs G (hD 3 h h0) ?_
   refine cd p ?_ ?_ <;> intro p
   ·refine rg G ?_
    have p := eL p hb hr
    cases p
    exact rt [] []
   ·exact X_skip (ibN (thN (rh G (wL G p))))
  ·exact Ok_exit (thE (thE (ibE (wE G p hb))))
 rintro ⟨⟩ p s hw
 refine thN (Ok_weak hw ?_)
 refine rg G ?_
 cases p
 exact rt [] []
noncomputable def zq76_M : MS Network Bool := ⟨.r, zq76, fun y => dV y, fun _ => [], fun _ _ => []⟩
theorem zq76_ok : FnOK Try.prog tJ 158 zq76_M.S := by
 refine fm tt zq76_M [fo zq67_ok, fo zq79_ok, fo zq75_ok, fo zq77_ok, fo zq78_ok] call158 func158 rfl results158 ntmps158 ?_
 rintro n y cx G (p : zq76 n = some y)
 unfold zq76 at p
 refine rg G (Ok_seq ?_)
 obtain ⟨r, h, p⟩ := obind p
 refine jn p (fun v => ⟨[(1, .ref 16 0), (16, dV v)], [bX 16 60 [dV n.Stops, dV n.Lines]], 48⟩) (fun v p => ?_) ?_
 ·rcases bf p with ⟨hb, p⟩ | ⟨hb, p⟩
  ·refine re G (hN 2 n.Stops (hC 3 (zq67_c h) (hO 5 (.b true) (hP hb h0)))) ?_
   exact wJ G p
  ·obtain ⟨r1, h1, p⟩ := obind p
   refine re G (hN 2 n.Stops (hC 3 (zq67_c h) (hO 5 (.b false) (hP hb (hN 8 n.Lines (hC 9 (zq67_c h1) h0)))))) ?_
   exact wJ G p
 rintro v p
 refine cd p ?_ ?_ <;> intro p
 ·refine rg G ?_
  cases p
  exact rt [] []
 ·refine X_skip (thN (Ok_seq (rg G (tF p (fun _ => ⟨[(1, .ref 16 0)], [bX 16 60 [dV n.Stops, dV n.Lines]], 48⟩) (fun v5 hr p => ?_) ?_))))
  ·refine Ok_block (lp G p (fun i => ⟨[(1, .ref 16 0), (3, dV i)], [bX 16 60 [dV n.Stops, dV n.Lines]], 48⟩) ?_)
   rintro i r0 hb1 p
   rw [zq76_L1] at p
   refine Ok_seq (rs G (hN 3 n.Stops h0) ?_)
   refine cd p ?_ ?_ <;> intro p
   ·refine X_skip (thN (Ok_seq (Ok_block ?_)))
    obtain ⟨e2, h6, r4, h7, p⟩ := ob2 p
    refine jn p (fun v1 => ⟨[(1, .ref 16 0), (3, dV i), (42, dV v1)], [bX 16 60 [dV n.Stops, dV n.Lines]], 48⟩) (fun v1 p => ?_) ?_
    ·rcases bf p with ⟨hb2, p⟩ | ⟨hb2, p⟩
     ·refine de G [] (hD 3 h6 (hC 5 (zq79_M.c _ h7) (hO 7 (.b true) (hP hb2 h0)))) ?_
      exact wJ G p
     ·obtain ⟨e3, h8, r5, h9, p⟩ := ob2 p
      refine de G [] (hD 3 h6 (hC 5 (zq79_M.c _ h7) (hO 7 (.b false) (hP hb2 (hD 13 h8 (hC 15 (zq75_M.c (_, _) h9) h0)))))) ?_
      exact wJ G p
    rintro v1 p
    refine cd p ?_ ?_ <;> intro p
    ·refine rg G ?_
     have p := eL p hb1 hr
     cases p
     exact rt [] []
    ·exact X_skip (ibN (thN (rh G (wL G p))))
   ·exact Ok_exit (thE (thE (ibE (wE G p hb1))))
  rintro ⟨⟩ p s hw
  refine thN (Ok_weak hw ?_)
  refine Ok_seq (rg G (tF p (fun _ => ⟨[], [], 32⟩) (fun v4 hr1 p => ?_) ?_))
  ·refine Ok_block (lp G p (fun v2 => ⟨[(1, .ref 16 0), (4, dV v2)], [bX 16 60 [dV n.Stops, dV n.Lines]], 48⟩) ?_)
   rintro v2 r0 hb3 p
   rw [zq76_L2] at p
   refine Ok_seq (rs G (hN 3 n.Lines h0) ?_)
   refine cd p ?_ ?_ <;> intro p
   ·refine X_skip (thN (Ok_seq (Ok_block ?_)))
    obtain ⟨e7, h14, r9, h15, p⟩ := ob2 p
    refine jn p (fun v3 => ⟨[(1, .ref 16 0), (4, dV v2), (71, dV v3)], [bX 16 60 [dV n.Stops, dV n.Lines]], 48⟩) (fun v3 p => ?_) ?_
    ·rcases bf p with ⟨hb4, p⟩ | ⟨hb4, p⟩
     ·refine de G [] (hD 3 h14 (hN 7 n.Stops (hC 8 (zq77_M.c (_, _) h15) (hO 10 (.b true) (hP hb4 h0))))) ?_
      exact wJ G p
     ·obtain ⟨e8, h16, r10, h17, p⟩ := ob2 p
      refine de G [] (hD 3 h14 (hN 7 n.Stops (hC 8 (zq77_M.c (_, _) h15) (hO 10 (.b false) (hP hb4 (hD 15 h16 (hC 18 (zq78_c h17) h0))))))) ?_
      exact wJ G p
    rintro v3 p
    refine cd p ?_ ?_ <;> intro p
    ·refine rg G ?_
     have p := eL p hb3 hr1
     cases p
     exact rt [] []
    ·exact X_skip (ibN (thN (rh G (wL G p))))
   ·exact Ok_exit (thE (thE (ibE (wE G p hb3))))
  rintro ⟨⟩ p s1 hw1
  refine thN (Ok_weak hw1 ?_)
  refine rg G ?_
  cases p
  exact rt [] []
noncomputable def zq84_M : MS Int Bool := ⟨.r, zq84, fun y => dV y, fun _ => [], fun _ _ => []⟩
theorem zq84_c {t y} (p : zq84 t = some y) : zq84_M.C t y := zq84_M.c t p
theorem zq84_ok : FnOK Try.prog tJ 159 zq84_M.S := by
 refine fm tt zq84_M [fo zq67_ok] call159 func159 rfl results159 ntmps159 ?_
 rintro t y cx G (p : zq84 t = some y)
 unfold zq84 at p
 refine rg G ?_
 obtain ⟨r, h, p⟩ := obind p
 refine rs G (hC 1 (zq67_c h) h0) ?_
 cases p
 exact rt [] []
noncomputable def zq89_M : MS (Timetable × Int) Line := ⟨.x .r .r, fun x => zq89 x.1 x.2, fun y => dV y, fun _ => [], fun _ _ => []⟩
theorem zq89_ok : FnOK Try.prog tJ 232 zq89_M.S := by
 refine fm tt zq89_M [] call232 func232 rfl results232 ntmps232 ?_
 rintro ⟨t, i⟩ y cx G (p : zq89 t i = some y)
 unfold zq89 at p
 refine rg G ?_
 obtain ⟨e2, h2, e3, h3, p⟩ := ob2 p
 refine ds G [(11, [32])] (hD 6 h2 (hD 9 h3 h0)) ?_
 cases p
 exact rt [] []
noncomputable def zq90_M : MS (Timetable × Int) ((List Int)) := ⟨.x .r .r, fun x => zq90 x.1 x.2, fun y => dV y, fun _ => [], fun _ _ => []⟩
theorem zq90_ok : FnOK Try.prog tJ 207 zq90_M.S := by
 refine fm tt zq90_M [fo zq89_ok] call207 func207 rfl results207 ntmps207 ?_
 rintro ⟨t, i⟩ y cx G (p : zq90 t i = some y)
 unfold zq90 at p
 refine rg G ?_
 obtain ⟨r, h, p⟩ := obind p
 refine rs G (hC 2 (zq89_M.c (_, _) h) h0) ?_
 cases p
 exact rt [] []
noncomputable def zq83_M : MS (Line × Int × Int) Int := ⟨.x .r (.x .r .r), fun x => zq83 x.1 x.2.1 x.2.2, fun y => dV y, fun _ => [], fun _ _ => []⟩
theorem zq83_c {x from_ to_ y} (p : zq83 x from_ to_ = some y) : zq83_M.C (x, from_, to_) y := zq83_M.c (x, from_, to_) p
theorem zq83_ok : FnOK Try.prog tJ 199 zq83_M.S := by
 refine fm tt zq83_M [] call199 func199 rfl results199 ntmps199 ?_
 rintro ⟨x, from_, to_⟩ y cx G (p : zq83 x from_ to_ = some y)
 unfold zq83 at p
 refine rg G (rg G (Ok_seq (rg G (tl p (fun v2 => ⟨[(7, dV v2)], [], 32⟩) (fun v2 p => ?_) ?_))))
 ·refine Ok_block (lp G p (fun (v, v1) => ⟨[(2, dV to_), (3, .ref 16 0), (7, dV v), (8, dV v1)], [bX 16 194 [dV x.Name, dV x.Stops, dV x.Runs]], 48⟩) ?_)
  rintro ⟨v, v1⟩ r0 hb p
  rw [zq83_L1] at p
  refine Ok_seq (rg G (cd p ?_ ?_)) <;> intro p
  ·refine X_skip (thN (Ok_seq (Ok_block ?_)))
   obtain ⟨e, h, p⟩ := obind p
   refine re G (hD 4 h h0) ?_
   exact ibN (thN (rh G (wL G p)))
  ·exact Ok_exit (thE (thE (ibE (wD G p hb))))
 rintro v2 p s hw
 refine thN (Ok_weak hw ?_)
 refine rg G ?_
 cases p
 exact rt [] []
noncomputable def zq85_M : MS (Timetable × Int × Int) Int := ⟨.x .r (.x .r .r), fun x => zq85 x.1 x.2.1 x.2.2, fun y => dV y, fun _ => [], fun _ _ => []⟩
theorem zq85_ok : FnOK Try.prog tJ 206 zq85_M.S := by
 refine fm tt zq85_M [fo zq89_ok, fo zq83_ok] call206 func206 rfl results206 ntmps206 ?_
 rintro ⟨t, i, k⟩ y cx G (p : zq85 t i k = some y)
 unfold zq85 at p
 refine rg G ?_
 obtain ⟨e1, h3, r2, h4, r3, h5, p⟩ := ob3 p
 refine ds G [] (hD 3 h3 (hC 8 (zq89_M.c (_, _) h4) (hC 10 (zq83_c h5) h0))) ?_
 cases p
 exact rt [] []
noncomputable def zq86_M : MS (Timetable × Int) Int := ⟨.x .r .r, fun x => zq86 x.1 x.2, fun y => dV y, fun _ => [], fun _ _ => []⟩
theorem zq86_ok : FnOK Try.prog tJ 160 zq86_M.S := by
 refine fm tt zq86_M [fo zq90_ok, fo zq85_ok] call160 func160 rfl results160 ntmps160 ?_
 rintro ⟨t, i⟩ y cx G (p : zq86 t i = some y)
 unfold zq86 at p
 refine rg G ?_
 obtain ⟨r2, h2, r3, h3, p⟩ := ob2 p
 refine ds G [] (hC 4 (zq90_M.c (_, _) h2) (hN 5 r2 (hC 7 (zq85_M.c (_, _, _) h3) h0))) ?_
 cases p
 exact rt [] []
noncomputable def zq88_M : MS Timetable Bool := ⟨.r, zq88, fun y => dV y, fun _ => [], fun _ _ => []⟩
theorem zq88_ok : FnOK Try.prog tJ 94 zq88_M.S := by
 refine fm tt zq88_M [fo zq76_ok, fo zq67_ok, fo zq84_ok, fo zq86_ok] call94 func94 rfl results94 ntmps94 ?_
 rintro t y cx G (p : zq88 t = some y)
 unfold zq88 at p
 refine rg G (Ok_seq ?_)
 obtain ⟨r, h, p⟩ := obind p
 refine jn p (fun v => ⟨[(1, .ref 16 0), (14, dV v)], [bX 16 63 [dV t.Network.Stops, dV t.Network.Lines, dV t.Trips]], 48⟩) (fun v p => ?_) ?_
 ·rcases bf p with ⟨hb, p⟩ | ⟨hb, p⟩
  ·refine re G (hC 2 (zq76_M.c _ h) (hO 4 (.b true) (hP hb h0))) ?_
   exact wJ G p
  ·refine re G (hC 2 (zq76_M.c _ h) (hO 4 (.b false) (hP hb (hN 7 t.Trips h0)))) ?_
   exact wJ G p
 rintro v p
 refine cd p ?_ ?_ <;> intro p
 ·refine rg G ?_
  cases p
  exact rt [] []
 ·refine X_skip (thN (Ok_seq (rg G (tF p (fun _ => ⟨[], [], 32⟩) (fun v2 hr p => ?_) ?_))))
  ·refine Ok_block (lp G p (fun x => ⟨[(1, .ref 16 0), (3, dV x)], [bX 16 63 [dV t.Network.Stops, dV t.Network.Lines, dV t.Trips]], 48⟩) ?_)
   rintro x r0 hb1 p
   rw [zq88_L1] at p
   refine Ok_seq (rs G (hN 3 t.Trips h0) ?_)
   refine cd p ?_ ?_ <;> intro p
   ·refine X_skip (thN (Ok_seq (Ok_block ?_)))
    obtain ⟨e, h1, p⟩ := obind p
    refine rs G (hD 3 h1 h0) ?_
    obtain ⟨r6, h8, p⟩ := obind p
    refine jn p (fun v1 => ⟨[(1, .ref 16 0), (3, dV x), (70, dV v1)], [bX 16 63 [dV t.Network.Stops, dV t.Network.Lines, dV t.Trips]], 48⟩) (fun v1 p => ?_) ?_
    ·rcases bf p with ⟨hb2, p⟩ | ⟨hb2, p⟩
     ·refine de G [] (hC 2 (zq67_c h8) (hO 4 (.b true) (hP hb2 h0))) ?_
      exact wJ G p
     ·obtain ⟨r7, h9, p⟩ := obind p
      rcases bf p with ⟨hb3, p⟩ | ⟨hb3, p⟩
      ·refine de G [] (hC 2 (zq67_c h8) (hO 4 (.b false) (hP hb2 (hN 10 t.Network.Lines (hC 12 (zq67_c h9) (hO 15 (.b true) (hP hb3 h0))))))) ?_
       exact wJ G p
      ·obtain ⟨r8, h10, p⟩ := obind p
       rcases bf p with ⟨hb4, p⟩ | ⟨hb4, p⟩
       ·refine de G [] (hC 2 (zq67_c h8) (hO 4 (.b false) (hP hb2 (hN 10 t.Network.Lines (hC 12 (zq67_c h9) (hO 15 (.b false) (hP hb3 (hC 18 (zq84_c h10) (hO 21 (.b true) (hP hb4 h0)))))))))) ?_
        exact wJ G p
       ·obtain ⟨r9, h11, r10, h12, p⟩ := ob2 p
        rcases bf p with ⟨hb5, p⟩ | ⟨hb5, p⟩
        ·refine de G [] (hC 2 (zq67_c h8) (hO 4 (.b false) (hP hb2 (hN 10 t.Network.Lines (hC 12 (zq67_c h9) (hO 15 (.b false) (hP hb3 (hC 18 (zq84_c h10) (hO 21 (.b false) (hP hb4 (hC 24 (zq86_M.c (_, _) h11) (hC 25 (zq84_c h12) (hO 28 (.b true) (hP hb5 h0)))))))))))))) ?_
         exact wJ G p
        ·rcases bf p with ⟨hb6, p⟩ | ⟨hb6, p⟩
         ·obtain ⟨e2, h13, p⟩ := obind p
          refine de G [] (hC 2 (zq67_c h8) (hO 4 (.b false) (hP hb2 (hN 10 t.Network.Lines (hC 12 (zq67_c h9) (hO 15 (.b false) (hP hb3 (hC 18 (zq84_c h10) (hO 21 (.b false) (hP hb4 (hC 24 (zq86_M.c (_, _) h11) (hC 25 (zq84_c h12) (hO 28 (.b false) (hP hb5 (hO 31 (.b true) (hP hb6 (hD 36 h13 h0))))))))))))))))) ?_
          exact wJ G p
         ·refine de G [] (hC 2 (zq67_c h8) (hO 4 (.b false) (hP hb2 (hN 10 t.Network.Lines (hC 12 (zq67_c h9) (hO 15 (.b false) (hP hb3 (hC 18 (zq84_c h10) (hO 21 (.b false) (hP hb4 (hC 24 (zq86_M.c (_, _) h11) (hC 25 (zq84_c h12) (hO 28 (.b false) (hP hb5 (hO 31 (.b false) (hP hb6 h0)))))))))))))))) ?_
          exact wJ G p
    rintro v1 p
    refine cd p ?_ ?_ <;> intro p
    ·refine rg G ?_
     have p := eL p hb1 hr
     cases p
     exact rt [] []
    ·exact X_skip (ibN (thN (rh G (wL G p))))
   ·exact Ok_exit (thE (thE (ibE (wE G p hb1))))
  rintro ⟨⟩ p s hw
  refine thN (Ok_weak hw ?_)
  refine rg G ?_
  cases p
  exact rt [] []
noncomputable def zq44_M : MS (Network × Fleet) Bool := ⟨.x .r .r, fun x => zq44 x.1 x.2, fun y => dV y, fun _ => [], fun _ _ => []⟩
theorem zq44_ok : FnOK Try.prog tJ 182 zq44_M.S := by
 refine fm tt zq44_M [fo zq76_ok, fo zq67_ok] call182 func182 rfl results182 ntmps182 ?_
 rintro ⟨n, f⟩ y cx G (p : zq44 n f = some y)
 unfold zq44 at p
 refine rg G (Ok_seq ?_)
 obtain ⟨r, h, p⟩ := obind p
 refine jn p (fun v => ⟨[(2, .ref 16 0), (3, .ref 32 0), (24, dV v)], [bX 16 60 [dV n.Stops, dV n.Lines], bX 32 77 [dV f.Dead, dV f.Turn]], 64⟩) (fun v p => ?_) ?_
 ·rcases bf p with ⟨hb, p⟩ | ⟨hb, p⟩
  ·refine re G (hC 1 (zq76_M.c _ h) (hO 3 (.b true) (hP hb h0))) ?_
   exact wJ G p
  ·rcases bf p with ⟨hb1, p⟩ | ⟨hb1, p⟩
   ·refine re G (hC 1 (zq76_M.c _ h) (hO 3 (.b false) (hP hb (hN 6 f.Dead (hN 9 n.Stops (hO 12 (.b true) (hP hb1 h0))))))) ?_
    exact wJ G p
   ·obtain ⟨r1, h1, p⟩ := obind p
    refine re G (hC 1 (zq76_M.c _ h) (hO 3 (.b false) (hP hb (hN 6 f.Dead (hN 9 n.Stops (hO 12 (.b false) (hP hb1 (hC 15 (zq67_c h1) h0)))))))) ?_
    exact wJ G p
 rintro v p
 refine cd p ?_ ?_ <;> intro p
 ·refine rg G ?_
  cases p
  exact rt [] []
 ·refine X_skip (thN (Ok_seq (rg G (tF p (fun _ => ⟨[], [], 32⟩) (fun v5 hr p => ?_) ?_))))
  ·refine Ok_block (lp G p (fun v1 => ⟨[(2, .ref 16 0), (3, .ref 32 0), (5, dV v1)], [bX 16 60 [dV n.Stops, dV n.Lines], bX 32 77 [dV f.Dead, dV f.Turn]], 64⟩) ?_)
   rintro v1 r0 hb2 p
   rw [zq44_L2] at p
   refine Ok_seq (rs G (hN 3 f.Dead h0) ?_)
   refine cd p ?_ ?_ <;> intro p
   ·refine X_skip (thN (Ok_seq (Ok_block (Ok_seq ?_))))
    obtain ⟨e3, h5, p⟩ := obind p
    refine jn p (fun v2 => ⟨[(2, .ref 16 0), (3, .ref 32 0), (5, dV v1), (52, dV v2)], [bX 16 60 [dV n.Stops, dV n.Lines], bX 32 77 [dV f.Dead, dV f.Turn]], 64⟩) (fun v2 p => ?_) ?_
    ·rcases bf p with ⟨hb3, p⟩ | ⟨hb3, p⟩
     ·refine de G [] (hD 3 h5 (hN 5 e3 (hN 8 n.Stops (hO 10 (.b true) (hP hb3 h0))))) ?_
      exact wJ G p
     ·obtain ⟨e4, h6, e5, h7, p⟩ := ob2 p
      refine de G [] (hD 3 h5 (hN 5 e3 (hN 8 n.Stops (hO 10 (.b false) (hP hb3 (hD 14 h6 (hD 17 h7 h0))))))) ?_
      exact wJ G p
    rintro v2 p
    refine cd p ?_ ?_ <;> intro p
    ·refine rg G ?_
     have p := eL p hb2 hr
     cases p
     exact rt [] []
    ·refine X_skip (thN (rg G (tF p (fun _ => ⟨[(2, .ref 16 0), (3, .ref 32 0), (5, dV v1)], [bX 16 60 [dV n.Stops, dV n.Lines], bX 32 77 [dV f.Dead, dV f.Turn]], 64⟩) (fun v4 hr1 p => ?_) ?_)))
     ·refine Ok_block (lp G p (fun v3 => ⟨[(2, .ref 16 0), (3, .ref 32 0), (5, dV v1), (6, dV v3)], [bX 16 60 [dV n.Stops, dV n.Lines], bX 32 77 [dV f.Dead, dV f.Turn]], 64⟩) ?_)
      rintro v3 r0 hb4 p
      rw [zq44_L1] at p
      refine Ok_seq ?_
      obtain ⟨e7, h8, p⟩ := obind p
      refine rs G (hD 4 h8 (hN 6 e7 h0)) ?_
      refine cd p ?_ ?_ <;> intro p
      ·refine X_skip (thN (Ok_seq (Ok_block ?_)))
       obtain ⟨e8, h9, e9, h10, r3, h11, p⟩ := ob3 p
       refine rs G (hD 3 h9 (hD 6 h10 (hC 8 (zq67_c h11) h0))) ?_
       refine cd p ?_ ?_ <;> intro p
       ·refine rg G ?_
        have p := eL p hb4 hr1
        have p := eL p hb2 hr
        cases p
        exact rt [] []
       ·exact X_skip (ibN (thN (rh G (wL G p))))
      ·exact Ok_exit (thE (thE (ibE (wE G p hb4))))
     rintro ⟨⟩ p s hw
     refine ibN (thN (Ok_weak hw ?_))
     exact rh G (wL G p)
   ·exact Ok_exit (thE (thE (ibE (wE G p hb2))))
  rintro ⟨⟩ p s1 hw1
  refine thN (Ok_weak hw1 ?_)
  refine rg G ?_
  cases p
  exact rt [] []
noncomputable def zq39_M : MS (Timetable × Fleet) Bool := ⟨.x .r .r, fun x => zq39 x.1 x.2, fun y => dV y, fun _ => [], fun _ _ => []⟩
theorem zq39_ok : FnOK Try.prog tJ 110 zq39_M.S := by
 refine fm tt zq39_M [fo zq88_ok, fo zq44_ok] call110 func110 rfl results110 ntmps110 ?_
 rintro ⟨t, f⟩ y cx G (p : zq39 t f = some y)
 unfold zq39 at p
 refine rg G ?_
 obtain ⟨r, h, p⟩ := obind p
 refine jn p (fun v => ⟨[(4, dV v)], [], 32⟩) (fun v p => ?_) ?_
 ·rcases bf p with ⟨hb, p⟩ | ⟨hb, p⟩
  ·obtain ⟨r1, h1, p⟩ := obind p
   refine re G (hC 1 (zq88_M.c _ h) (hO 2 (.b true) (hP hb (hC 6 (zq44_M.c (_, _) h1) h0)))) ?_
   exact wJ G p
  ·refine re G (hC 1 (zq88_M.c _ h) (hO 2 (.b false) (hP hb h0))) ?_
   exact wJ G p
 rintro v p
 cases p
 exact rt [] []
noncomputable def zq43_M : MS (Timetable × Fleet × Int × Int) Int := ⟨.x .r (.x .r (.x .r .r)), fun x => zq43 x.1 x.2.1 x.2.2.1 x.2.2.2, fun y => dV y, fun _ => [], fun _ _ => []⟩
theorem zq43_c {t f a b y} (p : zq43 t f a b = some y) : zq43_M.C (t, f, a, b) y := zq43_M.c (t, f, a, b) p
theorem zq43_ok : FnOK Try.prog tJ 185 zq43_M.S := by
 refine fm tt zq43_M [fo zq90_ok] call185 func185 rfl results185 ntmps185 ?_
 rintro ⟨t, f, a, b⟩ y cx G (p : zq43 t f a b = some y)
 unfold zq43 at p
 refine rg G ?_
 obtain ⟨r2, h2, r3, h3, p⟩ := ob2 p
 refine ds G [] (hC 2 (zq90_M.c (_, _) h2) (hC 5 (zq90_M.c (_, _) h3) h0)) ?_
 obtain ⟨e4, h8, e5, h9, e6, h10, p⟩ := ob3 p
 obtain ⟨e7, h11, p⟩ := obind p
 refine ds G [] (hN 4 r2 (hD 6 h8 (hD 8 h9 (hD 11 h10 (hD 13 h11 h0))))) ?_
 cases p
 exact rt [] []
noncomputable def zq45_M : MS (Timetable × Fleet × Int × Int) Bool := ⟨.x .r (.x .r (.x .r .r)), fun x => zq45 x.1 x.2.1 x.2.2.1 x.2.2.2, fun y => dV y, fun _ => [], fun _ _ => []⟩
theorem zq45_c {t f a b y} (p : zq45 t f a b = some y) : zq45_M.C (t, f, a, b) y := zq45_M.c (t, f, a, b) p
theorem zq45_ok : FnOK Try.prog tJ 184 zq45_M.S := by
 refine fm tt zq45_M [fo zq86_ok, fo zq43_ok] call184 func184 rfl results184 ntmps184 ?_
 rintro ⟨t, f, a, b⟩ y cx G (p : zq45 t f a b = some y)
 unfold zq45 at p
 refine rg G (jn p (fun v => ⟨[(8, dV v)], [], 32⟩) (fun v p => ?_) ?_)
 ·rcases bf p with ⟨hb, p⟩ | ⟨hb, p⟩
  ·obtain ⟨e1, h3, r2, h4, r3, h5, p⟩ := ob3 p
   refine de G [] (hO 3 (.b true) (hP hb (hD 7 h3 (hC 12 (zq86_M.c (_, _) h4) (hC 20 (zq43_c h5) h0))))) ?_
   exact wJ G p
  ·refine de G [] (hO 3 (.b false) (hP hb h0)) ?_
   exact wJ G p
 rintro v p
 cases p
 exact rt [] []
noncomputable def zq68_M : MS (Int × Int) Int := ⟨.x .r .r, fun x => zq68 x.1 x.2, fun y => dV y, fun _ => [], fun _ _ => []⟩
theorem zq68_ok : FnOK Try.prog tJ 226 zq68_M.S := by
 refine fm tt zq68_M [] call226 func226 rfl results226 ntmps226 ?_
 rintro ⟨a, b⟩ y cx G (p : zq68 a b = some y)
 unfold zq68 at p
 refine rg G (Ok_seq (rg G (cd p ?_ ?_))) <;> intro p
 ·refine rg G ?_
  cases p
  exact rt [] []
 ·refine X_skip (thN (rg G ?_))
  cases p
  exact rt [] []
noncomputable def zq47_MR (rec_ : l11Plan → Int → Int → Option (Int × (List (List Int)))) : MS (l11Plan × Int × Int) (Int × (List (List Int))) := ⟨⟨[.bo 1, .rd, .rd], fun x => [.sc undef, Enc.e x.2.1, Enc.e x.2.2], fun x => [.box 229 [dV x.1.t_.Network.Stops, dV x.1.t_.Network.Lines, dV x.1.t_.Trips, dV x.1.f_.Dead, dV x.1.f_.Turn, .own 1], taO 24 [some 3] x.1.known_], 2, 2, fun _ => rfl, fun _ => rfl, rfl, (by
  rintro ⟨a0, a1, a2⟩ ⟨b0, b1, b2⟩ h hO
  have q0 : a0 = b0 := Enc.inj _ _ (congrArg D.agg (cons_eq (congrArg (fun l => obC l 0 0) hO) (cons_eq (congrArg (fun l => obC l 0 1) hO) (cons_eq (congrArg (fun l => obC l 0 2) hO) (cons_eq (congrArg (fun l => obC l 0 3) hO) (cons_eq (congrArg (fun l => obC l 0 4) hO) (cons_eq (congrArg (fun l => D.sl 1 (obL l 1)) hO) rfl)))))))
  have q1 : a1 = b1 := qI 1 h
  have q2 : a2 = b2 := qI 2 h
  subst q0; subst q1; subst q2; rfl)⟩, fun x => rec_ x.1 x.2.1 x.2.2, fun y => dV y.1, fun _ => [], fun x y => [.box 229 [dV x.1.t_.Network.Stops, dV x.1.t_.Network.Lines, dV x.1.t_.Trips, dV x.1.f_.Dead, dV x.1.f_.Turn, .own 1], taO 24 [some 3] y.2]⟩
noncomputable def zq47_M : MS (l11Plan × Int × Int) (Int × (List (List Int))) := zq47_MR zq47
theorem zq47_cR {rec_ : l11Plan → Int → Int → Option (Int × (List (List Int)))} {x i used y} (p : rec_ x i used = some y) : (zq47_MR rec_).C (x, i, used) y := (zq47_MR rec_).c (x, i, used) p
theorem zq47_okF {rec_ : l11Plan → Int → Int → Option (Int × (List (List Int)))} (hrec : FnOK Try.prog tJ 183 (zq47_MR rec_).S) : FnOK Try.prog tJ 183 (zq47_MR (zq47_F rec_)).S := by
 refine fm tt (zq47_MR (zq47_F rec_)) [fo hrec, fo zq45_ok, fo zq43_ok, fo zq68_ok] call183 func183 rfl results183 ntmps183 ?_
 rintro ⟨x, i, used⟩ y cx G (p : zq47_F rec_ x i used = some y)
 unfold zq47_F at p
 refine rg G (rs G (hN 5 x.t_.Trips h0) ?_)
 refine Ok_seq (rg G (cd p ?_ ?_)) <;> intro p
 ·refine rg G ?_
  cases p
  exact rt [] []
 ·refine X_skip (thN (Ok_seq ?_))
  obtain ⟨e, h, e1, h1, p⟩ := ob2 p
  refine rs G (hD 5 h (hE 6 h (hE 8 h (hP (idx_b (f := Enc.e) h1) (hO 9 (.d2 (Enc.e e) (Enc.e e1)) (hP (idx_m2 (f := Enc.e) h) (hP (idx_m2 (f := Enc.e) h1) h0))))))) ?_
  refine cd p ?_ ?_ <;> intro p
  ·obtain ⟨e2, h2, e3, h3, p⟩ := ob2 p
   refine rs G (hD 5 h2 (hE 6 h (hE 8 h (hP (idx_b (f := Enc.e) h3) (hO 9 (.d2 (Enc.e e) (Enc.e e3)) (hP (idx_m2 (f := Enc.e) h) (hP (idx_m2 (f := Enc.e) h3) h0))))))) ?_
   cases p
   exact rt [] []
  ·refine X_skip (thN ?_)
   obtain ⟨r, h4, p⟩ := obind p
   refine rs G (hC 4 (zq47_cR h4) h0) ?_
   refine Ok_seq (rg G (tl p (fun (v6, v7) => ⟨[(0, .ref 0 0), (1, dV i), (2, dV used), (8, dV v6)], [bX 0 229 [dV x.t_.Network.Stops, dV x.t_.Network.Lines, dV x.t_.Trips, dV x.f_.Dead, dV x.f_.Turn, .own 1], tX 1 24 [some 3] v7 1 none], 48⟩) (fun vv1 p => ?_) ?_))
   ·refine Ok_block (lp G p (fun (v, v1, v2) => ⟨[(0, .ref 0 0), (1, dV i), (2, dV used), (7, dV (x.t_.Trips.length : Int)), (8, dV v), (9, dV v1)], [bX 0 229 [dV x.t_.Network.Stops, dV x.t_.Network.Lines, dV x.t_.Trips, dV x.f_.Dead, dV x.f_.Turn, .own 1], tX 1 24 [some 3] v2 1 none], 48⟩) ?_)
    rintro ⟨v, v1, v2⟩ r0 hb p
    rw [zq47_L1] at p
    refine Ok_seq (rg G (cd p ?_ ?_)) <;> intro p
    ·refine X_skip (thN (jn p (fun (v3, v4) => ⟨[(0, .ref 0 0), (1, dV i), (2, dV used), (7, dV (x.t_.Trips.length : Int)), (8, dV v3), (9, dV v1)], [bX 0 229 [dV x.t_.Network.Stops, dV x.t_.Network.Lines, dV x.t_.Trips, dV x.f_.Dead, dV x.f_.Turn, .own 1], tX 1 24 [some 3] v4 1 none], 48⟩) (fun vv p => ?_) ?_))
     ·refine Ok_block ?_
      obtain ⟨u1, h7, p⟩ := obind p
      refine jn p (fun v5 => ⟨[(0, .ref 0 0), (1, dV i), (2, dV used), (7, dV (x.t_.Trips.length : Int)), (8, dV v), (9, dV v1), (69, dV v5)], [bX 0 229 [dV x.t_.Network.Stops, dV x.t_.Network.Lines, dV x.t_.Trips, dV x.f_.Dead, dV x.f_.Turn, .own 1], tX 1 24 [some 3] v2 1 none], 48⟩) (fun v5 p => ?_) ?_
      ·rcases bf p with ⟨hb1, p⟩ | ⟨hb1, p⟩
       ·obtain ⟨r2, h8, p⟩ := obind p
        refine de G [] (hK h7 (hO 6 (.b true) (hP hb1 (hC 17 (zq45_c h8) h0)))) ?_
        exact wJ G p
       ·refine de G [] (hK h7 (hO 6 (.b false) (hP hb1 h0))) ?_
        exact wJ G p
      rintro v5 p
      refine cd p ?_ ?_ <;> intro p
      ·obtain ⟨r6, h13, u3, h14, r7, h15, p⟩ := ob3 p
       obtain ⟨r8, h16, p⟩ := obind p
       refine de G [(20, [0, 1])] (hC 11 (zq43_c h13) (hK h14 (hC 20 (zq47_cR h15) (hC 22 (zq68_M.c (_, _) h16) h0)))) ?_
       exact ibN (wJ G p)
      ·exact X_skip (ibN (wJ G p))
     rintro ⟨v3, v4⟩ p
     exact rh G (wL G p)
    ·exact Ok_exit (thE (thE (ibE (wD G p hb))))
   rintro ⟨v6, v7⟩ p s hw
   refine thN (Ok_weak hw ?_)
   obtain ⟨e4, h17, e5, h18, p⟩ := ob2 p
   refine rs G (hD 5 h17 (hE 6 h17 (hE 9 h17 (hP (idx_b (f := Enc.e) h18) (hO 10 (.sd2 (Enc.e e4) (Enc.e e5) (List.map Enc.e (e4.set used.toNat v6)) (List.map Enc.e (v7.set i.toNat (e4.set used.toNat v6)))) (hP (idx_m2 (f := Enc.e) h17) (hP (idx_m2 (f := Enc.e) h18) (hP (set_m Enc.e e4 used.toNat v6) (hP (set_m Enc.e v7 i.toNat (e4.set used.toNat v6)) h0))))))))) ?_
   refine rg G ?_
   cases p
   exact rt [] []
theorem zq47_okn : ∀ k, FnOK Try.prog tJ 183 (zq47_MR (zq47_k k)).S
 | 0 => ⟨fun args w => call183 args w, fun vs w F ds obs κ hp => by obtain ⟨x, y, _, _, h⟩ := hp; cases h⟩
 | k + 1 => zq47_okF (zq47_okn k)
theorem zq47_ok : FnOK Try.prog tJ 183 zq47_M.S := zq47_okn 4294967296
noncomputable def zq40_M : MS (Timetable × Fleet) ((List Int)) := ⟨.x .r .r, fun x => zq40 x.1 x.2, fun _ => .own 0, fun y => [arO 3 y], fun _ _ => []⟩
theorem zq40_ok : FnOK Try.prog tJ 112 zq40_M.S := by
 refine fm tt zq40_M [fo zq47_ok, fo zq45_ok, fo zq43_ok] call112 func112 rfl results112 ntmps112 ?_
 rintro ⟨t, f⟩ y cx G (p : zq40 t f = some y)
 unfold zq40 at p
 refine rg G (rs G (hN 2 t.Trips h0) ?_)
 refine rg G (Ok_seq (rg G (tl p (fun v1 => ⟨[(2, .ref 16 0), (3, .ref 32 0), (5, dV (t.Trips.length : Int)), (6, .ref 48 0)], [bX 16 63 [dV t.Network.Stops, dV t.Network.Lines, dV t.Trips], bX 32 77 [dV f.Dead, dV f.Turn], bX 48 229 [dV t.Network.Stops, dV t.Network.Lines, dV t.Trips, dV f.Dead, dV f.Turn, .own 64], tX 64 24 [some 3] v1 64 none], 96⟩) (fun v1 p => ?_) ?_)))
 ·refine Ok_block (lpP p (fun (k, v) => ⟨[(2, .ref 16 0), (3, .ref 32 0), (5, dV (t.Trips.length : Int)), (6, .ref 48 0), (7, dV k)], [bX 16 63 [dV t.Network.Stops, dV t.Network.Lines, dV t.Trips], bX 32 77 [dV f.Dead, dV f.Turn], bX 48 229 [dV t.Network.Stops, dV t.Network.Lines, dV t.Trips, dV f.Dead, dV f.Turn, .own 64], tX 64 24 [some 3] v 64 none], 96⟩) (Wk_J G.hL ⟨[(2, []), (3, []), (5, []), (6, []), (7, [])], [(16, 16, []), (32, 32, []), (48, 176, [.k, .k, .k, .k, .k, .o 64])], [(64, 24, 1, [some 3])], 96⟩ (by kernel_rfl)) ?_)
  rintro ⟨k, v⟩ r0 hb p
  rw [zq40_L2] at p
  refine Ok_seq (rg G (cd p ?_ ?_)) <;> intro p
  ·refine X_skip (thN (Ok_seq (Ok_block ?_)))
   obtain ⟨u, h, u1, h1, p⟩ := ob2 p
   refine rs G (hK h (hO 3 (.l (List.map Enc.e (List.replicate (w64 (1 * 2 ^ (min ((IntKind.u64.wrap ((t.Trips.length : Int))) : Int).toNat (IntKind.i64).bits))).toNat (0 : Int)))) (hP (mk_p (b := 8) (chk_t h1) rfl) (hP (rep_m Enc.e (w64 (1 * 2 ^ (min ((IntKind.u64.wrap ((t.Trips.length : Int))) : Int).toNat (IntKind.i64).bits))).toNat (0 : Int)) h0)))) ?_
   refine Ok_seq (rg G (tl p (fun out1 => ⟨[(2, .ref 16 0), (3, .ref 32 0), (5, dV (t.Trips.length : Int)), (6, .ref 48 0), (7, dV k), (8, .own 64)], [bX 16 63 [dV t.Network.Stops, dV t.Network.Lines, dV t.Trips], bX 32 77 [dV f.Dead, dV f.Turn], bX 48 229 [dV t.Network.Stops, dV t.Network.Lines, dV t.Trips, dV f.Dead, dV f.Turn, .own 80], aX 64 3 out1, tX 80 24 [some 3] v 80 none], 112⟩) (fun out1 p => ?_) ?_))
   ·refine Ok_block (lp G p (fun (used, out) => ⟨[(2, .ref 16 0), (3, .ref 32 0), (5, dV (t.Trips.length : Int)), (6, .ref 48 0), (7, dV k), (8, .own 64), (9, dV used)], [bX 16 63 [dV t.Network.Stops, dV t.Network.Lines, dV t.Trips], bX 32 77 [dV f.Dead, dV f.Turn], bX 48 229 [dV t.Network.Stops, dV t.Network.Lines, dV t.Trips, dV f.Dead, dV f.Turn, .own 80], aX 64 3 out, tX 80 24 [some 3] v 80 none], 112⟩) ?_)
    rintro ⟨used, out⟩ r0 hb1 p
    rw [zq40_L1] at p
    refine Ok_seq (rs G (hN 2 out h0) ?_)
    refine cd p ?_ ?_ <;> intro p
    ·refine X_skip (thN (Ok_seq (Ok_block ?_)))
     obtain ⟨e, h2, p⟩ := obind p
     refine re G (hD 2 h2 (hS 3 h2 (-1) h0)) ?_
     exact ibN (thN (rh G (wL G p)))
    ·exact Ok_exit (thE (thE (ibE (wD G p hb1))))
   rintro out1 p s hw
   refine thN (Ok_weak hw ?_)
   obtain ⟨u2, h3, p⟩ := obind p
   refine re G (hP (nodupB_ok (l := [64]) rfl) (hA 7 24 h3 h0)) ?_
   exact ibN (thN (rh G (wL G p)))
  ·exact Ok_exit (thE (thE (ibE (wD G p hb))))
 rintro v1 p s1 hw1
 refine thN (Ok_weak hw1 ?_)
 refine rg G (rg G (Ok_seq (rg G (tl p (fun i1 => ⟨[(10, .own 16)], [aX 16 3 i1], 48⟩) (fun i1 p => ?_) ?_))))
 ·refine Ok_block (lp G p (fun (want, before, i, v2) => ⟨[(2, .ref 16 0), (3, .ref 32 0), (5, dV (t.Trips.length : Int)), (6, .ref 48 0), (10, .own 64), (11, dV want), (12, dV before)], [bX 16 63 [dV t.Network.Stops, dV t.Network.Lines, dV t.Trips], bX 32 77 [dV f.Dead, dV f.Turn], bX 48 229 [dV t.Network.Stops, dV t.Network.Lines, dV t.Trips, dV f.Dead, dV f.Turn, .own 80], aX 64 3 i, tX 80 24 [some 3] v2 80 none], 112⟩) ?_)
  rintro ⟨want, before, i, v2⟩ r0 hb2 p
  rw [zq40_L4] at p
  refine Ok_seq (rg G (cd p ?_ ?_)) <;> intro p
  ·refine X_skip (thN (Ok_seq (Ok_block ?_)))
   obtain ⟨r, h4, p⟩ := obind p
   refine rs G (hC 3 (zq47_M.c (_, _, _) h4) h0) ?_
   refine rg G (jn p (fun (want1, v3, v4) => ⟨[(2, .ref 16 0), (3, .ref 32 0), (5, dV (t.Trips.length : Int)), (6, .ref 48 0), (10, .own 64), (11, dV want1), (12, dV before), (14, dV v3)], [bX 16 63 [dV t.Network.Stops, dV t.Network.Lines, dV t.Trips], bX 32 77 [dV f.Dead, dV f.Turn], bX 48 229 [dV t.Network.Stops, dV t.Network.Lines, dV t.Trips, dV f.Dead, dV f.Turn, .own 80], aX 64 3 i, tX 80 24 [some 3] v4 80 none], 112⟩) (fun vv3 p => ?_) ?_)
   ·obtain ⟨r1, h5, p⟩ := obind p
    refine rs G (hC 4 (zq47_M.c (_, _, _) h5) h0) ?_
    refine cd p ?_ ?_ <;> intro p
    ·refine Ok_seq (rg G (tl p (fun (v13, v14) => ⟨[(2, .ref 16 0), (3, .ref 32 0), (5, dV (t.Trips.length : Int)), (6, .ref 48 0), (10, .own 64), (11, dV want), (12, dV before), (14, dV v13)], [bX 16 63 [dV t.Network.Stops, dV t.Network.Lines, dV t.Trips], bX 32 77 [dV f.Dead, dV f.Turn], bX 48 229 [dV t.Network.Stops, dV t.Network.Lines, dV t.Trips, dV f.Dead, dV f.Turn, .own 80], aX 64 3 i, tX 80 24 [some 3] v14 80 none], 112⟩) (fun vv2 p => ?_) ?_))
     ·refine Ok_block (lp G p (fun (v5, v6, v7) => ⟨[(2, .ref 16 0), (3, .ref 32 0), (5, dV (t.Trips.length : Int)), (6, .ref 48 0), (10, .own 64), (11, dV want), (12, dV before), (13, dV r.1), (14, dV v5), (15, dV v6)], [bX 16 63 [dV t.Network.Stops, dV t.Network.Lines, dV t.Trips], bX 32 77 [dV f.Dead, dV f.Turn], bX 48 229 [dV t.Network.Stops, dV t.Network.Lines, dV t.Trips, dV f.Dead, dV f.Turn, .own 80], aX 64 3 i, tX 80 24 [some 3] v7 80 none], 112⟩) ?_)
      rintro ⟨v5, v6, v7⟩ r0 hb3 p
      rw [zq40_L3] at p
      refine Ok_seq (jn p (fun v8 => ⟨[(2, .ref 16 0), (3, .ref 32 0), (5, dV (t.Trips.length : Int)), (6, .ref 48 0), (10, .own 64), (11, dV want), (12, dV before), (13, dV r.1), (14, dV v5), (15, dV v6), (75, dV v8)], [bX 16 63 [dV t.Network.Stops, dV t.Network.Lines, dV t.Trips], bX 32 77 [dV f.Dead, dV f.Turn], bX 48 229 [dV t.Network.Stops, dV t.Network.Lines, dV t.Trips, dV f.Dead, dV f.Turn, .own 80], aX 64 3 i, tX 80 24 [some 3] v7 80 none], 112⟩) (fun v8 p => ?_) ?_)
      ·rcases bf p with ⟨hb4, p⟩ | ⟨hb4, p⟩
       ·refine re G (hO 3 (.b true) (hP hb4 h0)) ?_
        exact wJ G p
       ·refine re G (hO 3 (.b false) (hP hb4 h0)) ?_
        exact wJ G p
      rintro v8 p
      refine cd p ?_ ?_ <;> intro p
      ·refine X_skip (thN (jn p (fun (v9, v10) => ⟨[(2, .ref 16 0), (3, .ref 32 0), (5, dV (t.Trips.length : Int)), (6, .ref 48 0), (10, .own 64), (11, dV want), (12, dV before), (13, dV r.1), (14, dV v9), (15, dV v6)], [bX 16 63 [dV t.Network.Stops, dV t.Network.Lines, dV t.Trips], bX 32 77 [dV f.Dead, dV f.Turn], bX 48 229 [dV t.Network.Stops, dV t.Network.Lines, dV t.Trips, dV f.Dead, dV f.Turn, .own 80], aX 64 3 i, tX 80 24 [some 3] v10 80 none], 112⟩) (fun vv1 p => ?_) ?_))
       ·refine Ok_block ?_
        obtain ⟨u3, h6, p⟩ := obind p
        refine jn p (fun (v11, v12) => ⟨[(2, .ref 16 0), (3, .ref 32 0), (5, dV (t.Trips.length : Int)), (6, .ref 48 0), (10, .own 64), (11, dV want), (12, dV before), (13, dV r.1), (14, dV v5), (15, dV v6), (109, dV v11)], [bX 16 63 [dV t.Network.Stops, dV t.Network.Lines, dV t.Trips], bX 32 77 [dV f.Dead, dV f.Turn], bX 48 229 [dV t.Network.Stops, dV t.Network.Lines, dV t.Trips, dV f.Dead, dV f.Turn, .own 80], aX 64 3 i, tX 80 24 [some 3] v12 80 none], 112⟩) (fun vv p => ?_) ?_
        ·rcases bf p with ⟨hb5, p⟩ | ⟨hb5, p⟩
         ·obtain ⟨r2, h7, p⟩ := obind p
          rcases bf p with ⟨hb6, p⟩ | ⟨hb6, p⟩
          ·obtain ⟨r3, h8, u4, h9, r4, h10, p⟩ := ob3 p
           refine re G (hK h6 (hO 6 (.b true) (hP hb5 (hC 11 (zq45_c h7) (hO 13 (.b true) (hP hb6 (hC 18 (zq43_c h8) (hK h9 (hC 27 (zq47_M.c (_, _, _) h10) h0))))))))) ?_
           exact wJ G p
          ·refine re G (hK h6 (hO 6 (.b true) (hP hb5 (hC 11 (zq45_c h7) (hO 13 (.b false) (hP hb6 h0)))))) ?_
           exact wJ G p
         ·refine re G (hK h6 (hO 6 (.b false) (hP hb5 h0))) ?_
          exact wJ G p
        rintro ⟨v11, v12⟩ p
        refine cd p ?_ ?_ <;> intro p
        ·exact rh G (ibN (wJ G p))
        ·exact X_skip (ibN (wJ G p))
       rintro ⟨v9, v10⟩ p
       exact rh G (wL G p)
      ·exact Ok_exit (thE (thE (ibE (wD G p hb3))))
     rintro ⟨v13, v14⟩ p s2 hw2
     refine thN (Ok_weak hw2 ?_)
     obtain ⟨u5, h11, p⟩ := obind p
     refine re G (hK h11 h0) ?_
     exact wJ G p
    ·exact X_skip (wJ G p)
   rintro ⟨want1, v3, v4⟩ p
   obtain ⟨u6, h12, p⟩ := obind p
   refine re G (hA 3 8 h12 h0) ?_
   exact ibN (thN (rh G (wL G p)))
  ·exact Ok_exit (thE (thE (ibE (wD G p hb2))))
 rintro i1 p s3 hw3
 refine thN (Ok_weak hw3 ?_)
 refine rg G ?_
 cases p
 exact rt [16] []
noncomputable def zq53_M : MS (l1Cur × Timetable) (Int × l1Cur) := ⟨.x (.b 118) .r, fun x => zq53 x.1 x.2, fun y => dV y.1, fun _ => [], fun _ y => [bxO 118 y.2]⟩
theorem zq53_ok : FnOK Try.prog tJ 123 zq53_M.S := by
 refine fm tt zq53_M [fo zq61_ok, fo zq62_ok] call123 func123 rfl results123 ntmps123 ?_
 rintro ⟨c, t⟩ y cx G (p : zq53 c t = some y)
 unfold zq53 at p
 refine rg G (Ok_seq (jn p (fun (v, v1, v2, v3) => ⟨[(0, .ref 0 0), (3, .ref 32 0), (12, dV v)], [bX 0 118 [dV v1, dV v2, kV .u64 v3], bX 32 63 [dV t.Network.Stops, dV t.Network.Lines, dV t.Trips]], 64⟩) (fun vv p => ?_) ?_))
 ·rcases bf p with ⟨hb, p⟩ | ⟨hb, p⟩
  ·refine re G (hN 2 t.Trips (hO 4 (.b true) (hP hb h0))) ?_
   exact wJ G p
  ·obtain ⟨r, h, p⟩ := obind p
   refine re G (hN 2 t.Trips (hO 4 (.b false) (hP hb (hC 6 (zq61_c h) h0)))) ?_
   exact wJ G p
 rintro ⟨v, v1, v2, v3⟩ p
 refine cd p ?_ ?_ <;> intro p
 ·obtain ⟨r1, h1, p⟩ := obind p
  refine rs G (hC 1 (zq62_c h1) h0) ?_
  cases p
  exact rt [] []
 ·refine X_skip (thN ?_)
  obtain ⟨r3, h4, e1, h5, p⟩ := ob2 p
  refine ds G [(6, [0])] (hN 5 t.Trips (hC 6 (zq62_c h4) (hD 7 h5 h0))) ?_
  cases p
  exact rt [] []
noncomputable def zq42_M : MS (Timetable × (List Int)) ((List (List Int))) := ⟨.x .r .r, fun x => zq42 x.1 x.2, fun _ => .own 0, fun y => [taO 24 [some 3] y], fun _ _ => []⟩
theorem zq42_ok : FnOK Try.prog tJ 111 zq42_M.S := by
 refine fm tt zq42_M [] call111 func111 rfl results111 ntmps111 ?_
 rintro ⟨t, before⟩ y cx G (p : zq42 t before = some y)
 unfold zq42 at p
 refine rg G (rg G (Ok_seq (rg G (tl p (fun block2 => ⟨[(5, .own 16)], [tX 16 24 [some 3] block2 16 none], 48⟩) (fun block2 p => ?_) ?_))))
 ·refine Ok_block (lpP p (fun (at_, block) => ⟨[(1, dV before), (2, .ref 16 0), (5, .own 32), (6, dV at_)], [bX 16 63 [dV t.Network.Stops, dV t.Network.Lines, dV t.Trips], tX 32 24 [some 3] block 32 none], 64⟩) (Wk_J G.hL ⟨[(1, []), (2, []), (5, []), (6, [])], [(16, 16, []), (32, 48, [.t [some 3]])], [], 64⟩ (by kernel_rfl)) ?_)
  rintro ⟨at_, block⟩ r0 hb p
  rw [zq42_L3] at p
  refine Ok_seq (rs G (hN 2 before h0) ?_)
  refine cd p ?_ ?_ <;> intro p
  ·refine X_skip (thN (jn p (fun block1 => ⟨[(1, dV before), (2, .ref 16 0), (5, .own 32), (6, dV at_)], [bX 16 63 [dV t.Network.Stops, dV t.Network.Lines, dV t.Trips], tX 32 24 [some 3] block1 32 none], 64⟩) (fun block1 p => ?_) ?_))
   ·refine Ok_block (Ok_seq ?_)
    obtain ⟨e, h, p⟩ := obind p
    refine rs G (hD 2 h h0) ?_
    refine cd p ?_ ?_ <;> intro p
    ·exact Ok_exit (thE (ibE (wJ G p)))
    ·refine X_skip (thN (rg G (Ok_seq (rg G (tl p (fun next1 => ⟨[(1, dV before), (2, .ref 16 0), (5, .own 32), (6, dV at_), (7, .own 48)], [bX 16 63 [dV t.Network.Stops, dV t.Network.Lines, dV t.Trips], tX 32 24 [some 3] block 32 none, aX 48 3 next1], 80⟩) (fun next1 p => ?_) ?_)))))
     ·refine Ok_block (lp G p (fun (k, next) => ⟨[(1, dV before), (2, .ref 16 0), (5, .own 32), (6, dV at_), (7, .own 48), (8, dV k)], [bX 16 63 [dV t.Network.Stops, dV t.Network.Lines, dV t.Trips], tX 32 24 [some 3] block 32 none, aX 48 3 next], 80⟩) ?_)
      rintro ⟨k, next⟩ r0 hb1 p
      rw [zq42_L2] at p
      refine Ok_seq (rg G (cd p ?_ ?_)) <;> intro p
      ·refine X_skip (thN (Ok_block ?_))
       obtain ⟨e1, h1, u, h2, p⟩ := ob2 p
       refine rs G (hD 4 h1 (hA 8 8 h2 h0)) ?_
       refine rg G (Ok_seq (rg G (tl p (fun v3 => ⟨[(1, dV before), (2, .ref 16 0), (5, .own 32), (6, dV at_), (7, .own 48), (9, dV v3)], [bX 16 63 [dV t.Network.Stops, dV t.Network.Lines, dV t.Trips], tX 32 24 [some 3] block 32 none, aX 48 3 (next ++ ([e1.Id] : List Int))], 80⟩) (fun v3 p => ?_) ?_)))
       ·refine Ok_block (lp G p (fun (v, v1) => ⟨[(1, dV before), (2, .ref 16 0), (5, .own 32), (6, dV at_), (7, .own 48), (8, dV k), (9, dV v), (10, dV v1)], [bX 16 63 [dV t.Network.Stops, dV t.Network.Lines, dV t.Trips], tX 32 24 [some 3] block 32 none, aX 48 3 (next ++ ([e1.Id] : List Int))], 80⟩) ?_)
        rintro ⟨v, v1⟩ r0 hb2 p
        rw [zq42_L1] at p
        refine Ok_seq (rs G (hN 2 before h0) ?_)
        refine cd p ?_ ?_ <;> intro p
        ·refine X_skip (thN (jn p (fun v2 => ⟨[(1, dV before), (2, .ref 16 0), (5, .own 32), (6, dV at_), (7, .own 48), (8, dV k), (9, dV v2), (10, dV v1)], [bX 16 63 [dV t.Network.Stops, dV t.Network.Lines, dV t.Trips], tX 32 24 [some 3] block 32 none, aX 48 3 (next ++ ([e1.Id] : List Int))], 80⟩) (fun v2 p => ?_) ?_))
         ·refine Ok_block ?_
          obtain ⟨e2, h3, p⟩ := obind p
          refine rs G (hD 2 h3 h0) ?_
          refine cd p ?_ ?_ <;> intro p
          ·exact rh G (ibN (wJ G p))
          ·exact X_skip (ibN (wJ G p))
         rintro v2 p
         exact rh G (wL G p)
        ·exact Ok_exit (thE (thE (ibE (wD G p hb2))))
       rintro v3 p s hw
       refine thN (Ok_weak hw ?_)
       exact rh G (ibN (wL G p))
      ·exact Ok_exit (thE (thE (ibE (wD G p hb1))))
     rintro next1 p s1 hw1
     refine thN (Ok_weak hw1 ?_)
     obtain ⟨u1, h4, p⟩ := obind p
     refine re G (hP (nodupB_ok (l := [48]) rfl) (hA 3 24 h4 h0)) ?_
     exact ibN (wJ G p)
   rintro block1 p
   exact rh G (wL G p)
  ·exact Ok_exit (thE (thE (ibE (wD G p hb))))
 rintro block2 p s2 hw2
 refine thN (Ok_weak hw2 ?_)
 refine rg G ?_
 cases p
 exact rt [16] []
noncomputable def zq63_M : MS l1Cur (Timetable × Fleet × (List (List Int)) × l1Cur) := ⟨.b 118, zq63, fun y => .tup [dV y.1, dV y.2.1, .own 0], fun y => [arO 24 y.2.2.1], fun _ y => [bxO 118 y.2.2.2]⟩
theorem zq63_ok : FnOK Try.prog tJ 122 zq63_M.S := by
 refine fm tt zq63_M [fo zq65_ok, fo zq52_ok, fo zq39_ok, fo zq40_ok, fo zq42_ok, fo zq61_ok, fo zq62_ok, fo zq53_ok] call122 func122 rfl results122 ntmps122 ?_
 rintro c y cx G (p : zq63 c = some y)
 unfold zq63 at p
 refine rg G ?_
 obtain ⟨r, h, p⟩ := obind p
 refine rs G (hC 1 (zq65_M.c _ h) h0) ?_
 obtain ⟨r1, h1, p⟩ := obind p
 refine rs G (hO 3 (.fz [80] [] []) (hC 3 (zq52_M.c (_, _) h1) h0)) ?_
 refine Ok_seq ?_
 obtain ⟨r2, h2, p⟩ := obind p
 refine jn p (fun v => ⟨[(0, .ref 0 0), (2, .ref 32 0), (3, .ref 48 0), (5, .ref 64 0), (6, .ref 80 0), (24, dV v)], [bX 0 118 [dV r1.2.code_, dV r1.2.at_, kV .u64 r1.2.seed_.v], bX 32 63 [.dat (.sc (.slice none 0 0)), .dat (.sc (.slice none 0 0)), .dat (.sc (.slice none 0 0))], bX 48 77 [.dat (.sc (.slice none 0 0)), kV .i64 0], bX 64 63 [dV r.1.Network.Stops, dV r.1.Network.Lines, .own 96], bX 80 77 [dV r1.1.Dead, dV r1.1.Turn], aX 96 168 r.1.Trips], 128⟩) (fun v p => ?_) ?_
 ·rcases bf p with ⟨hb, p⟩ | ⟨hb, p⟩
  ·refine re G (hC 2 (zq39_M.c (_, _) h2) (hO 4 (.b true) (hP hb h0))) ?_
   exact wJ G p
  ·refine re G (hC 2 (zq39_M.c (_, _) h2) (hO 4 (.b false) (hP hb (hN 7 r.1.Trips h0)))) ?_
   exact wJ G p
 rintro v p
 refine cd p ?_ ?_ <;> intro p
 ·refine ds G [(2, []), (3, [32, 96]), (4, [48])] h0 ?_
  cases p
  exact rt [160] []
 ·refine X_skip (thN ?_)
  obtain ⟨r5, h5, r6, h6, p⟩ := ob2 p
  refine ds G [] (hF 3 (zq40_M.c (_, _) h5) ⟨(flat_cons flat_arr flat_nil), flat_nil⟩ (hF 4 (zq42_M.c (_, _) h6) ⟨(flat_cons flat_rows flat_nil), flat_nil⟩ h0)) ?_
  refine jn p (fun (v1, v2, v3, i) => ⟨[(0, .ref 0 0), (2, .ref 32 0), (3, .ref 48 0), (5, .ref 64 0), (6, .ref 80 0), (7, .own 96)], [bX 0 118 [dV v1, dV v2, kV .u64 v3], bX 32 63 [.dat (.sc (.slice none 0 0)), .dat (.sc (.slice none 0 0)), .dat (.sc (.slice none 0 0))], bX 48 77 [.dat (.sc (.slice none 0 0)), kV .i64 0], bX 64 63 [dV r.1.Network.Stops, dV r.1.Network.Lines, dV r.1.Trips], bX 80 77 [dV r1.1.Dead, dV r1.1.Turn], aX 96 24 i], 128⟩) (fun vv1 p => ?_) ?_
  ·refine jn p (fun (v4, v5, v6, v7) => ⟨[(0, .ref 0 0), (2, .ref 32 0), (3, .ref 48 0), (5, .ref 64 0), (6, .ref 80 0), (7, .own 96), (39, dV v4)], [bX 0 118 [dV v5, dV v6, kV .u64 v7], bX 32 63 [.dat (.sc (.slice none 0 0)), .dat (.sc (.slice none 0 0)), .dat (.sc (.slice none 0 0))], bX 48 77 [.dat (.sc (.slice none 0 0)), kV .i64 0], bX 64 63 [dV r.1.Network.Stops, dV r.1.Network.Lines, .own 112], bX 80 77 [dV r1.1.Dead, dV r1.1.Turn], tX 96 24 [some 3] r6 96 none, aX 112 168 r.1.Trips], 144⟩) (fun vv p => ?_) ?_
   ·rcases bf p with ⟨hb1, p⟩ | ⟨hb1, p⟩
    ·obtain ⟨r7, h7, p⟩ := obind p
     refine re G (hN 1 r6 (hO 3 (.b true) (hP hb1 (hC 5 (zq61_c h7) h0)))) ?_
     exact wJ G p
    ·refine re G (hN 1 r6 (hO 3 (.b false) (hP hb1 h0))) ?_
     exact wJ G p
   rintro ⟨v4, v5, v6, v7⟩ p
   refine cd p ?_ ?_ <;> intro p
   ·obtain ⟨r8, h8, p⟩ := obind p
    refine rs G (hN 2 r6 (hC 3 (zq62_c h8) h0)) ?_
    obtain ⟨r9, h9, p⟩ := obind p
    refine rs G (hC 1 (zq62_c h9) h0) ?_
    refine Ok_block (rg G (cd p ?_ ?_)) <;> intro p
    ·refine Ok_weak (Wk_J (x' := (⟨[(0, .ref 0 0), (2, .ref 32 0), (3, .ref 48 0), (5, .ref 64 0), (6, .ref 80 0), (7, .own 96), (8, dV r8.1)], [bX 0 118 [dV r9.2.code_, dV r9.2.at_, kV .u64 r9.2.seed_.v], bX 32 63 [.dat (.sc (.slice none 0 0)), .dat (.sc (.slice none 0 0)), .dat (.sc (.slice none 0 0))], bX 48 77 [.dat (.sc (.slice none 0 0)), kV .i64 0], bX 64 63 [dV r.1.Network.Stops, dV r.1.Network.Lines, dV r.1.Trips], bX 80 77 [dV r1.1.Dead, dV r1.1.Turn], tX 96 24 [some 3] r6 96 none], 128⟩ : X)) G.hL ⟨[(0, []), (2, []), (3, []), (5, []), (6, []), (7, []), (8, [])], [(0, 0, []), (32, 32, []), (48, 48, []), (64, 64, []), (80, 80, []), (96, 96, [])], [], 128⟩ (by kernel_rfl)) ?_
     obtain ⟨e2, h14, r11, h15, u1, h16, p⟩ := ob3 p
     obtain ⟨e3, h17, p⟩ := obind p
     refine de G [(8, [0]), (10, [96, 272]), (12, [96, 288])] (hD 4 h14 (hE 5 h14 (hC 8 (zq53_M.c (_, _) h15) (hO 10 (.sd (Enc.e e2) (List.map Enc.e (e2 ++ ([r11.1] : List Int)))) (hP (idx_m2 (f := Enc.e) h14) (hP (app_p (f := Enc.e) (g := Enc.e) (l := e2) (r := ([r11.1] : List Int)) (b := 8) (chk_t h16) rfl) (hP (app_m Enc.e e2 ([r11.1] : List Int)) (hD 11 h17 (hS 12 h14 (e2 ++ ([r11.1] : List Int)) (hP (Eq.refl r8.1.toNat) h0)))))))))) ?_
     exact ibN (wJp p (Wk_J G.hL ⟨[(0, []), (2, []), (3, []), (5, []), (6, []), (7, [])], [(0, 0, []), (32, 32, []), (48, 48, []), (64, 64, []), (80, 80, []), (96, 96, [.f])], [], 128⟩ (by kernel_rfl)))
    ·refine rg G (cd p ?_ ?_) <;> intro p
     ·obtain ⟨e4, h18, u2, h19, e5, h20, p⟩ := ob3 p
      refine re G (hD 4 h18 (hO 5 (.fz [] [] [(96, [.f])]) (hE 5 h18 (hV 6 h19 (hD 7 h20 (hS 8 h20 (e4.drop (1 : Int).toNat) h0)))))) ?_
      exact ibN (wJ G p)
     ·obtain ⟨e6, h21, u3, h22, p⟩ := ob2 p
      refine re G (hD 3 h21 (hO 4 (.fz [] [] [(96, [.f])]) (hE 4 h21 (hA 6 24 h22 h0)))) ?_
      exact ibN (wJ G p)
   ·exact X_skip (wJp p (Wk_J G.hL ⟨[(0, []), (2, []), (3, []), (5, []), (6, []), (7, [])], [(0, 0, []), (32, 32, []), (48, 48, []), (64, 64, []), (80, 80, []), (96, 96, [.f])], [], 128⟩ (by kernel_rfl)))
  rintro ⟨v1, v2, v3, i⟩ p
  refine ds G [(3, [32]), (4, [48])] h0 ?_
  cases p
  exact rt [96] []
noncomputable def zq36_M : MS ((List UInt8)) (Timetable × Fleet × (List (List Int)) × Int × Int) := ⟨.r, zq36, fun y => .tup [dV y.1, dV y.2.1, .own 0, dV y.2.2.2.1, dV y.2.2.2.2], fun y => [arO 24 y.2.2.1], fun _ _ => []⟩
theorem zq36_ok : FnOK Try.prog tJ 45 zq36_M.S := by
 refine fm tt zq36_M [fo zq63_ok, fo zq53_ok] call45 func45 rfl results45 ntmps45 ?_
 rintro code y cx G (p : zq36 code = some y)
 unfold zq36 at p
 refine rg G (rg G ?_)
 obtain ⟨r, h, p⟩ := obind p
 refine rs G (hC 1 (zq63_M.c _ h) h0) ?_
 obtain ⟨r3, h3, r4, h4, p⟩ := ob2 p
 refine ds G [(5, [128]), (8, [128]), (9, [16]), (10, [32])] (hC 5 (zq53_M.c (_, _) h3) (hC 8 (zq53_M.c (_, _) h4) h0)) ?_
 cases p
 exact rt [176] []
noncomputable def zq35_M : MS (Int × Int × Int) Bool := ⟨.x .r (.x .r .r), fun x => zq35 x.1 x.2.1 x.2.2, fun y => dV y, fun _ => [], fun _ _ => []⟩
theorem zq35_c {n lo hi y} (p : zq35 n lo hi = some y) : zq35_M.C (n, lo, hi) y := zq35_M.c (n, lo, hi) p
theorem zq35_ok : FnOK Try.prog tJ 143 zq35_M.S := by
 refine fm tt zq35_M [] call143 func143 rfl results143 ntmps143 ?_
 rintro ⟨n, lo, hi⟩ y cx G (p : zq35 n lo hi = some y)
 unfold zq35 at p
 refine rg G (jn p (fun v => ⟨[(6, dV v)], [], 32⟩) (fun v p => ?_) ?_)
 ·rcases bf p with ⟨hb, p⟩ | ⟨hb, p⟩
  ·refine re G (hO 3 (.b true) (hP hb h0)) ?_
   exact wJ G p
  ·refine re G (hO 3 (.b false) (hP hb h0)) ?_
   exact wJ G p
 rintro v p
 cases p
 exact rt [] []
noncomputable def zq20_M : MS ByteArray Bool := ⟨.r, zq20, fun y => dV y, fun _ => [], fun _ _ => []⟩
theorem zq20_ok : FnOK Try.prog tJ 234 zq20_M.S := by
 refine fm tt zq20_M [] call234 func234 rfl results234 ntmps234 ?_
 rintro s y cx G (p : zq20 s = some y)
 unfold zq20 at p
 refine rg G (Ok_seq (jn p (fun v => ⟨[(0, dV s), (12, dV v)], [], 32⟩) (fun v p => ?_) ?_))
 ·rcases bf p with ⟨hb, p⟩ | ⟨hb, p⟩
  ·refine re G (hO 3 (.b true) (hP hb h0)) ?_
   exact wJ G p
  ·refine re G (hO 3 (.b false) (hP hb h0)) ?_
   exact wJ G p
 rintro v p
 refine cd p ?_ ?_ <;> intro p
 ·refine rg G ?_
  cases p
  exact rt [] []
 ·refine X_skip (thN (Ok_seq (rg G (tF p (fun _ => ⟨[], [], 32⟩) (fun v4 hr p => ?_) ?_))))
  ·refine Ok_block (lp G p (fun v1 => ⟨[(0, dV s), (14, dV (s.size : Int)), (15, dV v1)], [], 32⟩) ?_)
   rintro v1 r0 hb1 p
   rw [zq20_L1] at p
   refine rg G (Ok_seq (cd p ?_ ?_)) <;> intro p
   ·refine X_skip (thN (Ok_seq (Ok_block (rg G ?_))))
    obtain ⟨u, h, p⟩ := obind p
    refine jn p (fun v2 => ⟨[(0, dV s), (3, dV v1), (4, dV v2), (14, dV (s.size : Int)), (15, dV v1)], [], 32⟩) (fun v2 p => ?_) ?_
    ·rcases bf p with ⟨hb2, p⟩ | ⟨hb2, p⟩
     ·obtain ⟨u1, h1, p⟩ := obind p
      refine re G (hK h (hO 4 (.b true) (hP hb2 (hK h1 h0)))) ?_
      exact wJ G p
     ·refine re G (hK h (hO 4 (.b false) (hP hb2 h0))) ?_
      exact wJ G p
    rintro v2 p
    refine jn p (fun v3 => ⟨[(0, dV s), (14, dV (s.size : Int)), (15, dV v1), (45, dV v3)], [], 32⟩) (fun v3 p => ?_) ?_
    ·rcases bf p with ⟨hb3, p⟩ | ⟨hb3, p⟩
     ·rcases bf p with ⟨hb4, p⟩ | ⟨hb4, p⟩
      ·refine re G (hO 2 (.b true) (hP hb3 (hO 5 (.b true) (hP hb4 h0)))) ?_
       exact wJ G p
      ·obtain ⟨u2, h2, p⟩ := obind p
       rcases bf p with ⟨hb5, p⟩ | ⟨hb5, p⟩
       ·refine re G (hO 2 (.b true) (hP hb3 (hO 5 (.b false) (hP hb4 (hK h2 (hO 11 (.b true) (hP hb5 h0))))))) ?_
        exact wJ G p
       ·obtain ⟨u3, h3, p⟩ := obind p
        refine re G (hO 2 (.b true) (hP hb3 (hO 5 (.b false) (hP hb4 (hK h2 (hO 11 (.b false) (hP hb5 (hK h3 h0)))))))) ?_
        exact wJ G p
     ·refine re G (hO 2 (.b false) (hP hb3 h0)) ?_
      exact wJ G p
    rintro v3 p
    refine cd p ?_ ?_ <;> intro p
    ·refine rg G ?_
     have p := eL p hb1 hr
     cases p
     exact rt [] []
    ·exact X_skip (ibN (thN (rh G (wL G p))))
   ·exact Ok_exit (thE (thE (ibE (wE G p hb1))))
  rintro ⟨⟩ p s1 hw
  refine thN (Ok_weak hw ?_)
  refine rg G ?_
  cases p
  exact rt [] []
noncomputable def zq97_M : MS ((List ByteArray) × ByteArray) Int := ⟨.x .r .r, fun x => zq97 x.1 x.2, fun y => dV y, fun _ => [], fun _ _ => []⟩
theorem zq97_ok : FnOK Try.prog tJ 235 zq97_M.S := by
 refine fm tt zq97_M [] call235 func235 rfl results235 ntmps235 ?_
 rintro ⟨s, v⟩ y cx G (p : zq97 s v = some y)
 unfold zq97 at p
 refine rg G (Ok_seq (rs G (hN 1 s h0) ?_))
 refine tF p (fun _ => ⟨[], [], 32⟩) (fun v2 hr p => ?_) ?_
 ·refine Ok_block (lp G p (fun v1 => ⟨[(0, dV s), (1, dV v), (7, dV (s.length : Int)), (8, dV v1)], [], 32⟩) ?_)
  rintro v1 r0 hb p
  rw [zq97_L1] at p
  refine rg G (Ok_seq (cd p ?_ ?_)) <;> intro p
  ·refine X_skip (thN (Ok_seq (Ok_block (rg G ?_))))
   obtain ⟨e, h, p⟩ := obind p
   refine rs G (hD 3 h h0) ?_
   refine cd p ?_ ?_ <;> intro p
   ·refine rg G ?_
    have p := eL p hb hr
    cases p
    exact rt [] []
   ·exact X_skip (ibN (thN (rh G (wL G p))))
  ·exact Ok_exit (thE (thE (ibE (wE G p hb))))
 rintro ⟨⟩ p s1 hw
 refine thN (Ok_weak hw ?_)
 refine rg G ?_
 cases p
 exact rt [] []
noncomputable def zq10_M : MS ((List ByteArray)) Bool := ⟨.r, zq10, fun y => dV y, fun _ => [], fun _ _ => []⟩
theorem zq10_ok : FnOK Try.prog tJ 209 zq10_M.S := by
 refine fm tt zq10_M [fo zq20_ok, fo zq97_ok] call209 func209 rfl results209 ntmps209 ?_
 rintro names y cx G (p : zq10 names = some y)
 unfold zq10 at p
 refine rg G (Ok_seq (rs G (hN 1 names h0) ?_))
 refine tF p (fun _ => ⟨[], [], 32⟩) (fun v2 hr p => ?_) ?_
 ·refine Ok_block (lp G p (fun v => ⟨[(0, dV names), (5, dV names), (6, dV (names.length : Int)), (7, dV v)], [], 32⟩) ?_)
  rintro v r0 hb p
  rw [zq10_L1] at p
  refine rg G (Ok_seq (cd p ?_ ?_)) <;> intro p
  ·refine X_skip (thN (Ok_seq (Ok_block ?_)))
   obtain ⟨e, h, p⟩ := obind p
   refine rs G (hD 1 h h0) ?_
   obtain ⟨r, h1, p⟩ := obind p
   refine jn p (fun v1 => ⟨[(0, dV names), (5, dV names), (6, dV (names.length : Int)), (7, dV v), (21, dV v1)], [], 32⟩) (fun v1 p => ?_) ?_
   ·rcases bf p with ⟨hb1, p⟩ | ⟨hb1, p⟩
    ·refine re G (hC 1 (zq20_M.c _ h1) (hO 3 (.b true) (hP hb1 h0))) ?_
     exact wJ G p
    ·obtain ⟨r1, h2, p⟩ := obind p
     refine re G (hC 1 (zq20_M.c _ h1) (hO 3 (.b false) (hP hb1 (hC 6 (zq97_M.c (_, _) h2) h0)))) ?_
     exact wJ G p
   rintro v1 p
   refine cd p ?_ ?_ <;> intro p
   ·refine rg G ?_
    have p := eL p hb hr
    cases p
    exact rt [] []
   ·exact X_skip (ibN (thN (rh G (wL G p))))
  ·exact Ok_exit (thE (thE (ibE (wE G p hb))))
 rintro ⟨⟩ p s hw
 refine thN (Ok_weak hw ?_)
 refine rg G ?_
 cases p
 exact rt [] []
noncomputable def zq25_M : MS Network ((List ByteArray)) := ⟨.r, zq25, fun _ => .own 0, fun y => [arO 9 y], fun _ _ => []⟩
theorem zq25_ok : FnOK Try.prog tJ 210 zq25_M.S := by
 refine fm tt zq25_M [] call210 func210 rfl results210 ntmps210 ?_
 rintro n y cx G (p : zq25 n = some y)
 unfold zq25 at p
 refine rg G ?_
 obtain ⟨u, h, p⟩ := obind p
 refine rs G (hN 2 n.Lines (hO 3 (.l (List.map Enc.e (List.replicate (n.Lines.length : Int).toNat (ByteArray.empty : ByteArray)))) (hP (mk_p (b := 16) (chk_t h) rfl) (hP (rep_m Enc.e (n.Lines.length : Int).toNat (ByteArray.empty : ByteArray)) h0)))) ?_
 refine Ok_seq (rs G (hN 2 n.Lines h0) ?_)
 refine tl p (fun i1 => ⟨[(3, .own 16)], [aX 16 9 i1], 48⟩) (fun i1 p => ?_) ?_
 ·refine Ok_block (lp G p (fun (v, i) => ⟨[(3, .own 16), (11, dV n.Lines), (12, dV (n.Lines.length : Int)), (13, dV v)], [aX 16 9 i], 48⟩) ?_)
  rintro ⟨v, i⟩ r0 hb p
  rw [zq25_L1] at p
  refine rg G (Ok_seq (cd p ?_ ?_)) <;> intro p
  ·refine X_skip (thN (Ok_seq (Ok_block ?_)))
   obtain ⟨e, h1, p⟩ := obind p
   refine rs G (hD 1 h1 h0) ?_
   obtain ⟨e1, h2, p⟩ := obind p
   refine re G (hD 4 h2 (hS 5 h2 e.Name h0)) ?_
   exact ibN (thN (rh G (wL G p)))
  ·exact Ok_exit (thE (thE (ibE (wD G p hb))))
 rintro i1 p s hw
 refine thN (Ok_weak hw ?_)
 refine rg G ?_
 cases p
 exact rt [16] []
noncomputable def zq22_M : MS (Network × Int) Bool := ⟨.x .r .r, fun x => zq22 x.1 x.2, fun y => dV y, fun _ => [], fun _ _ => []⟩
theorem zq22_ok : FnOK Try.prog tJ 194 zq22_M.S := by
 refine fm tt zq22_M [] call194 func194 rfl results194 ntmps194 ?_
 rintro ⟨n, stop⟩ y cx G (p : zq22 n stop = some y)
 unfold zq22 at p
 refine rg G (jn p (fun v => ⟨[(4, dV v)], [], 32⟩) (fun v p => ?_) ?_)
 ·rcases bf p with ⟨hb, p⟩ | ⟨hb, p⟩
  ·refine re G (hO 2 (.b true) (hP hb (hN 6 n.Stops h0))) ?_
   exact wJ G p
  ·refine re G (hO 2 (.b false) (hP hb h0)) ?_
   exact wJ G p
 rintro v p
 cases p
 exact rt [] []
noncomputable def zq96_M : MS ((List Int) × Int) Int := ⟨.x .r .r, fun x => zq96 x.1 x.2, fun y => dV y, fun _ => [], fun _ _ => []⟩
theorem zq96_ok : FnOK Try.prog tJ 155 zq96_M.S := by
 refine fm tt zq96_M [] call155 func155 rfl results155 ntmps155 ?_
 rintro ⟨s, v⟩ y cx G (p : zq96 s v = some y)
 unfold zq96 at p
 refine rg G (Ok_seq (rs G (hN 1 s h0) ?_))
 refine tF p (fun _ => ⟨[], [], 32⟩) (fun v2 hr p => ?_) ?_
 ·refine Ok_block (lp G p (fun v1 => ⟨[(0, dV s), (1, dV v), (7, dV (s.length : Int)), (8, dV v1)], [], 32⟩) ?_)
  rintro v1 r0 hb p
  rw [zq96_L1] at p
  refine rg G (Ok_seq (cd p ?_ ?_)) <;> intro p
  ·refine X_skip (thN (Ok_seq (Ok_block (rg G ?_))))
   obtain ⟨e, h, p⟩ := obind p
   refine rs G (hD 3 h h0) ?_
   refine cd p ?_ ?_ <;> intro p
   ·refine rg G ?_
    have p := eL p hb hr
    cases p
    exact rt [] []
   ·exact X_skip (ibN (thN (rh G (wL G p))))
  ·exact Ok_exit (thE (thE (ibE (wE G p hb))))
 rintro ⟨⟩ p s1 hw
 refine thN (Ok_weak hw ?_)
 refine rg G ?_
 cases p
 exact rt [] []
noncomputable def zq23_M : MS (Network × Line) Bool := ⟨.x .r .r, fun x => zq23 x.1 x.2, fun y => dV y, fun _ => [], fun _ _ => []⟩
theorem zq23_ok : FnOK Try.prog tJ 211 zq23_M.S := by
 refine fm tt zq23_M [fo zq35_ok, fo zq22_ok, fo zq96_ok] call211 func211 rfl results211 ntmps211 ?_
 rintro ⟨n, l⟩ y cx G (p : zq23 n l = some y)
 unfold zq23 at p
 refine rg G (Ok_seq ?_)
 obtain ⟨r, h, p⟩ := obind p
 refine jn p (fun v => ⟨[(2, .ref 16 0), (3, .ref 32 0), (23, dV v)], [bX 16 60 [dV n.Stops, dV n.Lines], bX 32 194 [dV l.Name, dV l.Stops, dV l.Runs]], 64⟩) (fun v p => ?_) ?_
 ·rcases bf p with ⟨hb, p⟩ | ⟨hb, p⟩
  ·refine re G (hN 2 l.Stops (hC 3 (zq35_c h) (hO 5 (.b true) (hP hb h0)))) ?_
   exact wJ G p
  ·refine re G (hN 2 l.Stops (hC 3 (zq35_c h) (hO 5 (.b false) (hP hb (hN 8 l.Runs (hN 11 l.Stops h0)))))) ?_
   exact wJ G p
 rintro v p
 refine cd p ?_ ?_ <;> intro p
 ·refine rg G ?_
  cases p
  exact rt [] []
 ·refine X_skip (thN (Ok_seq (rs G (hN 2 l.Stops h0) ?_)))
  refine tF p (fun _ => ⟨[(3, .ref 16 0)], [bX 16 194 [dV l.Name, dV l.Stops, dV l.Runs]], 48⟩) (fun v5 hr p => ?_) ?_
  ·refine Ok_block (lp G p (fun v1 => ⟨[(2, .ref 16 0), (3, .ref 32 0), (25, dV l.Stops), (26, dV (l.Stops.length : Int)), (27, dV v1)], [bX 16 60 [dV n.Stops, dV n.Lines], bX 32 194 [dV l.Name, dV l.Stops, dV l.Runs]], 64⟩) ?_)
   rintro v1 r0 hb1 p
   rw [zq23_L1] at p
   refine rg G (Ok_seq (cd p ?_ ?_)) <;> intro p
   ·refine X_skip (thN (Ok_seq (Ok_block ?_)))
    obtain ⟨e, h1, p⟩ := obind p
    refine rs G (hD 1 h1 h0) ?_
    obtain ⟨r1, h2, p⟩ := obind p
    refine jn p (fun v2 => ⟨[(2, .ref 16 0), (3, .ref 32 0), (25, dV l.Stops), (26, dV (l.Stops.length : Int)), (27, dV v1), (43, dV v2)], [bX 16 60 [dV n.Stops, dV n.Lines], bX 32 194 [dV l.Name, dV l.Stops, dV l.Runs]], 64⟩) (fun v2 p => ?_) ?_
    ·rcases bf p with ⟨hb2, p⟩ | ⟨hb2, p⟩
     ·refine re G (hC 2 (zq22_M.c (_, _) h2) (hO 4 (.b true) (hP hb2 h0))) ?_
      exact wJ G p
     ·obtain ⟨r2, h3, p⟩ := obind p
      refine re G (hC 2 (zq22_M.c (_, _) h2) (hO 4 (.b false) (hP hb2 (hC 8 (zq96_M.c (_, _) h3) h0)))) ?_
      exact wJ G p
    rintro v2 p
    refine cd p ?_ ?_ <;> intro p
    ·refine rg G ?_
     have p := eL p hb1 hr
     cases p
     exact rt [] []
    ·exact X_skip (ibN (thN (rh G (wL G p))))
   ·exact Ok_exit (thE (thE (ibE (wE G p hb1))))
  rintro ⟨⟩ p s hw
  refine thN (Ok_weak hw ?_)
  refine Ok_seq (rs G (hN 2 l.Runs h0) ?_)
  refine tF p (fun _ => ⟨[], [], 32⟩) (fun v4 hr1 p => ?_) ?_
  ·refine Ok_block (lp G p (fun v3 => ⟨[(46, dV l.Runs), (47, dV (l.Runs.length : Int)), (48, dV v3)], [], 32⟩) ?_)
   rintro v3 r0 hb3 p
   rw [zq23_L2] at p
   refine rg G (Ok_seq (cd p ?_ ?_)) <;> intro p
   ·refine X_skip (thN (Ok_seq (Ok_block ?_)))
    obtain ⟨e2, h4, p⟩ := obind p
    refine rs G (hD 0 h4 h0) ?_
    obtain ⟨r4, h5, p⟩ := obind p
    refine rs G (hC 1 (zq35_c h5) h0) ?_
    refine cd p ?_ ?_ <;> intro p
    ·refine rg G ?_
     have p := eL p hb3 hr1
     cases p
     exact rt [] []
    ·exact X_skip (ibN (thN (rh G (wL G p))))
   ·exact Ok_exit (thE (thE (ibE (wE G p hb3))))
  rintro ⟨⟩ p s1 hw1
  refine thN (Ok_weak hw1 ?_)
  refine rg G ?_
  cases p
  exact rt [] []
noncomputable def zq4_M : MS Network Bool := ⟨.r, zq4, fun y => dV y, fun _ => [], fun _ _ => []⟩
theorem zq4_ok : FnOK Try.prog tJ 165 zq4_M.S := by
 refine fm tt zq4_M [fo zq35_ok, fo zq10_ok, fo zq25_ok, fo zq23_ok] call165 func165 rfl results165 ntmps165 ?_
 rintro n y cx G (p : zq4 n = some y)
 unfold zq4 at p
 refine rg G (Ok_seq ?_)
 obtain ⟨r, h, p⟩ := obind p
 refine jn p (fun v => ⟨[(1, .ref 16 0), (28, dV v)], [bX 16 60 [dV n.Stops, dV n.Lines]], 48⟩) (fun v p => ?_) ?_
 ·rcases bf p with ⟨hb, p⟩ | ⟨hb, p⟩
  ·refine re G (hN 2 n.Stops (hC 3 (zq35_c h) (hO 5 (.b true) (hP hb h0)))) ?_
   exact wJ G p
  ·obtain ⟨r1, h1, p⟩ := obind p
   rcases bf p with ⟨hb1, p⟩ | ⟨hb1, p⟩
   ·refine re G (hN 2 n.Stops (hC 3 (zq35_c h) (hO 5 (.b false) (hP hb (hN 8 n.Lines (hC 9 (zq35_c h1) (hO 12 (.b true) (hP hb1 h0)))))))) ?_
    exact wJ G p
   ·obtain ⟨r2, h2, p⟩ := obind p
    rcases bf p with ⟨hb2, p⟩ | ⟨hb2, p⟩
    ·refine re G (hN 2 n.Stops (hC 3 (zq35_c h) (hO 5 (.b false) (hP hb (hN 8 n.Lines (hC 9 (zq35_c h1) (hO 12 (.b false) (hP hb1 (hC 15 (zq10_M.c _ h2) (hO 18 (.b true) (hP hb2 h0))))))))))) ?_
     exact wJ G p
    ·obtain ⟨r3, h3, r4, h4, p⟩ := ob2 p
     refine re G (hN 2 n.Stops (hC 3 (zq35_c h) (hO 5 (.b false) (hP hb (hN 8 n.Lines (hC 9 (zq35_c h1) (hO 12 (.b false) (hP hb1 (hC 15 (zq10_M.c _ h2) (hO 18 (.b false) (hP hb2 (hC 20 (zq25_M.c _ h3) (hC 21 (zq10_M.c _ h4) h0))))))))))))) ?_
     exact wJ G p
 rintro v p
 refine cd p ?_ ?_ <;> intro p
 ·refine rg G ?_
  cases p
  exact rt [] []
 ·refine X_skip (thN (Ok_seq (rs G (hN 2 n.Lines h0) ?_)))
  refine tF p (fun _ => ⟨[], [], 32⟩) (fun v2 hr p => ?_) ?_
  ·refine Ok_block (lp G p (fun v1 => ⟨[(1, .ref 16 0), (30, dV n.Lines), (31, dV (n.Lines.length : Int)), (32, dV v1)], [bX 16 60 [dV n.Stops, dV n.Lines]], 48⟩) ?_)
   rintro v1 r0 hb3 p
   rw [zq4_L1] at p
   refine rg G (Ok_seq (cd p ?_ ?_)) <;> intro p
   ·refine X_skip (thN (Ok_seq (Ok_block ?_)))
    obtain ⟨e, h5, p⟩ := obind p
    refine rs G (hD 0 h5 h0) ?_
    obtain ⟨r5, h6, p⟩ := obind p
    refine rs G (hC 2 (zq23_M.c (_, _) h6) h0) ?_
    refine cd p ?_ ?_ <;> intro p
    ·refine rg G ?_
     have p := eL p hb3 hr
     cases p
     exact rt [] []
    ·exact X_skip (ibN (thN (rh G (wL G p))))
   ·exact Ok_exit (thE (thE (ibE (wE G p hb3))))
  rintro ⟨⟩ p s hw
  refine thN (Ok_weak hw ?_)
  refine rg G ?_
  cases p
  exact rt [] []
noncomputable def zq19_M : MS (Network × Int) Bool := ⟨.x .r .r, fun x => zq19 x.1 x.2, fun y => dV y, fun _ => [], fun _ _ => []⟩
theorem zq19_c {n line y} (p : zq19 n line = some y) : zq19_M.C (n, line) y := zq19_M.c (n, line) p
theorem zq19_ok : FnOK Try.prog tJ 200 zq19_M.S := by
 refine fm tt zq19_M [] call200 func200 rfl results200 ntmps200 ?_
 rintro ⟨n, line⟩ y cx G (p : zq19 n line = some y)
 unfold zq19 at p
 refine rg G (jn p (fun v => ⟨[(4, dV v)], [], 32⟩) (fun v p => ?_) ?_)
 ·rcases bf p with ⟨hb, p⟩ | ⟨hb, p⟩
  ·refine re G (hO 2 (.b true) (hP hb (hN 6 n.Lines h0))) ?_
   exact wJ G p
  ·refine re G (hO 2 (.b false) (hP hb h0)) ?_
   exact wJ G p
 rintro v p
 cases p
 exact rt [] []
noncomputable def zq5_M : MS Int Bool := ⟨.r, zq5, fun y => dV y, fun _ => [], fun _ _ => []⟩
theorem zq5_c {t y} (p : zq5 t = some y) : zq5_M.C t y := zq5_M.c t p
theorem zq5_ok : FnOK Try.prog tJ 212 zq5_M.S := by
 refine fm tt zq5_M [fo zq35_ok] call212 func212 rfl results212 ntmps212 ?_
 rintro t y cx G (p : zq5 t = some y)
 unfold zq5 at p
 refine rg G ?_
 obtain ⟨r, h, p⟩ := obind p
 refine rs G (hC 1 (zq35_c h) h0) ?_
 cases p
 exact rt [] []
noncomputable def zq31_M : MS ((List Int)) Int := ⟨.r, zq31, fun y => dV y, fun _ => [], fun _ _ => []⟩
theorem zq31_c {list y} (p : zq31 list = some y) : zq31_M.C list y := zq31_M.c list p
theorem zq31_ok : FnOK Try.prog tJ 198 zq31_M.S := by
 refine fm tt zq31_M [] call198 func198 rfl results198 ntmps198 ?_
 rintro list y cx G (p : zq31 list = some y)
 unfold zq31 at p
 refine rg G (rg G (Ok_seq (rs G (hN 1 list h0) ?_)))
 refine tl p (fun v2 => ⟨[(3, dV v2)], [], 32⟩) (fun v2 p => ?_) ?_
 ·refine Ok_block (lp G p (fun (v, v1) => ⟨[(3, dV v), (6, dV list), (7, dV (list.length : Int)), (8, dV v1)], [], 32⟩) ?_)
  rintro ⟨v, v1⟩ r0 hb p
  rw [zq31_L1] at p
  refine rg G (Ok_seq (cd p ?_ ?_)) <;> intro p
  ·refine X_skip (thN (Ok_seq (Ok_block ?_)))
   obtain ⟨e, h, p⟩ := obind p
   refine rs G (hD 0 h h0) ?_
   exact rh G (ibN (thN (rh G (wL G p))))
  ·exact Ok_exit (thE (thE (ibE (wD G p hb))))
 rintro v2 p s hw
 refine thN (Ok_weak hw ?_)
 refine rg G ?_
 cases p
 exact rt [] []
noncomputable def zq16_M : MS (Timetable × Trip) Int := ⟨.x .r .r, fun x => zq16 x.1 x.2, fun y => dV y, fun _ => [], fun _ _ => []⟩
theorem zq16_ok : FnOK Try.prog tJ 187 zq16_M.S := by
 refine fm tt zq16_M [fo zq31_ok] call187 func187 rfl results187 ntmps187 ?_
 rintro ⟨t, x⟩ y cx G (p : zq16 t x = some y)
 unfold zq16 at p
 refine rg G ?_
 obtain ⟨e1, h2, r1, h3, p⟩ := ob2 p
 refine ds G [] (hD 7 h2 (hC 10 (zq31_c h3) h0)) ?_
 cases p
 exact rt [] []
noncomputable def zq11_M : MS Timetable Bool := ⟨.r, zq11, fun y => dV y, fun _ => [], fun _ _ => []⟩
theorem zq11_ok : FnOK Try.prog tJ 166 zq11_M.S := by
 refine fm tt zq11_M [fo zq19_ok, fo zq5_ok, fo zq16_ok] call166 func166 rfl results166 ntmps166 ?_
 rintro t y cx G (p : zq11 t = some y)
 unfold zq11 at p
 refine rg G (Ok_seq (rs G (hN 2 t.Trips h0) ?_))
 refine cd p ?_ ?_ <;> intro p
 ·refine rg G ?_
  cases p
  exact rt [] []
 ·refine X_skip (thN (rg G (Ok_seq (rs G (hN 2 t.Trips h0) ?_))))
  refine tF p (fun _ => ⟨[], [], 32⟩) (fun v3 hr p => ?_) ?_
  ·refine Ok_block (lp G p (fun (v, v1) => ⟨[(1, .ref 16 0), (3, dV v), (11, dV t.Trips), (12, dV (t.Trips.length : Int)), (13, dV v1)], [bX 16 63 [dV t.Network.Stops, dV t.Network.Lines, dV t.Trips]], 48⟩) ?_)
   rintro ⟨v, v1⟩ r0 hb p
   rw [zq11_L1] at p
   refine rg G (Ok_seq (cd p ?_ ?_)) <;> intro p
   ·refine X_skip (thN (Ok_seq (Ok_block ?_)))
    obtain ⟨e, h, p⟩ := obind p
    refine rs G (hD 0 h h0) ?_
    refine Ok_seq (jn p (fun v2 => ⟨[(1, .ref 16 0), (5, .ref 32 0), (11, dV t.Trips), (12, dV (t.Trips.length : Int)), (13, dV v1), (46, dV v2)], [bX 16 63 [dV t.Network.Stops, dV t.Network.Lines, dV t.Trips], bX 32 168 [dV e.Id, dV e.Line, dV e.Start]], 64⟩) (fun v2 p => ?_) ?_)
    ·rcases bf p with ⟨hb1, p⟩ | ⟨hb1, p⟩
     ·refine re G (hO 4 (.b true) (hP hb1 h0)) ?_
      exact wJ G p
     ·rcases bf p with ⟨hb2, p⟩ | ⟨hb2, p⟩
      ·refine re G (hO 4 (.b false) (hP hb1 (hO 9 (.b true) (hP hb2 h0)))) ?_
       exact wJ G p
      ·obtain ⟨r, h1, p⟩ := obind p
       rcases bf p with ⟨hb3, p⟩ | ⟨hb3, p⟩
       ·refine re G (hO 4 (.b false) (hP hb1 (hO 9 (.b false) (hP hb2 (hC 14 (zq19_c h1) (hO 17 (.b true) (hP hb3 h0))))))) ?_
        exact wJ G p
       ·obtain ⟨r1, h2, p⟩ := obind p
        rcases bf p with ⟨hb4, p⟩ | ⟨hb4, p⟩
        ·refine re G (hO 4 (.b false) (hP hb1 (hO 9 (.b false) (hP hb2 (hC 14 (zq19_c h1) (hO 17 (.b false) (hP hb3 (hC 20 (zq5_c h2) (hO 23 (.b true) (hP hb4 h0)))))))))) ?_
         exact wJ G p
        ·obtain ⟨r2, h3, r3, h4, p⟩ := ob2 p
         refine re G (hO 4 (.b false) (hP hb1 (hO 9 (.b false) (hP hb2 (hC 14 (zq19_c h1) (hO 17 (.b false) (hP hb3 (hC 20 (zq5_c h2) (hO 23 (.b false) (hP hb4 (hC 26 (zq16_M.c (_, _) h3) (hC 27 (zq5_c h4) h0)))))))))))) ?_
         exact wJ G p
    rintro v2 p
    refine cd p ?_ ?_ <;> intro p
    ·refine rg G ?_
     have p := eL p hb hr
     cases p
     exact rt [] []
    ·exact X_skip (thN (rh G (ibN (thN (rh G (wL G p))))))
   ·exact Ok_exit (thE (thE (ibE (wE G p hb))))
  rintro ⟨⟩ p s hw
  refine thN (Ok_weak hw ?_)
  refine rg G ?_
  cases p
  exact rt [] []
noncomputable def zq6_M : MS Timetable Bool := ⟨.r, zq6, fun y => dV y, fun _ => [], fun _ _ => []⟩
theorem zq6_ok : FnOK Try.prog tJ 98 zq6_M.S := by
 refine fm tt zq6_M [fo zq4_ok, fo zq11_ok] call98 func98 rfl results98 ntmps98 ?_
 rintro t y cx G (p : zq6 t = some y)
 unfold zq6 at p
 refine rg G ?_
 obtain ⟨r, h, p⟩ := obind p
 refine jn p (fun v => ⟨[(2, dV v)], [], 32⟩) (fun v p => ?_) ?_
 ·rcases bf p with ⟨hb, p⟩ | ⟨hb, p⟩
  ·obtain ⟨r1, h1, p⟩ := obind p
   refine re G (hC 2 (zq4_M.c _ h) (hO 3 (.b true) (hP hb (hC 5 (zq11_M.c _ h1) h0)))) ?_
   exact wJ G p
  ·refine re G (hC 2 (zq4_M.c _ h) (hO 3 (.b false) (hP hb h0))) ?_
   exact wJ G p
 rintro v p
 cases p
 exact rt [] []
noncomputable def zq18_M : MS (Network × Fleet) Bool := ⟨.x .r .r, fun x => zq18 x.1 x.2, fun y => dV y, fun _ => [], fun _ _ => []⟩
theorem zq18_ok : FnOK Try.prog tJ 178 zq18_M.S := by
 refine fm tt zq18_M [fo zq35_ok] call178 func178 rfl results178 ntmps178 ?_
 rintro ⟨n, f⟩ y cx G (p : zq18 n f = some y)
 unfold zq18 at p
 refine rg G (Ok_seq (jn p (fun v => ⟨[(2, .ref 16 0), (3, .ref 32 0), (21, dV v)], [bX 16 60 [dV n.Stops, dV n.Lines], bX 32 77 [dV f.Dead, dV f.Turn]], 64⟩) (fun v p => ?_) ?_))
 ·rcases bf p with ⟨hb, p⟩ | ⟨hb, p⟩
  ·refine re G (hN 2 f.Dead (hN 5 n.Stops (hO 7 (.b true) (hP hb h0)))) ?_
   exact wJ G p
  ·obtain ⟨r, h, p⟩ := obind p
   refine re G (hN 2 f.Dead (hN 5 n.Stops (hO 7 (.b false) (hP hb (hC 10 (zq35_c h) h0))))) ?_
   exact wJ G p
 rintro v p
 refine cd p ?_ ?_ <;> intro p
 ·refine rg G ?_
  cases p
  exact rt [] []
 ·refine X_skip (thN (Ok_seq (rs G (hN 2 f.Dead h0) ?_)))
  refine tF p (fun _ => ⟨[], [], 32⟩) (fun v5 hr p => ?_) ?_
  ·refine Ok_block (lp G p (fun v1 => ⟨[(2, .ref 16 0), (23, dV f.Dead), (24, dV (f.Dead.length : Int)), (25, dV v1)], [bX 16 60 [dV n.Stops, dV n.Lines]], 48⟩) ?_)
   rintro v1 r0 hb1 p
   rw [zq18_L2] at p
   refine rg G (Ok_seq (cd p ?_ ?_)) <;> intro p
   ·refine X_skip (thN (Ok_seq (Ok_block ?_)))
    obtain ⟨e, h1, p⟩ := obind p
    refine rs G (hD 1 h1 h0) ?_
    refine Ok_seq (jn p (fun v2 => ⟨[(2, .ref 16 0), (6, dV e), (23, dV f.Dead), (24, dV (f.Dead.length : Int)), (25, dV v1), (42, dV v2)], [bX 16 60 [dV n.Stops, dV n.Lines]], 48⟩) (fun v2 p => ?_) ?_)
    ·rcases bf p with ⟨hb2, p⟩ | ⟨hb2, p⟩
     ·refine re G (hN 1 e (hN 4 n.Stops (hO 6 (.b true) (hP hb2 h0)))) ?_
      exact wJ G p
     ·obtain ⟨e1, h2, p⟩ := obind p
      refine re G (hN 1 e (hN 4 n.Stops (hO 6 (.b false) (hP hb2 (hD 9 h2 h0))))) ?_
      exact wJ G p
    rintro v2 p
    refine cd p ?_ ?_ <;> intro p
    ·refine rg G ?_
     have p := eL p hb1 hr
     cases p
     exact rt [] []
    ·refine X_skip (thN (rs G (hN 1 e h0) ?_))
     refine tF p (fun _ => ⟨[(2, .ref 16 0), (23, dV f.Dead), (24, dV (f.Dead.length : Int)), (25, dV v1)], [bX 16 60 [dV n.Stops, dV n.Lines]], 48⟩) (fun v4 hr1 p => ?_) ?_
     ·refine Ok_block (lp G p (fun v3 => ⟨[(2, .ref 16 0), (23, dV f.Dead), (24, dV (f.Dead.length : Int)), (25, dV v1), (43, dV e), (44, dV (e.length : Int)), (45, dV v3)], [bX 16 60 [dV n.Stops, dV n.Lines]], 48⟩) ?_)
      rintro v3 r0 hb3 p
      rw [zq18_L1] at p
      refine rg G (Ok_seq (cd p ?_ ?_)) <;> intro p
      ·refine X_skip (thN (Ok_seq (Ok_block ?_)))
       obtain ⟨e3, h3, p⟩ := obind p
       refine rs G (hD 0 h3 h0) ?_
       obtain ⟨r2, h4, p⟩ := obind p
       refine rs G (hC 1 (zq35_c h4) h0) ?_
       refine cd p ?_ ?_ <;> intro p
       ·refine rg G ?_
        have p := eL p hb3 hr1
        have p := eL p hb1 hr
        cases p
        exact rt [] []
       ·exact X_skip (ibN (thN (rh G (wL G p))))
      ·exact Ok_exit (thE (thE (ibE (wE G p hb3))))
     rintro ⟨⟩ p s hw
     refine ibN (thN (Ok_weak hw ?_))
     exact rh G (wL G p)
   ·exact Ok_exit (thE (thE (ibE (wE G p hb1))))
  rintro ⟨⟩ p s1 hw1
  refine thN (Ok_weak hw1 ?_)
  refine rg G ?_
  cases p
  exact rt [] []
noncomputable def zq21_M : MS (Timetable × Fleet) Bool := ⟨.x .r .r, fun x => zq21 x.1 x.2, fun y => dV y, fun _ => [], fun _ _ => []⟩
theorem zq21_ok : FnOK Try.prog tJ 108 zq21_M.S := by
 refine fm tt zq21_M [fo zq6_ok, fo zq18_ok] call108 func108 rfl results108 ntmps108 ?_
 rintro ⟨t, f⟩ y cx G (p : zq21 t f = some y)
 unfold zq21 at p
 refine rg G ?_
 obtain ⟨r, h, p⟩ := obind p
 refine jn p (fun v => ⟨[(4, dV v)], [], 32⟩) (fun v p => ?_) ?_
 ·rcases bf p with ⟨hb, p⟩ | ⟨hb, p⟩
  ·obtain ⟨r1, h1, p⟩ := obind p
   refine re G (hC 1 (zq6_M.c _ h) (hO 2 (.b true) (hP hb (hC 6 (zq18_M.c (_, _) h1) h0)))) ?_
   exact wJ G p
  ·refine re G (hC 1 (zq6_M.c _ h) (hO 2 (.b false) (hP hb h0))) ?_
   exact wJ G p
 rintro v p
 cases p
 exact rt [] []
noncomputable def zq33_M : MS (Trip × Int) Bool := ⟨.x .r (.b 3), fun x => zq33 x.1 x.2, fun y => dV y, fun _ => [], fun x _ => [bxO 3 x.2]⟩
theorem zq33_ok : FnOK Try.prog tJ 191 zq33_M.S := by
 refine fm tt zq33_M [] call191 func191 rfl results191 ntmps191 ?_
 rintro ⟨x, c1⟩ y cx G (p : zq33 x c1 = some y)
 unfold zq33 at p
 refine rg G (rg G ?_)
 cases p
 exact rt [] []
noncomputable def zq95_M : MS ((List Trip) × Int) Int := ⟨⟨[.rd, .fn 191 [.bx]], fun x => [Enc.e x.1, .agg [.sc undef]], fun x => [bxO 3 x.2], 1, 1, fun _ => rfl, fun _ => rfl, rfl, (by
  rintro ⟨a0, a1⟩ ⟨b0, b1⟩ h hO
  have q0 : a0 = b0 := qI 0 h
  have q1 : a1 = b1 := Enc.inj _ _ (congrArg (fun l => (obD l 0).getD 0 (.sc undef)) hO)
  subst q0; subst q1; rfl)⟩, fun x => zq95 x.1 x.2, fun y => dV y, fun _ => [], fun x _ => [bxO 3 x.2]⟩
theorem zq95_ok : FnOK Try.prog tJ 190 zq95_M.S := by
 refine fm tt zq95_M [fo zq33_ok] call190 func190 rfl results190 ntmps190 ?_
 rintro ⟨s, c1⟩ y cx G (p : zq95 s c1 = some y)
 obtain ⟨f, hf_f⟩ : ∃ q, (fun (z0 : Trip) => zq33 z0 c1) = q := ⟨_, rfl⟩
 have p : zq94 s f = some y := by rw [← hf_f]; exact p
 unfold zq94 at p
 refine rg G (Ok_seq (rs G (hN 1 s h0) ?_))
 refine tF p (fun _ => ⟨[(1, .fn 191 [.ref 0 0])], [bX 0 3 [dV c1]], 48⟩) (fun v1 hr p => ?_) ?_
 ·refine Ok_block (lp G p (fun v => ⟨[(0, dV s), (1, .fn 191 [.ref 0 0]), (7, dV (s.length : Int)), (8, dV v)], [bX 0 3 [dV c1]], 48⟩) ?_)
  rintro v r0 hb p
  rw [zq94_L1] at p
  refine rg G (Ok_seq (cd p ?_ ?_)) <;> intro p
  ·refine X_skip (thN (Ok_seq (Ok_block (rg G ?_))))
   obtain ⟨e, h, r, h1, p⟩ := ob2 p
   have h1 : zq33 e c1 = some r := by rw [← hf_f] at h1; exact h1
   refine rs G (hD 3 h (hC 5 (zq33_M.c (_, _) h1) h0)) ?_
   refine cd p ?_ ?_ <;> intro p
   ·refine rg G ?_
    have p := eL p hb hr
    cases p
    exact rt [] []
   ·exact X_skip (ibN (thN (rh G (wL G p))))
  ·exact Ok_exit (thE (thE (ibE (wE G p hb))))
 rintro ⟨⟩ p s1 hw
 refine thN (Ok_weak hw ?_)
 refine rg G ?_
 cases p
 exact rt [] []
noncomputable def zq32_M : MS (Timetable × Int) Int := ⟨.x .r .r, fun x => zq32 x.1 x.2, fun y => dV y, fun _ => [], fun _ _ => []⟩
theorem zq32_ok : FnOK Try.prog tJ 120 zq32_M.S := by
 refine fm tt zq32_M [fo zq95_ok] call120 func120 rfl results120 ntmps120 ?_
 rintro ⟨t, id⟩ y cx G (p : zq32 t id = some y)
 unfold zq32 at p
 refine rg G ?_
 obtain ⟨r, h, p⟩ := obind p
 refine rs G (hC 3 (zq95_M.c (_, _) h) h0) ?_
 cases p
 exact rt [] []
noncomputable def zq34_M : MS (Timetable × Int) Trip := ⟨.x .r .r, fun x => zq34 x.1 x.2, fun y => dV y, fun _ => [], fun _ _ => []⟩
theorem zq34_ok : FnOK Try.prog tJ 117 zq34_M.S := by
 refine fm tt zq34_M [fo zq32_ok] call117 func117 rfl results117 ntmps117 ?_
 rintro ⟨t, id⟩ y cx G (p : zq34 t id = some y)
 unfold zq34 at p
 refine rg G ?_
 obtain ⟨r1, h2, e1, h3, p⟩ := ob2 p
 refine ds G [(7, [32])] (hC 4 (zq32_M.c (_, _) h2) (hD 5 h3 h0)) ?_
 cases p
 exact rt [] []
noncomputable def zq26_M : MS (Timetable × Trip) Line := ⟨.x .r .r, fun x => zq26 x.1 x.2, fun y => dV y, fun _ => [], fun _ _ => []⟩
theorem zq26_ok : FnOK Try.prog tJ 227 zq26_M.S := by
 refine fm tt zq26_M [] call227 func227 rfl results227 ntmps227 ?_
 rintro ⟨t, x⟩ y cx G (p : zq26 t x = some y)
 unfold zq26 at p
 refine rg G ?_
 obtain ⟨e, h, p⟩ := obind p
 refine rs G (hD 5 h h0) ?_
 cases p
 exact rt [] []
noncomputable def zq24_M : MS (Timetable × Trip) Int := ⟨.x .r .r, fun x => zq24 x.1 x.2, fun y => dV y, fun _ => [], fun _ _ => []⟩
theorem zq24_ok : FnOK Try.prog tJ 188 zq24_M.S := by
 refine fm tt zq24_M [fo zq26_ok] call188 func188 rfl results188 ntmps188 ?_
 rintro ⟨t, x⟩ y cx G (p : zq24 t x = some y)
 unfold zq24 at p
 refine rg G ?_
 obtain ⟨r, h, p⟩ := obind p
 refine rs G (hC 2 (zq26_M.c (_, _) h) h0) ?_
 obtain ⟨e, h1, p⟩ := obind p
 refine rs G (hN 2 r.Stops (hD 4 h1 h0)) ?_
 cases p
 exact rt [] []
noncomputable def zq17_M : MS (Timetable × Trip) Int := ⟨.x .r .r, fun x => zq17 x.1 x.2, fun y => dV y, fun _ => [], fun _ _ => []⟩
theorem zq17_ok : FnOK Try.prog tJ 189 zq17_M.S := by
 refine fm tt zq17_M [fo zq26_ok] call189 func189 rfl results189 ntmps189 ?_
 rintro ⟨t, x⟩ y cx G (p : zq17 t x = some y)
 unfold zq17 at p
 refine rg G ?_
 obtain ⟨r, h, e, h1, p⟩ := ob2 p
 refine rs G (hC 2 (zq26_M.c (_, _) h) (hD 4 h1 h0)) ?_
 cases p
 exact rt [] []
noncomputable def zq15_M : MS (Timetable × Fleet × Trip × Trip) Int := ⟨.x .r (.x .r (.x .r .r)), fun x => zq15 x.1 x.2.1 x.2.2.1 x.2.2.2, fun y => dV y, fun _ => [], fun _ _ => []⟩
theorem zq15_c {t f a b y} (p : zq15 t f a b = some y) : zq15_M.C (t, f, a, b) y := zq15_M.c (t, f, a, b) p
theorem zq15_ok : FnOK Try.prog tJ 116 zq15_M.S := by
 refine fm tt zq15_M [fo zq24_ok, fo zq17_ok] call116 func116 rfl results116 ntmps116 ?_
 rintro ⟨t, f, a, b⟩ y cx G (p : zq15 t f a b = some y)
 unfold zq15 at p
 refine rg G ?_
 obtain ⟨r2, h4, e2, h5, r3, h6, p⟩ := ob3 p
 obtain ⟨e3, h7, p⟩ := obind p
 refine ds G [] (hC 4 (zq24_M.c (_, _) h4) (hD 5 h5 (hC 9 (zq17_M.c (_, _) h6) (hD 10 h7 h0)))) ?_
 cases p
 exact rt [] []
noncomputable def zq12_M : MS (Timetable × Fleet × Trip × Trip) Bool := ⟨.x .r (.x .r (.x .r .r)), fun x => zq12 x.1 x.2.1 x.2.2.1 x.2.2.2, fun y => dV y, fun _ => [], fun _ _ => []⟩
theorem zq12_c {t f a b y} (p : zq12 t f a b = some y) : zq12_M.C (t, f, a, b) y := zq12_M.c (t, f, a, b) p
theorem zq12_ok : FnOK Try.prog tJ 121 zq12_M.S := by
 refine fm tt zq12_M [fo zq16_ok, fo zq15_ok] call121 func121 rfl results121 ntmps121 ?_
 rintro ⟨t, f, a, b⟩ y cx G (p : zq12 t f a b = some y)
 unfold zq12 at p
 refine rg G ?_
 obtain ⟨r2, h2, r3, h3, p⟩ := ob2 p
 refine ds G [] (hC 4 (zq16_M.c (_, _) h2) (hC 12 (zq15_c h3) h0)) ?_
 cases p
 exact rt [] []
noncomputable def zq9_M : MS (Timetable × Fleet × (List (List Int))) Bool := ⟨.x .r (.x .r .r), fun x => zq9 x.1 x.2.1 x.2.2, fun y => dV y, fun _ => [], fun _ _ => []⟩
theorem zq9_ok : FnOK Try.prog tJ 119 zq9_M.S := by
 refine fm tt zq9_M [fo zq32_ok, fo zq34_ok, fo zq12_ok] call119 func119 rfl results119 ntmps119 ?_
 rintro ⟨t, f, blocks⟩ y cx G (p : zq9 t f blocks = some y)
 unfold zq9 at p
 refine rg G (rg G (rg G (Ok_seq (rs G (hN 1 blocks h0) ?_))))
 refine tF p (fun block3 => ⟨[(3, .ref 16 0), (8, dV block3)], [bX 16 63 [dV t.Network.Stops, dV t.Network.Lines, dV t.Trips]], 48⟩) (fun v8 hr p => ?_) ?_
 ·refine Ok_block (lp G p (fun (block, k, v, v1) => ⟨[(3, .ref 16 0), (4, .ref 32 0), (7, .eref 48 1 0 0), (8, dV block), (9, dV k), (15, dV blocks), (16, dV (blocks.length : Int)), (17, dV v)], [bX 16 63 [dV t.Network.Stops, dV t.Network.Lines, dV t.Trips], bX 32 77 [dV f.Dead, dV f.Turn], aX 48 4 v1], 80⟩) ?_)
  rintro ⟨block, k, v, v1⟩ r0 hb p
  rw [zq9_L2] at p
  refine rg G (Ok_seq (cd p ?_ ?_)) <;> intro p
  ·refine X_skip (thN (Ok_seq (Ok_block ?_)))
   obtain ⟨e, h, p⟩ := obind p
   refine rs G (hD 0 h h0) ?_
   refine Ok_seq (jn p (fun v2 => ⟨[(3, .ref 16 0), (4, .ref 32 0), (7, .eref 48 1 0 0), (8, dV block), (11, dV e), (15, dV blocks), (16, dV (blocks.length : Int)), (17, dV v), (30, dV v2)], [bX 16 63 [dV t.Network.Stops, dV t.Network.Lines, dV t.Trips], bX 32 77 [dV f.Dead, dV f.Turn], aX 48 4 v1], 80⟩) (fun v2 p => ?_) ?_)
   ·rcases bf p with ⟨hb1, p⟩ | ⟨hb1, p⟩
    ·refine re G (hN 1 e (hO 3 (.b true) (hP hb1 h0))) ?_
     exact wJ G p
    ·obtain ⟨e1, h1, p⟩ := obind p
     refine re G (hN 1 e (hO 3 (.b false) (hP hb1 (hD 5 h1 h0)))) ?_
     exact wJ G p
   rintro v2 p
   refine cd p ?_ ?_ <;> intro p
   ·refine rg G ?_
    have p := eL p hb hr
    cases p
    exact rt [] []
   ·refine X_skip (thN ?_)
    obtain ⟨e3, h2, p⟩ := obind p
    refine rs G (hD 1 h2 h0) ?_
    refine rs G (hN 1 e h0) ?_
    refine tF p (fun (block2, v6) => ⟨[(3, .ref 16 0), (4, .ref 32 0), (7, .eref 48 1 0 0), (8, dV block2), (9, dV e3), (15, dV blocks), (16, dV (blocks.length : Int)), (17, dV v)], [bX 16 63 [dV t.Network.Stops, dV t.Network.Lines, dV t.Trips], bX 32 77 [dV f.Dead, dV f.Turn], aX 48 4 v6], 80⟩) (fun v7 hr1 p => ?_) ?_
    ·refine Ok_block (lp G p (fun (block1, v3, v4) => ⟨[(3, .ref 16 0), (4, .ref 32 0), (7, .eref 48 1 0 0), (8, dV block1), (9, dV e3), (11, dV e), (15, dV blocks), (16, dV (blocks.length : Int)), (17, dV v), (34, dV e), (35, dV (e.length : Int)), (36, dV v3)], [bX 16 63 [dV t.Network.Stops, dV t.Network.Lines, dV t.Trips], bX 32 77 [dV f.Dead, dV f.Turn], aX 48 4 v4], 80⟩) ?_)
     rintro ⟨block1, v3, v4⟩ r0 hb2 p
     rw [zq9_L1] at p
     refine rg G (Ok_seq (cd p ?_ ?_)) <;> intro p
     ·refine X_skip (thN (Ok_seq (Ok_block ?_)))
      obtain ⟨e4, h3, p⟩ := obind p
      refine rs G (hD 1 h3 h0) ?_
      obtain ⟨r1, h4, p⟩ := obind p
      refine rs G (hC 2 (zq32_M.c (_, _) h4) h0) ?_
      refine Ok_seq (jn p (fun v5 => ⟨[(3, .ref 16 0), (4, .ref 32 0), (7, .eref 48 1 0 0), (8, dV block1), (9, dV e3), (11, dV e), (14, dV r1), (15, dV blocks), (16, dV (blocks.length : Int)), (17, dV v), (34, dV e), (35, dV (e.length : Int)), (36, dV v3), (72, dV v5)], [bX 16 63 [dV t.Network.Stops, dV t.Network.Lines, dV t.Trips], bX 32 77 [dV f.Dead, dV f.Turn], aX 48 4 v4], 80⟩) (fun v5 p => ?_) ?_)
      ·rcases bf p with ⟨hb3, p⟩ | ⟨hb3, p⟩
       ·refine de G [] (hO 2 (.b true) (hP hb3 h0)) ?_
        exact wJ G p
       ·obtain ⟨u1, h12, e8, h11, p⟩ := ob2 p
        rcases bf p with ⟨hb4, p⟩ | ⟨hb4, p⟩
        ·refine de G [] (hO 2 (.b false) (hP hb3 (hK h12 (hE 5 h11 (hO 7 (.b true) (hP hb4 h0)))))) ?_
         exact wJ G p
        ·rcases bf p with ⟨hb5, p⟩ | ⟨hb5, p⟩
         ·obtain ⟨e9, h13, r4, h14, e10, h15, p⟩ := ob3 p
          obtain ⟨r5, h16, p⟩ := obind p
          refine de G [] (hO 2 (.b false) (hP hb3 (hK h12 (hE 5 h11 (hO 7 (.b false) (hP hb4 (hO 10 (.b true) (hP hb5 (hD 17 h13 (hC 19 (zq34_M.c (_, _) h14) (hD 23 h15 (hC 25 (zq12_c h16) h0)))))))))))) ?_
          exact wJ G p
         ·refine de G [] (hO 2 (.b false) (hP hb3 (hK h12 (hE 5 h11 (hO 7 (.b false) (hP hb4 (hO 10 (.b false) (hP hb5 h0)))))))) ?_
          exact wJ G p
      rintro v5 p
      refine cd p ?_ ?_ <;> intro p
      ·refine rg G ?_
       have p := eL p hb2 hr1
       have p := eL p hb hr
       cases p
       exact rt [] []
      ·refine X_skip (thN ?_)
       obtain ⟨u2, h18, e13, h17, p⟩ := ob2 p
       refine rs G (hK h18 (hS 2 h17 true h0)) ?_
       exact rh G (ibN (thN (rh G (wL G p))))
     ·exact Ok_exit (thE (thE (ibE (wE G p hb2))))
    rintro ⟨block2, v6⟩ p s hw
    refine ibN (thN (Ok_weak hw ?_))
    exact rh G (wL G p)
  ·exact Ok_exit (thE (thE (ibE (wE G p hb))))
 rintro block3 p s1 hw1
 refine thN (Ok_weak hw1 ?_)
 refine rs G (hN 3 t.Trips h0) ?_
 cases p
 exact rt [] []
noncomputable def zq3_M : MS (Timetable × Fleet × (List (List Int))) Bool := ⟨.x .r (.x .r .r), fun x => zq3 x.1 x.2.1 x.2.2, fun y => dV y, fun _ => [], fun _ _ => []⟩
theorem zq3_ok : FnOK Try.prog tJ 42 zq3_M.S := by
 refine fm tt zq3_M [fo zq21_ok, fo zq9_ok] call42 func42 rfl results42 ntmps42 ?_
 rintro ⟨t, f, blocks⟩ y cx G (p : zq3 t f blocks = some y)
 unfold zq3 at p
 refine rg G ?_
 obtain ⟨r, h, p⟩ := obind p
 refine jn p (fun v => ⟨[(6, dV v)], [], 32⟩) (fun v p => ?_) ?_
 ·rcases bf p with ⟨hb, p⟩ | ⟨hb, p⟩
  ·obtain ⟨r1, h1, p⟩ := obind p
   refine re G (hC 2 (zq21_M.c (_, _) h) (hO 3 (.b true) (hP hb (hC 7 (zq9_M.c (_, _, _) h1) h0)))) ?_
   exact wJ G p
  ·refine re G (hC 2 (zq21_M.c (_, _) h) (hO 3 (.b false) (hP hb h0))) ?_
   exact wJ G p
 rintro v p
 cases p
 exact rt [] []
noncomputable def zq30_M : MS ((List (List Int)) × Int) (Int × Int) := ⟨.x .r .r, fun x => zq30 x.1 x.2, fun y => .tup [dV y.1, dV y.2], fun _ => [], fun _ _ => []⟩
theorem zq30_ok : FnOK Try.prog tJ 83 zq30_M.S := by
 refine fm tt zq30_M [fo zq96_ok] call83 func83 rfl results83 ntmps83 ?_
 rintro ⟨blocks, id⟩ y cx G (p : zq30 blocks id = some y)
 unfold zq30 at p
 refine rg G (Ok_seq (rs G (hN 1 blocks h0) ?_))
 refine tF p (fun _ => ⟨[], [], 32⟩) (fun v1 hr p => ?_) ?_
 ·refine Ok_block (lp G p (fun v => ⟨[(1, dV id), (9, dV blocks), (10, dV (blocks.length : Int)), (11, dV v)], [], 32⟩) ?_)
  rintro v r0 hb p
  rw [zq30_L1] at p
  refine rg G (Ok_seq (cd p ?_ ?_)) <;> intro p
  ·refine X_skip (thN (Ok_seq (Ok_block ?_)))
   obtain ⟨e, h, p⟩ := obind p
   refine rs G (hD 1 h h0) ?_
   obtain ⟨r, h1, p⟩ := obind p
   refine rs G (hC 2 (zq96_M.c (_, _) h1) h0) ?_
   refine rg G (cd p ?_ ?_) <;> intro p
   ·refine rg G ?_
    have p := eL p hb hr
    cases p
    exact rt [] []
   ·exact X_skip (ibN (thN (rh G (wL G p))))
  ·exact Ok_exit (thE (thE (ibE (wE G p hb))))
 rintro ⟨⟩ p s hw
 refine thN (Ok_weak hw ?_)
 refine rg G ?_
 cases p
 exact rt [] []
noncomputable def zq91_M : MS ((List Int)) ((List Int)) := ⟨.r, zq91, fun _ => .own 0, fun y => [arO 3 y], fun _ _ => []⟩
theorem zq91_ok : FnOK Try.prog tJ 84 zq91_M.S := by
 refine fm tt zq91_M [] call84 func84 rfl results84 ntmps84 ?_
 rintro s y cx G (p : zq91 s = some y)
 unfold zq91 at p
 obtain ⟨u, h, p⟩ := obind p
 cases p
 refine rg G (Ok_seq (X_nil_seq G.t.ty G.ok 1 (ds := List.map Enc.e s) (es := 1) [] .nil (by kernel_rfl) (by rfl) (by rfl) (by kernel_rfl) ?_))
 intro b hb
 refine X_cond b (by kernel_rfl) (fun hc => ?_) (fun hc => ?_)
 ·have hl : s = [] := by
   cases s with
   | nil => rfl
   | cons a r => have := hb (by simp); rw [hc] at this; cases this
  subst hl
  refine rg G (Ok_weak (Wk_J (x' := ⟨[(2, .own 16)], [(16, some (.arr 3 1 []))], 32⟩) G.hL ⟨[(2, [.o 16])], [], [(16, 3, 1, [])], 32⟩ (by kernel_rfl)) ?_)
  exact rt [16] []
 ·refine sN (rs G (hA 2 8 h h0) ?_)
  exact rt [96] []
noncomputable def zq14_M : MS ((List (List Int))) ((List (List Int))) := ⟨.r, zq14, fun _ => .own 0, fun y => [taO 24 [some 3] y], fun _ _ => []⟩
theorem zq14_ok : FnOK Try.prog tJ 124 zq14_M.S := by
 refine fm tt zq14_M [fo zq91_ok] call124 func124 rfl results124 ntmps124 ?_
 rintro lists y cx G (p : zq14 lists = some y)
 unfold zq14 at p
 refine rg G ?_
 obtain ⟨u, h, p⟩ := obind p
 refine rs G (hN 1 lists (hO 2 (.l (List.map Enc.e (List.replicate (lists.length : Int).toNat (([] : List Int) : List Int)))) (hP (mk_p (b := 24) (chk_t h) rfl) (hP (rep_m Enc.e (lists.length : Int).toNat (([] : List Int) : List Int)) h0)))) ?_
 refine Ok_seq (rs G (hN 1 lists h0) ?_)
 refine tl p (fun i1 => ⟨[(3, .own 16)], [tX 16 24 [some 3] i1 16 none], 48⟩) (fun i1 p => ?_) ?_
 ·refine Ok_block (lp G p (fun (v, i) => ⟨[(3, .own 16), (9, dV lists), (10, dV (lists.length : Int)), (11, dV v)], [tX 16 24 [some 3] i 16 none], 48⟩) ?_)
  rintro ⟨v, i⟩ r0 hb p
  rw [zq14_L1] at p
  refine rg G (Ok_seq (cd p ?_ ?_)) <;> intro p
  ·refine X_skip (thN (Ok_seq (Ok_block ?_)))
   obtain ⟨e, h1, p⟩ := obind p
   refine rs G (hD 1 h1 h0) ?_
   obtain ⟨r, h2, e1, h3, p⟩ := ob2 p
   refine re G (hC 3 (zq91_M.c _ h2) (hD 4 h3 (hS 5 h3 r h0))) ?_
   exact ibN (thN (rh G (wL G p)))
  ·exact Ok_exit (thE (thE (ibE (wD G p hb))))
 rintro i1 p s hw
 refine thN (Ok_weak hw ?_)
 refine rg G ?_
 cases p
 exact rt [16] []
noncomputable def zq93_M : MS Int ((List Int)) := ⟨.zi, zq93, fun _ => .own 0, fun y => [arO 3 y], fun _ _ => []⟩
def zq93_R : Go.Shelf.Ren := ⟨fun x => bif Nat.beq x 4 then 192 else x, fun x => bif Nat.beq x 22 then 24 else bif Nat.beq x 25 then 3 else bif Nat.beq x 3 then 3 else bif Nat.beq x 4 then 4 else bif Nat.beq x 9 then 9 else bif Nat.beq x 20 then 20 else x, fun x => x⟩
theorem zq93_F : Try.f192 = { Go.Proofs.Body8.n4 zq93_R with name := "slices.Grow[[]int,int]" } := by kernel_rfl
theorem zq93_ok : FnOK Try.prog tJ 192 zq93_M.S := groZOK (α := Int) (x := tyE3) tt zq93_R (nm := "slices.Grow[[]int,int]") (by rfl) call192 (func192.trans (congrArg some zq93_F)) (b0 := 0) (e0 := false) (b20 := 16) (e20 := false) ⟨Try.underlying0, Try.t0, Try.type0, rfl, rfl, rfl, fun h => by cases h⟩ ⟨Try.underlying20, Try.t20, Try.type20, rfl, rfl, rfl, fun h => by cases h⟩ (by kernel_rfl) (by kernel_rfl) (by kernel_rfl) (by kernel_rfl) (by kernel_rfl) (by kernel_rfl)
noncomputable def zq92_M : MS ((List (List Int))) ((List Int)) := ⟨.r, zq92, fun _ => .own 0, fun y => [arO 3 y], fun _ _ => []⟩
theorem zq92_ok : FnOK Try.prog tJ 125 zq92_M.S := by
 refine fm tt zq92_M [fo zq93_ok] call125 func125 rfl results125 ntmps125 ?_
 rintro slices y cx G (p : zq92 slices = some y)
 unfold zq92 at p
 refine rg G (rg G (Ok_seq (rs G (hN 1 slices h0) ?_)))
 refine tl p (fun v2 => ⟨[(0, dV slices), (3, dV v2)], [], 32⟩) (fun v2 p => ?_) ?_
 ·refine Ok_block (lp G p (fun (v, v1) => ⟨[(0, dV slices), (3, dV v), (9, dV slices), (10, dV (slices.length : Int)), (11, dV v1)], [], 32⟩) ?_)
  rintro ⟨v, v1⟩ r0 hb p
  rw [zq92_L1] at p
  refine rg G (Ok_seq (cd p ?_ ?_)) <;> intro p
  ·refine X_skip (thN (Ok_seq (Ok_block ?_)))
   obtain ⟨e, h, p⟩ := obind p
   refine rs G (hD 0 h h0) ?_
   refine rs G (hN 2 e h0) ?_
   refine rg G (cd p ?_ ?_) <;> intro p
   ·cases p
   ·exact X_skip (ibN (thN (rh G (wL G p))))
  ·exact Ok_exit (thE (thE (ibE (wD G p hb))))
 rintro v2 p s hw
 refine thN (Ok_weak hw ?_)
 obtain ⟨r, h1, p⟩ := obind p
 refine rs G (hC 1 (zq93_M.c _ h1) h0) ?_
 refine Ok_seq (rs G (hN 1 slices h0) ?_)
 refine tl p (fun v5 => ⟨[(6, .own 16)], [aX 16 3 v5], 48⟩) (fun v5 p => ?_) ?_
 ·refine Ok_block (lp G p (fun (v3, v4) => ⟨[(6, .own 16), (25, dV slices), (26, dV (slices.length : Int)), (27, dV v3)], [aX 16 3 v4], 48⟩) ?_)
  rintro ⟨v3, v4⟩ r0 hb1 p
  rw [zq92_L2] at p
  refine rg G (Ok_seq (cd p ?_ ?_)) <;> intro p
  ·refine X_skip (thN (Ok_seq (Ok_block ?_)))
   obtain ⟨e1, h2, p⟩ := obind p
   refine rs G (hD 0 h2 h0) ?_
   obtain ⟨u, h3, p⟩ := obind p
   refine re G (hA 2 8 h3 h0) ?_
   exact ibN (thN (rh G (wL G p)))
  ·exact Ok_exit (thE (thE (ibE (wD G p hb1))))
 rintro v5 p s1 hw1
 refine thN (Ok_weak hw1 ?_)
 refine rg G ?_
 cases p
 exact rt [16] []
noncomputable def zq8_M : MS (Timetable × Fleet × (List (List Int)) × Int × Int) ((List (List Int)) × Bool) := ⟨.x .r (.x .r (.x .r (.x .r .r))), fun x => zq8 x.1 x.2.1 x.2.2.1 x.2.2.2.1 x.2.2.2.2, fun y => .tup [dV y.1, dV y.2], fun _ => [], fun _ _ => []⟩
theorem zq8_c {t f blocks a b y} (p : zq8 t f blocks a b = some y) : zq8_M.C (t, f, blocks, a, b) y := zq8_M.c (t, f, blocks, a, b) p
theorem zq8_ok : FnOK Try.prog tJ 46 zq8_M.S := by
 refine fm tt zq8_M [fo zq3_ok, fo zq30_ok, fo zq14_ok, fo zq92_ok, fo zq9_ok] call46 func46 rfl results46 ntmps46 ?_
 rintro ⟨t, f, blocks, a, b⟩ y cx G (p : zq8 t f blocks a b = some y)
 unfold zq8 at p
 refine rg G (Ok_seq ?_)
 obtain ⟨r, h, p⟩ := obind p
 refine rs G (hC 3 (zq3_M.c (_, _, _) h) h0) ?_
 refine cd p ?_ ?_ <;> intro p
 ·refine rg G ?_
  cases p
  exact rt [] [[.z 1]]
 ·refine X_skip (thN ?_)
  obtain ⟨r1, h1, p⟩ := obind p
  refine rs G (hC 2 (zq30_M.c (_, _) h1) h0) ?_
  obtain ⟨r2, h2, p⟩ := obind p
  refine rs G (hC 2 (zq30_M.c (_, _) h2) h0) ?_
  refine Ok_seq (jn p (fun v => ⟨[(2, dV blocks), (5, .ref 16 0), (6, .ref 32 0), (12, dV r1.1), (13, dV r1.2), (14, dV r2.1), (15, dV r2.2), (44, dV v)], [bX 16 63 [dV t.Network.Stops, dV t.Network.Lines, dV t.Trips], bX 32 77 [dV f.Dead, dV f.Turn]], 64⟩) (fun v p => ?_) ?_)
  ·rcases bf p with ⟨hb, p⟩ | ⟨hb, p⟩
   ·refine re G (hO 2 (.b true) (hP hb h0)) ?_
    exact wJ G p
   ·rcases bf p with ⟨hb1, p⟩ | ⟨hb1, p⟩
    ·refine re G (hO 2 (.b false) (hP hb (hO 6 (.b true) (hP hb1 h0)))) ?_
     exact wJ G p
    ·refine re G (hO 2 (.b false) (hP hb (hO 6 (.b false) (hP hb1 h0)))) ?_
     exact wJ G p
  rintro v p
  refine cd p ?_ ?_ <;> intro p
  ·refine rg G ?_
   cases p
   exact rt [] [[.z 1]]
  ·refine X_skip (thN ?_)
   obtain ⟨r3, h3, p⟩ := obind p
   refine rs G (hC 1 (zq14_M.c _ h3) h0) ?_
   obtain ⟨e3, h10, u2, h11, e4, h12, p⟩ := ob3 p
   obtain ⟨u3, h13, r5, h14, e5, h15, p⟩ := ob3 p
   refine ds G [(8, []), (15, []), (16, []), (19, [80, 384])] (hD 4 h10 (hU 8 h11 (hD 11 h12 (hV 15 h13 (hF 17 (zq92_M.c _ h14) ⟨(flat_cons flat_arr flat_nil), flat_nil⟩ (hD 18 h15 (hS 19 h15 r5 h0))))))) ?_
   obtain ⟨e9, h22, u6, h23, e10, h24, p⟩ := ob3 p
   obtain ⟨u7, h25, r7, h26, e11, h27, p⟩ := ob3 p
   refine ds G [(8, []), (15, []), (16, []), (19, [80, 704])] (hD 4 h22 (hU 8 h23 (hD 11 h24 (hV 15 h25 (hF 17 (zq92_M.c _ h26) ⟨(flat_cons flat_arr flat_nil), flat_nil⟩ (hD 18 h27 (hS 19 h27 r7 h0))))))) ?_
   refine Ok_seq ?_
   obtain ⟨r8, h28, p⟩ := obind p
   refine rs G (hC 3 (zq9_M.c (_, _, _) h28) h0) ?_
   refine cd p ?_ ?_ <;> intro p
   ·refine rg G ?_
    cases p
    exact rt [] [[.z 1]]
   ·refine X_skip (thN (rg G ?_))
    cases p
    exact rt [] []
noncomputable def zq46_M : MS ((List (List Int)) × Int) (Int × Int) := ⟨.x .r .r, fun x => zq46 x.1 x.2, fun y => .tup [dV y.1, dV y.2], fun _ => [], fun _ _ => []⟩
theorem zq46_ok : FnOK Try.prog tJ 126 zq46_M.S := by
 refine fm tt zq46_M [] call126 func126 rfl results126 ntmps126 ?_
 rintro ⟨blocks, id⟩ y cx G (p : zq46 blocks id = some y)
 unfold zq46 at p
 refine rg G (Ok_seq (rg G (tF p (fun _ => ⟨[], [], 32⟩) (fun v3 hr p => ?_) ?_)))
 ·refine Ok_block (lp G p (fun v => ⟨[(0, dV blocks), (1, dV id), (6, dV v)], [], 32⟩) ?_)
  rintro v r0 hb p
  rw [zq46_L2] at p
  refine Ok_seq (rs G (hN 2 blocks h0) ?_)
  refine cd p ?_ ?_ <;> intro p
  ·refine X_skip (thN (Ok_seq (Ok_block (rg G (tF p (fun _ => ⟨[(0, dV blocks), (1, dV id), (6, dV v)], [], 32⟩) (fun v2 hr1 p => ?_) ?_)))))
   ·refine Ok_block (lp G p (fun v1 => ⟨[(0, dV blocks), (1, dV id), (6, dV v), (7, dV v1)], [], 32⟩) ?_)
    rintro v1 r0 hb1 p
    rw [zq46_L1] at p
    refine Ok_seq ?_
    obtain ⟨e, h, p⟩ := obind p
    refine rs G (hD 3 h (hN 5 e h0)) ?_
    refine cd p ?_ ?_ <;> intro p
    ·refine X_skip (thN (Ok_seq (Ok_block ?_)))
     obtain ⟨e1, h1, e2, h2, p⟩ := ob2 p
     refine rs G (hD 2 h1 (hD 5 h2 h0)) ?_
     refine cd p ?_ ?_ <;> intro p
     ·refine rg G ?_
      have p := eL p hb1 hr1
      have p := eL p hb hr
      cases p
      exact rt [] []
     ·exact X_skip (ibN (thN (rh G (wL G p))))
    ·exact Ok_exit (thE (thE (ibE (wE G p hb1))))
   rintro ⟨⟩ p s hw
   refine ibN (thN (Ok_weak hw ?_))
   exact rh G (wL G p)
  ·exact Ok_exit (thE (thE (ibE (wE G p hb))))
 rintro ⟨⟩ p s1 hw1
 refine thN (Ok_weak hw1 ?_)
 refine rg G ?_
 cases p
 exact rt [] []
noncomputable def zq87_M : MS (Timetable × Int) Int := ⟨.x .r .r, fun x => zq87 x.1 x.2, fun y => dV y, fun _ => [], fun _ _ => []⟩
theorem zq87_ok : FnOK Try.prog tJ 186 zq87_M.S := by
 refine fm tt zq87_M [] call186 func186 rfl results186 ntmps186 ?_
 rintro ⟨t, id⟩ y cx G (p : zq87 t id = some y)
 unfold zq87 at p
 refine rg G (Ok_seq (rg G (tF p (fun _ => ⟨[], [], 32⟩) (fun v1 hr p => ?_) ?_)))
 ·refine Ok_block (lp G p (fun v => ⟨[(1, dV id), (2, .ref 16 0), (5, dV v)], [bX 16 63 [dV t.Network.Stops, dV t.Network.Lines, dV t.Trips]], 48⟩) ?_)
  rintro v r0 hb p
  rw [zq87_L1] at p
  refine Ok_seq (rs G (hN 3 t.Trips h0) ?_)
  refine cd p ?_ ?_ <;> intro p
  ·refine X_skip (thN (Ok_seq (Ok_block ?_)))
   obtain ⟨e, h, p⟩ := obind p
   refine rs G (hD 3 h h0) ?_
   refine cd p ?_ ?_ <;> intro p
   ·refine rg G ?_
    have p := eL p hb hr
    cases p
    exact rt [] []
   ·exact X_skip (ibN (thN (rh G (wL G p))))
  ·exact Ok_exit (thE (thE (ibE (wE G p hb))))
 rintro ⟨⟩ p s hw
 refine thN (Ok_weak hw ?_)
 refine rg G ?_
 cases p
 exact rt [] []
noncomputable def zq66_M : MS ((List Int) × Int) Bool := ⟨.x .r .r, fun x => zq66 x.1 x.2, fun y => dV y, fun _ => [], fun _ _ => []⟩
theorem zq66_ok : FnOK Try.prog tJ 152 zq66_M.S := by
 refine fm tt zq66_M [] call152 func152 rfl results152 ntmps152 ?_
 rintro ⟨l, n⟩ y cx G (p : zq66 l n = some y)
 unfold zq66 at p
 refine rg G (Ok_seq (rg G (tF p (fun _ => ⟨[], [], 32⟩) (fun v1 hr p => ?_) ?_)))
 ·refine Ok_block (lp G p (fun v => ⟨[(0, dV l), (1, dV n), (5, dV v)], [], 32⟩) ?_)
  rintro v r0 hb p
  rw [zq66_L1] at p
  refine Ok_seq (rs G (hN 2 l h0) ?_)
  refine cd p ?_ ?_ <;> intro p
  ·refine X_skip (thN (Ok_seq (Ok_block ?_)))
   obtain ⟨e, h, p⟩ := obind p
   refine rs G (hD 2 h h0) ?_
   refine cd p ?_ ?_ <;> intro p
   ·refine rg G ?_
    have p := eL p hb hr
    cases p
    exact rt [] []
   ·exact X_skip (ibN (thN (rh G (wL G p))))
  ·exact Ok_exit (thE (thE (ibE (wE G p hb))))
 rintro ⟨⟩ p s hw
 refine thN (Ok_weak hw ?_)
 refine rg G ?_
 cases p
 exact rt [] []
noncomputable def zq41_M : MS (Timetable × Fleet × (List (List Int))) Bool := ⟨.x .r (.x .r .r), fun x => zq41 x.1 x.2.1 x.2.2, fun y => dV y, fun _ => [], fun _ _ => []⟩
theorem zq41_ok : FnOK Try.prog tJ 127 zq41_M.S := by
 refine fm tt zq41_M [fo zq87_ok, fo zq66_ok, fo zq45_ok] call127 func127 rfl results127 ntmps127 ?_
 rintro ⟨t, f, blocks⟩ y cx G (p : zq41 t f blocks = some y)
 unfold zq41 at p
 refine rg G (rg G (Ok_seq (rg G (tF p (fun at_3 => ⟨[(3, .ref 16 0), (7, .own 32)], [bX 16 63 [dV t.Network.Stops, dV t.Network.Lines, dV t.Trips], aX 32 3 at_3], 64⟩) (fun v5 hr p => ?_) ?_))))
 ·refine Ok_block (lp G p (fun (v, at_) => ⟨[(2, dV blocks), (3, .ref 16 0), (4, .ref 32 0), (7, .own 48), (8, dV v)], [bX 16 63 [dV t.Network.Stops, dV t.Network.Lines, dV t.Trips], bX 32 77 [dV f.Dead, dV f.Turn], aX 48 3 at_], 80⟩) ?_)
  rintro ⟨v, at_⟩ r0 hb p
  rw [zq41_L2] at p
  refine Ok_seq (rs G (hN 2 blocks h0) ?_)
  refine cd p ?_ ?_ <;> intro p
  ·refine X_skip (thN (Ok_seq (Ok_block (Ok_seq ?_))))
   obtain ⟨e5, h5, p⟩ := obind p
   refine jn p (fun v1 => ⟨[(2, dV blocks), (3, .ref 16 0), (4, .ref 32 0), (7, .own 48), (8, dV v), (43, dV v1)], [bX 16 63 [dV t.Network.Stops, dV t.Network.Lines, dV t.Trips], bX 32 77 [dV f.Dead, dV f.Turn], aX 48 3 at_], 80⟩) (fun v1 p => ?_) ?_
   ·rcases bf p with ⟨hb1, p⟩ | ⟨hb1, p⟩
    ·refine de G [] (hD 2 h5 (hN 4 e5 (hO 6 (.b true) (hP hb1 h0)))) ?_
     exact wJ G p
    ·rcases bf p with ⟨hb2, p⟩ | ⟨hb2, p⟩
     ·obtain ⟨e6, h6, e7, h7, e8, h8, p⟩ := ob3 p
      obtain ⟨e9, h9, p⟩ := obind p
      refine de G [] (hD 2 h5 (hN 4 e5 (hO 6 (.b false) (hP hb1 (hO 9 (.b true) (hP hb2 (hD 13 h6 (hD 15 h7 (hD 19 h8 (hD 21 h9 h0)))))))))) ?_
      exact wJ G p
     ·refine de G [] (hD 2 h5 (hN 4 e5 (hO 6 (.b false) (hP hb1 (hO 9 (.b false) (hP hb2 h0)))))) ?_
      exact wJ G p
   rintro v1 p
   refine cd p ?_ ?_ <;> intro p
   ·refine rg G ?_
    have p := eL p hb hr
    cases p
    exact rt [] []
   ·refine X_skip (thN (rg G (tF p (fun at_2 => ⟨[(2, dV blocks), (3, .ref 16 0), (4, .ref 32 0), (7, .own 48), (8, dV v)], [bX 16 63 [dV t.Network.Stops, dV t.Network.Lines, dV t.Trips], bX 32 77 [dV f.Dead, dV f.Turn], aX 48 3 at_2], 80⟩) (fun v4 hr1 p => ?_) ?_)))
    ·refine Ok_block (lp G p (fun (v2, at_1) => ⟨[(2, dV blocks), (3, .ref 16 0), (4, .ref 32 0), (7, .own 48), (8, dV v), (9, dV v2)], [bX 16 63 [dV t.Network.Stops, dV t.Network.Lines, dV t.Trips], bX 32 77 [dV f.Dead, dV f.Turn], aX 48 3 at_1], 80⟩) ?_)
     rintro ⟨v2, at_1⟩ r0 hb3 p
     rw [zq41_L1] at p
     refine Ok_seq ?_
     obtain ⟨e11, h10, p⟩ := obind p
     refine rs G (hD 3 h10 (hN 5 e11 h0)) ?_
     refine cd p ?_ ?_ <;> intro p
     ·refine X_skip (thN (Ok_seq (Ok_block ?_)))
      obtain ⟨e14, h14, e15, h15, r2, h16, p⟩ := ob3 p
      refine ds G [] (hD 3 h14 (hD 6 h15 (hC 8 (zq87_M.c (_, _) h16) h0))) ?_
      refine Ok_seq (jn p (fun v3 => ⟨[(2, dV blocks), (3, .ref 16 0), (4, .ref 32 0), (7, .own 48), (8, dV v), (9, dV v2), (10, dV r2), (89, dV v3)], [bX 16 63 [dV t.Network.Stops, dV t.Network.Lines, dV t.Trips], bX 32 77 [dV f.Dead, dV f.Turn], aX 48 3 at_1], 80⟩) (fun v3 p => ?_) ?_)
      ·rcases bf p with ⟨hb4, p⟩ | ⟨hb4, p⟩
       ·refine de G [] (hO 2 (.b true) (hP hb4 h0)) ?_
        exact wJ G p
       ·obtain ⟨r6, h22, p⟩ := obind p
        rcases bf p with ⟨hb5, p⟩ | ⟨hb5, p⟩
        ·refine de G [] (hO 2 (.b false) (hP hb4 (hC 5 (zq66_M.c (_, _) h22) (hO 7 (.b true) (hP hb5 h0))))) ?_
         exact wJ G p
        ·rcases bf p with ⟨hb6, p⟩ | ⟨hb6, p⟩
         ·obtain ⟨e18, h23, e19, h24, r7, h25, p⟩ := ob3 p
          obtain ⟨r8, h26, p⟩ := obind p
          refine de G [] (hO 2 (.b false) (hP hb4 (hC 5 (zq66_M.c (_, _) h22) (hO 7 (.b false) (hP hb5 (hO 10 (.b true) (hP hb6 (hD 16 h23 (hD 20 h24 (hC 22 (zq87_M.c (_, _) h25) (hC 24 (zq45_c h26) h0))))))))))) ?_
          exact wJ G p
         ·refine de G [] (hO 2 (.b false) (hP hb4 (hC 5 (zq66_M.c (_, _) h22) (hO 7 (.b false) (hP hb5 (hO 10 (.b false) (hP hb6 h0))))))) ?_
          exact wJ G p
      rintro v3 p
      refine cd p ?_ ?_ <;> intro p
      ·refine rg G ?_
       have p := eL p hb3 hr1
       have p := eL p hb hr
       cases p
       exact rt [] []
      ·refine X_skip (thN ?_)
       obtain ⟨u, h27, p⟩ := obind p
       refine re G (hA 3 8 h27 h0) ?_
       exact ibN (thN (rh G (wL G p)))
     ·exact Ok_exit (thE (thE (ibE (wE G p hb3))))
    rintro at_2 p s hw
    refine ibN (thN (Ok_weak hw ?_))
    exact rh G (wL G p)
  ·exact Ok_exit (thE (thE (ibE (wE G p hb))))
 rintro at_3 p s1 hw1
 refine thN (Ok_weak hw1 ?_)
 refine rs G (hN 1 at_3 (hN 4 t.Trips h0)) ?_
 cases p
 exact rt [] []
end Go.Proofs.Ytjahononbnbjnaa
