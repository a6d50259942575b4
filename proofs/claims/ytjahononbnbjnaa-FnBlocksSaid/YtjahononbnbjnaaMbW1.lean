/- Each function computes what its model says. Made by program (dec.py). -/
import Derived.Test.YtjahononbnbjnaaTy
import Derived.Test.YtjahononbnbjnaaAbC
import Derived.Test.YtjahononbnbjnaaMbM
import Derived.Test.YtjahononbnbjnaaAbLd
namespace Go.Proofs.Ytjahononbnbjnaa
open Go Go.Ab Try
set_option maxRecDepth 100000
set_option maxHeartbeats 4000000
set_option linter.unusedVariables false
set_option linter.unusedSimpArgs false
theorem tt : TT Try.prog ty := ⟨by kernel_rfl, ty_ok⟩
abbrev tJ : Inv := .none
noncomputable def zq95_M : MS ((List UInt8)) Bool := ⟨.r, zq95, fun y => dV y, fun _ => [], fun _ _ => []⟩
theorem zq95_ok : FnOK Try.prog tJ 34 zq95_M.S := by
 refine fm tt zq95_M [] call34 func34 rfl results34 ntmps34 ?_
 rintro code y cx G (p : zq95 code = some y)
 unfold zq95 at p
 refine rg G (rs G (hN 1 code h0) ?_)
 cases p
 exact rt [] []
noncomputable def zq60_M : MS l1Cur (Int × l1Cur) := ⟨.b 118, zq60, fun y => dV y.1, fun _ => [], fun _ y => [bxO 118 y.2]⟩
theorem zq60_ok : FnOK Try.prog tJ 154 zq60_M.S := by
 refine fm tt zq60_M [] call154 func154 rfl results154 ntmps154 ?_
 rintro c y cx G (p : zq60 c = some y)
 unfold zq60 at p
 refine rg G (rg G (jn p (fun v => ⟨[(0, .ref 0 0), (3, dV v)], [bX 0 118 [dV c.code_, dV c.at_, kV .u64 c.seed_.v]], 48⟩) (fun v p => ?_) ?_))
 ·refine ds G [] (hN 8 c.code_ h0) ?_
  refine cd p ?_ ?_ <;> intro p
  ·obtain ⟨e1, h1, p⟩ := obind p
   refine de G [] (hD 8 h1 h0) ?_
   exact wJ G p
  ·exact X_skip (wJ G p)
 rintro v p
 refine rg G (rg G (Ok_seq (ds G [] (hN 8 c.code_ h0) ?_)))
 refine cd p ?_ ?_ <;> intro p
 ·refine rg G ?_
  cases p
  exact rt [] []
 ·refine X_skip (thN ?_)
  obtain ⟨u, h2, p⟩ := obind p
  refine rs G (hK h2 h0) ?_
  cases p
  exact rt [] []
noncomputable def zq64_M : MS (l1Cur × Int) (Int × l1Cur) := ⟨.x (.b 118) .r, fun x => zq64 x.1 x.2, fun y => dV y.1, fun _ => [], fun _ y => [bxO 118 y.2]⟩
theorem zq64_c {c n y} (p : zq64 c n = some y) : zq64_M.C (c, n) y := zq64_M.c (c, n) p
theorem zq64_ok : FnOK Try.prog tJ 81 zq64_M.S := by
 refine fm tt zq64_M [fo zq60_ok] call81 func81 rfl results81 ntmps81 ?_
 rintro ⟨c, n⟩ y cx G (p : zq64 c n = some y)
 unfold zq64 at p
 refine rg G (Ok_seq (rg G (cd p ?_ ?_))) <;> intro p
 ·refine rg G ?_
  cases p
  exact rt [] []
 ·refine X_skip (thN ?_)
  obtain ⟨r, h, p⟩ := obind p
  refine rs G (hC 1 (zq60_M.c _ h) h0) ?_
  refine jn p (fun (v, v1, v2, v3) => ⟨[(0, .ref 0 0), (1, dV n), (5, dV v)], [bX 0 118 [dV v1, dV v2, kV .u64 v3]], 48⟩) (fun vv p => ?_) ?_
  ·refine rg G (cd p ?_ ?_) <;> intro p
   ·obtain ⟨r1, h1, p⟩ := obind p
    refine re G (hC 3 (zq60_M.c _ h1) h0) ?_
    exact wJ G p
   ·exact X_skip (wJ G p)
  rintro ⟨v, v1, v2, v3⟩ p
  obtain ⟨u, h2, p⟩ := obind p
  refine rs G (hK h2 h0) ?_
  cases p
  exact rt [] []
noncomputable def zq63_M : MS (l1Cur × Int) (Bool × l1Cur) := ⟨.x (.b 118) .r, fun x => zq63 x.1 x.2, fun y => dV y.1, fun _ => [], fun _ y => [bxO 118 y.2]⟩
theorem zq63_c {c n y} (p : zq63 c n = some y) : zq63_M.C (c, n) y := zq63_M.c (c, n) p
theorem zq63_ok : FnOK Try.prog tJ 79 zq63_M.S := by
 refine fm tt zq63_M [fo zq64_ok] call79 func79 rfl results79 ntmps79 ?_
 rintro ⟨c, n⟩ y cx G (p : zq63 c n = some y)
 unfold zq63 at p
 refine rg G ?_
 obtain ⟨r, h, p⟩ := obind p
 refine rs G (hC 2 (zq64_c h) h0) ?_
 cases p
 exact rt [] []
noncomputable def zq70_MR (rec_ : Int → Option (ByteArray)) : MS Int ByteArray := ⟨.r, rec_, fun y => dV y, fun _ => [], fun _ _ => []⟩
noncomputable def zq70_M : MS Int ByteArray := zq70_MR zq70
theorem zq70_cR {rec_ : Int → Option (ByteArray)} {n y} (p : rec_ n = some y) : (zq70_MR rec_).C n y := (zq70_MR rec_).c n p
theorem zq70_okF {rec_ : Int → Option (ByteArray)} (hrec : FnOK Try.prog tJ 222 (zq70_MR rec_).S) : FnOK Try.prog tJ 222 (zq70_MR (zq70_F rec_)).S := by
 refine fm tt (zq70_MR (zq70_F rec_)) [fo hrec] call222 func222 rfl results222 ntmps222 ?_
 rintro n y cx G (p : zq70_F rec_ n = some y)
 unfold zq70_F at p
 refine rg G (Ok_seq (rg G (cd p ?_ ?_))) <;> intro p
 ·obtain ⟨r, h, u, h1, p⟩ := ob2 p
  refine rs G (hC 2 (zq70_cR h) (hP (cat_p (chk_t h1)) h0)) ?_
  cases p
  exact rt [] []
 ·refine X_skip (thN (Ok_seq (rg G (cd p ?_ ?_)))) <;> intro p
  ·obtain ⟨u1, h2, p⟩ := obind p
   refine rs G (hK h2 h0) ?_
   cases p
   exact rt [] []
  ·refine X_skip (thN ?_)
   obtain ⟨u7, h9, r2, h10, u8, h11, p⟩ := ob3 p
   obtain ⟨u9, h12, u10, h13, u11, h14, p⟩ := ob3 p
   refine ds G [] (hK h9 (hC 2 (zq70_cR h10) (hK h11 (hK h12 (hK h13 (hP (cat_p (chk_t h14)) h0)))))) ?_
   cases p
   exact rt [] []
theorem zq70_okn : ∀ k, FnOK Try.prog tJ 222 (zq70_MR (zq70_k k)).S
 | 0 => ⟨fun args w => call222 args w, fun vs w F ds obs κ hp => by obtain ⟨x, y, _, _, h⟩ := hp; cases h⟩
 | k + 1 => zq70_okF (zq70_okn k)
theorem zq70_ok : FnOK Try.prog tJ 222 zq70_M.S := zq70_okn 4294967296
noncomputable def zq82_M : MS (Line × Int) Int := ⟨.x .r .r, fun x => zq82 x.1 x.2, fun y => dV y, fun _ => [], fun _ _ => []⟩
theorem zq82_ok : FnOK Try.prog tJ 147 zq82_M.S := by
 refine fm tt zq82_M [] call147 func147 rfl results147 ntmps147 ?_
 rintro ⟨x, stop⟩ y cx G (p : zq82 x stop = some y)
 unfold zq82 at p
 refine rg G (Ok_seq (rg G (tF p (fun _ => ⟨[], [], 32⟩) (fun v1 hr p => ?_) ?_)))
 ·refine Ok_block (lp G p (fun v => ⟨[(1, dV stop), (2, .ref 16 0), (5, dV v)], [bX 16 194 [dV x.Name, dV x.Stops, dV x.Runs]], 48⟩) ?_)
  rintro v r0 hb p
  rw [zq82_L1] at p
  refine Ok_seq (rs G (hN 3 x.Stops h0) ?_)
  refine cd p ?_ ?_ <;> intro p
  ·refine X_skip (thN (Ok_seq (Ok_block ?_)))
   obtain ⟨e, h, p⟩ := obind p
   refine rs G (hD 3 h h0) ?_
   refine cd p ?_ ?_ <;> intro p
   ·refine rg G ?_
    have p := eL p hb hr
    cases p
    exact rt [] []
   ·exact X_skip (ibN (thN (rh G (wL G p))))
  ·exact Ok_exit (thE (thE (ibE (wE G p hb))))
 rintro ⟨⟩ p s hw
 refine thN (Ok_weak hw ?_)
 refine rg G ?_
 cases p
 exact rt [] []
noncomputable def zq56_M : MS (l1Cur × ByteArray × Int) (Line × l1Cur) := ⟨.x (.b 118) (.x .r .r), fun x => zq56 x.1 x.2.1 x.2.2, fun y => .aggv [dV y.1.Name, .own 0, .own 1], fun y => [arO 3 y.1.Stops, arO 3 y.1.Runs], fun _ y => [bxO 118 y.2]⟩
theorem zq56_ok : FnOK Try.prog tJ 221 zq56_M.S := by
 refine fm tt zq56_M [fo zq64_ok, fo zq82_ok] call221 func221 rfl results221 ntmps221 ?_
 rintro ⟨c, name, stops⟩ y cx G (p : zq56 c name stops = some y)
 unfold zq56 at p
 refine rg G (rg G ?_)
 obtain ⟨r, h, p⟩ := obind p
 refine rs G (hC 2 (zq64_c h) h0) ?_
 refine Ok_seq ?_
 obtain ⟨r1, h1, p⟩ := obind p
 refine rs G (hC 1 (zq64_c h1) h0) ?_
 refine tl p (fun (v7, v8, v9, v10) => ⟨[(0, .ref 0 0), (2, dV stops), (6, .ref 32 0), (7, .ref 48 0)], [bX 0 118 [dV v7, dV v8, kV .u64 v9], bX 32 194 [dV ByteArray.empty, .dat (.sc (.slice none 0 0)), .dat (.sc (.slice none 0 0))], bX 48 194 [dV name, .own 64, .dat (.sc (.slice none 0 0))], aX 64 3 v10], 96⟩) (fun vv1 p => ?_) ?_
 ·refine Ok_block (lpP p (fun (v, v1, v2, v3, v4, v5) => ⟨[(0, .ref 0 0), (2, dV stops), (6, .ref 32 0), (7, .ref 48 0), (8, dV v), (9, dV v1)], [bX 0 118 [dV v2, dV v3, kV .u64 v4], bX 32 194 [dV ByteArray.empty, .dat (.sc (.slice none 0 0)), .dat (.sc (.slice none 0 0))], bX 48 194 [dV name, .own 64, .dat (.sc (.slice none 0 0))], aX 64 3 v5], 96⟩) (Wk_J G.hL ⟨[(0, []), (2, []), (6, []), (7, []), (8, []), (9, [])], [(0, 0, []), (32, 16, []), (48, 64, [.k, .o 64])], [(64, 3, 1, [])], 96⟩ (by kernel_rfl)) ?_)
  rintro ⟨v, v1, v2, v3, v4, v5⟩ r0 hb p
  rw [zq56_L1] at p
  refine Ok_seq (rg G (cd p ?_ ?_)) <;> intro p
  ·refine X_skip (thN (Ok_seq (Ok_block (jn p (fun v6 => ⟨[(0, .ref 0 0), (2, dV stops), (6, .ref 32 0), (7, .ref 48 0), (8, dV v), (9, dV v1)], [bX 0 118 [dV v2, dV v3, kV .u64 v4], bX 32 194 [dV ByteArray.empty, .dat (.sc (.slice none 0 0)), .dat (.sc (.slice none 0 0))], bX 48 194 [dV name, .own 64, .dat (.sc (.slice none 0 0))], aX 64 3 v6], 96⟩) (fun v6 p => ?_) ?_))))
   ·obtain ⟨r2, h2, p⟩ := obind p
    refine rs G (hC 2 (zq82_M.c (_, _) h2) h0) ?_
    refine cd p ?_ ?_ <;> intro p
    ·obtain ⟨u, h3, p⟩ := obind p
     refine re G (hA 4 8 h3 h0) ?_
     exact wJ G p
    ·exact X_skip (wJ G p)
   rintro v6 p
   obtain ⟨r3, h4, u1, h5, p⟩ := ob2 p
   refine re G (hC 3 (zq64_c h4) (hK h5 h0)) ?_
   exact ibN (thN (rh G (wL G p)))
  ·exact Ok_exit (thE (thE (ibE (wD G p hb))))
 rintro ⟨v7, v8, v9, v10⟩ p s hw
 refine thN (Ok_weak hw ?_)
 refine jn p (fun v11 => ⟨[(0, .ref 0 0), (6, .ref 32 0), (7, .ref 48 0)], [bX 0 118 [dV v7, dV v8, kV .u64 v9], bX 32 194 [dV ByteArray.empty, .dat (.sc (.slice none 0 0)), .dat (.sc (.slice none 0 0))], bX 48 194 [dV name, .own 64, .dat (.sc (.slice none 0 0))], aX 64 3 v11], 96⟩) (fun v11 p => ?_) ?_
 ·refine rs G (hN 2 v10 h0) ?_
  refine cd p ?_ ?_ <;> intro p
  ·obtain ⟨e1, h9, u4, h10, u5, h11, p⟩ := ob3 p
   refine de G [(10, [64, 304]), (12, [48, 320])] (hD 4 h9 (hE 5 h9 (hK h10 (hA 10 8 h11 h0)))) ?_
   exact wJ G p
  ·exact X_skip (wJ G p)
 rintro v11 p
 refine Ok_seq (rg G (tl p (fun (v17, v18, v19, v20) => ⟨[(0, .ref 0 0), (6, .ref 32 0), (7, .ref 48 0)], [bX 0 118 [dV v17, dV v18, kV .u64 v19], bX 32 194 [dV ByteArray.empty, .dat (.sc (.slice none 0 0)), .dat (.sc (.slice none 0 0))], bX 48 194 [dV name, .own 64, .own 80], aX 64 3 v11, aX 80 3 v20], 112⟩) (fun vv p => ?_) ?_))
 ·refine Ok_block (lpP p (fun (v12, v13, v14, v15, v16) => ⟨[(0, .ref 0 0), (6, .ref 32 0), (7, .ref 48 0), (10, dV v12)], [bX 0 118 [dV v13, dV v14, kV .u64 v15], bX 32 194 [dV ByteArray.empty, .dat (.sc (.slice none 0 0)), .dat (.sc (.slice none 0 0))], bX 48 194 [dV name, .own 64, .own 80], aX 64 3 v11, aX 80 3 v16], 112⟩) (Wk_J G.hL ⟨[(0, []), (6, []), (7, []), (10, [])], [(0, 0, []), (32, 32, []), (48, 48, [.k, .k, .o 80]), (64, 64, [])], [(80, 3, 1, [])], 112⟩ (by kernel_rfl)) ?_)
  rintro ⟨v12, v13, v14, v15, v16⟩ r0 hb1 p
  rw [zq56_L2] at p
  refine Ok_seq (rs G (hN 3 v11 h0) ?_)
  refine cd p ?_ ?_ <;> intro p
  ·refine X_skip (thN (Ok_seq (Ok_block ?_)))
   obtain ⟨r5, h14, u7, h15, p⟩ := ob2 p
   refine de G [(3, [0]), (6, [80, 272]), (8, [48, 288])] (hC 3 (zq64_c h14) (hA 6 8 h15 h0)) ?_
   exact ibN (thN (rh G (wL G p)))
  ·exact Ok_exit (thE (thE (ibE (wD G p hb1))))
 rintro ⟨v17, v18, v19, v20⟩ p s1 hw1
 refine thN (Ok_weak hw1 ?_)
 refine rg G ?_
 cases p
 exact rt [64, 80] []
noncomputable def zq57_M : MS (l1Cur × ByteArray × Int) (Line × l1Cur) := ⟨.x (.b 118) (.x .r .r), fun x => zq57 x.1 x.2.1 x.2.2, fun y => dV y.1, fun _ => [], fun _ y => [bxO 118 y.2]⟩
theorem zq57_ok : FnOK Try.prog tJ 221 zq57_M.S := by
 refine fm tt zq57_M [fo zq64_ok, fo zq82_ok] call221 func221 rfl results221 ntmps221 ?_
 rintro ⟨c, name, stops⟩ y cx G (p : zq57 c name stops = some y)
 unfold zq57 at p
 refine rg G (rg G ?_)
 obtain ⟨r, h, p⟩ := obind p
 refine rs G (hC 2 (zq64_c h) h0) ?_
 refine Ok_seq ?_
 obtain ⟨r1, h1, p⟩ := obind p
 refine rs G (hC 1 (zq64_c h1) h0) ?_
 refine tl p (fun (v7, v8, v9, v10) => ⟨[(0, .ref 0 0), (2, dV stops), (6, .ref 32 0), (7, .ref 48 0)], [bX 0 118 [dV v7, dV v8, kV .u64 v9], bX 32 194 [dV ByteArray.empty, .dat (.sc (.slice none 0 0)), .dat (.sc (.slice none 0 0))], bX 48 194 [dV name, .own 64, .dat (.sc (.slice none 0 0))], aX 64 3 v10], 96⟩) (fun vv1 p => ?_) ?_
 ·refine Ok_block (lpP p (fun (v, v1, v2, v3, v4, v5) => ⟨[(0, .ref 0 0), (2, dV stops), (6, .ref 32 0), (7, .ref 48 0), (8, dV v), (9, dV v1)], [bX 0 118 [dV v2, dV v3, kV .u64 v4], bX 32 194 [dV ByteArray.empty, .dat (.sc (.slice none 0 0)), .dat (.sc (.slice none 0 0))], bX 48 194 [dV name, .own 64, .dat (.sc (.slice none 0 0))], aX 64 3 v5], 96⟩) (Wk_J G.hL ⟨[(0, []), (2, []), (6, []), (7, []), (8, []), (9, [])], [(0, 0, []), (32, 16, []), (48, 64, [.k, .o 64])], [(64, 3, 1, [])], 96⟩ (by kernel_rfl)) ?_)
  rintro ⟨v, v1, v2, v3, v4, v5⟩ r0 hb p
  rw [zq57_L1] at p
  refine Ok_seq (rg G (cd p ?_ ?_)) <;> intro p
  ·refine X_skip (thN (Ok_seq (Ok_block (jn p (fun v6 => ⟨[(0, .ref 0 0), (2, dV stops), (6, .ref 32 0), (7, .ref 48 0), (8, dV v), (9, dV v1)], [bX 0 118 [dV v2, dV v3, kV .u64 v4], bX 32 194 [dV ByteArray.empty, .dat (.sc (.slice none 0 0)), .dat (.sc (.slice none 0 0))], bX 48 194 [dV name, .own 64, .dat (.sc (.slice none 0 0))], aX 64 3 v6], 96⟩) (fun v6 p => ?_) ?_))))
   ·obtain ⟨r2, h2, p⟩ := obind p
    refine rs G (hC 2 (zq82_M.c (_, _) h2) h0) ?_
    refine cd p ?_ ?_ <;> intro p
    ·obtain ⟨u, h3, p⟩ := obind p
     refine re G (hA 4 8 h3 h0) ?_
     exact wJ G p
    ·exact X_skip (wJ G p)
   rintro v6 p
   obtain ⟨r3, h4, u1, h5, p⟩ := ob2 p
   refine re G (hC 3 (zq64_c h4) (hK h5 h0)) ?_
   exact ibN (thN (rh G (wL G p)))
  ·exact Ok_exit (thE (thE (ibE (wD G p hb))))
 rintro ⟨v7, v8, v9, v10⟩ p s hw
 refine thN (Ok_weak hw ?_)
 refine jn p (fun v11 => ⟨[(0, .ref 0 0), (6, .ref 32 0), (7, .ref 48 0)], [bX 0 118 [dV v7, dV v8, kV .u64 v9], bX 32 194 [dV ByteArray.empty, .dat (.sc (.slice none 0 0)), .dat (.sc (.slice none 0 0))], bX 48 194 [dV name, .own 64, .dat (.sc (.slice none 0 0))], aX 64 3 v11], 96⟩) (fun v11 p => ?_) ?_
 ·refine rs G (hN 2 v10 h0) ?_
  refine cd p ?_ ?_ <;> intro p
  ·obtain ⟨e1, h9, u4, h10, u5, h11, p⟩ := ob3 p
   refine de G [(10, [64, 304]), (12, [48, 320])] (hD 4 h9 (hE 5 h9 (hK h10 (hA 10 8 h11 h0)))) ?_
   exact wJ G p
  ·exact X_skip (wJ G p)
 rintro v11 p
 refine Ok_seq (rg G (tl p (fun (v17, v18, v19, v20) => ⟨[(0, .ref 0 0), (6, .ref 32 0), (7, .ref 48 0)], [bX 0 118 [dV v17, dV v18, kV .u64 v19], bX 32 194 [dV ByteArray.empty, .dat (.sc (.slice none 0 0)), .dat (.sc (.slice none 0 0))], bX 48 194 [dV name, .own 64, .own 80], aX 64 3 v11, aX 80 3 v20], 112⟩) (fun vv p => ?_) ?_))
 ·refine Ok_block (lpP p (fun (v12, v13, v14, v15, v16) => ⟨[(0, .ref 0 0), (6, .ref 32 0), (7, .ref 48 0), (10, dV v12)], [bX 0 118 [dV v13, dV v14, kV .u64 v15], bX 32 194 [dV ByteArray.empty, .dat (.sc (.slice none 0 0)), .dat (.sc (.slice none 0 0))], bX 48 194 [dV name, .own 64, .own 80], aX 64 3 v11, aX 80 3 v16], 112⟩) (Wk_J G.hL ⟨[(0, []), (6, []), (7, []), (10, [])], [(0, 0, []), (32, 32, []), (48, 48, [.k, .k, .o 80]), (64, 64, [])], [(80, 3, 1, [])], 112⟩ (by kernel_rfl)) ?_)
  rintro ⟨v12, v13, v14, v15, v16⟩ r0 hb1 p
  rw [zq57_L2] at p
  refine Ok_seq (rs G (hN 3 v11 h0) ?_)
  refine cd p ?_ ?_ <;> intro p
  ·refine X_skip (thN (Ok_seq (Ok_block ?_)))
   obtain ⟨r5, h14, u7, h15, p⟩ := ob2 p
   refine de G [(3, [0]), (6, [80, 272]), (8, [48, 288])] (hC 3 (zq64_c h14) (hA 6 8 h15 h0)) ?_
   exact ibN (thN (rh G (wL G p)))
  ·exact Ok_exit (thE (thE (ibE (wD G p hb1))))
 rintro ⟨v17, v18, v19, v20⟩ p s1 hw1
 refine thN (Ok_weak hw1 ?_)
 refine rg G ?_
 cases p
 exact rt [] []
noncomputable def zq74_M : MS ((List Int)) ((List Int)) := ⟨.r, zq74, fun y => dV y, fun _ => [], fun _ _ => []⟩
theorem zq74_c {list y} (p : zq74 list = some y) : zq74_M.C list y := zq74_M.c list p
theorem zq74_ok : FnOK Try.prog tJ 223 zq74_M.S := by
 refine fm tt zq74_M [] call223 func223 rfl results223 ntmps223 ?_
 rintro list y cx G (p : zq74 list = some y)
 unfold zq74 at p
 refine rg G (rg G (Ok_seq (rs G (hN 1 list h0) ?_)))
 refine tl p (fun i1 => ⟨[(3, .own 16)], [aX 16 3 i1], 48⟩) (fun i1 p => ?_) ?_
 ·refine Ok_block (lp G p (fun (v, i) => ⟨[(0, dV list), (3, .own 16), (4, dV v)], [aX 16 3 i], 48⟩) ?_)
  rintro ⟨v, i⟩ r0 hb p
  rw [zq74_L1] at p
  refine Ok_seq (rg G (cd p ?_ ?_)) <;> intro p
  ·refine X_skip (thN (Ok_seq (Ok_block ?_)))
   obtain ⟨e, h, u, h1, p⟩ := ob2 p
   refine re G (hD 3 h (hA 6 8 h1 h0)) ?_
   exact ibN (thN (rh G (wL G p)))
  ·exact Ok_exit (thE (thE (ibE (wD G p hb))))
 rintro i1 p s hw
 refine thN (Ok_weak hw ?_)
 refine rg G ?_
 cases p
 exact rt [] []
noncomputable def zq71_M : MS ((List Int)) ((List Int)) := ⟨.r, zq71, fun _ => .own 0, fun y => [arO 3 y], fun _ _ => []⟩
theorem zq71_c {l y} (p : zq71 l = some y) : zq71_M.C l y := zq71_M.c l p
theorem zq71_ok : FnOK Try.prog tJ 128 zq71_M.S := by
 refine fm tt zq71_M [] call128 func128 rfl results128 ntmps128 ?_
 rintro l y cx G (p : zq71 l = some y)
 unfold zq71 at p
 refine rg G ?_
 obtain ⟨u, h, p⟩ := obind p
 refine rs G (hA 2 8 h h0) ?_
 cases p
 exact rt [64] []
noncomputable def zq72_M : MS ((List Int)) ((List Int)) := ⟨.r, zq72, fun y => dV y, fun _ => [], fun _ _ => []⟩
theorem zq72_c {l y} (p : zq72 l = some y) : zq72_M.C l y := zq72_M.c l p
theorem zq72_ok : FnOK Try.prog tJ 128 zq72_M.S := by
 refine fm tt zq72_M [] call128 func128 rfl results128 ntmps128 ?_
 rintro l y cx G (p : zq72 l = some y)
 unfold zq72 at p
 refine rg G ?_
 obtain ⟨u, h, p⟩ := obind p
 refine rs G (hA 2 8 h h0) ?_
 cases p
 exact rt [] []
noncomputable def zq80_M : MS Network Network := ⟨.r, zq80, fun _ => .aggv [.own 0, .own 1], fun y => [arO 9 y.Stops, arO 194 y.Lines], fun _ _ => []⟩
theorem zq80_ok : FnOK Try.prog tJ 161 zq80_M.S := by
 refine fm tt zq80_M [fo zq72_ok] call161 func161 rfl results161 ntmps161 ?_
 rintro n y cx G (p : zq80 n = some y)
 unfold zq80 at p
 refine rg G ?_
 obtain ⟨u, h, p⟩ := obind p
 refine rs G (hA 3 16 h h0) ?_
 refine Ok_seq (rg G (tl p (fun v2 => ⟨[(2, .ref 16 0), (3, .ref 32 0)], [bX 16 60 [.dat (.sc (.slice none 0 0)), .dat (.sc (.slice none 0 0))], bX 32 60 [.own 48, .own 64], aX 48 9 (([] : List ByteArray) ++ n.Stops), aX 64 194 v2], 96⟩) (fun v2 p => ?_) ?_))
 ·refine Ok_block (lpP p (fun (v, v1) => ⟨[(1, .ref 16 0), (2, .ref 32 0), (3, .ref 48 0), (4, dV v)], [bX 16 60 [dV n.Stops, dV n.Lines], bX 32 60 [.dat (.sc (.slice none 0 0)), .dat (.sc (.slice none 0 0))], bX 48 60 [.own 64, .own 80], aX 64 9 (([] : List ByteArray) ++ n.Stops), aX 80 194 v1], 112⟩) (Wk_J G.hL ⟨[(1, []), (2, []), (3, []), (4, [])], [(16, 16, []), (32, 32, []), (48, 128, [.k, .o 80]), (64, 96, [])], [(80, 194, 3, [])], 112⟩ (by kernel_rfl)) ?_)
  rintro ⟨v, v1⟩ r0 hb p
  rw [zq80_L1] at p
  refine Ok_seq (rs G (hN 3 n.Lines h0) ?_)
  refine cd p ?_ ?_ <;> intro p
  ·refine X_skip (thN (Ok_seq (Ok_block ?_)))
   obtain ⟨e3, h7, e4, h8, r2, h9, p⟩ := ob3 p
   obtain ⟨e5, h10, r3, h11, u2, h12, p⟩ := ob3 p
   refine de G [(23, []), (24, [80, 560]), (26, [48, 576])] (hD 5 h7 (hD 11 h8 (hC 14 (zq72_c h9) (hD 18 h10 (hC 21 (zq72_c h11) (hA 24 64 h12 h0)))))) ?_
   exact ibN (thN (rh G (wL G p)))
  ·exact Ok_exit (thE (thE (ibE (wD G p hb))))
 rintro v2 p s hw
 refine thN (Ok_weak hw ?_)
 refine rg G ?_
 cases p
 exact rt [48, 64] []
noncomputable def zq58_M : MS l1Cur (Network × l1Cur) := ⟨.b 118, zq58, fun _ => .aggv [.own 0, .own 1], fun y => [arO 9 y.1.Stops, arO 194 y.1.Lines], fun _ y => [bxO 118 y.2]⟩
theorem zq58_ok : FnOK Try.prog tJ 177 zq58_M.S := by
 refine fm tt zq58_M [fo zq64_ok, fo zq70_ok, fo zq57_ok, fo zq63_ok, fo zq74_ok, fo zq80_ok] call177 func177 rfl results177 ntmps177 ?_
 rintro c y cx G (p : zq58 c = some y)
 unfold zq58 at p
 refine rg G ?_
 obtain ⟨r, h, p⟩ := obind p
 refine rs G (hC 1 (zq64_c h) h0) ?_
 obtain ⟨u, h1, p⟩ := obind p
 refine rs G (hO 2 (.fz [96] [] []) (hU 2 h1 h0)) ?_
 refine Ok_seq ?_
 obtain ⟨r1, h2, p⟩ := obind p
 refine rs G (hC 1 (zq64_c h2) h0) ?_
 refine tl p (fun (v4, v5, v6, v7) => ⟨[(0, .ref 0 0), (2, .ref 32 0), (4, .ref 48 0)], [bX 0 118 [dV v4, dV v5, kV .u64 v6], bX 32 60 [.dat (.sc (.slice none 0 0)), .dat (.sc (.slice none 0 0))], bX 48 60 [dV ((([(str [112, 111, 114, 116]), (str [109, 105, 108, 108]), (str [112, 97, 114, 107]), (str [104, 97, 108, 108]), (str [100, 111, 99, 107]), (str [102, 97, 105, 114])] : List ByteArray).take (w64 (2 + r.1)).toNat).drop (0 : Int).toNat), .own 64], aX 64 194 v7], 96⟩) (fun vv1 p => ?_) ?_
 ·refine Ok_block (lpP p (fun (x, v, v1, v2, v3) => ⟨[(0, .ref 0 0), (2, .ref 32 0), (3, dV (w64 (2 + r.1))), (4, .ref 48 0), (5, dV x)], [bX 0 118 [dV v, dV v1, kV .u64 v2], bX 32 60 [.dat (.sc (.slice none 0 0)), .dat (.sc (.slice none 0 0))], bX 48 60 [dV ((([(str [112, 111, 114, 116]), (str [109, 105, 108, 108]), (str [112, 97, 114, 107]), (str [104, 97, 108, 108]), (str [100, 111, 99, 107]), (str [102, 97, 105, 114])] : List ByteArray).take (w64 (2 + r.1)).toNat).drop (0 : Int).toNat), .own 64], aX 64 194 v3], 96⟩) (Wk_J G.hL ⟨[(0, []), (2, []), (3, []), (4, []), (5, [])], [(0, 0, []), (32, 16, []), (48, 160, [.k, .o 64])], [(64, 194, 3, [])], 96⟩ (by kernel_rfl)) ?_)
  rintro ⟨x, v, v1, v2, v3⟩ r0 hb p
  rw [zq58_L1] at p
  refine Ok_seq (rg G (cd p ?_ ?_)) <;> intro p
  ·refine X_skip (thN (Ok_seq (Ok_block ?_)))
   obtain ⟨r4, h7, u3, h8, r5, h9, p⟩ := ob3 p
   obtain ⟨u4, h10, p⟩ := obind p
   refine de G [(7, [0]), (8, []), (9, [64, 256]), (11, [48, 272])] (hC 4 (zq70_M.c _ h7) (hP (cat_p (chk_t h8)) (hC 7 (zq57_M.c (_, _, _) h9) (hA 9 64 h10 h0)))) ?_
   exact ibN (thN (rh G (wL G p)))
  ·exact Ok_exit (thE (thE (ibE (wD G p hb))))
 rintro ⟨v4, v5, v6, v7⟩ p s hw
 refine thN (Ok_weak hw ?_)
 refine jn p (fun (v8, v9, v10, v11) => ⟨[(0, .ref 0 0), (2, .ref 32 0), (4, .ref 48 0)], [bX 0 118 [dV v8, dV v9, kV .u64 v10], bX 32 60 [.dat (.sc (.slice none 0 0)), .dat (.sc (.slice none 0 0))], bX 48 60 [dV ((([(str [112, 111, 114, 116]), (str [109, 105, 108, 108]), (str [112, 97, 114, 107]), (str [104, 97, 108, 108]), (str [100, 111, 99, 107]), (str [102, 97, 105, 114])] : List ByteArray).take (w64 (2 + r.1)).toNat).drop (0 : Int).toNat), .own 64], aX 64 194 v11], 96⟩) (fun vv p => ?_) ?_
 ·obtain ⟨r6, h11, p⟩ := obind p
  refine rs G (hC 1 (zq63_c h11) h0) ?_
  refine cd p ?_ ?_ <;> intro p
  ·obtain ⟨e, h12, p⟩ := obind p
   refine rs G (hD 2 h12 (hE 3 h12 h0)) ?_
   obtain ⟨r9, h16, r10, h17, u6, h18, p⟩ := ob3 p
   refine de G [(9, []), (10, [64, 368]), (12, [48, 384])] (hC 4 (zq74_c h16) (hC 7 (zq74_c h17) (hA 10 64 h18 h0))) ?_
   exact wJ G p
  ·exact X_skip (wJ G p)
 rintro ⟨v8, v9, v10, v11⟩ p
 obtain ⟨r11, h19, p⟩ := obind p
 refine rs G (hO 1 (.fz [64] [] []) (hC 1 (zq80_M.c _ h19) h0)) ?_
 cases p
 exact rt [112, 113] []
noncomputable def zq65_M : MS l1Cur (Timetable × l1Cur) := ⟨.b 118, zq65, fun _ => .aggv [.own 0, .own 1, .own 2], fun y => [arO 9 y.1.Network.Stops, arO 194 y.1.Network.Lines, arO 168 y.1.Trips], fun _ y => [bxO 118 y.2]⟩
theorem zq65_ok : FnOK Try.prog tJ 220 zq65_M.S := by
 refine fm tt zq65_M [fo zq58_ok, fo zq64_ok] call220 func220 rfl results220 ntmps220 ?_
 rintro c y cx G (p : zq65 c = some y)
 unfold zq65 at p
 refine rg G ?_
 obtain ⟨r, h, p⟩ := obind p
 refine rs G (hC 1 (zq58_M.c _ h) h0) ?_
 refine rg G (Ok_seq ?_)
 obtain ⟨r1, h1, p⟩ := obind p
 refine rs G (hC 1 (zq64_c h1) h0) ?_
 refine tl p (fun (v5, v6, v7, v8) => ⟨[(0, .ref 0 0), (2, .ref 32 0), (3, .ref 48 0)], [bX 0 118 [dV v5, dV v6, kV .u64 v7], bX 32 63 [.dat (.sc (.slice none 0 0)), .dat (.sc (.slice none 0 0)), .dat (.sc (.slice none 0 0))], bX 48 63 [.own 64, .own 80, .own 96], aX 64 9 r.1.Stops, aX 80 194 r.1.Lines, aX 96 168 v8], 128⟩) (fun vv p => ?_) ?_
 ·refine Ok_block (lpP p (fun (n, v, v1, v2, v3, v4) => ⟨[(0, .ref 0 0), (2, .ref 32 0), (3, .ref 48 0), (4, dV n), (5, dV v)], [bX 0 118 [dV v1, dV v2, kV .u64 v3], bX 32 63 [.dat (.sc (.slice none 0 0)), .dat (.sc (.slice none 0 0)), .dat (.sc (.slice none 0 0))], bX 48 63 [.own 64, .own 80, .own 96], aX 64 9 r.1.Stops, aX 80 194 r.1.Lines, aX 96 168 v4], 128⟩) (Wk_J G.hL ⟨[(0, []), (2, []), (3, []), (4, []), (5, [])], [(0, 0, []), (32, 16, []), (48, 80, [.k, .k, .o 96]), (64, 48, []), (80, 49, [])], [(96, 168, 3, [])], 128⟩ (by kernel_rfl)) ?_)
  rintro ⟨n, v, v1, v2, v3, v4⟩ r0 hb p
  rw [zq65_L1] at p
  refine Ok_seq (rg G (cd p ?_ ?_)) <;> intro p
  ·refine X_skip (thN (Ok_seq (Ok_block ?_)))
   obtain ⟨r2, h2, p⟩ := obind p
   refine rs G (hC 3 (zq64_c h2) h0) ?_
   obtain ⟨r5, h6, r6, h7, u1, h8, p⟩ := ob3 p
   refine de G [(8, [0]), (10, [0]), (15, [96, 480]), (17, [48, 496])] (hN 7 r.1.Lines (hC 8 (zq64_c h6) (hC 10 (zq64_c h7) (hA 15 24 h8 h0)))) ?_
   exact ibN (thN (rh G (wL G p)))
  ·exact Ok_exit (thE (thE (ibE (wD G p hb))))
 rintro ⟨v5, v6, v7, v8⟩ p s hw
 refine thN (Ok_weak hw ?_)
 refine rg G ?_
 cases p
 exact rt [64, 80, 96] []
noncomputable def zq51_M : MS (l1Cur × (List Int)) (Int × l1Cur) := ⟨.x (.b 118) .r, fun x => zq51 x.1 x.2, fun y => dV y.1, fun _ => [], fun _ y => [bxO 118 y.2]⟩
theorem zq51_ok : FnOK Try.prog tJ 141 zq51_M.S := by
 refine fm tt zq51_M [fo zq64_ok] call141 func141 rfl results141 ntmps141 ?_
 rintro ⟨c, list⟩ y cx G (p : zq51 c list = some y)
 unfold zq51 at p
 refine rg G ?_
 obtain ⟨r, h, e, h1, p⟩ := ob2 p
 refine rs G (hN 3 list (hC 4 (zq64_c h) (hD 5 h1 h0))) ?_
 cases p
 exact rt [] []
noncomputable def zq62_M : MS (l1Cur × (List ByteArray)) (ByteArray × l1Cur) := ⟨.x (.b 118) (.s 9), fun x => zq62 x.1 x.2, fun y => dV y.1, fun _ => [], fun x y => [bxO 118 y.2, arO 9 x.2]⟩
theorem zq62_ok : FnOK Try.prog tJ 228 zq62_M.S := by
 refine fm tt zq62_M [fo zq64_ok] call228 func228 rfl results228 ntmps228 ?_
 rintro ⟨c, list⟩ y cx G (p : zq62 c list = some y)
 unfold zq62 at p
 refine rg G ?_
 obtain ⟨r, h, e, h1, p⟩ := ob2 p
 refine rs G (hN 3 list (hC 4 (zq64_c h) (hD 5 h1 (hE 6 h1 h0)))) ?_
 cases p
 exact rt [] []
noncomputable def zq81_M : MS Network Network := ⟨.r, zq81, fun _ => .aggv [.own 0, .own 1], fun y => [arO 9 y.Stops, taO 194 [none, some 3, some 3] y.Lines], fun _ _ => []⟩
theorem zq81_ok : FnOK Try.prog tJ 161 zq81_M.S := by
 refine fm tt zq81_M [fo zq71_ok] call161 func161 rfl results161 ntmps161 ?_
 rintro n y cx G (p : zq81 n = some y)
 unfold zq81 at p
 refine rg G ?_
 obtain ⟨u, h, p⟩ := obind p
 refine rs G (hA 3 16 h h0) ?_
 refine Ok_seq (rg G (tl p (fun v2 => ⟨[(2, .ref 16 0), (3, .ref 32 0)], [bX 16 60 [.dat (.sc (.slice none 0 0)), .dat (.sc (.slice none 0 0))], bX 32 60 [.own 48, .own 64], aX 48 9 (([] : List ByteArray) ++ n.Stops), tX 64 194 [none, some 3, some 3] v2 64 none], 96⟩) (fun v2 p => ?_) ?_))
 ·refine Ok_block (lpP p (fun (v, v1) => ⟨[(1, .ref 16 0), (2, .ref 32 0), (3, .ref 48 0), (4, dV v)], [bX 16 60 [dV n.Stops, dV n.Lines], bX 32 60 [.dat (.sc (.slice none 0 0)), .dat (.sc (.slice none 0 0))], bX 48 60 [.own 64, .own 80], aX 64 9 (([] : List ByteArray) ++ n.Stops), tX 80 194 [none, some 3, some 3] v1 80 none], 112⟩) (Wk_J G.hL ⟨[(1, []), (2, []), (3, []), (4, [])], [(16, 16, []), (32, 32, []), (48, 128, [.k, .o 80]), (64, 96, [])], [(80, 194, 3, [none, some 3, some 3])], 112⟩ (by kernel_rfl)) ?_)
  rintro ⟨v, v1⟩ r0 hb p
  rw [zq81_L1] at p
  refine Ok_seq (rs G (hN 3 n.Lines h0) ?_)
  refine cd p ?_ ?_ <;> intro p
  ·refine X_skip (thN (Ok_seq (Ok_block ?_)))
   obtain ⟨e3, h7, e4, h8, r2, h9, p⟩ := ob3 p
   obtain ⟨e5, h10, r3, h11, u2, h12, p⟩ := ob3 p
   refine de G [(23, [416, 528]), (24, [80, 560]), (26, [48, 576])] (hD 5 h7 (hD 11 h8 (hC 14 (zq71_c h9) (hD 18 h10 (hC 21 (zq71_c h11) (hP (nodupB_ok (l := [416, 528]) rfl) (hA 24 64 h12 h0))))))) ?_
   exact ibN (thN (rh G (wL G p)))
  ·exact Ok_exit (thE (thE (ibE (wD G p hb))))
 rintro v2 p s hw
 refine thN (Ok_weak hw ?_)
 refine rg G ?_
 cases p
 exact rt [48, 64] []
noncomputable def zq59_M : MS l1Cur (Network × l1Cur) := ⟨.b 118, zq59, fun _ => .aggv [.own 0, .own 1], fun y => [arO 9 y.1.Stops, taO 194 [none, some 3, some 3] y.1.Lines], fun _ y => [bxO 118 y.2]⟩
theorem zq59_ok : FnOK Try.prog tJ 177 zq59_M.S := by
 refine fm tt zq59_M [fo zq64_ok, fo zq70_ok, fo zq57_ok, fo zq63_ok, fo zq74_ok, fo zq81_ok] call177 func177 rfl results177 ntmps177 ?_
 rintro c y cx G (p : zq59 c = some y)
 unfold zq59 at p
 refine rg G ?_
 obtain ⟨r, h, p⟩ := obind p
 refine rs G (hC 1 (zq64_c h) h0) ?_
 obtain ⟨u, h1, p⟩ := obind p
 refine rs G (hO 2 (.fz [96] [] []) (hU 2 h1 h0)) ?_
 refine Ok_seq ?_
 obtain ⟨r1, h2, p⟩ := obind p
 refine rs G (hC 1 (zq64_c h2) h0) ?_
 refine tl p (fun (v4, v5, v6, v7) => ⟨[(0, .ref 0 0), (2, .ref 32 0), (4, .ref 48 0)], [bX 0 118 [dV v4, dV v5, kV .u64 v6], bX 32 60 [.dat (.sc (.slice none 0 0)), .dat (.sc (.slice none 0 0))], bX 48 60 [dV ((([(str [112, 111, 114, 116]), (str [109, 105, 108, 108]), (str [112, 97, 114, 107]), (str [104, 97, 108, 108]), (str [100, 111, 99, 107]), (str [102, 97, 105, 114])] : List ByteArray).take (w64 (2 + r.1)).toNat).drop (0 : Int).toNat), .own 64], aX 64 194 v7], 96⟩) (fun vv1 p => ?_) ?_
 ·refine Ok_block (lpP p (fun (x, v, v1, v2, v3) => ⟨[(0, .ref 0 0), (2, .ref 32 0), (3, dV (w64 (2 + r.1))), (4, .ref 48 0), (5, dV x)], [bX 0 118 [dV v, dV v1, kV .u64 v2], bX 32 60 [.dat (.sc (.slice none 0 0)), .dat (.sc (.slice none 0 0))], bX 48 60 [dV ((([(str [112, 111, 114, 116]), (str [109, 105, 108, 108]), (str [112, 97, 114, 107]), (str [104, 97, 108, 108]), (str [100, 111, 99, 107]), (str [102, 97, 105, 114])] : List ByteArray).take (w64 (2 + r.1)).toNat).drop (0 : Int).toNat), .own 64], aX 64 194 v3], 96⟩) (Wk_J G.hL ⟨[(0, []), (2, []), (3, []), (4, []), (5, [])], [(0, 0, []), (32, 16, []), (48, 160, [.k, .o 64])], [(64, 194, 3, [])], 96⟩ (by kernel_rfl)) ?_)
  rintro ⟨x, v, v1, v2, v3⟩ r0 hb p
  rw [zq59_L1] at p
  refine Ok_seq (rg G (cd p ?_ ?_)) <;> intro p
  ·refine X_skip (thN (Ok_seq (Ok_block ?_)))
   obtain ⟨r4, h7, u3, h8, r5, h9, p⟩ := ob3 p
   obtain ⟨u4, h10, p⟩ := obind p
   refine de G [(7, [0]), (8, []), (9, [64, 256]), (11, [48, 272])] (hC 4 (zq70_M.c _ h7) (hP (cat_p (chk_t h8)) (hC 7 (zq57_M.c (_, _, _) h9) (hA 9 64 h10 h0)))) ?_
   exact ibN (thN (rh G (wL G p)))
  ·exact Ok_exit (thE (thE (ibE (wD G p hb))))
 rintro ⟨v4, v5, v6, v7⟩ p s hw
 refine thN (Ok_weak hw ?_)
 refine jn p (fun (v8, v9, v10, v11) => ⟨[(0, .ref 0 0), (2, .ref 32 0), (4, .ref 48 0)], [bX 0 118 [dV v8, dV v9, kV .u64 v10], bX 32 60 [.dat (.sc (.slice none 0 0)), .dat (.sc (.slice none 0 0))], bX 48 60 [dV ((([(str [112, 111, 114, 116]), (str [109, 105, 108, 108]), (str [112, 97, 114, 107]), (str [104, 97, 108, 108]), (str [100, 111, 99, 107]), (str [102, 97, 105, 114])] : List ByteArray).take (w64 (2 + r.1)).toNat).drop (0 : Int).toNat), .own 64], aX 64 194 v11], 96⟩) (fun vv p => ?_) ?_
 ·obtain ⟨r6, h11, p⟩ := obind p
  refine rs G (hC 1 (zq63_c h11) h0) ?_
  refine cd p ?_ ?_ <;> intro p
  ·obtain ⟨e, h12, p⟩ := obind p
   refine rs G (hD 2 h12 (hE 3 h12 h0)) ?_
   obtain ⟨r9, h16, r10, h17, u6, h18, p⟩ := ob3 p
   refine de G [(9, []), (10, [64, 368]), (12, [48, 384])] (hC 4 (zq74_c h16) (hC 7 (zq74_c h17) (hA 10 64 h18 h0))) ?_
   exact wJ G p
  ·exact X_skip (wJ G p)
 rintro ⟨v8, v9, v10, v11⟩ p
 obtain ⟨r11, h19, p⟩ := obind p
 refine rs G (hF 1 (zq81_M.c _ h19) ⟨(flat_cons flat_arr (flat_cons (flat_tab fun _ => flatT_agg (fT_d trivial (fT_s (fT_s fT_n)))) flat_nil)), flat_nil⟩ h0) ?_
 cases p
 exact rt [112, 113] []
noncomputable def zq52_M : MS (l1Cur × (List Int)) (Int × l1Cur) := ⟨.x (.b 118) (.s 3), fun x => zq52 x.1 x.2, fun y => dV y.1, fun _ => [], fun x y => [bxO 118 y.2, arO 3 x.2]⟩
theorem zq52_ok : FnOK Try.prog tJ 141 zq52_M.S := by
 refine fm tt zq52_M [fo zq64_ok] call141 func141 rfl results141 ntmps141 ?_
 rintro ⟨c, list⟩ y cx G (p : zq52 c list = some y)
 unfold zq52 at p
 refine rg G ?_
 obtain ⟨r, h, e, h1, p⟩ := ob2 p
 refine rs G (hN 3 list (hC 4 (zq64_c h) (hD 5 h1 (hE 6 h1 h0)))) ?_
 cases p
 exact rt [] []
noncomputable def zq53_M : MS l1Cur (Network × l1Cur) := ⟨.b 118, zq53, fun y => .aggv [.own 0, dV y.1.Lines], fun y => [arO 9 y.1.Stops], fun _ y => [bxO 118 y.2]⟩
theorem zq53_ok : FnOK Try.prog tJ 193 zq53_M.S := by
 refine fm tt zq53_M [fo zq59_ok, fo zq64_ok, fo zq62_ok, fo zq52_ok, fo zq70_ok, fo zq56_ok] call193 func193 rfl results193 ntmps193 ?_
 rintro c y cx G (p : zq53 c = some y)
 unfold zq53 at p
 refine rg G ?_
 obtain ⟨r, h, p⟩ := obind p
 refine rs G (hC 1 (zq59_M.c _ h) h0) ?_
 obtain ⟨r1, h1, p⟩ := obind p
 refine rs G (hN 3 r.1.Lines (hC 4 (zq64_c h1) h0)) ?_
 obtain ⟨e, h2, p⟩ := obind p
 refine rs G (hD 3 h2 (hE 4 h2 h0)) ?_
 refine jF p (fun (v, v1, v2, v3, v4, v5, v6) => ⟨[(0, .ref 0 0), (2, .ref 32 0), (3, .ref 48 0), (4, dV r1.1), (5, .ref 64 0)], [bX 0 118 [dV v, dV v1, kV .u64 v2], bX 32 60 [.dat (.sc (.slice none 0 0)), .dat (.sc (.slice none 0 0))], bX 48 60 [.own 80, .own 96], bX 64 194 [dV v3, .row 96 96 r1.1.toNat 1, .own 112], aX 80 9 v4, tX 96 194 [none, some 3, some 3] v5 96 (some (r1.1.toNat, 2)), aX 112 3 v6], 144⟩) (fun v17 hr p => ?_) ?_
 ·obtain ⟨r2, h3, p⟩ := obind p
  refine rs G (hC 1 (zq64_c h3) h0) ?_
  refine Ok_block (rg G (cd p ?_ ?_)) <;> intro p
  ·obtain ⟨r4, h6, e2, h7, p⟩ := ob2 p
   refine de G [(4, [0, 416]), (6, [48])] (hC 4 (zq62_M.c (_, _) h6) (hD 5 h7 (hS 6 h7 r4.1 h0))) ?_
   exact ibN (wFp p (Wk.trans (Wk_S (.c 272 2) (Enc.e e) (.cons (idx_m2 (f := Enc.e) (l := r.1.Lines) (i := r1.1) h2) .nil) (by kernel_rfl)) (Wk_J G.hL ⟨[(0, []), (2, []), (3, []), (4, []), (5, [])], [(0, 0, []), (32, 16, []), (48, 64, []), (64, 272, []), (80, 48, []), (96, 49, []), (112, 480, [])], [], 144⟩ (by kernel_rfl))))
  ·refine rg G (cd p ?_ ?_) <;> intro p
   ·obtain ⟨r5, h8, p⟩ := obind p
    refine re G (hC 2 (zq62_M.c (_, _) h8) h0) ?_
    exact ibN (wFp p (Wk.trans (Wk_S (.c 272 2) (Enc.e e) (.cons (idx_m2 (f := Enc.e) (l := r.1.Lines) (i := r1.1) h2) .nil) (by kernel_rfl)) (Wk_J G.hL ⟨[(0, []), (2, []), (3, []), (4, []), (5, [])], [(0, 0, []), (32, 16, []), (48, 64, []), (64, 272, []), (80, 48, []), (96, 49, []), (112, 480, [])], [], 144⟩ (by kernel_rfl))))
   ·refine rg G (cd p ?_ ?_) <;> intro p
    ·obtain ⟨r8, h12, r9, h13, e4, h14, p⟩ := ob3 p
     refine de G [(6, [0]), (8, [0]), (11, [49])] (hO 5 (.dn (Enc.e e) (e.Stops.length : Int)) (hP (idx_m2 (f := Enc.e) h2) (hP (len_m Enc.e e.Stops) (hC 6 (zq64_c h12) (hC 8 (zq64_c h13) (hE 10 h2 (hP (idx_b (f := Enc.e) h14) (hO 11 (.sd2 (Enc.e e) (Enc.e e4) (List.map Enc.e (e.Stops.set r8.1.toNat (w64 (r9.1 - 1)))) (List.map Enc.e (r.1.Lines.set r1.1.toNat (⟨e.Name, (e.Stops.set r8.1.toNat (w64 (r9.1 - 1))), e.Runs⟩ : Line)))) (hP (idx_m2 (f := Enc.e) h2) (hP (idx_m2 (f := Enc.e) h14) (hP (set_m Enc.e e.Stops r8.1.toNat (w64 (r9.1 - 1))) (hP (set_m Enc.e r.1.Lines r1.1.toNat (⟨e.Name, (e.Stops.set r8.1.toNat (w64 (r9.1 - 1))), e.Runs⟩ : Line)) h0)))))))))))) ?_
     exact ibN (wFp p (Wk.trans (Wk_S (.c 272 2) (Enc.e (⟨e.Name, (e.Stops.set r8.1.toNat (w64 (r9.1 - 1))), e.Runs⟩ : Line)) (.cons (idx_m2 (f := Enc.e) (l := (r.1.Lines.set r1.1.toNat (⟨e.Name, (e.Stops.set r8.1.toNat (w64 (r9.1 - 1))), e.Runs⟩ : Line))) (i := r1.1) (idx_set (y := (⟨e.Name, (e.Stops.set r8.1.toNat (w64 (r9.1 - 1))), e.Runs⟩ : Line)) h2)) .nil) (by kernel_rfl)) (Wk_J G.hL ⟨[(0, []), (2, []), (3, []), (4, []), (5, [])], [(0, 0, []), (32, 16, []), (48, 64, []), (64, 272, []), (80, 48, []), (96, 49, []), (112, 624, [])], [], 144⟩ (by kernel_rfl))))
    ·refine rg G (cd p ?_ ?_) <;> intro p
     ·obtain ⟨r12, h18, r13, h19, e6, h20, p⟩ := ob3 p
      refine de G [(6, [0]), (9, [0, 592]), (11, [49])] (hO 5 (.dn (Enc.e e) (e.Runs.length : Int)) (hP (idx_m2 (f := Enc.e) h2) (hP (len_m Enc.e e.Runs) (hC 6 (zq64_c h18) (hC 9 (zq52_M.c (_, _) h19) (hE 10 h2 (hP (idx_b (f := Enc.e) h20) (hO 11 (.sd2 (Enc.e e) (Enc.e e6) (List.map Enc.e (e.Runs.set r12.1.toNat r13.1)) (List.map Enc.e (r.1.Lines.set r1.1.toNat (⟨e.Name, e.Stops, (e.Runs.set r12.1.toNat r13.1)⟩ : Line)))) (hP (idx_m2 (f := Enc.e) h2) (hP (idx_m2 (f := Enc.e) h20) (hP (set_m Enc.e e.Runs r12.1.toNat r13.1) (hP (set_m Enc.e r.1.Lines r1.1.toNat (⟨e.Name, e.Stops, (e.Runs.set r12.1.toNat r13.1)⟩ : Line)) h0)))))))))))) ?_
      exact ibN (wFp p (Wk.trans (Wk_S (.c 272 2) (Enc.e (⟨e.Name, e.Stops, (e.Runs.set r12.1.toNat r13.1)⟩ : Line)) (.cons (idx_m2 (f := Enc.e) (l := (r.1.Lines.set r1.1.toNat (⟨e.Name, e.Stops, (e.Runs.set r12.1.toNat r13.1)⟩ : Line))) (i := r1.1) (idx_set (y := (⟨e.Name, e.Stops, (e.Runs.set r12.1.toNat r13.1)⟩ : Line)) h2)) .nil) (by kernel_rfl)) (Wk_J G.hL ⟨[(0, []), (2, []), (3, []), (4, []), (5, [])], [(0, 0, []), (32, 16, []), (48, 64, []), (64, 272, []), (80, 48, []), (96, 49, []), (112, 656, [])], [], 144⟩ (by kernel_rfl))))
     ·refine rg G (cd p ?_ ?_) <;> intro p
      ·obtain ⟨u, h21, p⟩ := obind p
       refine re G (hO 3 (.sd (Enc.e e) (List.map Enc.e (e.Runs ++ ([3] : List Int)))) (hP (idx_m2 (f := Enc.e) h2) (hP (app_p (f := Enc.e) (g := Enc.e) (l := e.Runs) (r := ([3] : List Int)) (b := 8) (chk_t h21) rfl) (hP (app_m Enc.e e.Runs ([3] : List Int)) h0)))) ?_
       exact ibN (wF G p)
      ·refine rg G (cd p ?_ ?_) <;> intro p
       ·refine rg G (rg G ?_)
        have p := eR p hr
        cases p
        exact rt [48] []
       ·refine rg G (cd p ?_ ?_) <;> intro p
        ·refine Ok_seq (rg G (tl p (fun (v13, v14, v15, v16) => ⟨[(0, .ref 0 0), (2, .ref 32 0), (3, .ref 48 0)], [bX 0 118 [dV v13, dV v14, kV .u64 v15], bX 32 60 [.dat (.sc (.slice none 0 0)), .dat (.sc (.slice none 0 0))], bX 48 60 [.own 64, .own 80], aX 64 9 r.1.Stops, tX 80 194 [none, some 3, some 3] v16 80 none], 112⟩) (fun vv p => ?_) ?_))
         ·refine Ok_block (lp G p (fun (v7, v8, v9, v10, v11) => ⟨[(0, .ref 0 0), (2, .ref 32 0), (3, .ref 48 0), (6, dV v7)], [bX 0 118 [dV v8, dV v9, kV .u64 v10], bX 32 60 [.dat (.sc (.slice none 0 0)), .dat (.sc (.slice none 0 0))], bX 48 60 [.own 64, .own 80], aX 64 9 r.1.Stops, tX 80 194 [none, some 3, some 3] v11 80 none], 112⟩) ?_)
          rintro ⟨v7, v8, v9, v10, v11⟩ r0 hb p
          rw [zq53_L1] at p
          refine Ok_seq ?_
          obtain ⟨r16, h23, p⟩ := obind p
          refine jn p (fun v12 => ⟨[(0, .ref 0 0), (2, .ref 32 0), (3, .ref 48 0), (6, dV v7), (85, dV v12)], [bX 0 118 [dV r16.2.code_, dV r16.2.at_, kV .u64 r16.2.seed_.v], bX 32 60 [.dat (.sc (.slice none 0 0)), .dat (.sc (.slice none 0 0))], bX 48 60 [.own 64, .own 80], aX 64 9 r.1.Stops, tX 80 194 [none, some 3, some 3] v11 80 none], 112⟩) (fun v12 p => ?_) ?_
          ·rcases bf p with ⟨hb1, p⟩ | ⟨hb1, p⟩
           ·refine de G [(4, [0])] (hN 2 v11 (hC 4 (zq64_c h23) (hO 7 (.b true) (hP hb1 h0)))) ?_
            exact wJ G p
           ·refine de G [(4, [0])] (hN 2 v11 (hC 4 (zq64_c h23) (hO 7 (.b false) (hP hb1 h0)))) ?_
            exact wJ G p
          rintro v12 p
          refine cd p ?_ ?_ <;> intro p
          ·refine X_skip (thN (Ok_seq (Ok_block ?_)))
           obtain ⟨r19, h28, u3, h29, r20, h30, p⟩ := ob3 p
           obtain ⟨u4, h31, p⟩ := obind p
           refine de G [(9, [0]), (10, [256, 257]), (11, [80, 272]), (13, [48, 288])] (hC 4 (zq70_M.c _ h28) (hP (cat_p (chk_t h29)) (hN 8 r.1.Stops (hC 9 (zq56_M.c (_, _, _) h30) (hP (nodupB_ok (l := [256, 257]) rfl) (hA 11 64 h31 h0)))))) ?_
           exact ibN (thN (rh G (wL G p)))
          ·exact Ok_exit (thE (thE (ibE (wD G p hb))))
         rintro ⟨v13, v14, v15, v16⟩ p s hw
         refine thN (Ok_weak hw ?_)
         refine rg G ?_
         have p := eR p hr
         cases p
         exact rt [64] []
        ·exact X_skip (ibN (wFp p (Wk.trans (Wk_S (.c 272 2) (Enc.e e) (.cons (idx_m2 (f := Enc.e) (l := r.1.Lines) (i := r1.1) h2) .nil) (by kernel_rfl)) (Wk_J G.hL ⟨[(0, []), (2, []), (3, []), (4, []), (5, [])], [(0, 0, []), (32, 16, []), (48, 64, []), (64, 272, []), (80, 48, []), (96, 49, []), (112, 560, [])], [], 144⟩ (by kernel_rfl)))))
 rintro ⟨v, v1, v2, v3, v4, v5, v6⟩ p
 obtain ⟨e9, h32, p⟩ := obind p
 refine rs G (hD 4 h32 (hS 5 h32 (⟨v3, e9.Stops, v6⟩ : Line) (hP (Eq.refl r1.1.toNat) (hP (Eq.refl r1.1.toNat) h0)))) ?_
 refine rg G ?_
 cases p
 exact rt [80] []
noncomputable def zq54_M : MS l1Cur (Timetable × l1Cur) := ⟨.b 118, zq54, fun y => .aggv [.own 0, dV y.1.Network.Lines, .own 1], fun y => [arO 9 y.1.Network.Stops, arO 168 y.1.Trips], fun _ y => [bxO 118 y.2]⟩
theorem zq54_ok : FnOK Try.prog tJ 176 zq54_M.S := by
 refine fm tt zq54_M [fo zq65_ok, fo zq64_ok, fo zq51_ok, fo zq53_ok] call176 func176 rfl results176 ntmps176 ?_
 rintro c y cx G (p : zq54 c = some y)
 unfold zq54 at p
 refine rg G ?_
 obtain ⟨r, h, p⟩ := obind p
 refine rs G (hC 1 (zq65_M.c _ h) h0) ?_
 refine Ok_seq (rs G (hN 2 r.1.Trips h0) ?_)
 refine cd p ?_ ?_ <;> intro p
 ·refine rg G ?_
  cases p
  exact rt [48, 50] []
 ·refine X_skip (thN ?_)
  obtain ⟨r1, h1, p⟩ := obind p
  refine rs G (hN 3 r.1.Trips (hC 4 (zq64_c h1) h0)) ?_
  obtain ⟨e, h2, p⟩ := obind p
  refine rs G (hD 3 h2 (hE 4 h2 h0)) ?_
  refine jF p (fun (v, v1, v2, v3, v4, v5, v6, v7) => ⟨[(0, .ref 0 0), (2, .ref 32 0), (3, .ref 48 0), (4, dV r1.1), (5, .ref 64 0)], [bX 0 118 [dV v, dV v1, kV .u64 v2], bX 32 63 [.dat (.sc (.slice none 0 0)), .dat (.sc (.slice none 0 0)), .dat (.sc (.slice none 0 0))], bX 48 63 [.own 80, dV v3, .own 96], bX 64 168 [dV v4, dV v5, dV v6], aX 80 9 v7, aX 96 168 r.1.Trips], 128⟩) (fun v18 hr p => ?_) ?_
  ·obtain ⟨r2, h3, p⟩ := obind p
   refine rs G (hC 1 (zq64_c h3) h0) ?_
   refine Ok_block (rg G (cd p ?_ ?_)) <;> intro p
   ·obtain ⟨r3, h4, p⟩ := obind p
    refine re G (hO 2 (.fz [448] [] []) (hC 2 (zq51_M.c (_, _) h4) h0)) ?_
    exact ibN (wF G p)
   ·refine rg G (cd p ?_ ?_) <;> intro p
    ·obtain ⟨r4, h5, p⟩ := obind p
     refine re G (hC 1 (zq64_c h5) h0) ?_
     exact ibN (wF G p)
    ·refine rg G (cd p ?_ ?_) <;> intro p
     ·obtain ⟨r5, h6, p⟩ := obind p
      refine re G (hO 2 (.fz [512] [] []) (hC 2 (zq51_M.c (_, _) h6) h0)) ?_
      exact ibN (wF G p)
     ·refine rg G (cd p ?_ ?_) <;> intro p
      ·obtain ⟨r6, h7, p⟩ := obind p
       refine re G (hC 1 (zq53_M.c _ h7) h0) ?_
       exact ibN (wF G p)
      ·refine rg G (cd p ?_ ?_) <;> intro p
       ·refine Ok_seq (rg G (tl p (fun (v14, v15, v16, v17) => ⟨[(0, .ref 0 0), (2, .ref 32 0), (3, .ref 48 0)], [bX 0 118 [dV v14, dV v15, kV .u64 v16], bX 32 63 [.dat (.sc (.slice none 0 0)), .dat (.sc (.slice none 0 0)), .dat (.sc (.slice none 0 0))], bX 48 63 [.own 64, .own 80, .own 96], aX 64 9 r.1.Network.Stops, aX 80 194 r.1.Network.Lines, aX 96 168 v17], 128⟩) (fun vv p => ?_) ?_))
        ·refine Ok_block (lp G p (fun (v8, v9, v10, v11, v12) => ⟨[(0, .ref 0 0), (2, .ref 32 0), (3, .ref 48 0), (6, dV v8)], [bX 0 118 [dV v9, dV v10, kV .u64 v11], bX 32 63 [.dat (.sc (.slice none 0 0)), .dat (.sc (.slice none 0 0)), .dat (.sc (.slice none 0 0))], bX 48 63 [.own 64, .own 80, .own 96], aX 64 9 r.1.Network.Stops, aX 80 194 r.1.Network.Lines, aX 96 168 v12], 128⟩) ?_)
         rintro ⟨v8, v9, v10, v11, v12⟩ r0 hb p
         rw [zq54_L1] at p
         refine Ok_seq ?_
         obtain ⟨r8, h9, p⟩ := obind p
         refine jn p (fun v13 => ⟨[(0, .ref 0 0), (2, .ref 32 0), (3, .ref 48 0), (6, dV v8), (61, dV v13)], [bX 0 118 [dV r8.2.code_, dV r8.2.at_, kV .u64 r8.2.seed_.v], bX 32 63 [.dat (.sc (.slice none 0 0)), .dat (.sc (.slice none 0 0)), .dat (.sc (.slice none 0 0))], bX 48 63 [.own 64, .own 80, .own 96], aX 64 9 r.1.Network.Stops, aX 80 194 r.1.Network.Lines, aX 96 168 v12], 128⟩) (fun v13 p => ?_) ?_
         ·rcases bf p with ⟨hb1, p⟩ | ⟨hb1, p⟩
          ·refine de G [(4, [0])] (hN 2 v12 (hC 4 (zq64_c h9) (hO 7 (.b true) (hP hb1 h0)))) ?_
           exact wJ G p
          ·refine de G [(4, [0])] (hN 2 v12 (hC 4 (zq64_c h9) (hO 7 (.b false) (hP hb1 h0)))) ?_
           exact wJ G p
         rintro v13 p
         refine cd p ?_ ?_ <;> intro p
         ·refine X_skip (thN (Ok_seq (Ok_block ?_)))
          obtain ⟨u, h10, p⟩ := obind p
          refine re G (hA 8 24 h10 h0) ?_
          exact ibN (thN (rh G (wL G p)))
         ·exact Ok_exit (thE (thE (ibE (wD G p hb))))
        rintro ⟨v14, v15, v16, v17⟩ p s hw
        refine thN (Ok_weak hw ?_)
        refine rg G ?_
        have p := eR p hr
        cases p
        exact rt [64, 96] []
       ·exact X_skip (ibN (wF G p))
  rintro ⟨v, v1, v2, v3, v4, v5, v6, v7⟩ p
  obtain ⟨e2, h11, p⟩ := obind p
  refine rs G (hD 4 h11 (hS 5 h11 (⟨v4, v5, v6⟩ : Trip) h0)) ?_
  refine rg G ?_
  cases p
  exact rt [80, 96] []
noncomputable def zq69_M : MS (Int × Int) Int := ⟨.x .r .r, fun x => zq69 x.1 x.2, fun y => dV y, fun _ => [], fun _ _ => []⟩
theorem zq69_c {a b y} (p : zq69 a b = some y) : zq69_M.C (a, b) y := zq69_M.c (a, b) p
theorem zq69_ok : FnOK Try.prog tJ 140 zq69_M.S := by
 refine fm tt zq69_M [] call140 func140 rfl results140 ntmps140 ?_
 rintro ⟨a, b⟩ y cx G (p : zq69 a b = some y)
 unfold zq69 at p
 refine rg G (Ok_seq (rg G (cd p ?_ ?_))) <;> intro p
 ·refine rg G ?_
  cases p
  exact rt [] []
 ·refine X_skip (thN (rg G ?_))
  cases p
  exact rt [] []
noncomputable def zq66_M : MS l1Cur (Timetable × l1Cur) := ⟨.b 118, zq66, fun y => .aggv [.own 0, dV y.1.Network.Lines, .own 1], fun y => [arO 9 y.1.Network.Stops, arO 168 y.1.Trips], fun _ y => [bxO 118 y.2]⟩
theorem zq66_ok : FnOK Try.prog tJ 106 zq66_M.S := by
 refine fm tt zq66_M [fo zq63_ok, fo zq54_ok, fo zq58_ok, fo zq64_ok, fo zq69_ok] call106 func106 rfl results106 ntmps106 ?_
 rintro c y cx G (p : zq66 c = some y)
 unfold zq66 at p
 refine rg G (Ok_seq ?_)
 obtain ⟨r, h, p⟩ := obind p
 refine rs G (hC 1 (zq63_c h) h0) ?_
 refine cd p ?_ ?_ <;> intro p
 ·obtain ⟨r1, h1, p⟩ := obind p
  refine rs G (hC 1 (zq54_M.c _ h1) h0) ?_
  cases p
  exact rt [80, 81] []
 ·refine X_skip (thN ?_)
  obtain ⟨r2, h2, p⟩ := obind p
  refine rs G (hC 1 (zq58_M.c _ h2) h0) ?_
  refine Ok_seq ?_
  obtain ⟨r3, h3, p⟩ := obind p
  refine rs G (hC 1 (zq64_c h3) h0) ?_
  refine tl p (fun (v4, v5, v6, v7) => ⟨[(0, .ref 0 0), (2, .ref 32 0), (3, .ref 48 0)], [bX 0 118 [dV v4, dV v5, kV .u64 v6], bX 32 63 [.dat (.sc (.slice none 0 0)), .dat (.sc (.slice none 0 0)), .dat (.sc (.slice none 0 0))], bX 48 63 [.own 64, .own 80, .own 96], aX 64 9 r2.1.Stops, aX 80 194 r2.1.Lines, aX 96 168 v7], 128⟩) (fun vv p => ?_) ?_
  ·refine Ok_block (lpP p (fun (i, v, v1, v2, v3) => ⟨[(0, .ref 0 0), (2, .ref 32 0), (3, .ref 48 0), (4, dV i)], [bX 0 118 [dV v, dV v1, kV .u64 v2], bX 32 63 [.dat (.sc (.slice none 0 0)), .dat (.sc (.slice none 0 0)), .dat (.sc (.slice none 0 0))], bX 48 63 [.own 64, .own 80, .own 96], aX 64 9 r2.1.Stops, aX 80 194 r2.1.Lines, aX 96 168 v3], 128⟩) (Wk_J G.hL ⟨[(0, []), (2, []), (3, []), (4, [])], [(0, 0, []), (32, 16, []), (48, 112, [.k, .k, .o 96]), (64, 80, []), (80, 81, [])], [(96, 168, 3, [])], 128⟩ (by kernel_rfl)) ?_)
   rintro ⟨i, v, v1, v2, v3⟩ r0 hb p
   rw [zq66_L1] at p
   refine Ok_seq (rg G (cd p ?_ ?_)) <;> intro p
   ·refine X_skip (thN (Ok_seq (Ok_block ?_)))
    obtain ⟨r7, h8, r8, h9, r9, h10, p⟩ := ob3 p
    obtain ⟨u1, h11, p⟩ := obind p
    refine de G [(11, [0]), (19, [0]), (21, [0]), (26, [96, 560]), (28, [48, 576])] (hN 4 v3 (hN 8 v3 (hC 11 (zq64_c h8) (hN 18 r2.1.Lines (hC 19 (zq64_c h9) (hC 21 (zq64_c h10) (hA 26 24 h11 h0))))))) ?_
    exact ibN (thN (rh G (wL G p)))
   ·exact Ok_exit (thE (thE (ibE (wD G p hb))))
  rintro ⟨v4, v5, v6, v7⟩ p s hw
  refine thN (Ok_weak hw ?_)
  refine Ok_seq (rg G (tl p (fun v9 => ⟨[(0, .ref 0 0), (2, .ref 32 0), (3, .ref 48 0)], [bX 0 118 [dV v4, dV v5, kV .u64 v6], bX 32 63 [.dat (.sc (.slice none 0 0)), .dat (.sc (.slice none 0 0)), .dat (.sc (.slice none 0 0))], bX 48 63 [.own 64, .own 80, .own 96], aX 64 9 r2.1.Stops, aX 80 194 r2.1.Lines, aX 96 168 v9], 128⟩) (fun v9 p => ?_) ?_))
  ·refine Ok_block (lp G p (fun (x, v8) => ⟨[(0, .ref 0 0), (2, .ref 32 0), (3, .ref 48 0), (5, dV x)], [bX 0 118 [dV v4, dV v5, kV .u64 v6], bX 32 63 [.dat (.sc (.slice none 0 0)), .dat (.sc (.slice none 0 0)), .dat (.sc (.slice none 0 0))], bX 48 63 [.own 64, .own 80, .own 96], aX 64 9 r2.1.Stops, aX 80 194 r2.1.Lines, aX 96 168 v8], 128⟩) ?_)
   rintro ⟨x, v8⟩ r0 hb1 p
   rw [zq66_L2] at p
   refine Ok_seq (rs G (hN 3 v8 h0) ?_)
   refine cd p ?_ ?_ <;> intro p
   ·refine X_skip (thN (Ok_seq (Ok_block ?_)))
    obtain ⟨e, h12, p⟩ := obind p
    refine rs G (hD 3 h12 (hE 4 h12 h0)) ?_
    obtain ⟨e2, h15, r11, h16, p⟩ := ob2 p
    refine ds G [(12, [288])] (hD 6 h15 (hE 8 h15 (hC 10 (zq69_c h16) h0))) ?_
    obtain ⟨e3, h17, p⟩ := obind p
    refine re G (hD 4 h17 (hS 5 h17 (⟨r11, e.Line, e.Start⟩ : Trip) h0)) ?_
    exact ibN (thN (rh G (wL G p)))
   ·exact Ok_exit (thE (thE (ibE (wD G p hb1))))
  rintro v9 p s1 hw1
  refine thN (Ok_weak hw1 ?_)
  refine rg G ?_
  cases p
  exact rt [64, 96] []
noncomputable def zq55_M : MS (l1Cur × Network) (Fleet × l1Cur) := ⟨.x (.b 118) .r, fun x => zq55 x.1 x.2, fun y => dV y.1, fun _ => [], fun _ y => [bxO 118 y.2]⟩
theorem zq55_ok : FnOK Try.prog tJ 107 zq55_M.S := by
 refine fm tt zq55_M [fo zq52_ok, fo zq69_ok, fo zq64_ok] call107 func107 rfl results107 ntmps107 ?_
 rintro ⟨c, n⟩ y cx G (p : zq55 c n = some y)
 unfold zq55 at p
 refine rg G ?_
 obtain ⟨r, h, p⟩ := obind p
 refine rs G (hC 2 (zq52_M.c (_, _) h) h0) ?_
 refine Ok_seq (rg G (tl p (fun (v13, v14, v15, v16) => ⟨[(0, .ref 0 0), (3, .ref 32 0), (4, .ref 48 0), (5, .ref 64 0)], [bX 0 118 [dV v13, dV v14, kV .u64 v15], bX 32 60 [dV n.Stops, dV n.Lines], bX 48 77 [.dat (.sc (.slice none 0 0)), kV .i64 0], bX 64 77 [.own 80, dV r.1], tX 80 24 [some 3] v16 80 none], 112⟩) (fun vv2 p => ?_) ?_))
 ·refine Ok_block (lpP p (fun (k, v, v1, v2, v3) => ⟨[(0, .ref 0 0), (3, .ref 32 0), (4, .ref 48 0), (5, .ref 64 0), (6, dV k)], [bX 0 118 [dV v, dV v1, kV .u64 v2], bX 32 60 [dV n.Stops, dV n.Lines], bX 48 77 [.dat (.sc (.slice none 0 0)), kV .i64 0], bX 64 77 [.own 80, dV r.1], tX 80 24 [some 3] v3 80 none], 112⟩) (Wk_J G.hL ⟨[(0, []), (3, []), (4, []), (5, []), (6, [])], [(0, 0, []), (32, 16, []), (48, 32, []), (64, 112, [.o 80])], [(80, 24, 1, [some 3])], 112⟩ (by kernel_rfl)) ?_)
  rintro ⟨k, v, v1, v2, v3⟩ r0 hb p
  rw [zq55_L2] at p
  refine Ok_seq (rs G (hN 3 n.Stops h0) ?_)
  refine cd p ?_ ?_ <;> intro p
  ·refine X_skip (thN (Ok_seq (Ok_block (rg G (Ok_seq (rg G (tl p (fun (v9, v10, v11, v12) => ⟨[(0, .ref 0 0), (3, .ref 32 0), (4, .ref 48 0), (5, .ref 64 0), (6, dV k), (7, .own 80)], [bX 0 118 [dV v9, dV v10, kV .u64 v11], bX 32 60 [dV n.Stops, dV n.Lines], bX 48 77 [.dat (.sc (.slice none 0 0)), kV .i64 0], bX 64 77 [.own 96, dV r.1], aX 80 3 v12, tX 96 24 [some 3] v3 96 none], 128⟩) (fun vv p => ?_) ?_)))))))
   ·refine Ok_block (lp G p (fun (v4, v5, v6, v7, v8) => ⟨[(0, .ref 0 0), (3, .ref 32 0), (4, .ref 48 0), (5, .ref 64 0), (6, dV k), (7, .own 80), (8, dV v4)], [bX 0 118 [dV v5, dV v6, kV .u64 v7], bX 32 60 [dV n.Stops, dV n.Lines], bX 48 77 [.dat (.sc (.slice none 0 0)), kV .i64 0], bX 64 77 [.own 96, dV r.1], aX 80 3 v8, tX 96 24 [some 3] v3 96 none], 128⟩) ?_)
    rintro ⟨v4, v5, v6, v7, v8⟩ r0 hb1 p
    rw [zq55_L1] at p
    refine Ok_seq (rs G (hN 3 n.Stops h0) ?_)
    refine cd p ?_ ?_ <;> intro p
    ·refine X_skip (thN (Ok_seq (Ok_block ?_)))
     obtain ⟨r1, h1, r2, h2, u, h3, p⟩ := ob3 p
     refine re G (hC 7 (zq69_c h1) (hC 9 (zq64_c h2) (hA 13 8 h3 h0))) ?_
     exact ibN (thN (rh G (wL G p)))
    ·exact Ok_exit (thE (thE (ibE (wD G p hb1))))
   rintro ⟨v9, v10, v11, v12⟩ p s hw
   refine thN (Ok_weak hw ?_)
   obtain ⟨u1, h4, p⟩ := obind p
   refine re G (hP (nodupB_ok (l := [80]) rfl) (hA 4 24 h4 h0)) ?_
   exact ibN (thN (rh G (wL G p)))
  ·exact Ok_exit (thE (thE (ibE (wD G p hb))))
 rintro ⟨v13, v14, v15, v16⟩ p s1 hw1
 refine thN (Ok_weak hw1 ?_)
 refine jn p (fun (v17, v18, v19, v20, v21) => ⟨[(0, .ref 0 0), (4, .ref 32 0), (5, .ref 48 0)], [bX 0 118 [dV v17, dV v18, kV .u64 v19], bX 32 77 [.dat (.sc (.slice none 0 0)), kV .i64 0], bX 48 77 [dV v20, dV v21]], 80⟩) (fun vv1 p => ?_) ?_
 ·obtain ⟨r3, h5, p⟩ := obind p
  refine rs G (hC 1 (zq64_c h5) h0) ?_
  refine Ok_block (rg G (cd p ?_ ?_)) <;> intro p
  ·obtain ⟨r4, h6, p⟩ := obind p
   refine re G (hC 2 (zq52_M.c (_, _) h6) h0) ?_
   exact ibN (wJ G p)
  ·refine rg G (cd p ?_ ?_) <;> intro p
   ·obtain ⟨e, h7, e1, h8, p⟩ := ob2 p
    refine re G (hD 2 h7 (hE 3 h7 (hE 4 h7 (hP (idx_b (f := Enc.e) h8) (hO 5 (.sd2 (Enc.e e) (Enc.e e1) (List.map Enc.e (e.set (0 : Int).toNat 1)) (List.map Enc.e (v16.set (0 : Int).toNat (e.set (0 : Int).toNat 1)))) (hP (idx_m2 (f := Enc.e) h7) (hP (idx_m2 (f := Enc.e) h8) (hP (set_m Enc.e e (0 : Int).toNat 1) (hP (set_m Enc.e v16 (0 : Int).toNat (e.set (0 : Int).toNat 1)) h0))))))))) ?_
    exact ibN (wJ G p)
   ·refine rg G (cd p ?_ ?_) <;> intro p
    ·obtain ⟨e4, h12, r6, h13, e5, h14, p⟩ := ob3 p
     refine de G [(10, [0, 384]), (12, [80])] (hD 2 h12 (hE 3 h12 (hN 6 n.Stops (hC 10 (zq52_M.c (_, _) h13) (hE 11 h12 (hP (idx_b (f := Enc.e) h14) (hO 12 (.sd2 (Enc.e e4) (Enc.e e5) (List.map Enc.e (e4.set (w64 ((n.Stops.length : Int) - 1)).toNat r6.1)) (List.map Enc.e (v16.set (0 : Int).toNat (e4.set (w64 ((n.Stops.length : Int) - 1)).toNat r6.1)))) (hP (idx_m2 (f := Enc.e) h12) (hP (idx_m2 (f := Enc.e) h14) (hP (set_m Enc.e e4 (w64 ((n.Stops.length : Int) - 1)).toNat r6.1) (hP (set_m Enc.e v16 (0 : Int).toNat (e4.set (w64 ((n.Stops.length : Int) - 1)).toNat r6.1)) h0))))))))))) ?_
     exact ibN (wJ G p)
    ·refine rg G (cd p ?_ ?_) <;> intro p
     ·obtain ⟨u2, h15, p⟩ := obind p
      refine re G (hO 2 (.fz [80] [] []) (hV 2 h15 h0)) ?_
      exact ibN (wJ G p)
     ·exact X_skip (ibN (wJ G p))
 rintro ⟨v17, v18, v19, v20, v21⟩ p
 refine rg G ?_
 cases p
 exact rt [] []
noncomputable def zq41_M : MS ((List UInt8)) (Timetable × Fleet) := ⟨.r, zq41, fun y => .tup [.aggv [dV y.1.Network.Stops, dV y.1.Network.Lines, .own 0], dV y.2], fun y => [arO 168 y.1.Trips], fun _ _ => []⟩
theorem zq41_ok : FnOK Try.prog tJ 35 zq41_M.S := by
 refine fm tt zq41_M [fo zq66_ok, fo zq55_ok] call35 func35 rfl results35 ntmps35 ?_
 rintro code y cx G (p : zq41 code = some y)
 unfold zq41 at p
 refine rg G (rg G ?_)
 obtain ⟨r, h, p⟩ := obind p
 refine rs G (hC 1 (zq66_M.c _ h) h0) ?_
 refine Ok_weak (Wk_J (x' := (⟨[(2, .ref 16 0), (3, .ref 32 0), (4, .ref 48 0), (5, .ref 64 0)], [bX 16 63 [.dat (.sc (.slice none 0 0)), .dat (.sc (.slice none 0 0)), .dat (.sc (.slice none 0 0))], bX 32 77 [.dat (.sc (.slice none 0 0)), kV .i64 0], bX 48 118 [dV r.2.code_, dV r.2.at_, kV .u64 r.2.seed_.v], bX 64 63 [dV r.1.Network.Stops, dV r.1.Network.Lines, .own 80], aX 80 168 r.1.Trips], 112⟩ : X)) G.hL ⟨[(2, []), (3, []), (4, []), (5, [])], [(16, 16, []), (32, 32, []), (48, 80, []), (64, 144, []), (80, 129, [])], [], 112⟩ (by kernel_rfl)) ?_
 obtain ⟨r2, h2, p⟩ := obind p
 refine ds G [(4, [48]), (5, [16, 80]), (6, [32])] (hC 4 (zq55_M.c (_, _) h2) h0) ?_
 cases p
 exact rt [80] []
noncomputable def zq40_M : MS (Int × Int × Int) Bool := ⟨.x .r (.x .r .r), fun x => zq40 x.1 x.2.1 x.2.2, fun y => dV y, fun _ => [], fun _ _ => []⟩
theorem zq40_c {n lo hi y} (p : zq40 n lo hi = some y) : zq40_M.C (n, lo, hi) y := zq40_M.c (n, lo, hi) p
theorem zq40_ok : FnOK Try.prog tJ 143 zq40_M.S := by
 refine fm tt zq40_M [] call143 func143 rfl results143 ntmps143 ?_
 rintro ⟨n, lo, hi⟩ y cx G (p : zq40 n lo hi = some y)
 unfold zq40 at p
 refine rg G (jn p (fun v => ⟨[(6, dV v)], [], 32⟩) (fun v p => ?_) ?_)
 ·rcases bf p with ⟨hb, p⟩ | ⟨hb, p⟩
  ·refine re G (hO 3 (.b true) (hP hb h0)) ?_
   exact wJ G p
  ·refine re G (hO 3 (.b false) (hP hb h0)) ?_
   exact wJ G p
 rintro v p
 cases p
 exact rt [] []
noncomputable def zq23_M : MS ByteArray Bool := ⟨.r, zq23, fun y => dV y, fun _ => [], fun _ _ => []⟩
theorem zq23_ok : FnOK Try.prog tJ 234 zq23_M.S := by
 refine fm tt zq23_M [] call234 func234 rfl results234 ntmps234 ?_
 rintro s y cx G (p : zq23 s = some y)
 unfold zq23 at p
 refine rg G (Ok_seq (jn p (fun v => ⟨[(0, dV s), (12, dV v)], [], 32⟩) (fun v p => ?_) ?_))
 ·rcases bf p with ⟨hb, p⟩ | ⟨hb, p⟩
  ·refine re G (hO 3 (.b true) (hP hb h0)) ?_
   exact wJ G p
  ·refine re G (hO 3 (.b false) (hP hb h0)) ?_
   exact wJ G p
 rintro v p
 refine cd p ?_ ?_ <;> intro p
 ·refine rg G ?_
  cases p
  exact rt [] []
 ·refine X_skip (thN (Ok_seq (rg G (tF p (fun _ => ⟨[], [], 32⟩) (fun v4 hr p => ?_) ?_))))
  ·refine Ok_block (lp G p (fun v1 => ⟨[(0, dV s), (14, dV (s.size : Int)), (15, dV v1)], [], 32⟩) ?_)
   rintro v1 r0 hb1 p
   rw [zq23_L1] at p
   refine rg G (Ok_seq (cd p ?_ ?_)) <;> intro p
   ·refine X_skip (thN (Ok_seq (Ok_block (rg G ?_))))
    obtain ⟨u, h, p⟩ := obind p
    refine jn p (fun v2 => ⟨[(0, dV s), (3, dV v1), (4, dV v2), (14, dV (s.size : Int)), (15, dV v1)], [], 32⟩) (fun v2 p => ?_) ?_
    ·rcases bf p with ⟨hb2, p⟩ | ⟨hb2, p⟩
     ·obtain ⟨u1, h1, p⟩ := obind p
      refine re G (hK h (hO 4 (.b true) (hP hb2 (hK h1 h0)))) ?_
      exact wJ G p
     ·refine re G (hK h (hO 4 (.b false) (hP hb2 h0))) ?_
      exact wJ G p
    rintro v2 p
    refine jn p (fun v3 => ⟨[(0, dV s), (14, dV (s.size : Int)), (15, dV v1), (45, dV v3)], [], 32⟩) (fun v3 p => ?_) ?_
    ·rcases bf p with ⟨hb3, p⟩ | ⟨hb3, p⟩
     ·rcases bf p with ⟨hb4, p⟩ | ⟨hb4, p⟩
      ·refine re G (hO 2 (.b true) (hP hb3 (hO 5 (.b true) (hP hb4 h0)))) ?_
       exact wJ G p
      ·obtain ⟨u2, h2, p⟩ := obind p
       rcases bf p with ⟨hb5, p⟩ | ⟨hb5, p⟩
       ·refine re G (hO 2 (.b true) (hP hb3 (hO 5 (.b false) (hP hb4 (hK h2 (hO 11 (.b true) (hP hb5 h0))))))) ?_
        exact wJ G p
       ·obtain ⟨u3, h3, p⟩ := obind p
        refine re G (hO 2 (.b true) (hP hb3 (hO 5 (.b false) (hP hb4 (hK h2 (hO 11 (.b false) (hP hb5 (hK h3 h0)))))))) ?_
        exact wJ G p
     ·refine re G (hO 2 (.b false) (hP hb3 h0)) ?_
      exact wJ G p
    rintro v3 p
    refine cd p ?_ ?_ <;> intro p
    ·refine rg G ?_
     have p := eL p hb1 hr
     cases p
     exact rt [] []
    ·exact X_skip (ibN (thN (rh G (wL G p))))
   ·exact Ok_exit (thE (thE (ibE (wE G p hb1))))
  rintro ⟨⟩ p s1 hw
  refine thN (Ok_weak hw ?_)
  refine rg G ?_
  cases p
  exact rt [] []
noncomputable def zq94_M : MS ((List ByteArray) × ByteArray) Int := ⟨.x .r .r, fun x => zq94 x.1 x.2, fun y => dV y, fun _ => [], fun _ _ => []⟩
theorem zq94_ok : FnOK Try.prog tJ 235 zq94_M.S := by
 refine fm tt zq94_M [] call235 func235 rfl results235 ntmps235 ?_
 rintro ⟨s, v⟩ y cx G (p : zq94 s v = some y)
 unfold zq94 at p
 refine rg G (Ok_seq (rs G (hN 1 s h0) ?_))
 refine tF p (fun _ => ⟨[], [], 32⟩) (fun v2 hr p => ?_) ?_
 ·refine Ok_block (lp G p (fun v1 => ⟨[(0, dV s), (1, dV v), (7, dV (s.length : Int)), (8, dV v1)], [], 32⟩) ?_)
  rintro v1 r0 hb p
  rw [zq94_L1] at p
  refine rg G (Ok_seq (cd p ?_ ?_)) <;> intro p
  ·refine X_skip (thN (Ok_seq (Ok_block (rg G ?_))))
   obtain ⟨e, h, p⟩ := obind p
   refine rs G (hD 3 h h0) ?_
   refine cd p ?_ ?_ <;> intro p
   ·refine rg G ?_
    have p := eL p hb hr
    cases p
    exact rt [] []
   ·exact X_skip (ibN (thN (rh G (wL G p))))
  ·exact Ok_exit (thE (thE (ibE (wE G p hb))))
 rintro ⟨⟩ p s1 hw
 refine thN (Ok_weak hw ?_)
 refine rg G ?_
 cases p
 exact rt [] []
noncomputable def zq14_M : MS ((List ByteArray)) Bool := ⟨.r, zq14, fun y => dV y, fun _ => [], fun _ _ => []⟩
theorem zq14_ok : FnOK Try.prog tJ 209 zq14_M.S := by
 refine fm tt zq14_M [fo zq23_ok, fo zq94_ok] call209 func209 rfl results209 ntmps209 ?_
 rintro names y cx G (p : zq14 names = some y)
 unfold zq14 at p
 refine rg G (Ok_seq (rs G (hN 1 names h0) ?_))
 refine tF p (fun _ => ⟨[], [], 32⟩) (fun v2 hr p => ?_) ?_
 ·refine Ok_block (lp G p (fun v => ⟨[(0, dV names), (5, dV names), (6, dV (names.length : Int)), (7, dV v)], [], 32⟩) ?_)
  rintro v r0 hb p
  rw [zq14_L1] at p
  refine rg G (Ok_seq (cd p ?_ ?_)) <;> intro p
  ·refine X_skip (thN (Ok_seq (Ok_block ?_)))
   obtain ⟨e, h, p⟩ := obind p
   refine rs G (hD 1 h h0) ?_
   obtain ⟨r, h1, p⟩ := obind p
   refine jn p (fun v1 => ⟨[(0, dV names), (5, dV names), (6, dV (names.length : Int)), (7, dV v), (21, dV v1)], [], 32⟩) (fun v1 p => ?_) ?_
   ·rcases bf p with ⟨hb1, p⟩ | ⟨hb1, p⟩
    ·refine re G (hC 1 (zq23_M.c _ h1) (hO 3 (.b true) (hP hb1 h0))) ?_
     exact wJ G p
    ·obtain ⟨r1, h2, p⟩ := obind p
     refine re G (hC 1 (zq23_M.c _ h1) (hO 3 (.b false) (hP hb1 (hC 6 (zq94_M.c (_, _) h2) h0)))) ?_
     exact wJ G p
   rintro v1 p
   refine cd p ?_ ?_ <;> intro p
   ·refine rg G ?_
    have p := eL p hb hr
    cases p
    exact rt [] []
   ·exact X_skip (ibN (thN (rh G (wL G p))))
  ·exact Ok_exit (thE (thE (ibE (wE G p hb))))
 rintro ⟨⟩ p s hw
 refine thN (Ok_weak hw ?_)
 refine rg G ?_
 cases p
 exact rt [] []
noncomputable def zq28_M : MS Network ((List ByteArray)) := ⟨.r, zq28, fun _ => .own 0, fun y => [arO 9 y], fun _ _ => []⟩
theorem zq28_ok : FnOK Try.prog tJ 210 zq28_M.S := by
 refine fm tt zq28_M [] call210 func210 rfl results210 ntmps210 ?_
 rintro n y cx G (p : zq28 n = some y)
 unfold zq28 at p
 refine rg G ?_
 obtain ⟨u, h, p⟩ := obind p
 refine rs G (hN 2 n.Lines (hO 3 (.l (List.map Enc.e (List.replicate (n.Lines.length : Int).toNat (ByteArray.empty : ByteArray)))) (hP (mk_p (b := 16) (chk_t h) rfl) (hP (rep_m Enc.e (n.Lines.length : Int).toNat (ByteArray.empty : ByteArray)) h0)))) ?_
 refine Ok_seq (rs G (hN 2 n.Lines h0) ?_)
 refine tl p (fun i1 => ⟨[(3, .own 16)], [aX 16 9 i1], 48⟩) (fun i1 p => ?_) ?_
 ·refine Ok_block (lp G p (fun (v, i) => ⟨[(3, .own 16), (11, dV n.Lines), (12, dV (n.Lines.length : Int)), (13, dV v)], [aX 16 9 i], 48⟩) ?_)
  rintro ⟨v, i⟩ r0 hb p
  rw [zq28_L1] at p
  refine rg G (Ok_seq (cd p ?_ ?_)) <;> intro p
  ·refine X_skip (thN (Ok_seq (Ok_block ?_)))
   obtain ⟨e, h1, p⟩ := obind p
   refine rs G (hD 1 h1 h0) ?_
   obtain ⟨e1, h2, p⟩ := obind p
   refine re G (hD 4 h2 (hS 5 h2 e.Name h0)) ?_
   exact ibN (thN (rh G (wL G p)))
  ·exact Ok_exit (thE (thE (ibE (wD G p hb))))
 rintro i1 p s hw
 refine thN (Ok_weak hw ?_)
 refine rg G ?_
 cases p
 exact rt [16] []
noncomputable def zq25_M : MS (Network × Int) Bool := ⟨.x .r .r, fun x => zq25 x.1 x.2, fun y => dV y, fun _ => [], fun _ _ => []⟩
theorem zq25_ok : FnOK Try.prog tJ 194 zq25_M.S := by
 refine fm tt zq25_M [] call194 func194 rfl results194 ntmps194 ?_
 rintro ⟨n, stop⟩ y cx G (p : zq25 n stop = some y)
 unfold zq25 at p
 refine rg G (jn p (fun v => ⟨[(4, dV v)], [], 32⟩) (fun v p => ?_) ?_)
 ·rcases bf p with ⟨hb, p⟩ | ⟨hb, p⟩
  ·refine re G (hO 2 (.b true) (hP hb (hN 6 n.Stops h0))) ?_
   exact wJ G p
  ·refine re G (hO 2 (.b false) (hP hb h0)) ?_
   exact wJ G p
 rintro v p
 cases p
 exact rt [] []
noncomputable def zq93_M : MS ((List Int) × Int) Int := ⟨.x .r .r, fun x => zq93 x.1 x.2, fun y => dV y, fun _ => [], fun _ _ => []⟩
theorem zq93_ok : FnOK Try.prog tJ 155 zq93_M.S := by
 refine fm tt zq93_M [] call155 func155 rfl results155 ntmps155 ?_
 rintro ⟨s, v⟩ y cx G (p : zq93 s v = some y)
 unfold zq93 at p
 refine rg G (Ok_seq (rs G (hN 1 s h0) ?_))
 refine tF p (fun _ => ⟨[], [], 32⟩) (fun v2 hr p => ?_) ?_
 ·refine Ok_block (lp G p (fun v1 => ⟨[(0, dV s), (1, dV v), (7, dV (s.length : Int)), (8, dV v1)], [], 32⟩) ?_)
  rintro v1 r0 hb p
  rw [zq93_L1] at p
  refine rg G (Ok_seq (cd p ?_ ?_)) <;> intro p
  ·refine X_skip (thN (Ok_seq (Ok_block (rg G ?_))))
   obtain ⟨e, h, p⟩ := obind p
   refine rs G (hD 3 h h0) ?_
   refine cd p ?_ ?_ <;> intro p
   ·refine rg G ?_
    have p := eL p hb hr
    cases p
    exact rt [] []
   ·exact X_skip (ibN (thN (rh G (wL G p))))
  ·exact Ok_exit (thE (thE (ibE (wE G p hb))))
 rintro ⟨⟩ p s1 hw
 refine thN (Ok_weak hw ?_)
 refine rg G ?_
 cases p
 exact rt [] []
noncomputable def zq26_M : MS (Network × Line) Bool := ⟨.x .r .r, fun x => zq26 x.1 x.2, fun y => dV y, fun _ => [], fun _ _ => []⟩
theorem zq26_ok : FnOK Try.prog tJ 211 zq26_M.S := by
 refine fm tt zq26_M [fo zq40_ok, fo zq25_ok, fo zq93_ok] call211 func211 rfl results211 ntmps211 ?_
 rintro ⟨n, l⟩ y cx G (p : zq26 n l = some y)
 unfold zq26 at p
 refine rg G (Ok_seq ?_)
 obtain ⟨r, h, p⟩ := obind p
 refine jn p (fun v => ⟨[(2, .ref 16 0), (3, .ref 32 0), (23, dV v)], [bX 16 60 [dV n.Stops, dV n.Lines], bX 32 194 [dV l.Name, dV l.Stops, dV l.Runs]], 64⟩) (fun v p => ?_) ?_
 ·rcases bf p with ⟨hb, p⟩ | ⟨hb, p⟩
  ·refine re G (hN 2 l.Stops (hC 3 (zq40_c h) (hO 5 (.b true) (hP hb h0)))) ?_
   exact wJ G p
  ·refine re G (hN 2 l.Stops (hC 3 (zq40_c h) (hO 5 (.b false) (hP hb (hN 8 l.Runs (hN 11 l.Stops h0)))))) ?_
   exact wJ G p
 rintro v p
 refine cd p ?_ ?_ <;> intro p
 ·refine rg G ?_
  cases p
  exact rt [] []
 ·refine X_skip (thN (Ok_seq (rs G (hN 2 l.Stops h0) ?_)))
  refine tF p (fun _ => ⟨[(3, .ref 16 0)], [bX 16 194 [dV l.Name, dV l.Stops, dV l.Runs]], 48⟩) (fun v5 hr p => ?_) ?_
  ·refine Ok_block (lp G p (fun v1 => ⟨[(2, .ref 16 0), (3, .ref 32 0), (25, dV l.Stops), (26, dV (l.Stops.length : Int)), (27, dV v1)], [bX 16 60 [dV n.Stops, dV n.Lines], bX 32 194 [dV l.Name, dV l.Stops, dV l.Runs]], 64⟩) ?_)
   rintro v1 r0 hb1 p
   rw [zq26_L1] at p
   refine rg G (Ok_seq (cd p ?_ ?_)) <;> intro p
   ·refine X_skip (thN (Ok_seq (Ok_block ?_)))
    obtain ⟨e, h1, p⟩ := obind p
    refine rs G (hD 1 h1 h0) ?_
    obtain ⟨r1, h2, p⟩ := obind p
    refine jn p (fun v2 => ⟨[(2, .ref 16 0), (3, .ref 32 0), (25, dV l.Stops), (26, dV (l.Stops.length : Int)), (27, dV v1), (43, dV v2)], [bX 16 60 [dV n.Stops, dV n.Lines], bX 32 194 [dV l.Name, dV l.Stops, dV l.Runs]], 64⟩) (fun v2 p => ?_) ?_
    ·rcases bf p with ⟨hb2, p⟩ | ⟨hb2, p⟩
     ·refine re G (hC 2 (zq25_M.c (_, _) h2) (hO 4 (.b true) (hP hb2 h0))) ?_
      exact wJ G p
     ·obtain ⟨r2, h3, p⟩ := obind p
      refine re G (hC 2 (zq25_M.c (_, _) h2) (hO 4 (.b false) (hP hb2 (hC 8 (zq93_M.c (_, _) h3) h0)))) ?_
      exact wJ G p
    rintro v2 p
    refine cd p ?_ ?_ <;> intro p
    ·refine rg G ?_
     have p := eL p hb1 hr
     cases p
     exact rt [] []
    ·exact X_skip (ibN (thN (rh G (wL G p))))
   ·exact Ok_exit (thE (thE (ibE (wE G p hb1))))
  rintro ⟨⟩ p s hw
  refine thN (Ok_weak hw ?_)
  refine Ok_seq (rs G (hN 2 l.Runs h0) ?_)
  refine tF p (fun _ => ⟨[], [], 32⟩) (fun v4 hr1 p => ?_) ?_
  ·refine Ok_block (lp G p (fun v3 => ⟨[(46, dV l.Runs), (47, dV (l.Runs.length : Int)), (48, dV v3)], [], 32⟩) ?_)
   rintro v3 r0 hb3 p
   rw [zq26_L2] at p
   refine rg G (Ok_seq (cd p ?_ ?_)) <;> intro p
   ·refine X_skip (thN (Ok_seq (Ok_block ?_)))
    obtain ⟨e2, h4, p⟩ := obind p
    refine rs G (hD 0 h4 h0) ?_
    obtain ⟨r4, h5, p⟩ := obind p
    refine rs G (hC 1 (zq40_c h5) h0) ?_
    refine cd p ?_ ?_ <;> intro p
    ·refine rg G ?_
     have p := eL p hb3 hr1
     cases p
     exact rt [] []
    ·exact X_skip (ibN (thN (rh G (wL G p))))
   ·exact Ok_exit (thE (thE (ibE (wE G p hb3))))
  rintro ⟨⟩ p s1 hw1
  refine thN (Ok_weak hw1 ?_)
  refine rg G ?_
  cases p
  exact rt [] []
noncomputable def zq8_M : MS Network Bool := ⟨.r, zq8, fun y => dV y, fun _ => [], fun _ _ => []⟩
theorem zq8_ok : FnOK Try.prog tJ 165 zq8_M.S := by
 refine fm tt zq8_M [fo zq40_ok, fo zq14_ok, fo zq28_ok, fo zq26_ok] call165 func165 rfl results165 ntmps165 ?_
 rintro n y cx G (p : zq8 n = some y)
 unfold zq8 at p
 refine rg G (Ok_seq ?_)
 obtain ⟨r, h, p⟩ := obind p
 refine jn p (fun v => ⟨[(1, .ref 16 0), (28, dV v)], [bX 16 60 [dV n.Stops, dV n.Lines]], 48⟩) (fun v p => ?_) ?_
 ·rcases bf p with ⟨hb, p⟩ | ⟨hb, p⟩
  ·refine re G (hN 2 n.Stops (hC 3 (zq40_c h) (hO 5 (.b true) (hP hb h0)))) ?_
   exact wJ G p
  ·obtain ⟨r1, h1, p⟩ := obind p
   rcases bf p with ⟨hb1, p⟩ | ⟨hb1, p⟩
   ·refine re G (hN 2 n.Stops (hC 3 (zq40_c h) (hO 5 (.b false) (hP hb (hN 8 n.Lines (hC 9 (zq40_c h1) (hO 12 (.b true) (hP hb1 h0)))))))) ?_
    exact wJ G p
   ·obtain ⟨r2, h2, p⟩ := obind p
    rcases bf p with ⟨hb2, p⟩ | ⟨hb2, p⟩
    ·refine re G (hN 2 n.Stops (hC 3 (zq40_c h) (hO 5 (.b false) (hP hb (hN 8 n.Lines (hC 9 (zq40_c h1) (hO 12 (.b false) (hP hb1 (hC 15 (zq14_M.c _ h2) (hO 18 (.b true) (hP hb2 h0))))))))))) ?_
     exact wJ G p
    ·obtain ⟨r3, h3, r4, h4, p⟩ := ob2 p
     refine re G (hN 2 n.Stops (hC 3 (zq40_c h) (hO 5 (.b false) (hP hb (hN 8 n.Lines (hC 9 (zq40_c h1) (hO 12 (.b false) (hP hb1 (hC 15 (zq14_M.c _ h2) (hO 18 (.b false) (hP hb2 (hC 20 (zq28_M.c _ h3) (hC 21 (zq14_M.c _ h4) h0))))))))))))) ?_
     exact wJ G p
 rintro v p
 refine cd p ?_ ?_ <;> intro p
 ·refine rg G ?_
  cases p
  exact rt [] []
 ·refine X_skip (thN (Ok_seq (rs G (hN 2 n.Lines h0) ?_)))
  refine tF p (fun _ => ⟨[], [], 32⟩) (fun v2 hr p => ?_) ?_
  ·refine Ok_block (lp G p (fun v1 => ⟨[(1, .ref 16 0), (30, dV n.Lines), (31, dV (n.Lines.length : Int)), (32, dV v1)], [bX 16 60 [dV n.Stops, dV n.Lines]], 48⟩) ?_)
   rintro v1 r0 hb3 p
   rw [zq8_L1] at p
   refine rg G (Ok_seq (cd p ?_ ?_)) <;> intro p
   ·refine X_skip (thN (Ok_seq (Ok_block ?_)))
    obtain ⟨e, h5, p⟩ := obind p
    refine rs G (hD 0 h5 h0) ?_
    obtain ⟨r5, h6, p⟩ := obind p
    refine rs G (hC 2 (zq26_M.c (_, _) h6) h0) ?_
    refine cd p ?_ ?_ <;> intro p
    ·refine rg G ?_
     have p := eL p hb3 hr
     cases p
     exact rt [] []
    ·exact X_skip (ibN (thN (rh G (wL G p))))
   ·exact Ok_exit (thE (thE (ibE (wE G p hb3))))
  rintro ⟨⟩ p s hw
  refine thN (Ok_weak hw ?_)
  refine rg G ?_
  cases p
  exact rt [] []
noncomputable def zq22_M : MS (Network × Int) Bool := ⟨.x .r .r, fun x => zq22 x.1 x.2, fun y => dV y, fun _ => [], fun _ _ => []⟩
theorem zq22_c {n line y} (p : zq22 n line = some y) : zq22_M.C (n, line) y := zq22_M.c (n, line) p
theorem zq22_ok : FnOK Try.prog tJ 200 zq22_M.S := by
 refine fm tt zq22_M [] call200 func200 rfl results200 ntmps200 ?_
 rintro ⟨n, line⟩ y cx G (p : zq22 n line = some y)
 unfold zq22 at p
 refine rg G (jn p (fun v => ⟨[(4, dV v)], [], 32⟩) (fun v p => ?_) ?_)
 ·rcases bf p with ⟨hb, p⟩ | ⟨hb, p⟩
  ·refine re G (hO 2 (.b true) (hP hb (hN 6 n.Lines h0))) ?_
   exact wJ G p
  ·refine re G (hO 2 (.b false) (hP hb h0)) ?_
   exact wJ G p
 rintro v p
 cases p
 exact rt [] []
noncomputable def zq9_M : MS Int Bool := ⟨.r, zq9, fun y => dV y, fun _ => [], fun _ _ => []⟩
theorem zq9_c {t y} (p : zq9 t = some y) : zq9_M.C t y := zq9_M.c t p
theorem zq9_ok : FnOK Try.prog tJ 212 zq9_M.S := by
 refine fm tt zq9_M [fo zq40_ok] call212 func212 rfl results212 ntmps212 ?_
 rintro t y cx G (p : zq9 t = some y)
 unfold zq9 at p
 refine rg G ?_
 obtain ⟨r, h, p⟩ := obind p
 refine rs G (hC 1 (zq40_c h) h0) ?_
 cases p
 exact rt [] []
noncomputable def zq36_M : MS ((List Int)) Int := ⟨.r, zq36, fun y => dV y, fun _ => [], fun _ _ => []⟩
theorem zq36_c {list y} (p : zq36 list = some y) : zq36_M.C list y := zq36_M.c list p
theorem zq36_ok : FnOK Try.prog tJ 198 zq36_M.S := by
 refine fm tt zq36_M [] call198 func198 rfl results198 ntmps198 ?_
 rintro list y cx G (p : zq36 list = some y)
 unfold zq36 at p
 refine rg G (rg G (Ok_seq (rs G (hN 1 list h0) ?_)))
 refine tl p (fun v2 => ⟨[(3, dV v2)], [], 32⟩) (fun v2 p => ?_) ?_
 ·refine Ok_block (lp G p (fun (v, v1) => ⟨[(3, dV v), (6, dV list), (7, dV (list.length : Int)), (8, dV v1)], [], 32⟩) ?_)
  rintro ⟨v, v1⟩ r0 hb p
  rw [zq36_L1] at p
  refine rg G (Ok_seq (cd p ?_ ?_)) <;> intro p
  ·refine X_skip (thN (Ok_seq (Ok_block ?_)))
   obtain ⟨e, h, p⟩ := obind p
   refine rs G (hD 0 h h0) ?_
   exact rh G (ibN (thN (rh G (wL G p))))
  ·exact Ok_exit (thE (thE (ibE (wD G p hb))))
 rintro v2 p s hw
 refine thN (Ok_weak hw ?_)
 refine rg G ?_
 cases p
 exact rt [] []
noncomputable def zq19_M : MS (Timetable × Trip) Int := ⟨.x .r .r, fun x => zq19 x.1 x.2, fun y => dV y, fun _ => [], fun _ _ => []⟩
theorem zq19_ok : FnOK Try.prog tJ 187 zq19_M.S := by
 refine fm tt zq19_M [fo zq36_ok] call187 func187 rfl results187 ntmps187 ?_
 rintro ⟨t, x⟩ y cx G (p : zq19 t x = some y)
 unfold zq19 at p
 refine rg G ?_
 obtain ⟨e1, h2, r1, h3, p⟩ := ob2 p
 refine ds G [] (hD 7 h2 (hC 10 (zq36_c h3) h0)) ?_
 cases p
 exact rt [] []
noncomputable def zq15_M : MS Timetable Bool := ⟨.r, zq15, fun y => dV y, fun _ => [], fun _ _ => []⟩
theorem zq15_ok : FnOK Try.prog tJ 166 zq15_M.S := by
 refine fm tt zq15_M [fo zq22_ok, fo zq9_ok, fo zq19_ok] call166 func166 rfl results166 ntmps166 ?_
 rintro t y cx G (p : zq15 t = some y)
 unfold zq15 at p
 refine rg G (Ok_seq (rs G (hN 2 t.Trips h0) ?_))
 refine cd p ?_ ?_ <;> intro p
 ·refine rg G ?_
  cases p
  exact rt [] []
 ·refine X_skip (thN (rg G (Ok_seq (rs G (hN 2 t.Trips h0) ?_))))
  refine tF p (fun _ => ⟨[], [], 32⟩) (fun v3 hr p => ?_) ?_
  ·refine Ok_block (lp G p (fun (v, v1) => ⟨[(1, .ref 16 0), (3, dV v), (11, dV t.Trips), (12, dV (t.Trips.length : Int)), (13, dV v1)], [bX 16 63 [dV t.Network.Stops, dV t.Network.Lines, dV t.Trips]], 48⟩) ?_)
   rintro ⟨v, v1⟩ r0 hb p
   rw [zq15_L1] at p
   refine rg G (Ok_seq (cd p ?_ ?_)) <;> intro p
   ·refine X_skip (thN (Ok_seq (Ok_block ?_)))
    obtain ⟨e, h, p⟩ := obind p
    refine rs G (hD 0 h h0) ?_
    refine Ok_seq (jn p (fun v2 => ⟨[(1, .ref 16 0), (5, .ref 32 0), (11, dV t.Trips), (12, dV (t.Trips.length : Int)), (13, dV v1), (46, dV v2)], [bX 16 63 [dV t.Network.Stops, dV t.Network.Lines, dV t.Trips], bX 32 168 [dV e.Id, dV e.Line, dV e.Start]], 64⟩) (fun v2 p => ?_) ?_)
    ·rcases bf p with ⟨hb1, p⟩ | ⟨hb1, p⟩
     ·refine re G (hO 4 (.b true) (hP hb1 h0)) ?_
      exact wJ G p
     ·rcases bf p with ⟨hb2, p⟩ | ⟨hb2, p⟩
      ·refine re G (hO 4 (.b false) (hP hb1 (hO 9 (.b true) (hP hb2 h0)))) ?_
       exact wJ G p
      ·obtain ⟨r, h1, p⟩ := obind p
       rcases bf p with ⟨hb3, p⟩ | ⟨hb3, p⟩
       ·refine re G (hO 4 (.b false) (hP hb1 (hO 9 (.b false) (hP hb2 (hC 14 (zq22_c h1) (hO 17 (.b true) (hP hb3 h0))))))) ?_
        exact wJ G p
       ·obtain ⟨r1, h2, p⟩ := obind p
        rcases bf p with ⟨hb4, p⟩ | ⟨hb4, p⟩
        ·refine re G (hO 4 (.b false) (hP hb1 (hO 9 (.b false) (hP hb2 (hC 14 (zq22_c h1) (hO 17 (.b false) (hP hb3 (hC 20 (zq9_c h2) (hO 23 (.b true) (hP hb4 h0)))))))))) ?_
         exact wJ G p
        ·obtain ⟨r2, h3, r3, h4, p⟩ := ob2 p
         refine re G (hO 4 (.b false) (hP hb1 (hO 9 (.b false) (hP hb2 (hC 14 (zq22_c h1) (hO 17 (.b false) (hP hb3 (hC 20 (zq9_c h2) (hO 23 (.b false) (hP hb4 (hC 26 (zq19_M.c (_, _) h3) (hC 27 (zq9_c h4) h0)))))))))))) ?_
         exact wJ G p
    rintro v2 p
    refine cd p ?_ ?_ <;> intro p
    ·refine rg G ?_
     have p := eL p hb hr
     cases p
     exact rt [] []
    ·exact X_skip (thN (rh G (ibN (thN (rh G (wL G p))))))
   ·exact Ok_exit (thE (thE (ibE (wE G p hb))))
  rintro ⟨⟩ p s hw
  refine thN (Ok_weak hw ?_)
  refine rg G ?_
  cases p
  exact rt [] []
noncomputable def zq10_M : MS Timetable Bool := ⟨.r, zq10, fun y => dV y, fun _ => [], fun _ _ => []⟩
theorem zq10_ok : FnOK Try.prog tJ 98 zq10_M.S := by
 refine fm tt zq10_M [fo zq8_ok, fo zq15_ok] call98 func98 rfl results98 ntmps98 ?_
 rintro t y cx G (p : zq10 t = some y)
 unfold zq10 at p
 refine rg G ?_
 obtain ⟨r, h, p⟩ := obind p
 refine jn p (fun v => ⟨[(2, dV v)], [], 32⟩) (fun v p => ?_) ?_
 ·rcases bf p with ⟨hb, p⟩ | ⟨hb, p⟩
  ·obtain ⟨r1, h1, p⟩ := obind p
   refine re G (hC 2 (zq8_M.c _ h) (hO 3 (.b true) (hP hb (hC 5 (zq15_M.c _ h1) h0)))) ?_
   exact wJ G p
  ·refine re G (hC 2 (zq8_M.c _ h) (hO 3 (.b false) (hP hb h0))) ?_
   exact wJ G p
 rintro v p
 cases p
 exact rt [] []
noncomputable def zq21_M : MS (Network × Fleet) Bool := ⟨.x .r .r, fun x => zq21 x.1 x.2, fun y => dV y, fun _ => [], fun _ _ => []⟩
theorem zq21_ok : FnOK Try.prog tJ 178 zq21_M.S := by
 refine fm tt zq21_M [fo zq40_ok] call178 func178 rfl results178 ntmps178 ?_
 rintro ⟨n, f⟩ y cx G (p : zq21 n f = some y)
 unfold zq21 at p
 refine rg G (Ok_seq (jn p (fun v => ⟨[(2, .ref 16 0), (3, .ref 32 0), (21, dV v)], [bX 16 60 [dV n.Stops, dV n.Lines], bX 32 77 [dV f.Dead, dV f.Turn]], 64⟩) (fun v p => ?_) ?_))
 ·rcases bf p with ⟨hb, p⟩ | ⟨hb, p⟩
  ·refine re G (hN 2 f.Dead (hN 5 n.Stops (hO 7 (.b true) (hP hb h0)))) ?_
   exact wJ G p
  ·obtain ⟨r, h, p⟩ := obind p
   refine re G (hN 2 f.Dead (hN 5 n.Stops (hO 7 (.b false) (hP hb (hC 10 (zq40_c h) h0))))) ?_
   exact wJ G p
 rintro v p
 refine cd p ?_ ?_ <;> intro p
 ·refine rg G ?_
  cases p
  exact rt [] []
 ·refine X_skip (thN (Ok_seq (rs G (hN 2 f.Dead h0) ?_)))
  refine tF p (fun _ => ⟨[], [], 32⟩) (fun v5 hr p => ?_) ?_
  ·refine Ok_block (lp G p (fun v1 => ⟨[(2, .ref 16 0), (23, dV f.Dead), (24, dV (f.Dead.length : Int)), (25, dV v1)], [bX 16 60 [dV n.Stops, dV n.Lines]], 48⟩) ?_)
   rintro v1 r0 hb1 p
   rw [zq21_L2] at p
   refine rg G (Ok_seq (cd p ?_ ?_)) <;> intro p
   ·refine X_skip (thN (Ok_seq (Ok_block ?_)))
    obtain ⟨e, h1, p⟩ := obind p
    refine rs G (hD 1 h1 h0) ?_
    refine Ok_seq (jn p (fun v2 => ⟨[(2, .ref 16 0), (6, dV e), (23, dV f.Dead), (24, dV (f.Dead.length : Int)), (25, dV v1), (42, dV v2)], [bX 16 60 [dV n.Stops, dV n.Lines]], 48⟩) (fun v2 p => ?_) ?_)
    ·rcases bf p with ⟨hb2, p⟩ | ⟨hb2, p⟩
     ·refine re G (hN 1 e (hN 4 n.Stops (hO 6 (.b true) (hP hb2 h0)))) ?_
      exact wJ G p
     ·obtain ⟨e1, h2, p⟩ := obind p
      refine re G (hN 1 e (hN 4 n.Stops (hO 6 (.b false) (hP hb2 (hD 9 h2 h0))))) ?_
      exact wJ G p
    rintro v2 p
    refine cd p ?_ ?_ <;> intro p
    ·refine rg G ?_
     have p := eL p hb1 hr
     cases p
     exact rt [] []
    ·refine X_skip (thN (rs G (hN 1 e h0) ?_))
     refine tF p (fun _ => ⟨[(2, .ref 16 0), (23, dV f.Dead), (24, dV (f.Dead.length : Int)), (25, dV v1)], [bX 16 60 [dV n.Stops, dV n.Lines]], 48⟩) (fun v4 hr1 p => ?_) ?_
     ·refine Ok_block (lp G p (fun v3 => ⟨[(2, .ref 16 0), (23, dV f.Dead), (24, dV (f.Dead.length : Int)), (25, dV v1), (43, dV e), (44, dV (e.length : Int)), (45, dV v3)], [bX 16 60 [dV n.Stops, dV n.Lines]], 48⟩) ?_)
      rintro v3 r0 hb3 p
      rw [zq21_L1] at p
      refine rg G (Ok_seq (cd p ?_ ?_)) <;> intro p
      ·refine X_skip (thN (Ok_seq (Ok_block ?_)))
       obtain ⟨e3, h3, p⟩ := obind p
       refine rs G (hD 0 h3 h0) ?_
       obtain ⟨r2, h4, p⟩ := obind p
       refine rs G (hC 1 (zq40_c h4) h0) ?_
       refine cd p ?_ ?_ <;> intro p
       ·refine rg G ?_
        have p := eL p hb3 hr1
        have p := eL p hb1 hr
        cases p
        exact rt [] []
       ·exact X_skip (ibN (thN (rh G (wL G p))))
      ·exact Ok_exit (thE (thE (ibE (wE G p hb3))))
     rintro ⟨⟩ p s hw
     refine ibN (thN (Ok_weak hw ?_))
     exact rh G (wL G p)
   ·exact Ok_exit (thE (thE (ibE (wE G p hb1))))
  rintro ⟨⟩ p s1 hw1
  refine thN (Ok_weak hw1 ?_)
  refine rg G ?_
  cases p
  exact rt [] []
noncomputable def zq24_M : MS (Timetable × Fleet) Bool := ⟨.x .r .r, fun x => zq24 x.1 x.2, fun y => dV y, fun _ => [], fun _ _ => []⟩
theorem zq24_ok : FnOK Try.prog tJ 108 zq24_M.S := by
 refine fm tt zq24_M [fo zq10_ok, fo zq21_ok] call108 func108 rfl results108 ntmps108 ?_
 rintro ⟨t, f⟩ y cx G (p : zq24 t f = some y)
 unfold zq24 at p
 refine rg G ?_
 obtain ⟨r, h, p⟩ := obind p
 refine jn p (fun v => ⟨[(4, dV v)], [], 32⟩) (fun v p => ?_) ?_
 ·rcases bf p with ⟨hb, p⟩ | ⟨hb, p⟩
  ·obtain ⟨r1, h1, p⟩ := obind p
   refine re G (hC 1 (zq10_M.c _ h) (hO 2 (.b true) (hP hb (hC 6 (zq21_M.c (_, _) h1) h0)))) ?_
   exact wJ G p
  ·refine re G (hC 1 (zq10_M.c _ h) (hO 2 (.b false) (hP hb h0))) ?_
   exact wJ G p
 rintro v p
 cases p
 exact rt [] []
noncomputable def zq29_M : MS (Timetable × Trip) Line := ⟨.x .r .r, fun x => zq29 x.1 x.2, fun y => dV y, fun _ => [], fun _ _ => []⟩
theorem zq29_ok : FnOK Try.prog tJ 227 zq29_M.S := by
 refine fm tt zq29_M [] call227 func227 rfl results227 ntmps227 ?_
 rintro ⟨t, x⟩ y cx G (p : zq29 t x = some y)
 unfold zq29 at p
 refine rg G ?_
 obtain ⟨e, h, p⟩ := obind p
 refine rs G (hD 5 h h0) ?_
 cases p
 exact rt [] []
noncomputable def zq27_M : MS (Timetable × Trip) Int := ⟨.x .r .r, fun x => zq27 x.1 x.2, fun y => dV y, fun _ => [], fun _ _ => []⟩
theorem zq27_ok : FnOK Try.prog tJ 188 zq27_M.S := by
 refine fm tt zq27_M [fo zq29_ok] call188 func188 rfl results188 ntmps188 ?_
 rintro ⟨t, x⟩ y cx G (p : zq27 t x = some y)
 unfold zq27 at p
 refine rg G ?_
 obtain ⟨r, h, p⟩ := obind p
 refine rs G (hC 2 (zq29_M.c (_, _) h) h0) ?_
 obtain ⟨e, h1, p⟩ := obind p
 refine rs G (hN 2 r.Stops (hD 4 h1 h0)) ?_
 cases p
 exact rt [] []
noncomputable def zq20_M : MS (Timetable × Trip) Int := ⟨.x .r .r, fun x => zq20 x.1 x.2, fun y => dV y, fun _ => [], fun _ _ => []⟩
theorem zq20_ok : FnOK Try.prog tJ 189 zq20_M.S := by
 refine fm tt zq20_M [fo zq29_ok] call189 func189 rfl results189 ntmps189 ?_
 rintro ⟨t, x⟩ y cx G (p : zq20 t x = some y)
 unfold zq20 at p
 refine rg G ?_
 obtain ⟨r, h, e, h1, p⟩ := ob2 p
 refine rs G (hC 2 (zq29_M.c (_, _) h) (hD 4 h1 h0)) ?_
 cases p
 exact rt [] []
noncomputable def zq18_M : MS (Timetable × Fleet × Trip × Trip) Int := ⟨.x .r (.x .r (.x .r .r)), fun x => zq18 x.1 x.2.1 x.2.2.1 x.2.2.2, fun y => dV y, fun _ => [], fun _ _ => []⟩
theorem zq18_c {t f a b y} (p : zq18 t f a b = some y) : zq18_M.C (t, f, a, b) y := zq18_M.c (t, f, a, b) p
theorem zq18_ok : FnOK Try.prog tJ 116 zq18_M.S := by
 refine fm tt zq18_M [fo zq27_ok, fo zq20_ok] call116 func116 rfl results116 ntmps116 ?_
 rintro ⟨t, f, a, b⟩ y cx G (p : zq18 t f a b = some y)
 unfold zq18 at p
 refine rg G ?_
 obtain ⟨r2, h4, e2, h5, r3, h6, p⟩ := ob3 p
 obtain ⟨e3, h7, p⟩ := obind p
 refine ds G [] (hC 4 (zq27_M.c (_, _) h4) (hD 5 h5 (hC 9 (zq20_M.c (_, _) h6) (hD 10 h7 h0)))) ?_
 cases p
 exact rt [] []
noncomputable def zq16_M : MS (Timetable × Fleet × Trip × Trip) Bool := ⟨.x .r (.x .r (.x .r .r)), fun x => zq16 x.1 x.2.1 x.2.2.1 x.2.2.2, fun y => dV y, fun _ => [], fun _ _ => []⟩
theorem zq16_c {t f a b y} (p : zq16 t f a b = some y) : zq16_M.C (t, f, a, b) y := zq16_M.c (t, f, a, b) p
theorem zq16_ok : FnOK Try.prog tJ 121 zq16_M.S := by
 refine fm tt zq16_M [fo zq19_ok, fo zq18_ok] call121 func121 rfl results121 ntmps121 ?_
 rintro ⟨t, f, a, b⟩ y cx G (p : zq16 t f a b = some y)
 unfold zq16 at p
 refine rg G ?_
 obtain ⟨r2, h2, r3, h3, p⟩ := ob2 p
 refine ds G [] (hC 4 (zq19_M.c (_, _) h2) (hC 12 (zq18_c h3) h0)) ?_
 cases p
 exact rt [] []
noncomputable def zq2_M : MS Int Bool := ⟨.r, zq2, fun y => dV y, fun _ => [], fun _ _ => []⟩
theorem zq2_ok : FnOK Try.prog tJ 238 zq2_M.S := by
 refine fm tt zq2_M [] call238 func238 rfl results238 ntmps238 ?_
 rintro x y cx G (p : zq2 x = some y)
 unfold zq2 at p
 refine rg G (rg G ?_)
 cases p
 exact rt [] []
noncomputable def zq0_M : MS (Int × Int) Int := ⟨.x .r .r, fun x => zq0 x.1 x.2, fun y => dV y, fun _ => [], fun _ _ => []⟩
theorem zq0_ok : FnOK Try.prog tJ 225 zq0_M.S := by
 refine fm tt zq0_M [fo zq2_ok] call225 func225 rfl results225 ntmps225 ?_
 rintro ⟨x, y_⟩ y cx G (p : zq0 x y_ = some y)
 unfold zq0 at p
 refine rg G ?_
 obtain ⟨r, h, p⟩ := obind p
 refine rs G (hC 1 (zq2_M.c _ h) h0) ?_
 obtain ⟨r1, h1, p⟩ := obind p
 refine rs G (hC 1 (zq2_M.c _ h1) h0) ?_
 refine Ok_seq (rg G (cd p ?_ ?_)) <;> intro p
 ·refine Ok_seq (rg G (cd p ?_ ?_)) <;> intro p
  ·refine rg G ?_
   cases p
   exact rt [] []
  ·refine X_skip (thN (rg G ?_))
   cases p
   exact rt [] []
 ·refine X_skip (thN (Ok_seq (rg G (cd p ?_ ?_)))) <;> intro p
  ·refine rg G ?_
   cases p
   exact rt [] []
  ·refine X_skip (thN (Ok_seq (rg G (cd p ?_ ?_)))) <;> intro p
   ·refine rg G ?_
    cases p
    exact rt [] []
   ·refine X_skip (thN (Ok_seq (rg G (cd p ?_ ?_)))) <;> intro p
    ·refine rg G ?_
     cases p
     exact rt [] []
    ·refine X_skip (thN (rg G ?_))
     cases p
     exact rt [] []
noncomputable def zq1_M : MS ((List Int)) Int := ⟨.r, zq1, fun y => dV y, fun _ => [], fun _ _ => []⟩
theorem zq1_ok : FnOK Try.prog tJ 224 zq1_M.S := by
 refine fm tt zq1_M [] call224 func224 rfl results224 ntmps224 ?_
 rintro vals y cx G (p : zq1 vals = some y)
 unfold zq1 at p
 refine rg G (rg G (Ok_seq (rs G (hN 1 vals h0) ?_)))
 refine tF p (fun _ => ⟨[(3, kV .i64 0)], [], 32⟩) (fun v1 hr p => ?_) ?_
 ·refine Ok_block (lp G p (fun v => ⟨[(3, kV .i64 0), (6, dV vals), (7, dV (vals.length : Int)), (8, dV v)], [], 32⟩) ?_)
  rintro v r0 hb p
  rw [zq1_L1] at p
  refine rg G (Ok_seq (cd p ?_ ?_)) <;> intro p
  ·refine X_skip (thN (Ok_seq (Ok_block ?_)))
   obtain ⟨e, h, p⟩ := obind p
   refine rs G (hD 0 h h0) ?_
   refine rg G (cd p ?_ ?_) <;> intro p
   ·refine rg G ?_
    have p := eL p hb hr
    cases p
    exact rt [] []
   ·exact X_skip (ibN (thN (rh G (wL G p))))
  ·exact Ok_exit (thE (thE (ibE (wE G p hb))))
 rintro ⟨⟩ p s hw
 refine thN (Ok_weak hw ?_)
 refine rg G ?_
 cases p
 exact rt [] []
noncomputable def zq17_M : MS (links × links) Int := ⟨.x .r .r, fun x => zq17 x.1 x.2, fun y => dV y, fun _ => [], fun _ _ => []⟩
theorem zq17_ok : FnOK Try.prog tJ 180 zq17_M.S := by
 refine fm tt zq17_M [fo zq0_ok, fo zq1_ok] call180 func180 rfl results180 ntmps180 ?_
 rintro ⟨a, b⟩ y cx G (p : zq17 a b = some y)
 unfold zq17 at p
 refine rg G ?_
 obtain ⟨r3, h3, r4, h4, r5, h5, p⟩ := ob3 p
 refine ds G [] (hC 4 (zq0_M.c (_, _) h3) (hC 9 (zq0_M.c (_, _) h4) (hC 11 (zq1_M.c _ h5) h0))) ?_
 cases p
 exact rt [] []
noncomputable def zq31_MR (rec_ : linker → Int → Int → Option (links × (List ((Int × Int) × links)))) : MS (linker × Int × Int) (links × (List ((Int × Int) × links))) := ⟨⟨[.bo 1, .rd, .rd], fun x => [.sc undef, Enc.e x.2.1, Enc.e x.2.2], fun x => [.box 220 [dV x.1.t_.Network.Stops, dV x.1.t_.Network.Lines, dV x.1.t_.Trips, dV x.1.f_.Dead, dV x.1.f_.Turn, .own 1], mpO 218 x.1.memo_], 2, 2, fun _ => rfl, fun _ => rfl, rfl, (by
  rintro ⟨a0, a1, a2⟩ ⟨b0, b1, b2⟩ h hO
  have q0 : a0 = b0 := Enc.inj _ _ (congrArg D.agg (cons_eq (congrArg (fun l => obC l 0 0) hO) (cons_eq (congrArg (fun l => obC l 0 1) hO) (cons_eq (congrArg (fun l => obC l 0 2) hO) (cons_eq (congrArg (fun l => obC l 0 3) hO) (cons_eq (congrArg (fun l => obC l 0 4) hO) (cons_eq (mpL (congrArg (fun l => obM l 1) hO)) rfl)))))))
  have q1 : a1 = b1 := qI 1 h
  have q2 : a2 = b2 := qI 2 h
  subst q0; subst q1; subst q2; rfl)⟩, fun x => rec_ x.1 x.2.1 x.2.2, fun y => dV y.1, fun _ => [], fun x y => [.box 220 [dV x.1.t_.Network.Stops, dV x.1.t_.Network.Lines, dV x.1.t_.Trips, dV x.1.f_.Dead, dV x.1.f_.Turn, .own 1], mpO 218 y.2]⟩
noncomputable def zq31_M : MS (linker × Int × Int) (links × (List ((Int × Int) × links))) := zq31_MR zq31
theorem zq31_c {x i used y} (p : zq31 x i used = some y) : zq31_M.C (x, i, used) y := zq31_M.c (x, i, used) p
theorem zq31_cR {rec_ : linker → Int → Int → Option (links × (List ((Int × Int) × links)))} {x i used y} (p : rec_ x i used = some y) : (zq31_MR rec_).C (x, i, used) y := (zq31_MR rec_).c (x, i, used) p
noncomputable def zq30_MR (rec_ : linker → Int → Int → Option (links × (List ((Int × Int) × links)))) : MS (linker × Int × Int × Int) (links × Bool × (List ((Int × Int) × links))) := ⟨⟨[.bo 1, .rd, .rd, .rd], fun x => [.sc undef, Enc.e x.2.1, Enc.e x.2.2.1, Enc.e x.2.2.2], fun x => [.box 220 [dV x.1.t_.Network.Stops, dV x.1.t_.Network.Lines, dV x.1.t_.Trips, dV x.1.f_.Dead, dV x.1.f_.Turn, .own 1], mpO 218 x.1.memo_], 2, 2, fun _ => rfl, fun _ => rfl, rfl, (by
  rintro ⟨a0, a1, a2, a3⟩ ⟨b0, b1, b2, b3⟩ h hO
  have q0 : a0 = b0 := Enc.inj _ _ (congrArg D.agg (cons_eq (congrArg (fun l => obC l 0 0) hO) (cons_eq (congrArg (fun l => obC l 0 1) hO) (cons_eq (congrArg (fun l => obC l 0 2) hO) (cons_eq (congrArg (fun l => obC l 0 3) hO) (cons_eq (congrArg (fun l => obC l 0 4) hO) (cons_eq (mpL (congrArg (fun l => obM l 1) hO)) rfl)))))))
  have q1 : a1 = b1 := qI 1 h
  have q2 : a2 = b2 := qI 2 h
  have q3 : a3 = b3 := qI 3 h
  subst q0; subst q1; subst q2; subst q3; rfl)⟩, fun x => zq30 rec_ x.1 x.2.1 x.2.2.1 x.2.2.2, fun y => .tup [dV y.1, dV y.2.1], fun _ => [], fun x y => [.box 220 [dV x.1.t_.Network.Stops, dV x.1.t_.Network.Lines, dV x.1.t_.Trips, dV x.1.f_.Dead, dV x.1.f_.Turn, .own 1], mpO 218 y.2.2]⟩
theorem zq30_cR {rec_ : linker → Int → Int → Option (links × (List ((Int × Int) × links)))} {x i a used y} (p : zq30 rec_ x i a used = some y) : (zq30_MR rec_).C (x, i, a, used) y := (zq30_MR rec_).c (x, i, a, used) p
theorem i_linker_after_b_okR {rec_ : linker → Int → Int → Option (links × (List ((Int × Int) × links)))} (hrec : FnOK Try.prog tJ 179 (zq31_MR rec_).S) : FnOK Try.prog tJ 181 (zq30_MR rec_).S := by
 refine fm tt (zq30_MR rec_) [fo hrec, fo zq16_ok, fo zq18_ok] call181 func181 rfl results181 ntmps181 ?_
 rintro ⟨x, i, a, used⟩ y cx G (p : zq30 rec_ x i a used = some y)
 unfold zq30 at p
 refine rg G (Ok_seq (jn p (fun v => ⟨[(0, .ref 0 0), (1, dV i), (2, dV a), (3, dV used), (8, .ref 32 0), (48, dV v)], [bX 0 220 [dV x.t_.Network.Stops, dV x.t_.Network.Lines, dV x.t_.Trips, dV x.f_.Dead, dV x.f_.Turn, .own 1], mX 1 218 x.memo_, bX 32 222 [kV .i64 0, kV .i64 0]], 64⟩) (fun v p => ?_) ?_))
 ·rcases bf p with ⟨hb, p⟩ | ⟨hb, p⟩
  ·refine de G [] (hO 3 (.b true) (hP hb h0)) ?_
   exact wJ G p
  ·obtain ⟨u1, h4, p⟩ := obind p
   rcases bf p with ⟨hb1, p⟩ | ⟨hb1, p⟩
   ·refine de G [] (hO 3 (.b false) (hP hb (hK h4 (hO 10 (.b true) (hP hb1 h0))))) ?_
    exact wJ G p
   ·obtain ⟨e2, h5, e3, h6, r1, h7, p⟩ := ob3 p
    refine de G [] (hO 3 (.b false) (hP hb (hK h4 (hO 10 (.b false) (hP hb1 (hD 25 h5 (hD 33 h6 (hC 35 (zq16_c h7) h0)))))))) ?_
    exact wJ G p
 rintro v p
 refine cd p ?_ ?_ <;> intro p
 ·refine rg G ?_
  cases p
  exact rt [] []
 ·refine X_skip (thN ?_)
  obtain ⟨u2, h8, r2, h9, p⟩ := ob2 p
  refine rs G (hK h8 (hC 7 (zq31_cR h9) h0)) ?_
  obtain ⟨e6, h13, e7, h14, r4, h15, p⟩ := ob3 p
  refine ds G [(32, [32])] (hD 19 h13 (hD 27 h14 (hC 29 (zq18_c h15) h0))) ?_
  cases p
  exact rt [] []
theorem zq31_okF {rec_ : linker → Int → Int → Option (links × (List ((Int × Int) × links)))} (hrec : FnOK Try.prog tJ 179 (zq31_MR rec_).S) : FnOK Try.prog tJ 179 (zq31_MR (zq31_F rec_)).S := by
 refine fm tt (zq31_MR (zq31_F rec_)) [fo hrec, fo (i_linker_after_b_okR hrec), fo zq17_ok] call179 func179 rfl results179 ntmps179 ?_
 rintro ⟨x, i, used⟩ y cx G (p : zq31_F rec_ x i used = some y)
 unfold zq31_F at p
 refine rg G (Ok_seq (rs G (hN 6 x.t_.Trips h0) ?_))
 refine cd p ?_ ?_ <;> intro p
 ·refine rg G ?_
  cases p
  exact rt [] []
 ·refine X_skip (thN (rg G (Ok_seq ?_)))
  obtain ⟨r1, h1, p⟩ := obind p
  refine ds G [(10, [384])] (hO 5 (.mg (Enc.e r1.1) r1.2) (hP (mg_1 h1) (hP (mg_2 h1) h0))) ?_
  refine rg G (cd p ?_ ?_) <;> intro p
  ·refine rg G ?_
   cases p
   exact rt [] []
  ·refine X_skip (thN ?_)
   obtain ⟨r2, h2, p⟩ := obind p
   refine rs G (hC 4 (zq31_cR h2) h0) ?_
   refine Ok_seq (rs G (hN 5 x.t_.Trips h0) ?_)
   refine tl p (fun (v8, v9, v10) => ⟨[(0, .ref 0 0), (6, .ref 32 0), (7, .ref 48 0), (10, .ref 64 0)], [bX 0 220 [dV x.t_.Network.Stops, dV x.t_.Network.Lines, dV x.t_.Trips, dV x.f_.Dead, dV x.f_.Turn, .own 1], mX 1 218 v8, bX 32 222 [kV .i64 0, kV .i64 0], bX 48 257 [dV i, dV used], bX 64 222 [dV v9, dV v10]], 96⟩) (fun vv1 p => ?_) ?_
   ·refine Ok_block (lp G p (fun (v, v1, v2, v3) => ⟨[(0, .ref 0 0), (1, dV i), (2, dV used), (6, .ref 32 0), (7, .ref 48 0), (10, .ref 64 0), (47, dV (x.t_.Trips.length : Int)), (48, dV v)], [bX 0 220 [dV x.t_.Network.Stops, dV x.t_.Network.Lines, dV x.t_.Trips, dV x.f_.Dead, dV x.f_.Turn, .own 1], mX 1 218 v1, bX 32 222 [kV .i64 0, kV .i64 0], bX 48 257 [dV i, dV used], bX 64 222 [dV v2, dV v3]], 96⟩) ?_)
    rintro ⟨v, v1, v2, v3⟩ r0 hb p
    rw [zq31_L1] at p
    refine rg G (Ok_seq (cd p ?_ ?_)) <;> intro p
    ·refine X_skip (thN (jn p (fun (v4, v5, v6) => ⟨[(0, .ref 0 0), (1, dV i), (2, dV used), (6, .ref 32 0), (7, .ref 48 0), (10, .ref 64 0), (47, dV (x.t_.Trips.length : Int)), (48, dV v)], [bX 0 220 [dV x.t_.Network.Stops, dV x.t_.Network.Lines, dV x.t_.Trips, dV x.f_.Dead, dV x.f_.Turn, .own 1], mX 1 218 v4, bX 32 222 [kV .i64 0, kV .i64 0], bX 48 257 [dV i, dV used], bX 64 222 [dV v5, dV v6]], 96⟩) (fun vv p => ?_) ?_))
     ·refine Ok_block (rg G ?_)
      obtain ⟨r3, h3, p⟩ := obind p
      refine rs G (hC 4 (zq30_cR h3) h0) ?_
      refine jn p (fun v7 => ⟨[(0, .ref 0 0), (1, dV i), (2, dV used), (6, .ref 32 0), (7, .ref 48 0), (10, .ref 64 0), (12, .ref 80 0), (47, dV (x.t_.Trips.length : Int)), (48, dV v), (65, dV v7)], [bX 0 220 [dV x.t_.Network.Stops, dV x.t_.Network.Lines, dV x.t_.Trips, dV x.f_.Dead, dV x.f_.Turn, .own 1], mX 1 218 r3.2.2, bX 32 222 [kV .i64 0, kV .i64 0], bX 48 257 [dV i, dV used], bX 64 222 [dV v2, dV v3], bX 80 222 [dV r3.1.count_, dV r3.1.dead_]], 112⟩) (fun v7 p => ?_) ?_
      ·rcases bf p with ⟨hb1, p⟩ | ⟨hb1, p⟩
       ·obtain ⟨r4, h4, p⟩ := obind p
        refine re G (hO 1 (.b true) (hP hb1 (hC 4 (zq17_M.c (_, _) h4) h0))) ?_
        exact wJ G p
       ·refine re G (hO 1 (.b false) (hP hb1 h0)) ?_
        exact wJ G p
      rintro v7 p
      refine cd p ?_ ?_ <;> intro p
      ·exact rh G (ibN (wJ G p))
      ·exact X_skip (ibN (wJ G p))
     rintro ⟨v4, v5, v6⟩ p
     exact rh G (wL G p)
    ·exact Ok_exit (thE (thE (ibE (wD G p hb))))
   rintro ⟨v8, v9, v10⟩ p s hw
   refine thN (Ok_weak hw ?_)
   refine ds G [(6, [1])] (hO 6 (.mp (encM (putL (i, used) (⟨v9, v10⟩ : links) v8))) (hP (put_m (i, used) (⟨v9, v10⟩ : links) v8) h0)) ?_
   refine rg G ?_
   cases p
   exact rt [] []
theorem zq31_okn : ∀ k, FnOK Try.prog tJ 179 (zq31_MR (zq31_k k)).S
 | 0 => ⟨fun args w => call179 args w, fun vs w F ds obs κ hp => by obtain ⟨x, y, _, _, h⟩ := hp; cases h⟩
 | k + 1 => zq31_okF (zq31_okn k)
theorem zq31_ok : FnOK Try.prog tJ 179 zq31_M.S := zq31_okn 4294967296
theorem zq30_ok : FnOK Try.prog tJ 181 (zq30_MR zq31).S := i_linker_after_b_okR zq31_ok
noncomputable def zq32_M : MS (Timetable × Fleet) ((List (List Int)) × Int) := ⟨.x .r .r, fun x => zq32 x.1 x.2, fun y => .tup [.own 0, dV y.2], fun y => [arO 24 y.1], fun _ _ => []⟩
theorem zq32_ok : FnOK Try.prog tJ 109 zq32_M.S := by
 refine fm tt zq32_M [fo zq31_ok, fo zq17_ok, fo zq30_ok, fo zq93_ok] call109 func109 rfl results109 ntmps109 ?_
 rintro ⟨t, f⟩ y cx G (p : zq32 t f = some y)
 unfold zq32 at p
 refine rg G (rg G ?_)
 obtain ⟨u, h, p⟩ := obind p
 refine rs G (hN 2 t.Trips (hO 3 (.l (List.map Enc.e (List.replicate (t.Trips.length : Int).toNat (0 : Int)))) (hP (mk_p (b := 8) (chk_t h) rfl) (hP (rep_m Enc.e (t.Trips.length : Int).toNat (0 : Int)) h0)))) ?_
 refine rg G (Ok_seq (rs G (hN 2 t.Trips h0) ?_))
 refine tl p (fun (i3, v7) => ⟨[(2, .ref 16 0), (6, .ref 32 0), (7, .own 48)], [bX 16 63 [dV t.Network.Stops, dV t.Network.Lines, dV t.Trips], bX 32 220 [dV t.Network.Stops, dV t.Network.Lines, dV t.Trips, dV f.Dead, dV f.Turn, .own 64], aX 48 3 i3, mX 64 218 v7], 96⟩) (fun vv2 p => ?_) ?_
 ·refine Ok_block (lp G p (fun (want, v, i, v1) => ⟨[(2, .ref 16 0), (6, .ref 32 0), (7, .own 48), (8, dV want), (28, dV (t.Trips.length : Int)), (29, dV v)], [bX 16 63 [dV t.Network.Stops, dV t.Network.Lines, dV t.Trips], bX 32 220 [dV t.Network.Stops, dV t.Network.Lines, dV t.Trips, dV f.Dead, dV f.Turn, .own 64], aX 48 3 i, mX 64 218 v1], 96⟩) ?_)
  rintro ⟨want, v, i, v1⟩ r0 hb p
  rw [zq32_L2] at p
  refine rg G (Ok_seq (cd p ?_ ?_)) <;> intro p
  ·refine X_skip (thN (jn p (fun (want1, i1, v2) => ⟨[(2, .ref 16 0), (6, .ref 32 0), (7, .own 48), (8, dV want1), (28, dV (t.Trips.length : Int)), (29, dV v)], [bX 16 63 [dV t.Network.Stops, dV t.Network.Lines, dV t.Trips], bX 32 220 [dV t.Network.Stops, dV t.Network.Lines, dV t.Trips, dV f.Dead, dV f.Turn, .own 64], aX 48 3 i1, mX 64 218 v2], 96⟩) (fun vv1 p => ?_) ?_))
   ·refine Ok_block (rg G ?_)
    obtain ⟨e, h1, p⟩ := obind p
    refine rs G (hD 2 h1 (hS 3 h1 (-1) h0)) ?_
    obtain ⟨r, h2, p⟩ := obind p
    refine rs G (hC 2 (zq31_c h2) h0) ?_
    refine Ok_seq ?_
    obtain ⟨r3, h5, r4, h6, p⟩ := ob2 p
    refine ds G [(3, [32, 64])] (hC 3 (zq31_c h5) (hC 5 (zq17_M.c (_, _) h6) h0)) ?_
    refine cd p ?_ ?_ <;> intro p
    ·exact Ok_exit (thE (ibE (wJ G p)))
    ·refine X_skip (thN (rs G (hN 2 t.Trips h0) ?_))
     refine tl p (fun (want2, i2, v6) => ⟨[(2, .ref 16 0), (6, .ref 32 0), (7, .own 48), (8, dV want2), (28, dV (t.Trips.length : Int)), (29, dV v)], [bX 16 63 [dV t.Network.Stops, dV t.Network.Lines, dV t.Trips], bX 32 220 [dV t.Network.Stops, dV t.Network.Lines, dV t.Trips, dV f.Dead, dV f.Turn, .own 64], aX 48 3 i2, mX 64 218 v6], 96⟩) (fun vv p => ?_) ?_
     ·refine Ok_block (lp G p (fun (v3, v4) => ⟨[(2, .ref 16 0), (6, .ref 32 0), (7, .own 48), (8, dV want), (9, dV v), (10, .ref 64 0), (28, dV (t.Trips.length : Int)), (29, dV v), (47, dV (t.Trips.length : Int)), (48, dV v3)], [bX 16 63 [dV t.Network.Stops, dV t.Network.Lines, dV t.Trips], bX 32 220 [dV t.Network.Stops, dV t.Network.Lines, dV t.Trips, dV f.Dead, dV f.Turn, .own 80], aX 48 3 (i.set v.toNat (-1)), bX 64 222 [dV r.1.count_, dV r.1.dead_], mX 80 218 v4], 112⟩) ?_)
      rintro ⟨v3, v4⟩ r0 hb1 p
      rw [zq32_L1] at p
      refine rg G (Ok_seq (cd p ?_ ?_)) <;> intro p
      ·refine X_skip (thN (Ok_seq (Ok_block (rg G ?_))))
       obtain ⟨r5, h7, p⟩ := obind p
       refine rs G (hC 3 (zq30_cR h7) h0) ?_
       refine jn p (fun v5 => ⟨[(2, .ref 16 0), (6, .ref 32 0), (7, .own 48), (8, dV want), (9, dV v), (10, .ref 64 0), (11, dV v3), (28, dV (t.Trips.length : Int)), (29, dV v), (47, dV (t.Trips.length : Int)), (48, dV v3), (64, dV v5)], [bX 16 63 [dV t.Network.Stops, dV t.Network.Lines, dV t.Trips], bX 32 220 [dV t.Network.Stops, dV t.Network.Lines, dV t.Trips, dV f.Dead, dV f.Turn, .own 80], aX 48 3 (i.set v.toNat (-1)), bX 64 222 [dV r.1.count_, dV r.1.dead_], mX 80 218 r5.2.2], 112⟩) (fun v5 p => ?_) ?_
       ·rcases bf p with ⟨hb2, p⟩ | ⟨hb2, p⟩
        ·obtain ⟨r6, h8, p⟩ := obind p
         refine re G (hO 1 (.b true) (hP hb2 (hC 4 (zq17_M.c (_, _) h8) h0))) ?_
         exact wJ G p
        ·refine re G (hO 1 (.b false) (hP hb2 h0)) ?_
         exact wJ G p
       rintro v5 p
       refine cd p ?_ ?_ <;> intro p
       ·obtain ⟨e1, h9, p⟩ := obind p
        refine rs G (hD 3 h9 (hS 4 h9 v3 h0)) ?_
        obtain ⟨u1, h10, p⟩ := obind p
        refine rs G (hK h10 h0) ?_
        exact Ok_exit (ibX rfl (thE (thE (ibE (wD G p hb1)))))
       ·exact X_skip (ibN (thN (rh G (wL G p))))
      ·exact Ok_exit (thE (thE (ibE (wD G p hb1))))
     rintro ⟨want2, i2, v6⟩ p s hw
     exact ibN (wJp p (Wk.trans hw (Wk_J G.hL ⟨[(2, []), (6, []), (7, []), (8, []), (28, []), (29, [])], [(16, 16, []), (32, 32, []), (48, 48, []), (64, 64, [])], [], 96⟩ (by kernel_rfl))))
   rintro ⟨want1, i1, v2⟩ p
   exact rh G (wL G p)
  ·exact Ok_exit (thE (thE (ibE (wD G p hb))))
 rintro ⟨i3, v7⟩ p s1 hw1
 refine thN (Ok_weak hw1 ?_)
 refine rg G (Ok_seq (rs G (hN 2 t.Trips h0) ?_))
 refine tl p (fun block2 => ⟨[(6, .ref 16 0), (14, .own 32)], [bX 16 220 [dV t.Network.Stops, dV t.Network.Lines, dV t.Trips, dV f.Dead, dV f.Turn, .own 48], aX 32 24 block2, mX 48 218 v7], 80⟩) (fun block2 p => ?_) ?_
 ·refine Ok_block (lpP p (fun (v8, block) => ⟨[(2, .ref 16 0), (6, .ref 32 0), (7, .own 48), (14, .own 64), (77, dV (t.Trips.length : Int)), (78, dV v8)], [bX 16 63 [dV t.Network.Stops, dV t.Network.Lines, dV t.Trips], bX 32 220 [dV t.Network.Stops, dV t.Network.Lines, dV t.Trips, dV f.Dead, dV f.Turn, .own 80], aX 48 3 i3, aX 64 24 block, mX 80 218 v7], 112⟩) (Wk_J G.hL ⟨[(2, []), (6, []), (7, []), (14, [.o 64]), (77, []), (78, [])], [(16, 16, []), (32, 32, []), (48, 48, []), (80, 64, [])], [(64, 24, 1, [])], 112⟩ (by kernel_rfl)) ?_)
  rintro ⟨v8, block⟩ r0 hb3 p
  rw [zq32_L4] at p
  refine rg G (Ok_seq (cd p ?_ ?_)) <;> intro p
  ·refine X_skip (thN (jn p (fun block1 => ⟨[(2, .ref 16 0), (6, .ref 32 0), (7, .own 48), (14, .own 64), (77, dV (t.Trips.length : Int)), (78, dV v8)], [bX 16 63 [dV t.Network.Stops, dV t.Network.Lines, dV t.Trips], bX 32 220 [dV t.Network.Stops, dV t.Network.Lines, dV t.Trips, dV f.Dead, dV f.Turn, .own 80], aX 48 3 i3, aX 64 24 block1, mX 80 218 v7], 112⟩) (fun block1 p => ?_) ?_))
   ·refine Ok_block (rg G (Ok_seq ?_))
    obtain ⟨e2, h11, p⟩ := obind p
    refine rs G (hD 2 h11 (hE 3 h11 h0)) ?_
    refine cd p ?_ ?_ <;> intro p
    ·exact Ok_exit (thE (ibE (wJ G p)))
    ·refine X_skip (thN (rg G (Ok_seq (rg G (tl p (fun v11 => ⟨[(2, .ref 16 0), (6, .ref 32 0), (7, .own 48), (14, .own 64), (16, .own 80), (77, dV (t.Trips.length : Int)), (78, dV v8)], [bX 16 63 [dV t.Network.Stops, dV t.Network.Lines, dV t.Trips], bX 32 220 [dV t.Network.Stops, dV t.Network.Lines, dV t.Trips, dV f.Dead, dV f.Turn, .own 96], aX 48 3 i3, aX 64 24 block, aX 80 3 v11, mX 96 218 v7], 128⟩) (fun v11 p => ?_) ?_)))))
     ·refine Ok_block (lpP p (fun (v9, v10) => ⟨[(2, .ref 16 0), (6, .ref 32 0), (7, .own 48), (14, .own 64), (16, .own 80), (17, dV v9), (77, dV (t.Trips.length : Int)), (78, dV v8)], [bX 16 63 [dV t.Network.Stops, dV t.Network.Lines, dV t.Trips], bX 32 220 [dV t.Network.Stops, dV t.Network.Lines, dV t.Trips, dV f.Dead, dV f.Turn, .own 96], aX 48 3 i3, aX 64 24 block, aX 80 3 v10, mX 96 218 v7], 128⟩) (Wk_J G.hL ⟨[(2, []), (6, []), (7, []), (14, []), (16, [.o 80]), (17, []), (77, []), (78, [])], [(16, 16, []), (32, 32, []), (48, 48, []), (64, 64, []), (96, 80, [])], [(80, 3, 1, [])], 128⟩ (by kernel_rfl)) ?_)
      rintro ⟨v9, v10⟩ r0 hb4 p
      rw [zq32_L3] at p
      refine Ok_seq (rg G (cd p ?_ ?_)) <;> intro p
      ·refine X_skip (thN (Ok_seq (Ok_block ?_)))
       obtain ⟨e3, h12, u2, h13, p⟩ := ob2 p
       refine re G (hD 4 h12 (hA 8 8 h13 h0)) ?_
       refine ibN (thN ?_)
       obtain ⟨r7, h14, p⟩ := obind p
       refine re G (hC 2 (zq93_M.c (_, _) h14) h0) ?_
       exact wL G p
      ·exact Ok_exit (thE (thE (ibE (wD G p hb4))))
     rintro v11 p s2 hw2
     refine thN (Ok_weak hw2 ?_)
     obtain ⟨u3, h15, p⟩ := obind p
     refine re G (hO 2 (.fz [80] [] []) (hA 3 24 h15 h0)) ?_
     exact ibN (wJ G p)
   rintro block1 p
   exact rh G (wL G p)
  ·exact Ok_exit (thE (thE (ibE (wD G p hb3))))
 rintro block2 p s3 hw3
 refine thN (Ok_weak hw3 ?_)
 obtain ⟨r8, h16, p⟩ := obind p
 refine rs G (hC 1 (zq31_c h16) h0) ?_
 cases p
 exact rt [32] []
noncomputable def zq11_M : MS (Timetable × Fleet) ((List (List Int)) × Int × Bool) := ⟨.x .r .r, fun x => zq11 x.1 x.2, fun y => .tup [dV y.1, dV y.2.1, dV y.2.2], fun _ => [], fun _ _ => []⟩
theorem zq11_ok : FnOK Try.prog tJ 36 zq11_M.S := by
 refine fm tt zq11_M [fo zq24_ok, fo zq32_ok] call36 func36 rfl results36 ntmps36 ?_
 rintro ⟨t, f⟩ y cx G (p : zq11 t f = some y)
 unfold zq11 at p
 refine rg G (Ok_seq ?_)
 obtain ⟨r, h, p⟩ := obind p
 refine rs G (hC 2 (zq24_M.c (_, _) h) h0) ?_
 refine cd p ?_ ?_ <;> intro p
 ·refine rg G ?_
  cases p
  exact rt [] [[.z 1]]
 ·refine X_skip (thN ?_)
  obtain ⟨r1, h1, p⟩ := obind p
  refine rs G (hC 2 (zq32_M.c (_, _) h1) h0) ?_
  refine rg G ?_
  cases p
  exact rt [] []
noncomputable def zq67_M : MS (Int × Int × Int) Bool := ⟨.x .r (.x .r .r), fun x => zq67 x.1 x.2.1 x.2.2, fun y => dV y, fun _ => [], fun _ _ => []⟩
theorem zq67_c {x a b y} (p : zq67 x a b = some y) : zq67_M.C (x, a, b) y := zq67_M.c (x, a, b) p
theorem zq67_ok : FnOK Try.prog tJ 146 zq67_M.S := by
 refine fm tt zq67_M [] call146 func146 rfl results146 ntmps146 ?_
 rintro ⟨x, a, b⟩ y cx G (p : zq67 x a b = some y)
 unfold zq67 at p
 refine rg G (jn p (fun v => ⟨[(6, dV v)], [], 32⟩) (fun v p => ?_) ?_)
 ·rcases bf p with ⟨hb, p⟩ | ⟨hb, p⟩
  ·refine re G (hO 3 (.b true) (hP hb h0)) ?_
   exact wJ G p
  ·refine re G (hO 3 (.b false) (hP hb h0)) ?_
   exact wJ G p
 rintro v p
 cases p
 exact rt [] []
noncomputable def zq79_M : MS ByteArray Bool := ⟨.r, zq79, fun y => dV y, fun _ => [], fun _ _ => []⟩
theorem zq79_ok : FnOK Try.prog tJ 202 zq79_M.S := by
 refine fm tt zq79_M [fo zq67_ok] call202 func202 rfl results202 ntmps202 ?_
 rintro s y cx G (p : zq79 s = some y)
 unfold zq79 at p
 refine rg G (Ok_seq ?_)
 obtain ⟨r, h, p⟩ := obind p
 refine jn p (fun v => ⟨[(0, dV s), (17, dV v)], [], 32⟩) (fun v p => ?_) ?_
 ·rcases bf p with ⟨hb, p⟩ | ⟨hb, p⟩
  ·refine re G (hC 2 (zq67_c h) (hO 4 (.b true) (hP hb h0))) ?_
   exact wJ G p
  ·obtain ⟨u, h1, p⟩ := obind p
   rcases bf p with ⟨hb1, p⟩ | ⟨hb1, p⟩
   ·refine re G (hC 2 (zq67_c h) (hO 4 (.b false) (hP hb (hK h1 (hO 9 (.b true) (hP hb1 h0)))))) ?_
    exact wJ G p
   ·obtain ⟨u1, h2, p⟩ := obind p
    refine re G (hC 2 (zq67_c h) (hO 4 (.b false) (hP hb (hK h1 (hO 9 (.b false) (hP hb1 (hK h2 h0))))))) ?_
    exact wJ G p
 rintro v p
 refine cd p ?_ ?_ <;> intro p
 ·refine rg G ?_
  cases p
  exact rt [] []
 ·refine X_skip (thN (Ok_seq (rg G (tF p (fun _ => ⟨[], [], 32⟩) (fun v3 hr p => ?_) ?_))))
  ·refine Ok_block (lp G p (fun v1 => ⟨[(0, dV s), (3, dV v1)], [], 32⟩) ?_)
   rintro v1 r0 hb2 p
   rw [zq79_L1] at p
   refine Ok_seq (rg G (cd p ?_ ?_)) <;> intro p
   ·refine X_skip (thN (Ok_seq (Ok_block ?_)))
    obtain ⟨u2, h3, p⟩ := obind p
    refine jn p (fun v2 => ⟨[(0, dV s), (3, dV v1), (45, dV v2)], [], 32⟩) (fun v2 p => ?_) ?_
    ·rcases bf p with ⟨hb3, p⟩ | ⟨hb3, p⟩
     ·obtain ⟨u3, h4, p⟩ := obind p
      rcases bf p with ⟨hb4, p⟩ | ⟨hb4, p⟩
      ·refine re G (hK h3 (hO 4 (.b true) (hP hb3 (hK h4 (hO 15 (.b true) (hP hb4 h0)))))) ?_
       exact wJ G p
      ·obtain ⟨u4, h5, p⟩ := obind p
       refine re G (hK h3 (hO 4 (.b true) (hP hb3 (hK h4 (hO 15 (.b false) (hP hb4 (hK h5 h0))))))) ?_
       exact wJ G p
     ·obtain ⟨u5, h6, p⟩ := obind p
      rcases bf p with ⟨hb5, p⟩ | ⟨hb5, p⟩
      ·obtain ⟨u6, h7, p⟩ := obind p
       rcases bf p with ⟨hb6, p⟩ | ⟨hb6, p⟩
       ·refine re G (hK h3 (hO 4 (.b false) (hP hb3 (hK h6 (hO 10 (.b true) (hP hb5 (hK h7 (hO 15 (.b true) (hP hb6 h0))))))))) ?_
        exact wJ G p
       ·obtain ⟨u7, h8, p⟩ := obind p
        refine re G (hK h3 (hO 4 (.b false) (hP hb3 (hK h6 (hO 10 (.b true) (hP hb5 (hK h7 (hO 15 (.b false) (hP hb6 (hK h8 h0)))))))))) ?_
        exact wJ G p
      ·refine re G (hK h3 (hO 4 (.b false) (hP hb3 (hK h6 (hO 10 (.b false) (hP hb5 h0)))))) ?_
       exact wJ G p
    rintro v2 p
    refine cd p ?_ ?_ <;> intro p
    ·refine rg G ?_
     have p := eL p hb2 hr
     cases p
     exact rt [] []
    ·exact X_skip (ibN (thN (rh G (wL G p))))
   ·exact Ok_exit (thE (thE (ibE (wE G p hb2))))
  rintro ⟨⟩ p s1 hw
  refine thN (Ok_weak hw ?_)
  refine rg G ?_
  cases p
  exact rt [] []
noncomputable def zq75_M : MS ((List ByteArray) × ByteArray) Int := ⟨.x .r .r, fun x => zq75 x.1 x.2, fun y => dV y, fun _ => [], fun _ _ => []⟩
theorem zq75_ok : FnOK Try.prog tJ 203 zq75_M.S := by
 refine fm tt zq75_M [] call203 func203 rfl results203 ntmps203 ?_
 rintro ⟨list, name⟩ y cx G (p : zq75 list name = some y)
 unfold zq75 at p
 refine rg G (Ok_seq (rg G (tF p (fun _ => ⟨[], [], 32⟩) (fun v1 hr p => ?_) ?_)))
 ·refine Ok_block (lp G p (fun v => ⟨[(0, dV list), (1, dV name), (5, dV v)], [], 32⟩) ?_)
  rintro v r0 hb p
  rw [zq75_L1] at p
  refine Ok_seq (rs G (hN 2 list h0) ?_)
  refine cd p ?_ ?_ <;> intro p
  ·refine X_skip (thN (Ok_seq (Ok_block ?_)))
   obtain ⟨e, h, p⟩ := obind p
   refine rs G (hD 2 h h0) ?_
   refine cd p ?_ ?_ <;> intro p
   ·refine rg G ?_
    have p := eL p hb hr
    cases p
    exact rt [] []
   ·exact X_skip (ibN (thN (rh G (wL G p))))
  ·exact Ok_exit (thE (thE (ibE (wE G p hb))))
 rintro ⟨⟩ p s hw
 refine thN (Ok_weak hw ?_)
 refine rg G ?_
 cases p
 exact rt [] []
noncomputable def zq77_M : MS (Line × Int) Bool := ⟨.x .r .r, fun x => zq77 x.1 x.2, fun y => dV y, fun _ => [], fun _ _ => []⟩
theorem zq77_ok : FnOK Try.prog tJ 204 zq77_M.S := by
 refine fm tt zq77_M [fo zq79_ok, fo zq67_ok, fo zq82_ok] call204 func204 rfl results204 ntmps204 ?_
 rintro ⟨x, stops⟩ y cx G (p : zq77 x stops = some y)
 unfold zq77 at p
 refine rg G (Ok_seq ?_)
 obtain ⟨r, h, p⟩ := obind p
 refine jn p (fun v => ⟨[(1, dV stops), (2, .ref 16 0), (27, dV v)], [bX 16 194 [dV x.Name, dV x.Stops, dV x.Runs]], 48⟩) (fun v p => ?_) ?_
 ·rcases bf p with ⟨hb, p⟩ | ⟨hb, p⟩
  ·refine re G (hC 2 (zq79_M.c _ h) (hO 4 (.b true) (hP hb h0))) ?_
   exact wJ G p
  ·obtain ⟨r1, h1, p⟩ := obind p
   rcases bf p with ⟨hb1, p⟩ | ⟨hb1, p⟩
   ·refine re G (hC 2 (zq79_M.c _ h) (hO 4 (.b false) (hP hb (hN 7 x.Stops (hC 8 (zq67_c h1) (hO 11 (.b true) (hP hb1 h0))))))) ?_
    exact wJ G p
   ·refine re G (hC 2 (zq79_M.c _ h) (hO 4 (.b false) (hP hb (hN 7 x.Stops (hC 8 (zq67_c h1) (hO 11 (.b false) (hP hb1 (hN 14 x.Runs (hN 17 x.Stops h0))))))))) ?_
    exact wJ G p
 rintro v p
 refine cd p ?_ ?_ <;> intro p
 ·refine rg G ?_
  cases p
  exact rt [] []
 ·refine X_skip (thN (Ok_seq (rg G (tF p (fun _ => ⟨[(2, .ref 16 0)], [bX 16 194 [dV x.Name, dV x.Stops, dV x.Runs]], 48⟩) (fun v5 hr p => ?_) ?_))))
  ·refine Ok_block (lp G p (fun v1 => ⟨[(1, dV stops), (2, .ref 16 0), (5, dV v1)], [bX 16 194 [dV x.Name, dV x.Stops, dV x.Runs]], 48⟩) ?_)
   rintro v1 r0 hb2 p
   rw [zq77_L1] at p
   refine Ok_seq (rs G (hN 3 x.Stops h0) ?_)
   refine cd p ?_ ?_ <;> intro p
   ·refine X_skip (thN (Ok_seq (Ok_block ?_)))
    obtain ⟨e2, h6, r4, h7, p⟩ := ob2 p
    refine jn p (fun v2 => ⟨[(1, dV stops), (2, .ref 16 0), (5, dV v1), (54, dV v2)], [bX 16 194 [dV x.Name, dV x.Stops, dV x.Runs]], 48⟩) (fun v2 p => ?_) ?_
    ·rcases bf p with ⟨hb3, p⟩ | ⟨hb3, p⟩
     ·refine de G [] (hD 3 h6 (hC 7 (zq67_c h7) (hO 9 (.b true) (hP hb3 h0)))) ?_
      exact wJ G p
     ·obtain ⟨e3, h8, r5, h9, p⟩ := ob2 p
      refine de G [] (hD 3 h6 (hC 7 (zq67_c h7) (hO 9 (.b false) (hP hb3 (hD 14 h8 (hC 16 (zq82_M.c (_, _) h9) h0)))))) ?_
      exact wJ G p
    rintro v2 p
    refine cd p ?_ ?_ <;> intro p
    ·refine rg G ?_
     have p := eL p hb2 hr
     cases p
     exact rt [] []
    ·exact X_skip (ibN (thN (rh G (wL G p))))
   ·exact Ok_exit (thE (thE (ibE (wE G p hb2))))
  rintro ⟨⟩ p s hw
  refine thN (Ok_weak hw ?_)
  refine Ok_seq (rg G (tF p (fun _ => ⟨[], [], 32⟩) (fun v4 hr1 p => ?_) ?_))
  ·refine Ok_block (lp G p (fun v3 => ⟨[(2, .ref 16 0), (6, dV v3)], [bX 16 194 [dV x.Name, dV x.Stops, dV x.Runs]], 48⟩) ?_)
   rintro v3 r0 hb4 p
   rw [zq77_L2] at p
   refine Ok_seq (rs G (hN 3 x.Runs h0) ?_)
   refine cd p ?_ ?_ <;> intro p
   ·refine X_skip (thN (Ok_seq (Ok_block ?_)))
    obtain ⟨e5, h10, r7, h11, p⟩ := ob2 p
    refine rs G (hD 3 h10 (hC 5 (zq67_c h11) h0)) ?_
    refine cd p ?_ ?_ <;> intro p
    ·refine rg G ?_
     have p := eL p hb4 hr1
     cases p
     exact rt [] []
    ·exact X_skip (ibN (thN (rh G (wL G p))))
   ·exact Ok_exit (thE (thE (ibE (wE G p hb4))))
  rintro ⟨⟩ p s1 hw1
  refine thN (Ok_weak hw1 ?_)
  refine rg G ?_
  cases p
  exact rt [] []
noncomputable def zq78_M : MS (Network × ByteArray) Int := ⟨.x .r .r, fun x => zq78 x.1 x.2, fun y => dV y, fun _ => [], fun _ _ => []⟩
theorem zq78_c {n name y} (p : zq78 n name = some y) : zq78_M.C (n, name) y := zq78_M.c (n, name) p
theorem zq78_ok : FnOK Try.prog tJ 205 zq78_M.S := by
 refine fm tt zq78_M [] call205 func205 rfl results205 ntmps205 ?_
 rintro ⟨n, name⟩ y cx G (p : zq78 n name = some y)
 unfold zq78 at p
 refine rg G (Ok_seq (rg G (tF p (fun _ => ⟨[], [], 32⟩) (fun v1 hr p => ?_) ?_)))
 ·refine Ok_block (lp G p (fun v => ⟨[(1, dV name), (2, .ref 16 0), (5, dV v)], [bX 16 60 [dV n.Stops, dV n.Lines]], 48⟩) ?_)
  rintro v r0 hb p
  rw [zq78_L1] at p
  refine Ok_seq (rs G (hN 3 n.Lines h0) ?_)
  refine cd p ?_ ?_ <;> intro p
  ·refine X_skip (thN (Ok_seq (Ok_block ?_)))
   obtain ⟨e, h, p⟩ := obind p
   refine rs G (hD 3 h h0) ?_
   refine cd p ?_ ?_ <;> intro p
   ·refine rg G ?_
    have p := eL p hb hr
    cases p
    exact rt [] []
   ·exact X_skip (ibN (thN (rh G (wL G p))))
  ·exact Ok_exit (thE (thE (ibE (wE G p hb))))
 rintro ⟨⟩ p s hw
 refine thN (Ok_weak hw ?_)
 refine rg G ?_
 cases p
 exact rt [] []
noncomputable def zq76_M : MS Network Bool := ⟨.r, zq76, fun y => dV y, fun _ => [], fun _ _ => []⟩
theorem zq76_ok : FnOK Try.prog tJ 158 zq76_M.S := by
 refine fm tt zq76_M [fo zq67_ok, fo zq79_ok, fo zq75_ok, fo zq77_ok, fo zq78_ok] call158 func158 rfl results158 ntmps158 ?_
 rintro n y cx G (p : zq76 n = some y)
 unfold zq76 at p
 refine rg G (Ok_seq ?_)
 obtain ⟨r, h, p⟩ := obind p
 refine jn p (fun v => ⟨[(1, .ref 16 0), (16, dV v)], [bX 16 60 [dV n.Stops, dV n.Lines]], 48⟩) (fun v p => ?_) ?_
 ·rcases bf p with ⟨hb, p⟩ | ⟨hb, p⟩
  ·refine re G (hN 2 n.Stops (hC 3 (zq67_c h) (hO 5 (.b true) (hP hb h0)))) ?_
   exact wJ G p
  ·obtain ⟨r1, h1, p⟩ := obind p
   refine re G (hN 2 n.Stops (hC 3 (zq67_c h) (hO 5 (.b false) (hP hb (hN 8 n.Lines (hC 9 (zq67_c h1) h0)))))) ?_
   exact wJ G p
 rintro v p
 refine cd p ?_ ?_ <;> intro p
 ·refine rg G ?_
  cases p
  exact rt [] []
 ·refine X_skip (thN (Ok_seq (rg G (tF p (fun _ => ⟨[(1, .ref 16 0)], [bX 16 60 [dV n.Stops, dV n.Lines]], 48⟩) (fun v5 hr p => ?_) ?_))))
  ·refine Ok_block (lp G p (fun i => ⟨[(1, .ref 16 0), (3, dV i)], [bX 16 60 [dV n.Stops, dV n.Lines]], 48⟩) ?_)
   rintro i r0 hb1 p
   rw [zq76_L1] at p
   refine Ok_seq (rs G (hN 3 n.Stops h0) ?_)
   refine cd p ?_ ?_ <;> intro p
   ·refine X_skip (thN (Ok_seq (Ok_block ?_)))
    obtain ⟨e2, h6, r4, h7, p⟩ := ob2 p
    refine jn p (fun v1 => ⟨[(1, .ref 16 0), (3, dV i), (42, dV v1)], [bX 16 60 [dV n.Stops, dV n.Lines]], 48⟩) (fun v1 p => ?_) ?_
    ·rcases bf p with ⟨hb2, p⟩ | ⟨hb2, p⟩
     ·refine de G [] (hD 3 h6 (hC 5 (zq79_M.c _ h7) (hO 7 (.b true) (hP hb2 h0)))) ?_
      exact wJ G p
     ·obtain ⟨e3, h8, r5, h9, p⟩ := ob2 p
      refine de G [] (hD 3 h6 (hC 5 (zq79_M.c _ h7) (hO 7 (.b false) (hP hb2 (hD 13 h8 (hC 15 (zq75_M.c (_, _) h9) h0)))))) ?_
      exact wJ G p
    rintro v1 p
    refine cd p ?_ ?_ <;> intro p
    ·refine rg G ?_
     have p := eL p hb1 hr
     cases p
     exact rt [] []
    ·exact X_skip (ibN (thN (rh G (wL G p))))
   ·exact Ok_exit (thE (thE (ibE (wE G p hb1))))
  rintro ⟨⟩ p s hw
  refine thN (Ok_weak hw ?_)
  refine Ok_seq (rg G (tF p (fun _ => ⟨[], [], 32⟩) (fun v4 hr1 p => ?_) ?_))
  ·refine Ok_block (lp G p (fun v2 => ⟨[(1, .ref 16 0), (4, dV v2)], [bX 16 60 [dV n.Stops, dV n.Lines]], 48⟩) ?_)
   rintro v2 r0 hb3 p
   rw [zq76_L2] at p
   refine Ok_seq (rs G (hN 3 n.Lines h0) ?_)
   refine cd p ?_ ?_ <;> intro p
   ·refine X_skip (thN (Ok_seq (Ok_block ?_)))
    obtain ⟨e7, h14, r9, h15, p⟩ := ob2 p
    refine jn p (fun v3 => ⟨[(1, .ref 16 0), (4, dV v2), (71, dV v3)], [bX 16 60 [dV n.Stops, dV n.Lines]], 48⟩) (fun v3 p => ?_) ?_
    ·rcases bf p with ⟨hb4, p⟩ | ⟨hb4, p⟩
     ·refine de G [] (hD 3 h14 (hN 7 n.Stops (hC 8 (zq77_M.c (_, _) h15) (hO 10 (.b true) (hP hb4 h0))))) ?_
      exact wJ G p
     ·obtain ⟨e8, h16, r10, h17, p⟩ := ob2 p
      refine de G [] (hD 3 h14 (hN 7 n.Stops (hC 8 (zq77_M.c (_, _) h15) (hO 10 (.b false) (hP hb4 (hD 15 h16 (hC 18 (zq78_c h17) h0))))))) ?_
      exact wJ G p
    rintro v3 p
    refine cd p ?_ ?_ <;> intro p
    ·refine rg G ?_
     have p := eL p hb3 hr1
     cases p
     exact rt [] []
    ·exact X_skip (ibN (thN (rh G (wL G p))))
   ·exact Ok_exit (thE (thE (ibE (wE G p hb3))))
  rintro ⟨⟩ p s1 hw1
  refine thN (Ok_weak hw1 ?_)
  refine rg G ?_
  cases p
  exact rt [] []
noncomputable def zq84_M : MS Int Bool := ⟨.r, zq84, fun y => dV y, fun _ => [], fun _ _ => []⟩
theorem zq84_c {t y} (p : zq84 t = some y) : zq84_M.C t y := zq84_M.c t p
theorem zq84_ok : FnOK Try.prog tJ 159 zq84_M.S := by
 refine fm tt zq84_M [fo zq67_ok] call159 func159 rfl results159 ntmps159 ?_
 rintro t y cx G (p : zq84 t = some y)
 unfold zq84 at p
 refine rg G ?_
 obtain ⟨r, h, p⟩ := obind p
 refine rs G (hC 1 (zq67_c h) h0) ?_
 cases p
 exact rt [] []
noncomputable def zq89_M : MS (Timetable × Int) Line := ⟨.x .r .r, fun x => zq89 x.1 x.2, fun y => dV y, fun _ => [], fun _ _ => []⟩
theorem zq89_ok : FnOK Try.prog tJ 232 zq89_M.S := by
 refine fm tt zq89_M [] call232 func232 rfl results232 ntmps232 ?_
 rintro ⟨t, i⟩ y cx G (p : zq89 t i = some y)
 unfold zq89 at p
 refine rg G ?_
 obtain ⟨e2, h2, e3, h3, p⟩ := ob2 p
 refine ds G [(11, [32])] (hD 6 h2 (hD 9 h3 h0)) ?_
 cases p
 exact rt [] []
noncomputable def zq90_M : MS (Timetable × Int) ((List Int)) := ⟨.x .r .r, fun x => zq90 x.1 x.2, fun y => dV y, fun _ => [], fun _ _ => []⟩
theorem zq90_ok : FnOK Try.prog tJ 207 zq90_M.S := by
 refine fm tt zq90_M [fo zq89_ok] call207 func207 rfl results207 ntmps207 ?_
 rintro ⟨t, i⟩ y cx G (p : zq90 t i = some y)
 unfold zq90 at p
 refine rg G ?_
 obtain ⟨r, h, p⟩ := obind p
 refine rs G (hC 2 (zq89_M.c (_, _) h) h0) ?_
 cases p
 exact rt [] []
noncomputable def zq83_M : MS (Line × Int × Int) Int := ⟨.x .r (.x .r .r), fun x => zq83 x.1 x.2.1 x.2.2, fun y => dV y, fun _ => [], fun _ _ => []⟩
theorem zq83_c {x from_ to_ y} (p : zq83 x from_ to_ = some y) : zq83_M.C (x, from_, to_) y := zq83_M.c (x, from_, to_) p
theorem zq83_ok : FnOK Try.prog tJ 199 zq83_M.S := by
 refine fm tt zq83_M [] call199 func199 rfl results199 ntmps199 ?_
 rintro ⟨x, from_, to_⟩ y cx G (p : zq83 x from_ to_ = some y)
 unfold zq83 at p
 refine rg G (rg G (Ok_seq (rg G (tl p (fun v2 => ⟨[(7, dV v2)], [], 32⟩) (fun v2 p => ?_) ?_))))
 ·refine Ok_block (lp G p (fun (v, v1) => ⟨[(2, dV to_), (3, .ref 16 0), (7, dV v), (8, dV v1)], [bX 16 194 [dV x.Name, dV x.Stops, dV x.Runs]], 48⟩) ?_)
  rintro ⟨v, v1⟩ r0 hb p
  rw [zq83_L1] at p
  refine Ok_seq (rg G (cd p ?_ ?_)) <;> intro p
  ·refine X_skip (thN (Ok_seq (Ok_block ?_)))
   obtain ⟨e, h, p⟩ := obind p
   refine re G (hD 4 h h0) ?_
   exact ibN (thN (rh G (wL G p)))
  ·exact Ok_exit (thE (thE (ibE (wD G p hb))))
 rintro v2 p s hw
 refine thN (Ok_weak hw ?_)
 refine rg G ?_
 cases p
 exact rt [] []
noncomputable def zq85_M : MS (Timetable × Int × Int) Int := ⟨.x .r (.x .r .r), fun x => zq85 x.1 x.2.1 x.2.2, fun y => dV y, fun _ => [], fun _ _ => []⟩
theorem zq85_ok : FnOK Try.prog tJ 206 zq85_M.S := by
 refine fm tt zq85_M [fo zq89_ok, fo zq83_ok] call206 func206 rfl results206 ntmps206 ?_
 rintro ⟨t, i, k⟩ y cx G (p : zq85 t i k = some y)
 unfold zq85 at p
 refine rg G ?_
 obtain ⟨e1, h3, r2, h4, r3, h5, p⟩ := ob3 p
 refine ds G [] (hD 3 h3 (hC 8 (zq89_M.c (_, _) h4) (hC 10 (zq83_c h5) h0))) ?_
 cases p
 exact rt [] []
noncomputable def zq86_M : MS (Timetable × Int) Int := ⟨.x .r .r, fun x => zq86 x.1 x.2, fun y => dV y, fun _ => [], fun _ _ => []⟩
theorem zq86_ok : FnOK Try.prog tJ 160 zq86_M.S := by
 refine fm tt zq86_M [fo zq90_ok, fo zq85_ok] call160 func160 rfl results160 ntmps160 ?_
 rintro ⟨t, i⟩ y cx G (p : zq86 t i = some y)
 unfold zq86 at p
 refine rg G ?_
 obtain ⟨r2, h2, r3, h3, p⟩ := ob2 p
 refine ds G [] (hC 4 (zq90_M.c (_, _) h2) (hN 5 r2 (hC 7 (zq85_M.c (_, _, _) h3) h0))) ?_
 cases p
 exact rt [] []
noncomputable def zq88_M : MS Timetable Bool := ⟨.r, zq88, fun y => dV y, fun _ => [], fun _ _ => []⟩
theorem zq88_ok : FnOK Try.prog tJ 94 zq88_M.S := by
 refine fm tt zq88_M [fo zq76_ok, fo zq67_ok, fo zq84_ok, fo zq86_ok] call94 func94 rfl results94 ntmps94 ?_
 rintro t y cx G (p : zq88 t = some y)
 unfold zq88 at p
 refine rg G (Ok_seq ?_)
 obtain ⟨r, h, p⟩ := obind p
 refine jn p (fun v => ⟨[(1, .ref 16 0), (14, dV v)], [bX 16 63 [dV t.Network.Stops, dV t.Network.Lines, dV t.Trips]], 48⟩) (fun v p => ?_) ?_
 ·rcases bf p with ⟨hb, p⟩ | ⟨hb, p⟩
  ·refine re G (hC 2 (zq76_M.c _ h) (hO 4 (.b true) (hP hb h0))) ?_
   exact wJ G p
  ·refine re G (hC 2 (zq76_M.c _ h) (hO 4 (.b false) (hP hb (hN 7 t.Trips h0)))) ?_
   exact wJ G p
 rintro v p
 refine cd p ?_ ?_ <;> intro p
 ·refine rg G ?_
  cases p
  exact rt [] []
 ·refine X_skip (thN (Ok_seq (rg G (tF p (fun _ => ⟨[], [], 32⟩) (fun v2 hr p => ?_) ?_))))
  ·refine Ok_block (lp G p (fun x => ⟨[(1, .ref 16 0), (3, dV x)], [bX 16 63 [dV t.Network.Stops, dV t.Network.Lines, dV t.Trips]], 48⟩) ?_)
   rintro x r0 hb1 p
   rw [zq88_L1] at p
   refine Ok_seq (rs G (hN 3 t.Trips h0) ?_)
   refine cd p ?_ ?_ <;> intro p
   ·refine X_skip (thN (Ok_seq (Ok_block ?_)))
    obtain ⟨e, h1, p⟩ := obind p
    refine rs G (hD 3 h1 h0) ?_
    obtain ⟨r6, h8, p⟩ := obind p
    refine jn p (fun v1 => ⟨[(1, .ref 16 0), (3, dV x), (70, dV v1)], [bX 16 63 [dV t.Network.Stops, dV t.Network.Lines, dV t.Trips]], 48⟩) (fun v1 p => ?_) ?_
    ·rcases bf p with ⟨hb2, p⟩ | ⟨hb2, p⟩
     ·refine de G [] (hC 2 (zq67_c h8) (hO 4 (.b true) (hP hb2 h0))) ?_
      exact wJ G p
     ·obtain ⟨r7, h9, p⟩ := obind p
      rcases bf p with ⟨hb3, p⟩ | ⟨hb3, p⟩
      ·refine de G [] (hC 2 (zq67_c h8) (hO 4 (.b false) (hP hb2 (hN 10 t.Network.Lines (hC 12 (zq67_c h9) (hO 15 (.b true) (hP hb3 h0))))))) ?_
       exact wJ G p
      ·obtain ⟨r8, h10, p⟩ := obind p
       rcases bf p with ⟨hb4, p⟩ | ⟨hb4, p⟩
       ·refine de G [] (hC 2 (zq67_c h8) (hO 4 (.b false) (hP hb2 (hN 10 t.Network.Lines (hC 12 (zq67_c h9) (hO 15 (.b false) (hP hb3 (hC 18 (zq84_c h10) (hO 21 (.b true) (hP hb4 h0)))))))))) ?_
        exact wJ G p
       ·obtain ⟨r9, h11, r10, h12, p⟩ := ob2 p
        rcases bf p with ⟨hb5, p⟩ | ⟨hb5, p⟩
        ·refine de G [] (hC 2 (zq67_c h8) (hO 4 (.b false) (hP hb2 (hN 10 t.Network.Lines (hC 12 (zq67_c h9) (hO 15 (.b false) (hP hb3 (hC 18 (zq84_c h10) (hO 21 (.b false) (hP hb4 (hC 24 (zq86_M.c (_, _) h11) (hC 25 (zq84_c h12) (hO 28 (.b true) (hP hb5 h0)))))))))))))) ?_
         exact wJ G p
        ·rcases bf p with ⟨hb6, p⟩ | ⟨hb6, p⟩
         ·obtain ⟨e2, h13, p⟩ := obind p
          refine de G [] (hC 2 (zq67_c h8) (hO 4 (.b false) (hP hb2 (hN 10 t.Network.Lines (hC 12 (zq67_c h9) (hO 15 (.b false) (hP hb3 (hC 18 (zq84_c h10) (hO 21 (.b false) (hP hb4 (hC 24 (zq86_M.c (_, _) h11) (hC 25 (zq84_c h12) (hO 28 (.b false) (hP hb5 (hO 31 (.b true) (hP hb6 (hD 36 h13 h0))))))))))))))))) ?_
          exact wJ G p
         ·refine de G [] (hC 2 (zq67_c h8) (hO 4 (.b false) (hP hb2 (hN 10 t.Network.Lines (hC 12 (zq67_c h9) (hO 15 (.b false) (hP hb3 (hC 18 (zq84_c h10) (hO 21 (.b false) (hP hb4 (hC 24 (zq86_M.c (_, _) h11) (hC 25 (zq84_c h12) (hO 28 (.b false) (hP hb5 (hO 31 (.b false) (hP hb6 h0)))))))))))))))) ?_
          exact wJ G p
    rintro v1 p
    refine cd p ?_ ?_ <;> intro p
    ·refine rg G ?_
     have p := eL p hb1 hr
     cases p
     exact rt [] []
    ·exact X_skip (ibN (thN (rh G (wL G p))))
   ·exact Ok_exit (thE (thE (ibE (wE G p hb1))))
  rintro ⟨⟩ p s hw
  refine thN (Ok_weak hw ?_)
  refine rg G ?_
  cases p
  exact rt [] []
noncomputable def zq47_M : MS (Network × Fleet) Bool := ⟨.x .r .r, fun x => zq47 x.1 x.2, fun y => dV y, fun _ => [], fun _ _ => []⟩
theorem zq47_ok : FnOK Try.prog tJ 182 zq47_M.S := by
 refine fm tt zq47_M [fo zq76_ok, fo zq67_ok] call182 func182 rfl results182 ntmps182 ?_
 rintro ⟨n, f⟩ y cx G (p : zq47 n f = some y)
 unfold zq47 at p
 refine rg G (Ok_seq ?_)
 obtain ⟨r, h, p⟩ := obind p
 refine jn p (fun v => ⟨[(2, .ref 16 0), (3, .ref 32 0), (24, dV v)], [bX 16 60 [dV n.Stops, dV n.Lines], bX 32 77 [dV f.Dead, dV f.Turn]], 64⟩) (fun v p => ?_) ?_
 ·rcases bf p with ⟨hb, p⟩ | ⟨hb, p⟩
  ·refine re G (hC 1 (zq76_M.c _ h) (hO 3 (.b true) (hP hb h0))) ?_
   exact wJ G p
  ·rcases bf p with ⟨hb1, p⟩ | ⟨hb1, p⟩
   ·refine re G (hC 1 (zq76_M.c _ h) (hO 3 (.b false) (hP hb (hN 6 f.Dead (hN 9 n.Stops (hO 12 (.b true) (hP hb1 h0))))))) ?_
    exact wJ G p
   ·obtain ⟨r1, h1, p⟩ := obind p
    refine re G (hC 1 (zq76_M.c _ h) (hO 3 (.b false) (hP hb (hN 6 f.Dead (hN 9 n.Stops (hO 12 (.b false) (hP hb1 (hC 15 (zq67_c h1) h0)))))))) ?_
    exact wJ G p
 rintro v p
 refine cd p ?_ ?_ <;> intro p
 ·refine rg G ?_
  cases p
  exact rt [] []
 ·refine X_skip (thN (Ok_seq (rg G (tF p (fun _ => ⟨[], [], 32⟩) (fun v5 hr p => ?_) ?_))))
  ·refine Ok_block (lp G p (fun v1 => ⟨[(2, .ref 16 0), (3, .ref 32 0), (5, dV v1)], [bX 16 60 [dV n.Stops, dV n.Lines], bX 32 77 [dV f.Dead, dV f.Turn]], 64⟩) ?_)
   rintro v1 r0 hb2 p
   rw [zq47_L2] at p
   refine Ok_seq (rs G (hN 3 f.Dead h0) ?_)
   refine cd p ?_ ?_ <;> intro p
   ·refine X_skip (thN (Ok_seq (Ok_block (Ok_seq ?_))))
    obtain ⟨e3, h5, p⟩ := obind p
    refine jn p (fun v2 => ⟨[(2, .ref 16 0), (3, .ref 32 0), (5, dV v1), (52, dV v2)], [bX 16 60 [dV n.Stops, dV n.Lines], bX 32 77 [dV f.Dead, dV f.Turn]], 64⟩) (fun v2 p => ?_) ?_
    ·rcases bf p with ⟨hb3, p⟩ | ⟨hb3, p⟩
     ·refine de G [] (hD 3 h5 (hN 5 e3 (hN 8 n.Stops (hO 10 (.b true) (hP hb3 h0))))) ?_
      exact wJ G p
     ·obtain ⟨e4, h6, e5, h7, p⟩ := ob2 p
      refine de G [] (hD 3 h5 (hN 5 e3 (hN 8 n.Stops (hO 10 (.b false) (hP hb3 (hD 14 h6 (hD 17 h7 h0))))))) ?_
      exact wJ G p
    rintro v2 p
    refine cd p ?_ ?_ <;> intro p
    ·refine rg G ?_
     have p := eL p hb2 hr
     cases p
     exact rt [] []
    ·refine X_skip (thN (rg G (tF p (fun _ => ⟨[(2, .ref 16 0), (3, .ref 32 0), (5, dV v1)], [bX 16 60 [dV n.Stops, dV n.Lines], bX 32 77 [dV f.Dead, dV f.Turn]], 64⟩) (fun v4 hr1 p => ?_) ?_)))
     ·refine Ok_block (lp G p (fun v3 => ⟨[(2, .ref 16 0), (3, .ref 32 0), (5, dV v1), (6, dV v3)], [bX 16 60 [dV n.Stops, dV n.Lines], bX 32 77 [dV f.Dead, dV f.Turn]], 64⟩) ?_)
      rintro v3 r0 hb4 p
      rw [zq47_L1] at p
      refine Ok_seq ?_
      obtain ⟨e7, h8, p⟩ := obind p
      refine rs G (hD 4 h8 (hN 6 e7 h0)) ?_
      refine cd p ?_ ?_ <;> intro p
      ·refine X_skip (thN (Ok_seq (Ok_block ?_)))
       obtain ⟨e8, h9, e9, h10, r3, h11, p⟩ := ob3 p
       refine rs G (hD 3 h9 (hD 6 h10 (hC 8 (zq67_c h11) h0))) ?_
       refine cd p ?_ ?_ <;> intro p
       ·refine rg G ?_
        have p := eL p hb4 hr1
        have p := eL p hb2 hr
        cases p
        exact rt [] []
       ·exact X_skip (ibN (thN (rh G (wL G p))))
      ·exact Ok_exit (thE (thE (ibE (wE G p hb4))))
     rintro ⟨⟩ p s hw
     refine ibN (thN (Ok_weak hw ?_))
     exact rh G (wL G p)
   ·exact Ok_exit (thE (thE (ibE (wE G p hb2))))
  rintro ⟨⟩ p s1 hw1
  refine thN (Ok_weak hw1 ?_)
  refine rg G ?_
  cases p
  exact rt [] []
noncomputable def zq43_M : MS (Timetable × Fleet) Bool := ⟨.x .r .r, fun x => zq43 x.1 x.2, fun y => dV y, fun _ => [], fun _ _ => []⟩
theorem zq43_ok : FnOK Try.prog tJ 110 zq43_M.S := by
 refine fm tt zq43_M [fo zq88_ok, fo zq47_ok] call110 func110 rfl results110 ntmps110 ?_
 rintro ⟨t, f⟩ y cx G (p : zq43 t f = some y)
 unfold zq43 at p
 refine rg G ?_
 obtain ⟨r, h, p⟩ := obind p
 refine jn p (fun v => ⟨[(4, dV v)], [], 32⟩) (fun v p => ?_) ?_
 ·rcases bf p with ⟨hb, p⟩ | ⟨hb, p⟩
  ·obtain ⟨r1, h1, p⟩ := obind p
   refine re G (hC 1 (zq88_M.c _ h) (hO 2 (.b true) (hP hb (hC 6 (zq47_M.c (_, _) h1) h0)))) ?_
   exact wJ G p
  ·refine re G (hC 1 (zq88_M.c _ h) (hO 2 (.b false) (hP hb h0))) ?_
   exact wJ G p
 rintro v p
 cases p
 exact rt [] []
noncomputable def zq46_M : MS (Timetable × Fleet × Int × Int) Int := ⟨.x .r (.x .r (.x .r .r)), fun x => zq46 x.1 x.2.1 x.2.2.1 x.2.2.2, fun y => dV y, fun _ => [], fun _ _ => []⟩
theorem zq46_c {t f a b y} (p : zq46 t f a b = some y) : zq46_M.C (t, f, a, b) y := zq46_M.c (t, f, a, b) p
theorem zq46_ok : FnOK Try.prog tJ 185 zq46_M.S := by
 refine fm tt zq46_M [fo zq90_ok] call185 func185 rfl results185 ntmps185 ?_
 rintro ⟨t, f, a, b⟩ y cx G (p : zq46 t f a b = some y)
 unfold zq46 at p
 refine rg G ?_
 obtain ⟨r2, h2, r3, h3, p⟩ := ob2 p
 refine ds G [] (hC 2 (zq90_M.c (_, _) h2) (hC 5 (zq90_M.c (_, _) h3) h0)) ?_
 obtain ⟨e4, h8, e5, h9, e6, h10, p⟩ := ob3 p
 obtain ⟨e7, h11, p⟩ := obind p
 refine ds G [] (hN 4 r2 (hD 6 h8 (hD 8 h9 (hD 11 h10 (hD 13 h11 h0))))) ?_
 cases p
 exact rt [] []
noncomputable def zq48_M : MS (Timetable × Fleet × Int × Int) Bool := ⟨.x .r (.x .r (.x .r .r)), fun x => zq48 x.1 x.2.1 x.2.2.1 x.2.2.2, fun y => dV y, fun _ => [], fun _ _ => []⟩
theorem zq48_c {t f a b y} (p : zq48 t f a b = some y) : zq48_M.C (t, f, a, b) y := zq48_M.c (t, f, a, b) p
theorem zq48_ok : FnOK Try.prog tJ 184 zq48_M.S := by
 refine fm tt zq48_M [fo zq86_ok, fo zq46_ok] call184 func184 rfl results184 ntmps184 ?_
 rintro ⟨t, f, a, b⟩ y cx G (p : zq48 t f a b = some y)
 unfold zq48 at p
 refine rg G (jn p (fun v => ⟨[(8, dV v)], [], 32⟩) (fun v p => ?_) ?_)
 ·rcases bf p with ⟨hb, p⟩ | ⟨hb, p⟩
  ·obtain ⟨e1, h3, r2, h4, r3, h5, p⟩ := ob3 p
   refine de G [] (hO 3 (.b true) (hP hb (hD 7 h3 (hC 12 (zq86_M.c (_, _) h4) (hC 20 (zq46_c h5) h0))))) ?_
   exact wJ G p
  ·refine de G [] (hO 3 (.b false) (hP hb h0)) ?_
   exact wJ G p
 rintro v p
 cases p
 exact rt [] []
noncomputable def zq68_M : MS (Int × Int) Int := ⟨.x .r .r, fun x => zq68 x.1 x.2, fun y => dV y, fun _ => [], fun _ _ => []⟩
theorem zq68_ok : FnOK Try.prog tJ 226 zq68_M.S := by
 refine fm tt zq68_M [] call226 func226 rfl results226 ntmps226 ?_
 rintro ⟨a, b⟩ y cx G (p : zq68 a b = some y)
 unfold zq68 at p
 refine rg G (Ok_seq (rg G (cd p ?_ ?_))) <;> intro p
 ·refine rg G ?_
  cases p
  exact rt [] []
 ·refine X_skip (thN (rg G ?_))
  cases p
  exact rt [] []
noncomputable def zq49_MR (rec_ : l11Plan → Int → Int → Option (Int × (List (List Int)))) : MS (l11Plan × Int × Int) (Int × (List (List Int))) := ⟨⟨[.bo 1, .rd, .rd], fun x => [.sc undef, Enc.e x.2.1, Enc.e x.2.2], fun x => [.box 229 [dV x.1.t_.Network.Stops, dV x.1.t_.Network.Lines, dV x.1.t_.Trips, dV x.1.f_.Dead, dV x.1.f_.Turn, .own 1], taO 24 [some 3] x.1.known_], 2, 2, fun _ => rfl, fun _ => rfl, rfl, (by
  rintro ⟨a0, a1, a2⟩ ⟨b0, b1, b2⟩ h hO
  have q0 : a0 = b0 := Enc.inj _ _ (congrArg D.agg (cons_eq (congrArg (fun l => obC l 0 0) hO) (cons_eq (congrArg (fun l => obC l 0 1) hO) (cons_eq (congrArg (fun l => obC l 0 2) hO) (cons_eq (congrArg (fun l => obC l 0 3) hO) (cons_eq (congrArg (fun l => obC l 0 4) hO) (cons_eq (congrArg (fun l => D.sl 1 (obL l 1)) hO) rfl)))))))
  have q1 : a1 = b1 := qI 1 h
  have q2 : a2 = b2 := qI 2 h
  subst q0; subst q1; subst q2; rfl)⟩, fun x => rec_ x.1 x.2.1 x.2.2, fun y => dV y.1, fun _ => [], fun x y => [.box 229 [dV x.1.t_.Network.Stops, dV x.1.t_.Network.Lines, dV x.1.t_.Trips, dV x.1.f_.Dead, dV x.1.f_.Turn, .own 1], taO 24 [some 3] y.2]⟩
noncomputable def zq49_M : MS (l11Plan × Int × Int) (Int × (List (List Int))) := zq49_MR zq49
theorem zq49_cR {rec_ : l11Plan → Int → Int → Option (Int × (List (List Int)))} {x i used y} (p : rec_ x i used = some y) : (zq49_MR rec_).C (x, i, used) y := (zq49_MR rec_).c (x, i, used) p
theorem zq49_okF {rec_ : l11Plan → Int → Int → Option (Int × (List (List Int)))} (hrec : FnOK Try.prog tJ 183 (zq49_MR rec_).S) : FnOK Try.prog tJ 183 (zq49_MR (zq49_F rec_)).S := by
 refine fm tt (zq49_MR (zq49_F rec_)) [fo hrec, fo zq48_ok, fo zq46_ok, fo zq68_ok] call183 func183 rfl results183 ntmps183 ?_
 rintro ⟨x, i, used⟩ y cx G (p : zq49_F rec_ x i used = some y)
 unfold zq49_F at p
 refine rg G (rs G (hN 5 x.t_.Trips h0) ?_)
 refine Ok_seq (rg G (cd p ?_ ?_)) <;> intro p
 ·refine rg G ?_
  cases p
  exact rt [] []
 ·refine X_skip (thN (Ok_seq ?_))
  obtain ⟨e, h, e1, h1, p⟩ := ob2 p
  refine rs G (hD 5 h (hE 6 h (hE 8 h (hP (idx_b (f := Enc.e) h1) (hO 9 (.d2 (Enc.e e) (Enc.e e1)) (hP (idx_m2 (f := Enc.e) h) (hP (idx_m2 (f := Enc.e) h1) h0))))))) ?_
  refine cd p ?_ ?_ <;> intro p
  ·obtain ⟨e2, h2, e3, h3, p⟩ := ob2 p
   refine rs G (hD 5 h2 (hE 6 h (hE 8 h (hP (idx_b (f := Enc.e) h3) (hO 9 (.d2 (Enc.e e) (Enc.e e3)) (hP (idx_m2 (f := Enc.e) h) (hP (idx_m2 (f := Enc.e) h3) h0))))))) ?_
   cases p
   exact rt [] []
  ·refine X_skip (thN ?_)
   obtain ⟨r, h4, p⟩ := obind p
   refine rs G (hC 4 (zq49_cR h4) h0) ?_
   refine Ok_seq (rg G (tl p (fun (v6, v7) => ⟨[(0, .ref 0 0), (1, dV i), (2, dV used), (8, dV v6)], [bX 0 229 [dV x.t_.Network.Stops, dV x.t_.Network.Lines, dV x.t_.Trips, dV x.f_.Dead, dV x.f_.Turn, .own 1], tX 1 24 [some 3] v7 1 none], 48⟩) (fun vv1 p => ?_) ?_))
   ·refine Ok_block (lp G p (fun (v, v1, v2) => ⟨[(0, .ref 0 0), (1, dV i), (2, dV used), (7, dV (x.t_.Trips.length : Int)), (8, dV v), (9, dV v1)], [bX 0 229 [dV x.t_.Network.Stops, dV x.t_.Network.Lines, dV x.t_.Trips, dV x.f_.Dead, dV x.f_.Turn, .own 1], tX 1 24 [some 3] v2 1 none], 48⟩) ?_)
    rintro ⟨v, v1, v2⟩ r0 hb p
    rw [zq49_L1] at p
    refine Ok_seq (rg G (cd p ?_ ?_)) <;> intro p
    ·refine X_skip (thN (jn p (fun (v3, v4) => ⟨[(0, .ref 0 0), (1, dV i), (2, dV used), (7, dV (x.t_.Trips.length : Int)), (8, dV v3), (9, dV v1)], [bX 0 229 [dV x.t_.Network.Stops, dV x.t_.Network.Lines, dV x.t_.Trips, dV x.f_.Dead, dV x.f_.Turn, .own 1], tX 1 24 [some 3] v4 1 none], 48⟩) (fun vv p => ?_) ?_))
     ·refine Ok_block ?_
      obtain ⟨u1, h7, p⟩ := obind p
      refine jn p (fun v5 => ⟨[(0, .ref 0 0), (1, dV i), (2, dV used), (7, dV (x.t_.Trips.length : Int)), (8, dV v), (9, dV v1), (69, dV v5)], [bX 0 229 [dV x.t_.Network.Stops, dV x.t_.Network.Lines, dV x.t_.Trips, dV x.f_.Dead, dV x.f_.Turn, .own 1], tX 1 24 [some 3] v2 1 none], 48⟩) (fun v5 p => ?_) ?_
      ·rcases bf p with ⟨hb1, p⟩ | ⟨hb1, p⟩
       ·obtain ⟨r2, h8, p⟩ := obind p
        refine de G [] (hK h7 (hO 6 (.b true) (hP hb1 (hC 17 (zq48_c h8) h0)))) ?_
        exact wJ G p
       ·refine de G [] (hK h7 (hO 6 (.b false) (hP hb1 h0))) ?_
        exact wJ G p
      rintro v5 p
      refine cd p ?_ ?_ <;> intro p
      ·obtain ⟨r6, h13, u3, h14, r7, h15, p⟩ := ob3 p
       obtain ⟨r8, h16, p⟩ := obind p
       refine de G [(20, [0, 1])] (hC 11 (zq46_c h13) (hK h14 (hC 20 (zq49_cR h15) (hC 22 (zq68_M.c (_, _) h16) h0)))) ?_
       exact ibN (wJ G p)
      ·exact X_skip (ibN (wJ G p))
     rintro ⟨v3, v4⟩ p
     exact rh G (wL G p)
    ·exact Ok_exit (thE (thE (ibE (wD G p hb))))
   rintro ⟨v6, v7⟩ p s hw
   refine thN (Ok_weak hw ?_)
   obtain ⟨e4, h17, e5, h18, p⟩ := ob2 p
   refine rs G (hD 5 h17 (hE 6 h17 (hE 9 h17 (hP (idx_b (f := Enc.e) h18) (hO 10 (.sd2 (Enc.e e4) (Enc.e e5) (List.map Enc.e (e4.set used.toNat v6)) (List.map Enc.e (v7.set i.toNat (e4.set used.toNat v6)))) (hP (idx_m2 (f := Enc.e) h17) (hP (idx_m2 (f := Enc.e) h18) (hP (set_m Enc.e e4 used.toNat v6) (hP (set_m Enc.e v7 i.toNat (e4.set used.toNat v6)) h0))))))))) ?_
   refine rg G ?_
   cases p
   exact rt [] []
theorem zq49_okn : ∀ k, FnOK Try.prog tJ 183 (zq49_MR (zq49_k k)).S
 | 0 => ⟨fun args w => call183 args w, fun vs w F ds obs κ hp => by obtain ⟨x, y, _, _, h⟩ := hp; cases h⟩
 | k + 1 => zq49_okF (zq49_okn k)
theorem zq49_ok : FnOK Try.prog tJ 183 zq49_M.S := zq49_okn 4294967296
noncomputable def zq44_M : MS (Timetable × Fleet) ((List Int)) := ⟨.x .r .r, fun x => zq44 x.1 x.2, fun _ => .own 0, fun y => [arO 3 y], fun _ _ => []⟩
theorem zq44_ok : FnOK Try.prog tJ 112 zq44_M.S := by
 refine fm tt zq44_M [fo zq49_ok, fo zq48_ok, fo zq46_ok] call112 func112 rfl results112 ntmps112 ?_
 rintro ⟨t, f⟩ y cx G (p : zq44 t f = some y)
 unfold zq44 at p
 refine rg G (rs G (hN 2 t.Trips h0) ?_)
 refine rg G (Ok_seq (rg G (tl p (fun v1 => ⟨[(2, .ref 16 0), (3, .ref 32 0), (5, dV (t.Trips.length : Int)), (6, .ref 48 0)], [bX 16 63 [dV t.Network.Stops, dV t.Network.Lines, dV t.Trips], bX 32 77 [dV f.Dead, dV f.Turn], bX 48 229 [dV t.Network.Stops, dV t.Network.Lines, dV t.Trips, dV f.Dead, dV f.Turn, .own 64], tX 64 24 [some 3] v1 64 none], 96⟩) (fun v1 p => ?_) ?_)))
 ·refine Ok_block (lpP p (fun (k, v) => ⟨[(2, .ref 16 0), (3, .ref 32 0), (5, dV (t.Trips.length : Int)), (6, .ref 48 0), (7, dV k)], [bX 16 63 [dV t.Network.Stops, dV t.Network.Lines, dV t.Trips], bX 32 77 [dV f.Dead, dV f.Turn], bX 48 229 [dV t.Network.Stops, dV t.Network.Lines, dV t.Trips, dV f.Dead, dV f.Turn, .own 64], tX 64 24 [some 3] v 64 none], 96⟩) (Wk_J G.hL ⟨[(2, []), (3, []), (5, []), (6, []), (7, [])], [(16, 16, []), (32, 32, []), (48, 176, [.k, .k, .k, .k, .k, .o 64])], [(64, 24, 1, [some 3])], 96⟩ (by kernel_rfl)) ?_)
  rintro ⟨k, v⟩ r0 hb p
  rw [zq44_L2] at p
  refine Ok_seq (rg G (cd p ?_ ?_)) <;> intro p
  ·refine X_skip (thN (Ok_seq (Ok_block ?_)))
   obtain ⟨u, h, u1, h1, p⟩ := ob2 p
   refine rs G (hK h (hO 3 (.l (List.map Enc.e (List.replicate (w64 (1 * 2 ^ (min ((IntKind.u64.wrap ((t.Trips.length : Int))) : Int).toNat (IntKind.i64).bits))).toNat (0 : Int)))) (hP (mk_p (b := 8) (chk_t h1) rfl) (hP (rep_m Enc.e (w64 (1 * 2 ^ (min ((IntKind.u64.wrap ((t.Trips.length : Int))) : Int).toNat (IntKind.i64).bits))).toNat (0 : Int)) h0)))) ?_
   refine Ok_seq (rg G (tl p (fun out1 => ⟨[(2, .ref 16 0), (3, .ref 32 0), (5, dV (t.Trips.length : Int)), (6, .ref 48 0), (7, dV k), (8, .own 64)], [bX 16 63 [dV t.Network.Stops, dV t.Network.Lines, dV t.Trips], bX 32 77 [dV f.Dead, dV f.Turn], bX 48 229 [dV t.Network.Stops, dV t.Network.Lines, dV t.Trips, dV f.Dead, dV f.Turn, .own 80], aX 64 3 out1, tX 80 24 [some 3] v 80 none], 112⟩) (fun out1 p => ?_) ?_))
   ·refine Ok_block (lp G p (fun (used, out) => ⟨[(2, .ref 16 0), (3, .ref 32 0), (5, dV (t.Trips.length : Int)), (6, .ref 48 0), (7, dV k), (8, .own 64), (9, dV used)], [bX 16 63 [dV t.Network.Stops, dV t.Network.Lines, dV t.Trips], bX 32 77 [dV f.Dead, dV f.Turn], bX 48 229 [dV t.Network.Stops, dV t.Network.Lines, dV t.Trips, dV f.Dead, dV f.Turn, .own 80], aX 64 3 out, tX 80 24 [some 3] v 80 none], 112⟩) ?_)
    rintro ⟨used, out⟩ r0 hb1 p
    rw [zq44_L1] at p
    refine Ok_seq (rs G (hN 2 out h0) ?_)
    refine cd p ?_ ?_ <;> intro p
    ·refine X_skip (thN (Ok_seq (Ok_block ?_)))
     obtain ⟨e, h2, p⟩ := obind p
     refine re G (hD 2 h2 (hS 3 h2 (-1) h0)) ?_
     exact ibN (thN (rh G (wL G p)))
    ·exact Ok_exit (thE (thE (ibE (wD G p hb1))))
   rintro out1 p s hw
   refine thN (Ok_weak hw ?_)
   obtain ⟨u2, h3, p⟩ := obind p
   refine re G (hP (nodupB_ok (l := [64]) rfl) (hA 7 24 h3 h0)) ?_
   exact ibN (thN (rh G (wL G p)))
  ·exact Ok_exit (thE (thE (ibE (wD G p hb))))
 rintro v1 p s1 hw1
 refine thN (Ok_weak hw1 ?_)
 refine rg G (rg G (Ok_seq (rg G (tl p (fun i1 => ⟨[(10, .own 16)], [aX 16 3 i1], 48⟩) (fun i1 p => ?_) ?_))))
 ·refine Ok_block (lp G p (fun (want, before, i, v2) => ⟨[(2, .ref 16 0), (3, .ref 32 0), (5, dV (t.Trips.length : Int)), (6, .ref 48 0), (10, .own 64), (11, dV want), (12, dV before)], [bX 16 63 [dV t.Network.Stops, dV t.Network.Lines, dV t.Trips], bX 32 77 [dV f.Dead, dV f.Turn], bX 48 229 [dV t.Network.Stops, dV t.Network.Lines, dV t.Trips, dV f.Dead, dV f.Turn, .own 80], aX 64 3 i, tX 80 24 [some 3] v2 80 none], 112⟩) ?_)
  rintro ⟨want, before, i, v2⟩ r0 hb2 p
  rw [zq44_L4] at p
  refine Ok_seq (rg G (cd p ?_ ?_)) <;> intro p
  ·refine X_skip (thN (Ok_seq (Ok_block ?_)))
   obtain ⟨r, h4, p⟩ := obind p
   refine rs G (hC 3 (zq49_M.c (_, _, _) h4) h0) ?_
   refine rg G (jn p (fun (want1, v3, v4) => ⟨[(2, .ref 16 0), (3, .ref 32 0), (5, dV (t.Trips.length : Int)), (6, .ref 48 0), (10, .own 64), (11, dV want1), (12, dV before), (14, dV v3)], [bX 16 63 [dV t.Network.Stops, dV t.Network.Lines, dV t.Trips], bX 32 77 [dV f.Dead, dV f.Turn], bX 48 229 [dV t.Network.Stops, dV t.Network.Lines, dV t.Trips, dV f.Dead, dV f.Turn, .own 80], aX 64 3 i, tX 80 24 [some 3] v4 80 none], 112⟩) (fun vv3 p => ?_) ?_)
   ·obtain ⟨r1, h5, p⟩ := obind p
    refine rs G (hC 4 (zq49_M.c (_, _, _) h5) h0) ?_
    refine cd p ?_ ?_ <;> intro p
    ·refine Ok_seq (rg G (tl p (fun (v13, v14) => ⟨[(2, .ref 16 0), (3, .ref 32 0), (5, dV (t.Trips.length : Int)), (6, .ref 48 0), (10, .own 64), (11, dV want), (12, dV before), (14, dV v13)], [bX 16 63 [dV t.Network.Stops, dV t.Network.Lines, dV t.Trips], bX 32 77 [dV f.Dead, dV f.Turn], bX 48 229 [dV t.Network.Stops, dV t.Network.Lines, dV t.Trips, dV f.Dead, dV f.Turn, .own 80], aX 64 3 i, tX 80 24 [some 3] v14 80 none], 112⟩) (fun vv2 p => ?_) ?_))
     ·refine Ok_block (lp G p (fun (v5, v6, v7) => ⟨[(2, .ref 16 0), (3, .ref 32 0), (5, dV (t.Trips.length : Int)), (6, .ref 48 0), (10, .own 64), (11, dV want), (12, dV before), (13, dV r.1), (14, dV v5), (15, dV v6)], [bX 16 63 [dV t.Network.Stops, dV t.Network.Lines, dV t.Trips], bX 32 77 [dV f.Dead, dV f.Turn], bX 48 229 [dV t.Network.Stops, dV t.Network.Lines, dV t.Trips, dV f.Dead, dV f.Turn, .own 80], aX 64 3 i, tX 80 24 [some 3] v7 80 none], 112⟩) ?_)
      rintro ⟨v5, v6, v7⟩ r0 hb3 p
      rw [zq44_L3] at p
      refine Ok_seq (jn p (fun v8 => ⟨[(2, .ref 16 0), (3, .ref 32 0), (5, dV (t.Trips.length : Int)), (6, .ref 48 0), (10, .own 64), (11, dV want), (12, dV before), (13, dV r.1), (14, dV v5), (15, dV v6), (75, dV v8)], [bX 16 63 [dV t.Network.Stops, dV t.Network.Lines, dV t.Trips], bX 32 77 [dV f.Dead, dV f.Turn], bX 48 229 [dV t.Network.Stops, dV t.Network.Lines, dV t.Trips, dV f.Dead, dV f.Turn, .own 80], aX 64 3 i, tX 80 24 [some 3] v7 80 none], 112⟩) (fun v8 p => ?_) ?_)
      ·rcases bf p with ⟨hb4, p⟩ | ⟨hb4, p⟩
       ·refine re G (hO 3 (.b true) (hP hb4 h0)) ?_
        exact wJ G p
       ·refine re G (hO 3 (.b false) (hP hb4 h0)) ?_
        exact wJ G p
      rintro v8 p
      refine cd p ?_ ?_ <;> intro p
      ·refine X_skip (thN (jn p (fun (v9, v10) => ⟨[(2, .ref 16 0), (3, .ref 32 0), (5, dV (t.Trips.length : Int)), (6, .ref 48 0), (10, .own 64), (11, dV want), (12, dV before), (13, dV r.1), (14, dV v9), (15, dV v6)], [bX 16 63 [dV t.Network.Stops, dV t.Network.Lines, dV t.Trips], bX 32 77 [dV f.Dead, dV f.Turn], bX 48 229 [dV t.Network.Stops, dV t.Network.Lines, dV t.Trips, dV f.Dead, dV f.Turn, .own 80], aX 64 3 i, tX 80 24 [some 3] v10 80 none], 112⟩) (fun vv1 p => ?_) ?_))
       ·refine Ok_block ?_
        obtain ⟨u3, h6, p⟩ := obind p
        refine jn p (fun (v11, v12) => ⟨[(2, .ref 16 0), (3, .ref 32 0), (5, dV (t.Trips.length : Int)), (6, .ref 48 0), (10, .own 64), (11, dV want), (12, dV before), (13, dV r.1), (14, dV v5), (15, dV v6), (109, dV v11)], [bX 16 63 [dV t.Network.Stops, dV t.Network.Lines, dV t.Trips], bX 32 77 [dV f.Dead, dV f.Turn], bX 48 229 [dV t.Network.Stops, dV t.Network.Lines, dV t.Trips, dV f.Dead, dV f.Turn, .own 80], aX 64 3 i, tX 80 24 [some 3] v12 80 none], 112⟩) (fun vv p => ?_) ?_
        ·rcases bf p with ⟨hb5, p⟩ | ⟨hb5, p⟩
         ·obtain ⟨r2, h7, p⟩ := obind p
          rcases bf p with ⟨hb6, p⟩ | ⟨hb6, p⟩
          ·obtain ⟨r3, h8, u4, h9, r4, h10, p⟩ := ob3 p
           refine re G (hK h6 (hO 6 (.b true) (hP hb5 (hC 11 (zq48_c h7) (hO 13 (.b true) (hP hb6 (hC 18 (zq46_c h8) (hK h9 (hC 27 (zq49_M.c (_, _, _) h10) h0))))))))) ?_
           exact wJ G p
          ·refine re G (hK h6 (hO 6 (.b true) (hP hb5 (hC 11 (zq48_c h7) (hO 13 (.b false) (hP hb6 h0)))))) ?_
           exact wJ G p
         ·refine re G (hK h6 (hO 6 (.b false) (hP hb5 h0))) ?_
          exact wJ G p
        rintro ⟨v11, v12⟩ p
        refine cd p ?_ ?_ <;> intro p
        ·exact rh G (ibN (wJ G p))
        ·exact X_skip (ibN (wJ G p))
       rintro ⟨v9, v10⟩ p
       exact rh G (wL G p)
      ·exact Ok_exit (thE (thE (ibE (wD G p hb3))))
     rintro ⟨v13, v14⟩ p s2 hw2
     refine thN (Ok_weak hw2 ?_)
     obtain ⟨u5, h11, p⟩ := obind p
     refine re G (hK h11 h0) ?_
     exact wJ G p
    ·exact X_skip (wJ G p)
   rintro ⟨want1, v3, v4⟩ p
   obtain ⟨u6, h12, p⟩ := obind p
   refine re G (hA 3 8 h12 h0) ?_
   exact ibN (thN (rh G (wL G p)))
  ·exact Ok_exit (thE (thE (ibE (wD G p hb2))))
 rintro i1 p s3 hw3
 refine thN (Ok_weak hw3 ?_)
 refine rg G ?_
 cases p
 exact rt [16] []
noncomputable def zq45_M : MS (Timetable × (List Int)) ((List (List Int))) := ⟨.x .r (.s 3), fun x => zq45 x.1 x.2, fun _ => .own 0, fun y => [arO 24 y], fun x _ => [arO 3 x.2]⟩
theorem zq45_ok : FnOK Try.prog tJ 111 zq45_M.S := by
 refine fm tt zq45_M [] call111 func111 rfl results111 ntmps111 ?_
 rintro ⟨t, before⟩ y cx G (p : zq45 t before = some y)
 unfold zq45 at p
 refine rg G (rg G (Ok_seq (rg G (tl p (fun block2 => ⟨[(1, .own 0), (5, .own 32)], [aX 0 3 before, aX 32 24 block2], 64⟩) (fun block2 p => ?_) ?_))))
 ·refine Ok_block (lp G p (fun (at_, block) => ⟨[(1, .own 0), (2, .ref 32 0), (5, .own 48), (6, dV at_)], [aX 0 3 before, bX 32 63 [dV t.Network.Stops, dV t.Network.Lines, dV t.Trips], aX 48 24 block], 80⟩) ?_)
  rintro ⟨at_, block⟩ r0 hb p
  rw [zq45_L3] at p
  refine Ok_seq (rs G (hN 2 before h0) ?_)
  refine cd p ?_ ?_ <;> intro p
  ·refine X_skip (thN (jn p (fun block1 => ⟨[(1, .own 0), (2, .ref 32 0), (5, .own 48), (6, dV at_)], [aX 0 3 before, bX 32 63 [dV t.Network.Stops, dV t.Network.Lines, dV t.Trips], aX 48 24 block1], 80⟩) (fun block1 p => ?_) ?_))
   ·refine Ok_block (Ok_seq ?_)
    obtain ⟨e, h, p⟩ := obind p
    refine rs G (hD 2 h (hE 3 h h0)) ?_
    refine cd p ?_ ?_ <;> intro p
    ·exact Ok_exit (thE (ibE (wJ G p)))
    ·refine X_skip (thN (rg G (Ok_seq (rg G (tl p (fun next1 => ⟨[(1, .own 0), (2, .ref 32 0), (5, .own 48), (6, dV at_), (7, .own 64)], [aX 0 3 before, bX 32 63 [dV t.Network.Stops, dV t.Network.Lines, dV t.Trips], aX 48 24 block, aX 64 3 next1], 96⟩) (fun next1 p => ?_) ?_)))))
     ·refine Ok_block (lp G p (fun (k, next) => ⟨[(1, .own 0), (2, .ref 32 0), (5, .own 48), (6, dV at_), (7, .own 64), (8, dV k)], [aX 0 3 before, bX 32 63 [dV t.Network.Stops, dV t.Network.Lines, dV t.Trips], aX 48 24 block, aX 64 3 next], 96⟩) ?_)
      rintro ⟨k, next⟩ r0 hb1 p
      rw [zq45_L2] at p
      refine Ok_seq (rg G (cd p ?_ ?_)) <;> intro p
      ·refine X_skip (thN (Ok_block ?_))
       obtain ⟨e1, h1, u, h2, p⟩ := ob2 p
       refine rs G (hD 4 h1 (hA 8 8 h2 h0)) ?_
       refine rg G (Ok_seq (rg G (tl p (fun v3 => ⟨[(1, .own 0), (2, .ref 32 0), (5, .own 48), (6, dV at_), (7, .own 64), (9, dV v3)], [aX 0 3 before, bX 32 63 [dV t.Network.Stops, dV t.Network.Lines, dV t.Trips], aX 48 24 block, aX 64 3 (next ++ ([e1.Id] : List Int))], 96⟩) (fun v3 p => ?_) ?_)))
       ·refine Ok_block (lp G p (fun (v, v1) => ⟨[(1, .own 0), (2, .ref 32 0), (5, .own 48), (6, dV at_), (7, .own 64), (8, dV k), (9, dV v), (10, dV v1)], [aX 0 3 before, bX 32 63 [dV t.Network.Stops, dV t.Network.Lines, dV t.Trips], aX 48 24 block, aX 64 3 (next ++ ([e1.Id] : List Int))], 96⟩) ?_)
        rintro ⟨v, v1⟩ r0 hb2 p
        rw [zq45_L1] at p
        refine Ok_seq (rs G (hN 2 before h0) ?_)
        refine cd p ?_ ?_ <;> intro p
        ·refine X_skip (thN (jn p (fun v2 => ⟨[(1, .own 0), (2, .ref 32 0), (5, .own 48), (6, dV at_), (7, .own 64), (8, dV k), (9, dV v2), (10, dV v1)], [aX 0 3 before, bX 32 63 [dV t.Network.Stops, dV t.Network.Lines, dV t.Trips], aX 48 24 block, aX 64 3 (next ++ ([e1.Id] : List Int))], 96⟩) (fun v2 p => ?_) ?_))
         ·refine Ok_block ?_
          obtain ⟨e2, h3, p⟩ := obind p
          refine rs G (hD 2 h3 (hE 3 h3 h0)) ?_
          refine cd p ?_ ?_ <;> intro p
          ·exact rh G (ibN (wJ G p))
          ·exact X_skip (ibN (wJ G p))
         rintro v2 p
         exact rh G (wL G p)
        ·exact Ok_exit (thE (thE (ibE (wD G p hb2))))
       rintro v3 p s hw
       refine thN (Ok_weak hw ?_)
       exact rh G (ibN (wL G p))
      ·exact Ok_exit (thE (thE (ibE (wD G p hb1))))
     rintro next1 p s1 hw1
     refine thN (Ok_weak hw1 ?_)
     obtain ⟨u1, h4, p⟩ := obind p
     refine re G (hO 2 (.fz [64] [] []) (hA 3 24 h4 h0)) ?_
     exact ibN (wJ G p)
   rintro block1 p
   exact rh G (wL G p)
  ·exact Ok_exit (thE (thE (ibE (wD G p hb))))
 rintro block2 p s2 hw2
 refine thN (Ok_weak hw2 ?_)
 refine rg G ?_
 cases p
 exact rt [32] []
noncomputable def zq87_M : MS (Timetable × Int) Int := ⟨.x .r .r, fun x => zq87 x.1 x.2, fun y => dV y, fun _ => [], fun _ _ => []⟩
theorem zq87_ok : FnOK Try.prog tJ 186 zq87_M.S := by
 refine fm tt zq87_M [] call186 func186 rfl results186 ntmps186 ?_
 rintro ⟨t, id⟩ y cx G (p : zq87 t id = some y)
 unfold zq87 at p
 refine rg G (Ok_seq (rg G (tF p (fun _ => ⟨[], [], 32⟩) (fun v1 hr p => ?_) ?_)))
 ·refine Ok_block (lp G p (fun v => ⟨[(1, dV id), (2, .ref 16 0), (5, dV v)], [bX 16 63 [dV t.Network.Stops, dV t.Network.Lines, dV t.Trips]], 48⟩) ?_)
  rintro v r0 hb p
  rw [zq87_L1] at p
  refine Ok_seq (rs G (hN 3 t.Trips h0) ?_)
  refine cd p ?_ ?_ <;> intro p
  ·refine X_skip (thN (Ok_seq (Ok_block ?_)))
   obtain ⟨e, h, p⟩ := obind p
   refine rs G (hD 3 h h0) ?_
   refine cd p ?_ ?_ <;> intro p
   ·refine rg G ?_
    have p := eL p hb hr
    cases p
    exact rt [] []
   ·exact X_skip (ibN (thN (rh G (wL G p))))
  ·exact Ok_exit (thE (thE (ibE (wE G p hb))))
 rintro ⟨⟩ p s hw
 refine thN (Ok_weak hw ?_)
 refine rg G ?_
 cases p
 exact rt [] []
noncomputable def zq50_M : MS (Timetable × Fleet × (List (List Int))) Int := ⟨.x .r (.x .r .r), fun x => zq50 x.1 x.2.1 x.2.2, fun y => dV y, fun _ => [], fun _ _ => []⟩
theorem zq50_ok : FnOK Try.prog tJ 113 zq50_M.S := by
 refine fm tt zq50_M [fo zq87_ok, fo zq46_ok] call113 func113 rfl results113 ntmps113 ?_
 rintro ⟨t, f, blocks⟩ y cx G (p : zq50 t f blocks = some y)
 unfold zq50 at p
 refine rg G (rg G (Ok_seq (rg G (tl p (fun v5 => ⟨[(7, dV v5)], [], 32⟩) (fun v5 p => ?_) ?_))))
 ·refine Ok_block (lp G p (fun (v, v1) => ⟨[(2, dV blocks), (3, .ref 16 0), (4, .ref 32 0), (7, dV v), (8, dV v1)], [bX 16 63 [dV t.Network.Stops, dV t.Network.Lines, dV t.Trips], bX 32 77 [dV f.Dead, dV f.Turn]], 64⟩) ?_)
  rintro ⟨v, v1⟩ r0 hb p
  rw [zq50_L2] at p
  refine Ok_seq (rs G (hN 2 blocks h0) ?_)
  refine cd p ?_ ?_ <;> intro p
  ·refine X_skip (thN (Ok_seq (Ok_block (rg G (tl p (fun v4 => ⟨[(2, dV blocks), (3, .ref 16 0), (4, .ref 32 0), (7, dV v4), (8, dV v1)], [bX 16 63 [dV t.Network.Stops, dV t.Network.Lines, dV t.Trips], bX 32 77 [dV f.Dead, dV f.Turn]], 64⟩) (fun v4 p => ?_) ?_)))))
   ·refine Ok_block (lp G p (fun (v2, v3) => ⟨[(2, dV blocks), (3, .ref 16 0), (4, .ref 32 0), (7, dV v2), (8, dV v1), (9, dV v3)], [bX 16 63 [dV t.Network.Stops, dV t.Network.Lines, dV t.Trips], bX 32 77 [dV f.Dead, dV f.Turn]], 64⟩) ?_)
    rintro ⟨v2, v3⟩ r0 hb1 p
    rw [zq50_L1] at p
    refine Ok_seq ?_
    obtain ⟨e, h, p⟩ := obind p
    refine rs G (hD 3 h (hN 5 e h0)) ?_
    refine cd p ?_ ?_ <;> intro p
    ·refine X_skip (thN (Ok_seq (Ok_block ?_)))
     obtain ⟨e5, h8, e6, h9, r3, h10, p⟩ := ob3 p
     obtain ⟨e7, h11, e8, h12, r4, h13, p⟩ := ob3 p
     obtain ⟨r5, h14, p⟩ := obind p
     refine de G [] (hD 6 h8 (hD 10 h9 (hC 12 (zq87_M.c (_, _) h10) (hD 16 h11 (hD 19 h12 (hC 21 (zq87_M.c (_, _) h13) (hC 22 (zq46_c h14) h0))))))) ?_
     exact ibN (thN (rh G (wL G p)))
    ·exact Ok_exit (thE (thE (ibE (wD G p hb1))))
   rintro v4 p s hw
   refine ibN (thN (Ok_weak hw ?_))
   exact rh G (wL G p)
  ·exact Ok_exit (thE (thE (ibE (wD G p hb))))
 rintro v5 p s1 hw1
 refine thN (Ok_weak hw1 ?_)
 refine rg G ?_
 cases p
 exact rt [] []
noncomputable def zq42_M : MS (Timetable × Fleet) ((List (List Int)) × Int × Bool) := ⟨.x .r .r, fun x => zq42 x.1 x.2, fun y => .tup [.own 0, dV y.2.1, dV y.2.2], fun y => [arO 24 y.1], fun _ _ => []⟩
theorem zq42_ok : FnOK Try.prog tJ 37 zq42_M.S := by
 refine fm tt zq42_M [fo zq43_ok, fo zq44_ok, fo zq45_ok, fo zq50_ok] call37 func37 rfl results37 ntmps37 ?_
 rintro ⟨t, f⟩ y cx G (p : zq42 t f = some y)
 unfold zq42 at p
 refine rg G (Ok_seq ?_)
 obtain ⟨r, h, p⟩ := obind p
 refine rs G (hC 2 (zq43_M.c (_, _) h) h0) ?_
 refine cd p ?_ ?_ <;> intro p
 ·refine rg G ?_
  cases p
  exact rt [160] []
 ·refine X_skip (thN ?_)
  obtain ⟨r3, h3, r4, h4, p⟩ := ob2 p
  refine ds G [(4, [208])] (hC 3 (zq44_M.c (_, _) h3) (hC 4 (zq45_M.c (_, _) h4) h0)) ?_
  obtain ⟨r5, h5, p⟩ := obind p
  refine rs G (hC 4 (zq50_M.c (_, _, _) h5) h0) ?_
  cases p
  exact rt [224] []
noncomputable def zq96_M : MS ((List Int) × (List Int)) Bool := ⟨.x .r .r, fun x => zq96 x.1 x.2, fun y => dV y, fun _ => [], fun _ _ => []⟩
theorem zq96_ok : FnOK Try.prog tJ 114 zq96_M.S := by
 refine fm tt zq96_M [] call114 func114 rfl results114 ntmps114 ?_
 rintro ⟨a, b⟩ y cx G (p : zq96 a b = some y)
 unfold zq96 at p
 refine rg G (Ok_seq (rs G (hN 1 a (hN 3 b h0)) ?_))
 refine cd p ?_ ?_ <;> intro p
 ·refine rg G ?_
  cases p
  exact rt [] []
 ·refine X_skip (thN (Ok_seq (rg G (tF p (fun _ => ⟨[], [], 32⟩) (fun v1 hr p => ?_) ?_))))
  ·refine Ok_block (lp G p (fun v => ⟨[(0, dV a), (1, dV b), (5, dV v)], [], 32⟩) ?_)
   rintro v r0 hb p
   rw [zq96_L1] at p
   refine Ok_seq (rs G (hN 2 a h0) ?_)
   refine cd p ?_ ?_ <;> intro p
   ·refine X_skip (thN (Ok_seq (Ok_block ?_)))
    obtain ⟨e2, h2, e3, h3, p⟩ := ob2 p
    refine ds G [] (hD 2 h2 (hD 6 h3 h0)) ?_
    refine cd p ?_ ?_ <;> intro p
    ·refine rg G ?_
     have p := eL p hb hr
     cases p
     exact rt [] []
    ·exact X_skip (ibN (thN (rh G (wL G p))))
   ·exact Ok_exit (thE (thE (ibE (wE G p hb))))
  rintro ⟨⟩ p s hw
  refine thN (Ok_weak hw ?_)
  refine rg G ?_
  cases p
  exact rt [] []
noncomputable def zq97_M : MS ((List (List Int)) × (List (List Int))) Bool := ⟨.x .r .r, fun x => zq97 x.1 x.2, fun y => dV y, fun _ => [], fun _ _ => []⟩
theorem zq97_ok : FnOK Try.prog tJ 38 zq97_M.S := by
 refine fm tt zq97_M [fo zq96_ok] call38 func38 rfl results38 ntmps38 ?_
 rintro ⟨a, b⟩ y cx G (p : zq97 a b = some y)
 unfold zq97 at p
 refine rg G (Ok_seq (rs G (hN 1 a (hN 3 b h0)) ?_))
 refine cd p ?_ ?_ <;> intro p
 ·refine rg G ?_
  cases p
  exact rt [] []
 ·refine X_skip (thN (Ok_seq (rg G (tF p (fun _ => ⟨[], [], 32⟩) (fun v1 hr p => ?_) ?_))))
  ·refine Ok_block (lp G p (fun v => ⟨[(0, dV a), (1, dV b), (5, dV v)], [], 32⟩) ?_)
   rintro v r0 hb p
   rw [zq97_L1] at p
   refine Ok_seq (rs G (hN 2 a h0) ?_)
   refine cd p ?_ ?_ <;> intro p
   ·refine X_skip (thN (Ok_seq (Ok_block ?_)))
    obtain ⟨e2, h3, e3, h4, r1, h5, p⟩ := ob3 p
    refine ds G [] (hD 2 h3 (hD 6 h4 (hC 8 (zq96_M.c (_, _) h5) h0))) ?_
    refine cd p ?_ ?_ <;> intro p
    ·refine rg G ?_
     have p := eL p hb hr
     cases p
     exact rt [] []
    ·exact X_skip (ibN (thN (rh G (wL G p))))
   ·exact Ok_exit (thE (thE (ibE (wE G p hb))))
  rintro ⟨⟩ p s hw
  refine thN (Ok_weak hw ?_)
  refine rg G ?_
  cases p
  exact rt [] []
noncomputable def zq33_M : MS Timetable (Int × Int) := ⟨.r, zq33, fun y => .tup [dV y.1, dV y.2], fun _ => [], fun _ _ => []⟩
theorem zq33_ok : FnOK Try.prog tJ 115 zq33_M.S := by
 refine fm tt zq33_M [fo zq19_ok] call115 func115 rfl results115 ntmps115 ?_
 rintro t y cx G (p : zq33 t = some y)
 unfold zq33 at p
 refine rg G (rg G (Ok_seq (rs G (hN 2 t.Trips h0) ?_)))
 refine tl p (fun (most2, v9) => ⟨[(4, dV most2), (5, dV v9)], [], 32⟩) (fun vv1 p => ?_) ?_
 ·refine Ok_block (lp G p (fun (most, v, v1) => ⟨[(1, .ref 16 0), (4, dV most), (5, dV v), (12, dV t.Trips), (13, dV (t.Trips.length : Int)), (14, dV v1)], [bX 16 63 [dV t.Network.Stops, dV t.Network.Lines, dV t.Trips]], 48⟩) ?_)
  rintro ⟨most, v, v1⟩ r0 hb p
  rw [zq33_L2] at p
  refine rg G (Ok_seq (cd p ?_ ?_)) <;> intro p
  ·refine X_skip (thN (jn p (fun (most1, v2) => ⟨[(1, .ref 16 0), (4, dV most1), (5, dV v2), (12, dV t.Trips), (13, dV (t.Trips.length : Int)), (14, dV v1)], [bX 16 63 [dV t.Network.Stops, dV t.Network.Lines, dV t.Trips]], 48⟩) (fun vv p => ?_) ?_))
   ·refine Ok_block ?_
    obtain ⟨e, h, p⟩ := obind p
    refine rs G (hD 0 h h0) ?_
    refine rg G (Ok_seq (rs G (hN 2 t.Trips h0) ?_))
    refine tl p (fun v7 => ⟨[(1, .ref 16 0), (4, dV most), (5, dV v), (7, .ref 32 0), (8, dV v7), (12, dV t.Trips), (13, dV (t.Trips.length : Int)), (14, dV v1)], [bX 16 63 [dV t.Network.Stops, dV t.Network.Lines, dV t.Trips], bX 32 168 [dV e.Id, dV e.Line, dV e.Start]], 64⟩) (fun v7 p => ?_) ?_
    ·refine Ok_block (lp G p (fun (v3, v4) => ⟨[(1, .ref 16 0), (4, dV most), (5, dV v), (7, .ref 32 0), (8, dV v3), (12, dV t.Trips), (13, dV (t.Trips.length : Int)), (14, dV v1), (19, dV t.Trips), (20, dV (t.Trips.length : Int)), (21, dV v4)], [bX 16 63 [dV t.Network.Stops, dV t.Network.Lines, dV t.Trips], bX 32 168 [dV e.Id, dV e.Line, dV e.Start]], 64⟩) ?_)
     rintro ⟨v3, v4⟩ r0 hb1 p
     rw [zq33_L1] at p
     refine rg G (Ok_seq (cd p ?_ ?_)) <;> intro p
     ·refine X_skip (thN (jn p (fun v5 => ⟨[(1, .ref 16 0), (4, dV most), (5, dV v), (7, .ref 32 0), (8, dV v5), (12, dV t.Trips), (13, dV (t.Trips.length : Int)), (14, dV v1), (19, dV t.Trips), (20, dV (t.Trips.length : Int)), (21, dV v4)], [bX 16 63 [dV t.Network.Stops, dV t.Network.Lines, dV t.Trips], bX 32 168 [dV e.Id, dV e.Line, dV e.Start]], 64⟩) (fun v5 p => ?_) ?_))
      ·refine Ok_block ?_
       obtain ⟨e1, h1, p⟩ := obind p
       refine rs G (hD 0 h1 h0) ?_
       refine jn p (fun v6 => ⟨[(1, .ref 16 0), (4, dV most), (5, dV v), (7, .ref 32 0), (8, dV v3), (12, dV t.Trips), (13, dV (t.Trips.length : Int)), (14, dV v1), (19, dV t.Trips), (20, dV (t.Trips.length : Int)), (21, dV v4), (37, dV v6)], [bX 16 63 [dV t.Network.Stops, dV t.Network.Lines, dV t.Trips], bX 32 168 [dV e.Id, dV e.Line, dV e.Start]], 64⟩) (fun v6 p => ?_) ?_
       ·rcases bf p with ⟨hb2, p⟩ | ⟨hb2, p⟩
        ·obtain ⟨r1, h3, p⟩ := obind p
         refine de G [] (hO 5 (.b true) (hP hb2 (hC 10 (zq19_M.c (_, _) h3) h0))) ?_
         exact wJ G p
        ·refine de G [] (hO 5 (.b false) (hP hb2 h0)) ?_
         exact wJ G p
       rintro v6 p
       refine cd p ?_ ?_ <;> intro p
       ·exact rh G (ibN (wJ G p))
       ·exact X_skip (ibN (wJ G p))
      rintro v5 p
      exact rh G (wL G p)
     ·exact Ok_exit (thE (thE (ibE (wD G p hb1))))
    rintro v7 p s hw
    refine thN (Ok_weak hw ?_)
    refine jn p (fun v8 => ⟨[(1, .ref 16 0), (4, dV most), (5, dV v), (7, .ref 32 0), (8, dV v7), (12, dV t.Trips), (13, dV (t.Trips.length : Int)), (14, dV v1), (54, dV v8)], [bX 16 63 [dV t.Network.Stops, dV t.Network.Lines, dV t.Trips], bX 32 168 [dV e.Id, dV e.Line, dV e.Start]], 64⟩) (fun v8 p => ?_) ?_
    ·rcases bf p with ⟨hb3, p⟩ | ⟨hb3, p⟩
     ·refine re G (hO 3 (.b true) (hP hb3 h0)) ?_
      exact wJ G p
     ·rcases bf p with ⟨hb4, p⟩ | ⟨hb4, p⟩
      ·refine re G (hO 3 (.b false) (hP hb3 (hO 7 (.b true) (hP hb4 h0)))) ?_
       exact wJ G p
      ·refine re G (hO 3 (.b false) (hP hb3 (hO 7 (.b false) (hP hb4 h0)))) ?_
       exact wJ G p
    rintro v8 p
    refine cd p ?_ ?_ <;> intro p
    ·exact rh G (ibN (wJ G p))
    ·exact X_skip (ibN (wJ G p))
   rintro ⟨most1, v2⟩ p
   exact rh G (wL G p)
  ·exact Ok_exit (thE (thE (ibE (wD G p hb))))
 rintro ⟨most2, v9⟩ p s1 hw1
 refine thN (Ok_weak hw1 ?_)
 refine rg G ?_
 cases p
 exact rt [] []
noncomputable def zq12_M : MS Timetable (Int × Int × Bool) := ⟨.r, zq12, fun y => .tup [dV y.1, dV y.2.1, dV y.2.2], fun _ => [], fun _ _ => []⟩
theorem zq12_ok : FnOK Try.prog tJ 39 zq12_M.S := by
 refine fm tt zq12_M [fo zq10_ok, fo zq33_ok] call39 func39 rfl results39 ntmps39 ?_
 rintro t y cx G (p : zq12 t = some y)
 unfold zq12 at p
 refine rg G (Ok_seq ?_)
 obtain ⟨r, h, p⟩ := obind p
 refine rs G (hC 1 (zq10_M.c _ h) h0) ?_
 refine cd p ?_ ?_ <;> intro p
 ·refine rg G ?_
  cases p
  exact rt [] []
 ·refine X_skip (thN ?_)
  obtain ⟨r1, h1, p⟩ := obind p
  refine rs G (hC 1 (zq33_M.c _ h1) h0) ?_
  refine rg G ?_
  cases p
  exact rt [] []
noncomputable def zq38_M : MS (Trip × Int) Bool := ⟨.x .r (.b 3), fun x => zq38 x.1 x.2, fun y => dV y, fun _ => [], fun x _ => [bxO 3 x.2]⟩
theorem zq38_ok : FnOK Try.prog tJ 191 zq38_M.S := by
 refine fm tt zq38_M [] call191 func191 rfl results191 ntmps191 ?_
 rintro ⟨x, c1⟩ y cx G (p : zq38 x c1 = some y)
 unfold zq38 at p
 refine rg G (rg G ?_)
 cases p
 exact rt [] []
noncomputable def zq92_M : MS ((List Trip) × Int) Int := ⟨⟨[.rd, .fn 191 [.bx]], fun x => [Enc.e x.1, .agg [.sc undef]], fun x => [bxO 3 x.2], 1, 1, fun _ => rfl, fun _ => rfl, rfl, (by
  rintro ⟨a0, a1⟩ ⟨b0, b1⟩ h hO
  have q0 : a0 = b0 := qI 0 h
  have q1 : a1 = b1 := Enc.inj _ _ (congrArg (fun l => (obD l 0).getD 0 (.sc undef)) hO)
  subst q0; subst q1; rfl)⟩, fun x => zq92 x.1 x.2, fun y => dV y, fun _ => [], fun x _ => [bxO 3 x.2]⟩
theorem zq92_ok : FnOK Try.prog tJ 190 zq92_M.S := by
 refine fm tt zq92_M [fo zq38_ok] call190 func190 rfl results190 ntmps190 ?_
 rintro ⟨s, c1⟩ y cx G (p : zq92 s c1 = some y)
 obtain ⟨f, hf_f⟩ : ∃ q, (fun (z0 : Trip) => zq38 z0 c1) = q := ⟨_, rfl⟩
 have p : zq91 s f = some y := by rw [← hf_f]; exact p
 unfold zq91 at p
 refine rg G (Ok_seq (rs G (hN 1 s h0) ?_))
 refine tF p (fun _ => ⟨[(1, .fn 191 [.ref 0 0])], [bX 0 3 [dV c1]], 48⟩) (fun v1 hr p => ?_) ?_
 ·refine Ok_block (lp G p (fun v => ⟨[(0, dV s), (1, .fn 191 [.ref 0 0]), (7, dV (s.length : Int)), (8, dV v)], [bX 0 3 [dV c1]], 48⟩) ?_)
  rintro v r0 hb p
  rw [zq91_L1] at p
  refine rg G (Ok_seq (cd p ?_ ?_)) <;> intro p
  ·refine X_skip (thN (Ok_seq (Ok_block (rg G ?_))))
   obtain ⟨e, h, r, h1, p⟩ := ob2 p
   have h1 : zq38 e c1 = some r := by rw [← hf_f] at h1; exact h1
   refine rs G (hD 3 h (hC 5 (zq38_M.c (_, _) h1) h0)) ?_
   refine cd p ?_ ?_ <;> intro p
   ·refine rg G ?_
    have p := eL p hb hr
    cases p
    exact rt [] []
   ·exact X_skip (ibN (thN (rh G (wL G p))))
  ·exact Ok_exit (thE (thE (ibE (wE G p hb))))
 rintro ⟨⟩ p s1 hw
 refine thN (Ok_weak hw ?_)
 refine rg G ?_
 cases p
 exact rt [] []
noncomputable def zq37_M : MS (Timetable × Int) Int := ⟨.x .r .r, fun x => zq37 x.1 x.2, fun y => dV y, fun _ => [], fun _ _ => []⟩
theorem zq37_ok : FnOK Try.prog tJ 120 zq37_M.S := by
 refine fm tt zq37_M [fo zq92_ok] call120 func120 rfl results120 ntmps120 ?_
 rintro ⟨t, id⟩ y cx G (p : zq37 t id = some y)
 unfold zq37 at p
 refine rg G ?_
 obtain ⟨r, h, p⟩ := obind p
 refine rs G (hC 3 (zq92_M.c (_, _) h) h0) ?_
 cases p
 exact rt [] []
noncomputable def zq39_M : MS (Timetable × Int) Trip := ⟨.x .r .r, fun x => zq39 x.1 x.2, fun y => dV y, fun _ => [], fun _ _ => []⟩
theorem zq39_ok : FnOK Try.prog tJ 117 zq39_M.S := by
 refine fm tt zq39_M [fo zq37_ok] call117 func117 rfl results117 ntmps117 ?_
 rintro ⟨t, id⟩ y cx G (p : zq39 t id = some y)
 unfold zq39 at p
 refine rg G ?_
 obtain ⟨r1, h2, e1, h3, p⟩ := ob2 p
 refine ds G [(7, [32])] (hC 4 (zq37_M.c (_, _) h2) (hD 5 h3 h0)) ?_
 cases p
 exact rt [] []
end Go.Proofs.Ytjahononbnbjnaa
