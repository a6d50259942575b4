/- Each function computes what its model says. Made by program (dec.py). -/
import Derived.Test.YtdocbkbpjdjlpaaTy
import Derived.Test.YtdocbkbpjdjlpaaAbC
import Derived.Test.YtdocbkbpjdjlpaaPfM
namespace Go.Proofs.Ytdocbkbpjdjlpaa
open Go Go.Ab Try
set_option maxRecDepth 100000
set_option maxHeartbeats 4000000
set_option linter.unusedVariables false
set_option linter.unusedSimpArgs false
theorem tt : TT Try.prog ty := ⟨by kernel_rfl, ty_ok⟩
abbrev tJ : Inv := .none
noncomputable def zq106_M : MS ((List UInt8)) Bool := ⟨.r, zq106, fun y => dV y, fun _ => [], fun _ _ => []⟩
theorem zq106_ok : FnOK Try.prog tJ 52 zq106_M.S := by
 refine fm tt zq106_M [] call52 func52 rfl results52 ntmps52 ?_
 rintro code y cx G (p : zq106 code = some y)
 unfold zq106 at p
 refine rg G (rs G (hN 1 code h0) ?_)
 cases p
 exact rt [] []
noncomputable def zq44_M : MS l1Cur (Int × l1Cur) := ⟨.b 129, zq44, fun y => dV y.1, fun _ => [], fun _ y => [bxO 129 y.2]⟩
theorem zq44_ok : FnOK Try.prog tJ 155 zq44_M.S := by
 refine fm tt zq44_M [] call155 func155 rfl results155 ntmps155 ?_
 rintro c y cx G (p : zq44 c = some y)
 unfold zq44 at p
 refine rg G (rg G (jn p (fun v => ⟨[(0, .ref 0 0), (3, dV v)], [bX 0 129 [dV c.code_, dV c.at_, kV .u64 c.seed_.v]], 48⟩) (fun v p => ?_) ?_))
 ·refine ds G [] (hN 8 c.code_ h0) ?_
  refine cd p ?_ ?_ <;> intro p
  ·obtain ⟨e1, h1, p⟩ := obind p
   refine de G [] (hD 8 h1 h0) ?_
   exact wJ G p
  ·exact X_skip (wJ G p)
 rintro v p
 refine rg G (rg G (Ok_seq (ds G [] (hN 8 c.code_ h0) ?_)))
 refine cd p ?_ ?_ <;> intro p
 ·refine rg G ?_
  cases p
  exact rt [] []
 ·refine X_skip (thN ?_)
  obtain ⟨u, h2, p⟩ := obind p
  refine rs G (hK h2 h0) ?_
  cases p
  exact rt [] []
noncomputable def zq48_M : MS (l1Cur × Int) (Int × l1Cur) := ⟨.x (.b 129) .r, fun x => zq48 x.1 x.2, fun y => dV y.1, fun _ => [], fun _ y => [bxO 129 y.2]⟩
theorem zq48_c {c n y} (p : zq48 c n = some y) : zq48_M.C (c, n) y := zq48_M.c (c, n) p
theorem zq48_ok : FnOK Try.prog tJ 77 zq48_M.S := by
 refine fm tt zq48_M [fo zq44_ok] call77 func77 rfl results77 ntmps77 ?_
 rintro ⟨c, n⟩ y cx G (p : zq48 c n = some y)
 unfold zq48 at p
 refine rg G (Ok_seq (rg G (cd p ?_ ?_))) <;> intro p
 ·refine rg G ?_
  cases p
  exact rt [] []
 ·refine X_skip (thN ?_)
  obtain ⟨r, h, p⟩ := obind p
  refine rs G (hC 1 (zq44_M.c _ h) h0) ?_
  refine jn p (fun (v, v1, v2, v3) => ⟨[(0, .ref 0 0), (1, dV n), (5, dV v)], [bX 0 129 [dV v1, dV v2, kV .u64 v3]], 48⟩) (fun vv p => ?_) ?_
  ·refine rg G (cd p ?_ ?_) <;> intro p
   ·obtain ⟨r1, h1, p⟩ := obind p
    refine re G (hC 3 (zq44_M.c _ h1) h0) ?_
    exact wJ G p
   ·exact X_skip (wJ G p)
  rintro ⟨v, v1, v2, v3⟩ p
  obtain ⟨u, h2, p⟩ := obind p
  refine rs G (hK h2 h0) ?_
  cases p
  exact rt [] []
noncomputable def zq47_M : MS (l1Cur × Int) (Bool × l1Cur) := ⟨.x (.b 129) .r, fun x => zq47 x.1 x.2, fun y => dV y.1, fun _ => [], fun _ y => [bxO 129 y.2]⟩
theorem zq47_c {c n y} (p : zq47 c n = some y) : zq47_M.C (c, n) y := zq47_M.c (c, n) p
theorem zq47_ok : FnOK Try.prog tJ 156 zq47_M.S := by
 refine fm tt zq47_M [fo zq48_ok] call156 func156 rfl results156 ntmps156 ?_
 rintro ⟨c, n⟩ y cx G (p : zq47 c n = some y)
 unfold zq47 at p
 refine rg G ?_
 obtain ⟨r, h, p⟩ := obind p
 refine rs G (hC 2 (zq48_c h) h0) ?_
 cases p
 exact rt [] []
noncomputable def zq55_MR (rec_ : Int → Option (ByteArray)) : MS Int ByteArray := ⟨.r, rec_, fun y => dV y, fun _ => [], fun _ _ => []⟩
noncomputable def zq55_M : MS Int ByteArray := zq55_MR zq55
theorem zq55_cR {rec_ : Int → Option (ByteArray)} {n y} (p : rec_ n = some y) : (zq55_MR rec_).C n y := (zq55_MR rec_).c n p
theorem zq55_okF {rec_ : Int → Option (ByteArray)} (hrec : FnOK Try.prog tJ 213 (zq55_MR rec_).S) : FnOK Try.prog tJ 213 (zq55_MR (zq55_F rec_)).S := by
 refine fm tt (zq55_MR (zq55_F rec_)) [fo hrec] call213 func213 rfl results213 ntmps213 ?_
 rintro n y cx G (p : zq55_F rec_ n = some y)
 unfold zq55_F at p
 refine rg G (Ok_seq (rg G (cd p ?_ ?_))) <;> intro p
 ·obtain ⟨r, h, u, h1, p⟩ := ob2 p
  refine rs G (hC 2 (zq55_cR h) (hP (cat_p (chk_t h1)) h0)) ?_
  cases p
  exact rt [] []
 ·refine X_skip (thN (Ok_seq (rg G (cd p ?_ ?_)))) <;> intro p
  ·obtain ⟨u1, h2, p⟩ := obind p
   refine rs G (hK h2 h0) ?_
   cases p
   exact rt [] []
  ·refine X_skip (thN ?_)
   obtain ⟨u7, h9, r2, h10, u8, h11, p⟩ := ob3 p
   obtain ⟨u9, h12, u10, h13, u11, h14, p⟩ := ob3 p
   refine ds G [] (hK h9 (hC 2 (zq55_cR h10) (hK h11 (hK h12 (hK h13 (hP (cat_p (chk_t h14)) h0)))))) ?_
   cases p
   exact rt [] []
theorem zq55_okn : ∀ k, FnOK Try.prog tJ 213 (zq55_MR (zq55_k k)).S
 | 0 => ⟨fun args w => call213 args w, fun vs w F ds obs κ hp => by obtain ⟨x, y, _, _, h⟩ := hp; cases h⟩
 | k + 1 => zq55_okF (zq55_okn k)
theorem zq55_ok : FnOK Try.prog tJ 213 zq55_M.S := zq55_okn 4294967296
noncomputable def zq68_M : MS (Line × Int) Int := ⟨.x .r .r, fun x => zq68 x.1 x.2, fun y => dV y, fun _ => [], fun _ _ => []⟩
theorem zq68_ok : FnOK Try.prog tJ 95 zq68_M.S := by
 refine fm tt zq68_M [] call95 func95 rfl results95 ntmps95 ?_
 rintro ⟨x, stop⟩ y cx G (p : zq68 x stop = some y)
 unfold zq68 at p
 refine rg G (Ok_seq (rg G (tF p (fun _ => ⟨[], [], 32⟩) (fun v1 hr p => ?_) ?_)))
 ·refine Ok_block (lp G p (fun v => ⟨[(1, dV stop), (2, .ref 16 0), (5, dV v)], [bX 16 146 [dV x.Name, dV x.Stops, dV x.Runs]], 48⟩) ?_)
  rintro v r0 hb p
  rw [zq68_L1] at p
  refine Ok_seq (rs G (hN 3 x.Stops h0) ?_)
  refine cd p ?_ ?_ <;> intro p
  ·refine X_skip (thN (Ok_seq (Ok_block ?_)))
   obtain ⟨e, h, p⟩ := obind p
   refine rs G (hD 3 h h0) ?_
   refine cd p ?_ ?_ <;> intro p
   ·refine rg G ?_
    have p := eL p hb hr
    cases p
    exact rt [] []
   ·exact X_skip (ibN (thN (rh G (wL G p))))
  ·exact Ok_exit (thE (thE (ibE (wE G p hb))))
 rintro ⟨⟩ p s hw
 refine thN (Ok_weak hw ?_)
 refine rg G ?_
 cases p
 exact rt [] []
noncomputable def zq40_M : MS (l1Cur × ByteArray × Int) (Line × l1Cur) := ⟨.x (.b 129) (.x .r .r), fun x => zq40 x.1 x.2.1 x.2.2, fun y => .aggv [dV y.1.Name, .own 0, .own 1], fun y => [arO 3 y.1.Stops, arO 3 y.1.Runs], fun _ y => [bxO 129 y.2]⟩
theorem zq40_ok : FnOK Try.prog tJ 212 zq40_M.S := by
 refine fm tt zq40_M [fo zq48_ok, fo zq68_ok] call212 func212 rfl results212 ntmps212 ?_
 rintro ⟨c, name, stops⟩ y cx G (p : zq40 c name stops = some y)
 unfold zq40 at p
 refine rg G (rg G ?_)
 obtain ⟨r, h, p⟩ := obind p
 refine rs G (hC 2 (zq48_c h) h0) ?_
 refine Ok_seq ?_
 obtain ⟨r1, h1, p⟩ := obind p
 refine rs G (hC 1 (zq48_c h1) h0) ?_
 refine tl p (fun (v7, v8, v9, v10) => ⟨[(0, .ref 0 0), (2, dV stops), (6, .ref 32 0), (7, .ref 48 0)], [bX 0 129 [dV v7, dV v8, kV .u64 v9], bX 32 146 [dV ByteArray.empty, .dat (.sc (.slice none 0 0)), .dat (.sc (.slice none 0 0))], bX 48 146 [dV name, .own 64, .dat (.sc (.slice none 0 0))], aX 64 3 v10], 96⟩) (fun vv1 p => ?_) ?_
 ·refine Ok_block (lpP p (fun (v, v1, v2, v3, v4, v5) => ⟨[(0, .ref 0 0), (2, dV stops), (6, .ref 32 0), (7, .ref 48 0), (8, dV v), (9, dV v1)], [bX 0 129 [dV v2, dV v3, kV .u64 v4], bX 32 146 [dV ByteArray.empty, .dat (.sc (.slice none 0 0)), .dat (.sc (.slice none 0 0))], bX 48 146 [dV name, .own 64, .dat (.sc (.slice none 0 0))], aX 64 3 v5], 96⟩) (Wk_J G.hL ⟨[(0, []), (2, []), (6, []), (7, []), (8, []), (9, [])], [(0, 0, []), (32, 16, []), (48, 64, [.k, .o 64])], [(64, 3, 1, [])], 96⟩ (by kernel_rfl)) ?_)
  rintro ⟨v, v1, v2, v3, v4, v5⟩ r0 hb p
  rw [zq40_L1] at p
  refine Ok_seq (rg G (cd p ?_ ?_)) <;> intro p
  ·refine X_skip (thN (Ok_seq (Ok_block (jn p (fun v6 => ⟨[(0, .ref 0 0), (2, dV stops), (6, .ref 32 0), (7, .ref 48 0), (8, dV v), (9, dV v1)], [bX 0 129 [dV v2, dV v3, kV .u64 v4], bX 32 146 [dV ByteArray.empty, .dat (.sc (.slice none 0 0)), .dat (.sc (.slice none 0 0))], bX 48 146 [dV name, .own 64, .dat (.sc (.slice none 0 0))], aX 64 3 v6], 96⟩) (fun v6 p => ?_) ?_))))
   ·obtain ⟨r2, h2, p⟩ := obind p
    refine rs G (hC 2 (zq68_M.c (_, _) h2) h0) ?_
    refine cd p ?_ ?_ <;> intro p
    ·obtain ⟨u, h3, p⟩ := obind p
     refine re G (hA 4 8 h3 h0) ?_
     exact wJ G p
    ·exact X_skip (wJ G p)
   rintro v6 p
   obtain ⟨r3, h4, u1, h5, p⟩ := ob2 p
   refine re G (hC 3 (zq48_c h4) (hK h5 h0)) ?_
   exact ibN (thN (rh G (wL G p)))
  ·exact Ok_exit (thE (thE (ibE (wD G p hb))))
 rintro ⟨v7, v8, v9, v10⟩ p s hw
 refine thN (Ok_weak hw ?_)
 refine jn p (fun v11 => ⟨[(0, .ref 0 0), (6, .ref 32 0), (7, .ref 48 0)], [bX 0 129 [dV v7, dV v8, kV .u64 v9], bX 32 146 [dV ByteArray.empty, .dat (.sc (.slice none 0 0)), .dat (.sc (.slice none 0 0))], bX 48 146 [dV name, .own 64, .dat (.sc (.slice none 0 0))], aX 64 3 v11], 96⟩) (fun v11 p => ?_) ?_
 ·refine rs G (hN 2 v10 h0) ?_
  refine cd p ?_ ?_ <;> intro p
  ·obtain ⟨e1, h9, u4, h10, u5, h11, p⟩ := ob3 p
   refine de G [(10, [64, 304]), (12, [48, 320])] (hD 4 h9 (hE 5 h9 (hK h10 (hA 10 8 h11 h0)))) ?_
   exact wJ G p
  ·exact X_skip (wJ G p)
 rintro v11 p
 refine Ok_seq (rg G (tl p (fun (v17, v18, v19, v20) => ⟨[(0, .ref 0 0), (6, .ref 32 0), (7, .ref 48 0)], [bX 0 129 [dV v17, dV v18, kV .u64 v19], bX 32 146 [dV ByteArray.empty, .dat (.sc (.slice none 0 0)), .dat (.sc (.slice none 0 0))], bX 48 146 [dV name, .own 64, .own 80], aX 64 3 v11, aX 80 3 v20], 112⟩) (fun vv p => ?_) ?_))
 ·refine Ok_block (lpP p (fun (v12, v13, v14, v15, v16) => ⟨[(0, .ref 0 0), (6, .ref 32 0), (7, .ref 48 0), (10, dV v12)], [bX 0 129 [dV v13, dV v14, kV .u64 v15], bX 32 146 [dV ByteArray.empty, .dat (.sc (.slice none 0 0)), .dat (.sc (.slice none 0 0))], bX 48 146 [dV name, .own 64, .own 80], aX 64 3 v11, aX 80 3 v16], 112⟩) (Wk_J G.hL ⟨[(0, []), (6, []), (7, []), (10, [])], [(0, 0, []), (32, 32, []), (48, 48, [.k, .k, .o 80]), (64, 64, [])], [(80, 3, 1, [])], 112⟩ (by kernel_rfl)) ?_)
  rintro ⟨v12, v13, v14, v15, v16⟩ r0 hb1 p
  rw [zq40_L2] at p
  refine Ok_seq (rs G (hN 3 v11 h0) ?_)
  refine cd p ?_ ?_ <;> intro p
  ·refine X_skip (thN (Ok_seq (Ok_block ?_)))
   obtain ⟨r5, h14, u7, h15, p⟩ := ob2 p
   refine de G [(3, [0]), (6, [80, 272]), (8, [48, 288])] (hC 3 (zq48_c h14) (hA 6 8 h15 h0)) ?_
   exact ibN (thN (rh G (wL G p)))
  ·exact Ok_exit (thE (thE (ibE (wD G p hb1))))
 rintro ⟨v17, v18, v19, v20⟩ p s1 hw1
 refine thN (Ok_weak hw1 ?_)
 refine rg G ?_
 cases p
 exact rt [64, 80] []
noncomputable def zq41_M : MS (l1Cur × ByteArray × Int) (Line × l1Cur) := ⟨.x (.b 129) (.x .r .r), fun x => zq41 x.1 x.2.1 x.2.2, fun y => dV y.1, fun _ => [], fun _ y => [bxO 129 y.2]⟩
theorem zq41_ok : FnOK Try.prog tJ 212 zq41_M.S := by
 refine fm tt zq41_M [fo zq48_ok, fo zq68_ok] call212 func212 rfl results212 ntmps212 ?_
 rintro ⟨c, name, stops⟩ y cx G (p : zq41 c name stops = some y)
 unfold zq41 at p
 refine rg G (rg G ?_)
 obtain ⟨r, h, p⟩ := obind p
 refine rs G (hC 2 (zq48_c h) h0) ?_
 refine Ok_seq ?_
 obtain ⟨r1, h1, p⟩ := obind p
 refine rs G (hC 1 (zq48_c h1) h0) ?_
 refine tl p (fun (v7, v8, v9, v10) => ⟨[(0, .ref 0 0), (2, dV stops), (6, .ref 32 0), (7, .ref 48 0)], [bX 0 129 [dV v7, dV v8, kV .u64 v9], bX 32 146 [dV ByteArray.empty, .dat (.sc (.slice none 0 0)), .dat (.sc (.slice none 0 0))], bX 48 146 [dV name, .own 64, .dat (.sc (.slice none 0 0))], aX 64 3 v10], 96⟩) (fun vv1 p => ?_) ?_
 ·refine Ok_block (lpP p (fun (v, v1, v2, v3, v4, v5) => ⟨[(0, .ref 0 0), (2, dV stops), (6, .ref 32 0), (7, .ref 48 0), (8, dV v), (9, dV v1)], [bX 0 129 [dV v2, dV v3, kV .u64 v4], bX 32 146 [dV ByteArray.empty, .dat (.sc (.slice none 0 0)), .dat (.sc (.slice none 0 0))], bX 48 146 [dV name, .own 64, .dat (.sc (.slice none 0 0))], aX 64 3 v5], 96⟩) (Wk_J G.hL ⟨[(0, []), (2, []), (6, []), (7, []), (8, []), (9, [])], [(0, 0, []), (32, 16, []), (48, 64, [.k, .o 64])], [(64, 3, 1, [])], 96⟩ (by kernel_rfl)) ?_)
  rintro ⟨v, v1, v2, v3, v4, v5⟩ r0 hb p
  rw [zq41_L1] at p
  refine Ok_seq (rg G (cd p ?_ ?_)) <;> intro p
  ·refine X_skip (thN (Ok_seq (Ok_block (jn p (fun v6 => ⟨[(0, .ref 0 0), (2, dV stops), (6, .ref 32 0), (7, .ref 48 0), (8, dV v), (9, dV v1)], [bX 0 129 [dV v2, dV v3, kV .u64 v4], bX 32 146 [dV ByteArray.empty, .dat (.sc (.slice none 0 0)), .dat (.sc (.slice none 0 0))], bX 48 146 [dV name, .own 64, .dat (.sc (.slice none 0 0))], aX 64 3 v6], 96⟩) (fun v6 p => ?_) ?_))))
   ·obtain ⟨r2, h2, p⟩ := obind p
    refine rs G (hC 2 (zq68_M.c (_, _) h2) h0) ?_
    refine cd p ?_ ?_ <;> intro p
    ·obtain ⟨u, h3, p⟩ := obind p
     refine re G (hA 4 8 h3 h0) ?_
     exact wJ G p
    ·exact X_skip (wJ G p)
   rintro v6 p
   obtain ⟨r3, h4, u1, h5, p⟩ := ob2 p
   refine re G (hC 3 (zq48_c h4) (hK h5 h0)) ?_
   exact ibN (thN (rh G (wL G p)))
  ·exact Ok_exit (thE (thE (ibE (wD G p hb))))
 rintro ⟨v7, v8, v9, v10⟩ p s hw
 refine thN (Ok_weak hw ?_)
 refine jn p (fun v11 => ⟨[(0, .ref 0 0), (6, .ref 32 0), (7, .ref 48 0)], [bX 0 129 [dV v7, dV v8, kV .u64 v9], bX 32 146 [dV ByteArray.empty, .dat (.sc (.slice none 0 0)), .dat (.sc (.slice none 0 0))], bX 48 146 [dV name, .own 64, .dat (.sc (.slice none 0 0))], aX 64 3 v11], 96⟩) (fun v11 p => ?_) ?_
 ·refine rs G (hN 2 v10 h0) ?_
  refine cd p ?_ ?_ <;> intro p
  ·obtain ⟨e1, h9, u4, h10, u5, h11, p⟩ := ob3 p
   refine de G [(10, [64, 304]), (12, [48, 320])] (hD 4 h9 (hE 5 h9 (hK h10 (hA 10 8 h11 h0)))) ?_
   exact wJ G p
  ·exact X_skip (wJ G p)
 rintro v11 p
 refine Ok_seq (rg G (tl p (fun (v17, v18, v19, v20) => ⟨[(0, .ref 0 0), (6, .ref 32 0), (7, .ref 48 0)], [bX 0 129 [dV v17, dV v18, kV .u64 v19], bX 32 146 [dV ByteArray.empty, .dat (.sc (.slice none 0 0)), .dat (.sc (.slice none 0 0))], bX 48 146 [dV name, .own 64, .own 80], aX 64 3 v11, aX 80 3 v20], 112⟩) (fun vv p => ?_) ?_))
 ·refine Ok_block (lpP p (fun (v12, v13, v14, v15, v16) => ⟨[(0, .ref 0 0), (6, .ref 32 0), (7, .ref 48 0), (10, dV v12)], [bX 0 129 [dV v13, dV v14, kV .u64 v15], bX 32 146 [dV ByteArray.empty, .dat (.sc (.slice none 0 0)), .dat (.sc (.slice none 0 0))], bX 48 146 [dV name, .own 64, .own 80], aX 64 3 v11, aX 80 3 v16], 112⟩) (Wk_J G.hL ⟨[(0, []), (6, []), (7, []), (10, [])], [(0, 0, []), (32, 32, []), (48, 48, [.k, .k, .o 80]), (64, 64, [])], [(80, 3, 1, [])], 112⟩ (by kernel_rfl)) ?_)
  rintro ⟨v12, v13, v14, v15, v16⟩ r0 hb1 p
  rw [zq41_L2] at p
  refine Ok_seq (rs G (hN 3 v11 h0) ?_)
  refine cd p ?_ ?_ <;> intro p
  ·refine X_skip (thN (Ok_seq (Ok_block ?_)))
   obtain ⟨r5, h14, u7, h15, p⟩ := ob2 p
   refine de G [(3, [0]), (6, [80, 272]), (8, [48, 288])] (hC 3 (zq48_c h14) (hA 6 8 h15 h0)) ?_
   exact ibN (thN (rh G (wL G p)))
  ·exact Ok_exit (thE (thE (ibE (wD G p hb1))))
 rintro ⟨v17, v18, v19, v20⟩ p s1 hw1
 refine thN (Ok_weak hw1 ?_)
 refine rg G ?_
 cases p
 exact rt [] []
noncomputable def zq59_M : MS ((List Int)) ((List Int)) := ⟨.r, zq59, fun _ => .own 0, fun y => [arO 3 y], fun _ _ => []⟩
theorem zq59_ok : FnOK Try.prog tJ 228 zq59_M.S := by
 refine fm tt zq59_M [] call228 func228 rfl results228 ntmps228 ?_
 rintro list y cx G (p : zq59 list = some y)
 unfold zq59 at p
 refine rg G (rg G (Ok_seq (rs G (hN 1 list h0) ?_)))
 refine tl p (fun i1 => ⟨[(3, .own 16)], [aX 16 3 i1], 48⟩) (fun i1 p => ?_) ?_
 ·refine Ok_block (lp G p (fun (v, i) => ⟨[(0, dV list), (3, .own 16), (4, dV v)], [aX 16 3 i], 48⟩) ?_)
  rintro ⟨v, i⟩ r0 hb p
  rw [zq59_L1] at p
  refine Ok_seq (rg G (cd p ?_ ?_)) <;> intro p
  ·refine X_skip (thN (Ok_seq (Ok_block ?_)))
   obtain ⟨e, h, u, h1, p⟩ := ob2 p
   refine re G (hD 3 h (hA 6 8 h1 h0)) ?_
   exact ibN (thN (rh G (wL G p)))
  ·exact Ok_exit (thE (thE (ibE (wD G p hb))))
 rintro i1 p s hw
 refine thN (Ok_weak hw ?_)
 refine rg G ?_
 cases p
 exact rt [16] []
noncomputable def zq60_M : MS ((List Int)) ((List Int)) := ⟨.r, zq60, fun y => dV y, fun _ => [], fun _ _ => []⟩
theorem zq60_ok : FnOK Try.prog tJ 228 zq60_M.S := by
 refine fm tt zq60_M [] call228 func228 rfl results228 ntmps228 ?_
 rintro list y cx G (p : zq60 list = some y)
 unfold zq60 at p
 refine rg G (rg G (Ok_seq (rs G (hN 1 list h0) ?_)))
 refine tl p (fun i1 => ⟨[(3, .own 16)], [aX 16 3 i1], 48⟩) (fun i1 p => ?_) ?_
 ·refine Ok_block (lp G p (fun (v, i) => ⟨[(0, dV list), (3, .own 16), (4, dV v)], [aX 16 3 i], 48⟩) ?_)
  rintro ⟨v, i⟩ r0 hb p
  rw [zq60_L1] at p
  refine Ok_seq (rg G (cd p ?_ ?_)) <;> intro p
  ·refine X_skip (thN (Ok_seq (Ok_block ?_)))
   obtain ⟨e, h, u, h1, p⟩ := ob2 p
   refine re G (hD 3 h (hA 6 8 h1 h0)) ?_
   exact ibN (thN (rh G (wL G p)))
  ·exact Ok_exit (thE (thE (ibE (wD G p hb))))
 rintro i1 p s hw
 refine thN (Ok_weak hw ?_)
 refine rg G ?_
 cases p
 exact rt [] []
noncomputable def zq56_M : MS ((List Int)) ((List Int)) := ⟨.r, zq56, fun _ => .own 0, fun y => [arO 3 y], fun _ _ => []⟩
theorem zq56_c {l y} (p : zq56 l = some y) : zq56_M.C l y := zq56_M.c l p
theorem zq56_ok : FnOK Try.prog tJ 197 zq56_M.S := by
 refine fm tt zq56_M [] call197 func197 rfl results197 ntmps197 ?_
 rintro l y cx G (p : zq56 l = some y)
 unfold zq56 at p
 refine rg G ?_
 obtain ⟨u, h, p⟩ := obind p
 refine rs G (hA 2 8 h h0) ?_
 cases p
 exact rt [64] []
noncomputable def zq57_M : MS ((List Int)) ((List Int)) := ⟨.r, zq57, fun y => dV y, fun _ => [], fun _ _ => []⟩
theorem zq57_c {l y} (p : zq57 l = some y) : zq57_M.C l y := zq57_M.c l p
theorem zq57_ok : FnOK Try.prog tJ 197 zq57_M.S := by
 refine fm tt zq57_M [] call197 func197 rfl results197 ntmps197 ?_
 rintro l y cx G (p : zq57 l = some y)
 unfold zq57 at p
 refine rg G ?_
 obtain ⟨u, h, p⟩ := obind p
 refine rs G (hA 2 8 h h0) ?_
 cases p
 exact rt [] []
noncomputable def zq66_M : MS Network Network := ⟨.r, zq66, fun _ => .aggv [.own 0, .own 1], fun y => [arO 9 y.Stops, arO 146 y.Lines], fun _ _ => []⟩
theorem zq66_ok : FnOK Try.prog tJ 139 zq66_M.S := by
 refine fm tt zq66_M [fo zq57_ok] call139 func139 rfl results139 ntmps139 ?_
 rintro n y cx G (p : zq66 n = some y)
 unfold zq66 at p
 refine rg G ?_
 obtain ⟨u, h, p⟩ := obind p
 refine rs G (hA 3 16 h h0) ?_
 refine Ok_seq (rg G (tl p (fun v2 => ⟨[(2, .ref 16 0), (3, .ref 32 0)], [bX 16 32 [.dat (.sc (.slice none 0 0)), .dat (.sc (.slice none 0 0))], bX 32 32 [.own 48, .own 64], aX 48 9 (([] : List ByteArray) ++ n.Stops), aX 64 146 v2], 96⟩) (fun v2 p => ?_) ?_))
 ·refine Ok_block (lpP p (fun (v, v1) => ⟨[(1, .ref 16 0), (2, .ref 32 0), (3, .ref 48 0), (4, dV v)], [bX 16 32 [dV n.Stops, dV n.Lines], bX 32 32 [.dat (.sc (.slice none 0 0)), .dat (.sc (.slice none 0 0))], bX 48 32 [.own 64, .own 80], aX 64 9 (([] : List ByteArray) ++ n.Stops), aX 80 146 v1], 112⟩) (Wk_J G.hL ⟨[(1, []), (2, []), (3, []), (4, [])], [(16, 16, []), (32, 32, []), (48, 128, [.k, .o 80]), (64, 96, [])], [(80, 146, 3, [])], 112⟩ (by kernel_rfl)) ?_)
  rintro ⟨v, v1⟩ r0 hb p
  rw [zq66_L1] at p
  refine Ok_seq (rs G (hN 3 n.Lines h0) ?_)
  refine cd p ?_ ?_ <;> intro p
  ·refine X_skip (thN (Ok_seq (Ok_block ?_)))
   obtain ⟨e3, h7, e4, h8, r2, h9, p⟩ := ob3 p
   obtain ⟨e5, h10, r3, h11, u2, h12, p⟩ := ob3 p
   refine de G [(23, []), (24, [80, 560]), (26, [48, 576])] (hD 5 h7 (hD 11 h8 (hC 14 (zq57_c h9) (hD 18 h10 (hC 21 (zq57_c h11) (hA 24 64 h12 h0)))))) ?_
   exact ibN (thN (rh G (wL G p)))
  ·exact Ok_exit (thE (thE (ibE (wD G p hb))))
 rintro v2 p s hw
 refine thN (Ok_weak hw ?_)
 refine rg G ?_
 cases p
 exact rt [48, 64] []
noncomputable def zq42_M : MS l1Cur (Network × l1Cur) := ⟨.b 129, zq42, fun _ => .aggv [.own 0, .own 1], fun y => [arO 9 y.1.Stops, arO 146 y.1.Lines], fun _ y => [bxO 129 y.2]⟩
theorem zq42_ok : FnOK Try.prog tJ 210 zq42_M.S := by
 refine fm tt zq42_M [fo zq48_ok, fo zq55_ok, fo zq41_ok, fo zq47_ok, fo zq60_ok, fo zq66_ok] call210 func210 rfl results210 ntmps210 ?_
 rintro c y cx G (p : zq42 c = some y)
 unfold zq42 at p
 refine rg G ?_
 obtain ⟨r, h, p⟩ := obind p
 refine rs G (hC 1 (zq48_c h) h0) ?_
 obtain ⟨u, h1, p⟩ := obind p
 refine rs G (hO 2 (.fz [96] [] []) (hU 2 h1 h0)) ?_
 refine Ok_seq ?_
 obtain ⟨r1, h2, p⟩ := obind p
 refine rs G (hC 1 (zq48_c h2) h0) ?_
 refine tl p (fun (v4, v5, v6, v7) => ⟨[(0, .ref 0 0), (2, .ref 32 0), (4, .ref 48 0)], [bX 0 129 [dV v4, dV v5, kV .u64 v6], bX 32 32 [.dat (.sc (.slice none 0 0)), .dat (.sc (.slice none 0 0))], bX 48 32 [dV ((([(str [112, 111, 114, 116]), (str [109, 105, 108, 108]), (str [112, 97, 114, 107]), (str [104, 97, 108, 108]), (str [100, 111, 99, 107]), (str [102, 97, 105, 114])] : List ByteArray).take (w64 (2 + r.1)).toNat).drop (0 : Int).toNat), .own 64], aX 64 146 v7], 96⟩) (fun vv1 p => ?_) ?_
 ·refine Ok_block (lpP p (fun (x, v, v1, v2, v3) => ⟨[(0, .ref 0 0), (2, .ref 32 0), (3, dV (w64 (2 + r.1))), (4, .ref 48 0), (5, dV x)], [bX 0 129 [dV v, dV v1, kV .u64 v2], bX 32 32 [.dat (.sc (.slice none 0 0)), .dat (.sc (.slice none 0 0))], bX 48 32 [dV ((([(str [112, 111, 114, 116]), (str [109, 105, 108, 108]), (str [112, 97, 114, 107]), (str [104, 97, 108, 108]), (str [100, 111, 99, 107]), (str [102, 97, 105, 114])] : List ByteArray).take (w64 (2 + r.1)).toNat).drop (0 : Int).toNat), .own 64], aX 64 146 v3], 96⟩) (Wk_J G.hL ⟨[(0, []), (2, []), (3, []), (4, []), (5, [])], [(0, 0, []), (32, 16, []), (48, 160, [.k, .o 64])], [(64, 146, 3, [])], 96⟩ (by kernel_rfl)) ?_)
  rintro ⟨x, v, v1, v2, v3⟩ r0 hb p
  rw [zq42_L1] at p
  refine Ok_seq (rg G (cd p ?_ ?_)) <;> intro p
  ·refine X_skip (thN (Ok_seq (Ok_block ?_)))
   obtain ⟨r4, h7, u3, h8, r5, h9, p⟩ := ob3 p
   obtain ⟨u4, h10, p⟩ := obind p
   refine de G [(7, [0]), (8, []), (9, [64, 256]), (11, [48, 272])] (hC 4 (zq55_M.c _ h7) (hP (cat_p (chk_t h8)) (hC 7 (zq41_M.c (_, _, _) h9) (hA 9 64 h10 h0)))) ?_
   exact ibN (thN (rh G (wL G p)))
  ·exact Ok_exit (thE (thE (ibE (wD G p hb))))
 rintro ⟨v4, v5, v6, v7⟩ p s hw
 refine thN (Ok_weak hw ?_)
 refine jn p (fun (v8, v9, v10, v11) => ⟨[(0, .ref 0 0), (2, .ref 32 0), (4, .ref 48 0)], [bX 0 129 [dV v8, dV v9, kV .u64 v10], bX 32 32 [.dat (.sc (.slice none 0 0)), .dat (.sc (.slice none 0 0))], bX 48 32 [dV ((([(str [112, 111, 114, 116]), (str [109, 105, 108, 108]), (str [112, 97, 114, 107]), (str [104, 97, 108, 108]), (str [100, 111, 99, 107]), (str [102, 97, 105, 114])] : List ByteArray).take (w64 (2 + r.1)).toNat).drop (0 : Int).toNat), .own 64], aX 64 146 v11], 96⟩) (fun vv p => ?_) ?_
 ·obtain ⟨r6, h11, p⟩ := obind p
  refine rs G (hC 1 (zq47_c h11) h0) ?_
  refine cd p ?_ ?_ <;> intro p
  ·obtain ⟨e, h12, p⟩ := obind p
   refine rs G (hD 2 h12 (hE 3 h12 h0)) ?_
   obtain ⟨r9, h16, r10, h17, u6, h18, p⟩ := ob3 p
   refine de G [(9, []), (10, [64, 368]), (12, [48, 384])] (hC 4 (zq60_M.c _ h16) (hC 7 (zq60_M.c _ h17) (hA 10 64 h18 h0))) ?_
   exact wJ G p
  ·exact X_skip (wJ G p)
 rintro ⟨v8, v9, v10, v11⟩ p
 obtain ⟨r11, h19, p⟩ := obind p
 refine rs G (hO 1 (.fz [64] [] []) (hC 1 (zq66_M.c _ h19) h0)) ?_
 cases p
 exact rt [112, 113] []
noncomputable def zq51_M : MS l1Cur (Timetable × l1Cur) := ⟨.b 129, zq51, fun _ => .aggv [.own 0, .own 1, .own 2], fun y => [arO 9 y.1.Network.Stops, arO 146 y.1.Network.Lines, arO 167 y.1.Trips], fun _ y => [bxO 129 y.2]⟩
theorem zq51_ok : FnOK Try.prog tJ 163 zq51_M.S := by
 refine fm tt zq51_M [fo zq42_ok, fo zq48_ok] call163 func163 rfl results163 ntmps163 ?_
 rintro c y cx G (p : zq51 c = some y)
 unfold zq51 at p
 refine rg G ?_
 obtain ⟨r, h, p⟩ := obind p
 refine rs G (hC 1 (zq42_M.c _ h) h0) ?_
 refine rg G (Ok_seq ?_)
 obtain ⟨r1, h1, p⟩ := obind p
 refine rs G (hC 1 (zq48_c h1) h0) ?_
 refine tl p (fun (v5, v6, v7, v8) => ⟨[(0, .ref 0 0), (2, .ref 32 0), (3, .ref 48 0)], [bX 0 129 [dV v5, dV v6, kV .u64 v7], bX 32 35 [.dat (.sc (.slice none 0 0)), .dat (.sc (.slice none 0 0)), .dat (.sc (.slice none 0 0))], bX 48 35 [.own 64, .own 80, .own 96], aX 64 9 r.1.Stops, aX 80 146 r.1.Lines, aX 96 167 v8], 128⟩) (fun vv p => ?_) ?_
 ·refine Ok_block (lpP p (fun (n, v, v1, v2, v3, v4) => ⟨[(0, .ref 0 0), (2, .ref 32 0), (3, .ref 48 0), (4, dV n), (5, dV v)], [bX 0 129 [dV v1, dV v2, kV .u64 v3], bX 32 35 [.dat (.sc (.slice none 0 0)), .dat (.sc (.slice none 0 0)), .dat (.sc (.slice none 0 0))], bX 48 35 [.own 64, .own 80, .own 96], aX 64 9 r.1.Stops, aX 80 146 r.1.Lines, aX 96 167 v4], 128⟩) (Wk_J G.hL ⟨[(0, []), (2, []), (3, []), (4, []), (5, [])], [(0, 0, []), (32, 16, []), (48, 80, [.k, .k, .o 96]), (64, 48, []), (80, 49, [])], [(96, 167, 3, [])], 128⟩ (by kernel_rfl)) ?_)
  rintro ⟨n, v, v1, v2, v3, v4⟩ r0 hb p
  rw [zq51_L1] at p
  refine Ok_seq (rg G (cd p ?_ ?_)) <;> intro p
  ·refine X_skip (thN (Ok_seq (Ok_block ?_)))
   obtain ⟨r2, h2, p⟩ := obind p
   refine rs G (hC 3 (zq48_c h2) h0) ?_
   obtain ⟨r5, h6, r6, h7, u1, h8, p⟩ := ob3 p
   refine de G [(8, [0]), (10, [0]), (15, [96, 480]), (17, [48, 496])] (hN 7 r.1.Lines (hC 8 (zq48_c h6) (hC 10 (zq48_c h7) (hA 15 24 h8 h0)))) ?_
   exact ibN (thN (rh G (wL G p)))
  ·exact Ok_exit (thE (thE (ibE (wD G p hb))))
 rintro ⟨v5, v6, v7, v8⟩ p s hw
 refine thN (Ok_weak hw ?_)
 refine rg G ?_
 cases p
 exact rt [64, 80, 96] []
noncomputable def zq35_M : MS (l1Cur × (List Int)) (Int × l1Cur) := ⟨.x (.b 129) .r, fun x => zq35 x.1 x.2, fun y => dV y.1, fun _ => [], fun _ y => [bxO 129 y.2]⟩
theorem zq35_ok : FnOK Try.prog tJ 89 zq35_M.S := by
 refine fm tt zq35_M [fo zq48_ok] call89 func89 rfl results89 ntmps89 ?_
 rintro ⟨c, list⟩ y cx G (p : zq35 c list = some y)
 unfold zq35 at p
 refine rg G ?_
 obtain ⟨r, h, e, h1, p⟩ := ob2 p
 refine rs G (hN 3 list (hC 4 (zq48_c h) (hD 5 h1 h0))) ?_
 cases p
 exact rt [] []
noncomputable def zq46_M : MS (l1Cur × (List ByteArray)) (ByteArray × l1Cur) := ⟨.x (.b 129) (.s 9), fun x => zq46 x.1 x.2, fun y => dV y.1, fun _ => [], fun x y => [bxO 129 y.2, arO 9 x.2]⟩
theorem zq46_ok : FnOK Try.prog tJ 211 zq46_M.S := by
 refine fm tt zq46_M [fo zq48_ok] call211 func211 rfl results211 ntmps211 ?_
 rintro ⟨c, list⟩ y cx G (p : zq46 c list = some y)
 unfold zq46 at p
 refine rg G ?_
 obtain ⟨r, h, e, h1, p⟩ := ob2 p
 refine rs G (hN 3 list (hC 4 (zq48_c h) (hD 5 h1 (hE 6 h1 h0)))) ?_
 cases p
 exact rt [] []
noncomputable def zq67_M : MS Network Network := ⟨.r, zq67, fun _ => .aggv [.own 0, .own 1], fun y => [arO 9 y.Stops, taO 146 [none, some 3, some 3] y.Lines], fun _ _ => []⟩
theorem zq67_ok : FnOK Try.prog tJ 139 zq67_M.S := by
 refine fm tt zq67_M [fo zq56_ok] call139 func139 rfl results139 ntmps139 ?_
 rintro n y cx G (p : zq67 n = some y)
 unfold zq67 at p
 refine rg G ?_
 obtain ⟨u, h, p⟩ := obind p
 refine rs G (hA 3 16 h h0) ?_
 refine Ok_seq (rg G (tl p (fun v2 => ⟨[(2, .ref 16 0), (3, .ref 32 0)], [bX 16 32 [.dat (.sc (.slice none 0 0)), .dat (.sc (.slice none 0 0))], bX 32 32 [.own 48, .own 64], aX 48 9 (([] : List ByteArray) ++ n.Stops), tX 64 146 [none, some 3, some 3] v2 64 none], 96⟩) (fun v2 p => ?_) ?_))
 ·refine Ok_block (lpP p (fun (v, v1) => ⟨[(1, .ref 16 0), (2, .ref 32 0), (3, .ref 48 0), (4, dV v)], [bX 16 32 [dV n.Stops, dV n.Lines], bX 32 32 [.dat (.sc (.slice none 0 0)), .dat (.sc (.slice none 0 0))], bX 48 32 [.own 64, .own 80], aX 64 9 (([] : List ByteArray) ++ n.Stops), tX 80 146 [none, some 3, some 3] v1 80 none], 112⟩) (Wk_J G.hL ⟨[(1, []), (2, []), (3, []), (4, [])], [(16, 16, []), (32, 32, []), (48, 128, [.k, .o 80]), (64, 96, [])], [(80, 146, 3, [none, some 3, some 3])], 112⟩ (by kernel_rfl)) ?_)
  rintro ⟨v, v1⟩ r0 hb p
  rw [zq67_L1] at p
  refine Ok_seq (rs G (hN 3 n.Lines h0) ?_)
  refine cd p ?_ ?_ <;> intro p
  ·refine X_skip (thN (Ok_seq (Ok_block ?_)))
   obtain ⟨e3, h7, e4, h8, r2, h9, p⟩ := ob3 p
   obtain ⟨e5, h10, r3, h11, u2, h12, p⟩ := ob3 p
   refine de G [(23, [416, 528]), (24, [80, 560]), (26, [48, 576])] (hD 5 h7 (hD 11 h8 (hC 14 (zq56_c h9) (hD 18 h10 (hC 21 (zq56_c h11) (hP (nodupB_ok (l := [416, 528]) rfl) (hA 24 64 h12 h0))))))) ?_
   exact ibN (thN (rh G (wL G p)))
  ·exact Ok_exit (thE (thE (ibE (wD G p hb))))
 rintro v2 p s hw
 refine thN (Ok_weak hw ?_)
 refine rg G ?_
 cases p
 exact rt [48, 64] []
noncomputable def zq43_M : MS l1Cur (Network × l1Cur) := ⟨.b 129, zq43, fun _ => .aggv [.own 0, .own 1], fun y => [arO 9 y.1.Stops, taO 146 [none, some 3, some 3] y.1.Lines], fun _ y => [bxO 129 y.2]⟩
theorem zq43_ok : FnOK Try.prog tJ 210 zq43_M.S := by
 refine fm tt zq43_M [fo zq48_ok, fo zq55_ok, fo zq41_ok, fo zq47_ok, fo zq60_ok, fo zq67_ok] call210 func210 rfl results210 ntmps210 ?_
 rintro c y cx G (p : zq43 c = some y)
 unfold zq43 at p
 refine rg G ?_
 obtain ⟨r, h, p⟩ := obind p
 refine rs G (hC 1 (zq48_c h) h0) ?_
 obtain ⟨u, h1, p⟩ := obind p
 refine rs G (hO 2 (.fz [96] [] []) (hU 2 h1 h0)) ?_
 refine Ok_seq ?_
 obtain ⟨r1, h2, p⟩ := obind p
 refine rs G (hC 1 (zq48_c h2) h0) ?_
 refine tl p (fun (v4, v5, v6, v7) => ⟨[(0, .ref 0 0), (2, .ref 32 0), (4, .ref 48 0)], [bX 0 129 [dV v4, dV v5, kV .u64 v6], bX 32 32 [.dat (.sc (.slice none 0 0)), .dat (.sc (.slice none 0 0))], bX 48 32 [dV ((([(str [112, 111, 114, 116]), (str [109, 105, 108, 108]), (str [112, 97, 114, 107]), (str [104, 97, 108, 108]), (str [100, 111, 99, 107]), (str [102, 97, 105, 114])] : List ByteArray).take (w64 (2 + r.1)).toNat).drop (0 : Int).toNat), .own 64], aX 64 146 v7], 96⟩) (fun vv1 p => ?_) ?_
 ·refine Ok_block (lpP p (fun (x, v, v1, v2, v3) => ⟨[(0, .ref 0 0), (2, .ref 32 0), (3, dV (w64 (2 + r.1))), (4, .ref 48 0), (5, dV x)], [bX 0 129 [dV v, dV v1, kV .u64 v2], bX 32 32 [.dat (.sc (.slice none 0 0)), .dat (.sc (.slice none 0 0))], bX 48 32 [dV ((([(str [112, 111, 114, 116]), (str [109, 105, 108, 108]), (str [112, 97, 114, 107]), (str [104, 97, 108, 108]), (str [100, 111, 99, 107]), (str [102, 97, 105, 114])] : List ByteArray).take (w64 (2 + r.1)).toNat).drop (0 : Int).toNat), .own 64], aX 64 146 v3], 96⟩) (Wk_J G.hL ⟨[(0, []), (2, []), (3, []), (4, []), (5, [])], [(0, 0, []), (32, 16, []), (48, 160, [.k, .o 64])], [(64, 146, 3, [])], 96⟩ (by kernel_rfl)) ?_)
  rintro ⟨x, v, v1, v2, v3⟩ r0 hb p
  rw [zq43_L1] at p
  refine Ok_seq (rg G (cd p ?_ ?_)) <;> intro p
  ·refine X_skip (thN (Ok_seq (Ok_block ?_)))
   obtain ⟨r4, h7, u3, h8, r5, h9, p⟩ := ob3 p
   obtain ⟨u4, h10, p⟩ := obind p
   refine de G [(7, [0]), (8, []), (9, [64, 256]), (11, [48, 272])] (hC 4 (zq55_M.c _ h7) (hP (cat_p (chk_t h8)) (hC 7 (zq41_M.c (_, _, _) h9) (hA 9 64 h10 h0)))) ?_
   exact ibN (thN (rh G (wL G p)))
  ·exact Ok_exit (thE (thE (ibE (wD G p hb))))
 rintro ⟨v4, v5, v6, v7⟩ p s hw
 refine thN (Ok_weak hw ?_)
 refine jn p (fun (v8, v9, v10, v11) => ⟨[(0, .ref 0 0), (2, .ref 32 0), (4, .ref 48 0)], [bX 0 129 [dV v8, dV v9, kV .u64 v10], bX 32 32 [.dat (.sc (.slice none 0 0)), .dat (.sc (.slice none 0 0))], bX 48 32 [dV ((([(str [112, 111, 114, 116]), (str [109, 105, 108, 108]), (str [112, 97, 114, 107]), (str [104, 97, 108, 108]), (str [100, 111, 99, 107]), (str [102, 97, 105, 114])] : List ByteArray).take (w64 (2 + r.1)).toNat).drop (0 : Int).toNat), .own 64], aX 64 146 v11], 96⟩) (fun vv p => ?_) ?_
 ·obtain ⟨r6, h11, p⟩ := obind p
  refine rs G (hC 1 (zq47_c h11) h0) ?_
  refine cd p ?_ ?_ <;> intro p
  ·obtain ⟨e, h12, p⟩ := obind p
   refine rs G (hD 2 h12 (hE 3 h12 h0)) ?_
   obtain ⟨r9, h16, r10, h17, u6, h18, p⟩ := ob3 p
   refine de G [(9, []), (10, [64, 368]), (12, [48, 384])] (hC 4 (zq60_M.c _ h16) (hC 7 (zq60_M.c _ h17) (hA 10 64 h18 h0))) ?_
   exact wJ G p
  ·exact X_skip (wJ G p)
 rintro ⟨v8, v9, v10, v11⟩ p
 obtain ⟨r11, h19, p⟩ := obind p
 refine rs G (hO 1 (.fz [64] [] []) (hC 1 (zq67_M.c _ h19) h0)) ?_
 cases p
 exact rt [112, 113] []
noncomputable def zq36_M : MS (l1Cur × (List Int)) (Int × l1Cur) := ⟨.x (.b 129) (.s 3), fun x => zq36 x.1 x.2, fun y => dV y.1, fun _ => [], fun x y => [bxO 129 y.2, arO 3 x.2]⟩
theorem zq36_ok : FnOK Try.prog tJ 89 zq36_M.S := by
 refine fm tt zq36_M [fo zq48_ok] call89 func89 rfl results89 ntmps89 ?_
 rintro ⟨c, list⟩ y cx G (p : zq36 c list = some y)
 unfold zq36 at p
 refine rg G ?_
 obtain ⟨r, h, e, h1, p⟩ := ob2 p
 refine rs G (hN 3 list (hC 4 (zq48_c h) (hD 5 h1 (hE 6 h1 h0)))) ?_
 cases p
 exact rt [] []
noncomputable def zq37_M : MS l1Cur (Network × l1Cur) := ⟨.b 129, zq37, fun y => .aggv [.own 0, dV y.1.Lines], fun y => [arO 9 y.1.Stops], fun _ y => [bxO 129 y.2]⟩
theorem zq37_ok : FnOK Try.prog tJ 154 zq37_M.S := by
 refine fm tt zq37_M [fo zq43_ok, fo zq48_ok, fo zq46_ok, fo zq36_ok, fo zq55_ok, fo zq40_ok] call154 func154 rfl results154 ntmps154 ?_
 rintro c y cx G (p : zq37 c = some y)
 unfold zq37 at p
 refine rg G ?_
 obtain ⟨r, h, p⟩ := obind p
 refine rs G (hC 1 (zq43_M.c _ h) h0) ?_
 obtain ⟨r1, h1, p⟩ := obind p
 refine rs G (hN 3 r.1.Lines (hC 4 (zq48_c h1) h0)) ?_
 obtain ⟨e, h2, p⟩ := obind p
 refine rs G (hD 3 h2 (hE 4 h2 h0)) ?_
 refine jF p (fun (v, v1, v2, v3, v4, v5, v6) => ⟨[(0, .ref 0 0), (2, .ref 32 0), (3, .ref 48 0), (4, dV r1.1), (5, .ref 64 0)], [bX 0 129 [dV v, dV v1, kV .u64 v2], bX 32 32 [.dat (.sc (.slice none 0 0)), .dat (.sc (.slice none 0 0))], bX 48 32 [.own 80, .own 96], bX 64 146 [dV v3, .row 96 96 r1.1.toNat 1, .own 112], aX 80 9 v4, tX 96 146 [none, some 3, some 3] v5 96 (some (r1.1.toNat, 2)), aX 112 3 v6], 144⟩) (fun v17 hr p => ?_) ?_
 ·obtain ⟨r2, h3, p⟩ := obind p
  refine rs G (hC 1 (zq48_c h3) h0) ?_
  refine Ok_block (rg G (cd p ?_ ?_)) <;> intro p
  ·obtain ⟨r4, h6, e2, h7, p⟩ := ob2 p
   refine de G [(4, [0, 416]), (6, [48])] (hC 4 (zq46_M.c (_, _) h6) (hD 5 h7 (hS 6 h7 r4.1 h0))) ?_
   exact ibN (wFp p (Wk.trans (Wk_S (.c 272 2) (Enc.e e) (.cons (idx_m2 (f := Enc.e) (l := r.1.Lines) (i := r1.1) h2) .nil) (by kernel_rfl)) (Wk_J G.hL ⟨[(0, []), (2, []), (3, []), (4, []), (5, [])], [(0, 0, []), (32, 16, []), (48, 64, []), (64, 272, []), (80, 48, []), (96, 49, []), (112, 480, [])], [], 144⟩ (by kernel_rfl))))
  ·refine rg G (cd p ?_ ?_) <;> intro p
   ·obtain ⟨r5, h8, p⟩ := obind p
    refine re G (hC 2 (zq46_M.c (_, _) h8) h0) ?_
    exact ibN (wFp p (Wk.trans (Wk_S (.c 272 2) (Enc.e e) (.cons (idx_m2 (f := Enc.e) (l := r.1.Lines) (i := r1.1) h2) .nil) (by kernel_rfl)) (Wk_J G.hL ⟨[(0, []), (2, []), (3, []), (4, []), (5, [])], [(0, 0, []), (32, 16, []), (48, 64, []), (64, 272, []), (80, 48, []), (96, 49, []), (112, 480, [])], [], 144⟩ (by kernel_rfl))))
   ·refine rg G (cd p ?_ ?_) <;> intro p
    ·obtain ⟨r8, h12, r9, h13, e4, h14, p⟩ := ob3 p
     refine de G [(6, [0]), (8, [0]), (11, [49])] (hO 5 (.dn (Enc.e e) (e.Stops.length : Int)) (hP (idx_m2 (f := Enc.e) h2) (hP (len_m Enc.e e.Stops) (hC 6 (zq48_c h12) (hC 8 (zq48_c h13) (hE 10 h2 (hP (idx_b (f := Enc.e) h14) (hO 11 (.sd2 (Enc.e e) (Enc.e e4) (List.map Enc.e (e.Stops.set r8.1.toNat (w64 (r9.1 - 1)))) (List.map Enc.e (r.1.Lines.set r1.1.toNat (⟨e.Name, (e.Stops.set r8.1.toNat (w64 (r9.1 - 1))), e.Runs⟩ : Line)))) (hP (idx_m2 (f := Enc.e) h2) (hP (idx_m2 (f := Enc.e) h14) (hP (set_m Enc.e e.Stops r8.1.toNat (w64 (r9.1 - 1))) (hP (set_m Enc.e r.1.Lines r1.1.toNat (⟨e.Name, (e.Stops.set r8.1.toNat (w64 (r9.1 - 1))), e.Runs⟩ : Line)) h0)))))))))))) ?_
     exact ibN (wFp p (Wk.trans (Wk_S (.c 272 2) (Enc.e (⟨e.Name, (e.Stops.set r8.1.toNat (w64 (r9.1 - 1))), e.Runs⟩ : Line)) (.cons (idx_m2 (f := Enc.e) (l := (r.1.Lines.set r1.1.toNat (⟨e.Name, (e.Stops.set r8.1.toNat (w64 (r9.1 - 1))), e.Runs⟩ : Line))) (i := r1.1) (idx_set (y := (⟨e.Name, (e.Stops.set r8.1.toNat (w64 (r9.1 - 1))), e.Runs⟩ : Line)) h2)) .nil) (by kernel_rfl)) (Wk_J G.hL ⟨[(0, []), (2, []), (3, []), (4, []), (5, [])], [(0, 0, []), (32, 16, []), (48, 64, []), (64, 272, []), (80, 48, []), (96, 49, []), (112, 624, [])], [], 144⟩ (by kernel_rfl))))
    ·refine rg G (cd p ?_ ?_) <;> intro p
     ·obtain ⟨r12, h18, r13, h19, e6, h20, p⟩ := ob3 p
      refine de G [(6, [0]), (9, [0, 592]), (11, [49])] (hO 5 (.dn (Enc.e e) (e.Runs.length : Int)) (hP (idx_m2 (f := Enc.e) h2) (hP (len_m Enc.e e.Runs) (hC 6 (zq48_c h18) (hC 9 (zq36_M.c (_, _) h19) (hE 10 h2 (hP (idx_b (f := Enc.e) h20) (hO 11 (.sd2 (Enc.e e) (Enc.e e6) (List.map Enc.e (e.Runs.set r12.1.toNat r13.1)) (List.map Enc.e (r.1.Lines.set r1.1.toNat (⟨e.Name, e.Stops, (e.Runs.set r12.1.toNat r13.1)⟩ : Line)))) (hP (idx_m2 (f := Enc.e) h2) (hP (idx_m2 (f := Enc.e) h20) (hP (set_m Enc.e e.Runs r12.1.toNat r13.1) (hP (set_m Enc.e r.1.Lines r1.1.toNat (⟨e.Name, e.Stops, (e.Runs.set r12.1.toNat r13.1)⟩ : Line)) h0)))))))))))) ?_
      exact ibN (wFp p (Wk.trans (Wk_S (.c 272 2) (Enc.e (⟨e.Name, e.Stops, (e.Runs.set r12.1.toNat r13.1)⟩ : Line)) (.cons (idx_m2 (f := Enc.e) (l := (r.1.Lines.set r1.1.toNat (⟨e.Name, e.Stops, (e.Runs.set r12.1.toNat r13.1)⟩ : Line))) (i := r1.1) (idx_set (y := (⟨e.Name, e.Stops, (e.Runs.set r12.1.toNat r13.1)⟩ : Line)) h2)) .nil) (by kernel_rfl)) (Wk_J G.hL ⟨[(0, []), (2, []), (3, []), (4, []), (5, [])], [(0, 0, []), (32, 16, []), (48, 64, []), (64, 272, []), (80, 48, []), (96, 49, []), (112, 656, [])], [], 144⟩ (by kernel_rfl))))
     ·refine rg G (cd p ?_ ?_) <;> intro p
      ·obtain ⟨u, h21, p⟩ := obind p
       refine re G (hO 3 (.sd (Enc.e e) (List.map Enc.e (e.Runs ++ ([3] : List Int)))) (hP (idx_m2 (f := Enc.e) h2) (hP (app_p (f := Enc.e) (g := Enc.e) (l := e.Runs) (r := ([3] : List Int)) (b := 8) (chk_t h21) rfl) (hP (app_m Enc.e e.Runs ([3] : List Int)) h0)))) ?_
       exact ibN (wF G p)
      ·refine rg G (cd p ?_ ?_) <;> intro p
       ·refine rg G (rg G ?_)
        have p := eR p hr
        cases p
        exact rt [48] []
       ·refine rg G (cd p ?_ ?_) <;> intro p
        ·refine Ok_seq (rg G (tl p (fun (v13, v14, v15, v16) => ⟨[(0, .ref 0 0), (2, .ref 32 0), (3, .ref 48 0)], [bX 0 129 [dV v13, dV v14, kV .u64 v15], bX 32 32 [.dat (.sc (.slice none 0 0)), .dat (.sc (.slice none 0 0))], bX 48 32 [.own 64, .own 80], aX 64 9 r.1.Stops, tX 80 146 [none, some 3, some 3] v16 80 none], 112⟩) (fun vv p => ?_) ?_))
         ·refine Ok_block (lp G p (fun (v7, v8, v9, v10, v11) => ⟨[(0, .ref 0 0), (2, .ref 32 0), (3, .ref 48 0), (6, dV v7)], [bX 0 129 [dV v8, dV v9, kV .u64 v10], bX 32 32 [.dat (.sc (.slice none 0 0)), .dat (.sc (.slice none 0 0))], bX 48 32 [.own 64, .own 80], aX 64 9 r.1.Stops, tX 80 146 [none, some 3, some 3] v11 80 none], 112⟩) ?_)
          rintro ⟨v7, v8, v9, v10, v11⟩ r0 hb p
          rw [zq37_L1] at p
          refine Ok_seq ?_
          obtain ⟨r16, h23, p⟩ := obind p
          refine jn p (fun v12 => ⟨[(0, .ref 0 0), (2, .ref 32 0), (3, .ref 48 0), (6, dV v7), (85, dV v12)], [bX 0 129 [dV r16.2.code_, dV r16.2.at_, kV .u64 r16.2.seed_.v], bX 32 32 [.dat (.sc (.slice none 0 0)), .dat (.sc (.slice none 0 0))], bX 48 32 [.own 64, .own 80], aX 64 9 r.1.Stops, tX 80 146 [none, some 3, some 3] v11 80 none], 112⟩) (fun v12 p => ?_) ?_
          ·rcases bf p with ⟨hb1, p⟩ | ⟨hb1, p⟩
           ·refine de G [(4, [0])] (hN 2 v11 (hC 4 (zq48_c h23) (hO 7 (.b true) (hP hb1 h0)))) ?_
            exact wJ G p
           ·refine de G [(4, [0])] (hN 2 v11 (hC 4 (zq48_c h23) (hO 7 (.b false) (hP hb1 h0)))) ?_
            exact wJ G p
          rintro v12 p
          refine cd p ?_ ?_ <;> intro p
          ·refine X_skip (thN (Ok_seq (Ok_block ?_)))
           obtain ⟨r19, h28, u3, h29, r20, h30, p⟩ := ob3 p
           obtain ⟨u4, h31, p⟩ := obind p
           refine de G [(9, [0]), (10, [256, 257]), (11, [80, 272]), (13, [48, 288])] (hC 4 (zq55_M.c _ h28) (hP (cat_p (chk_t h29)) (hN 8 r.1.Stops (hC 9 (zq40_M.c (_, _, _) h30) (hP (nodupB_ok (l := [256, 257]) rfl) (hA 11 64 h31 h0)))))) ?_
           exact ibN (thN (rh G (wL G p)))
          ·exact Ok_exit (thE (thE (ibE (wD G p hb))))
         rintro ⟨v13, v14, v15, v16⟩ p s hw
         refine thN (Ok_weak hw ?_)
         refine rg G ?_
         have p := eR p hr
         cases p
         exact rt [64] []
        ·exact X_skip (ibN (wFp p (Wk.trans (Wk_S (.c 272 2) (Enc.e e) (.cons (idx_m2 (f := Enc.e) (l := r.1.Lines) (i := r1.1) h2) .nil) (by kernel_rfl)) (Wk_J G.hL ⟨[(0, []), (2, []), (3, []), (4, []), (5, [])], [(0, 0, []), (32, 16, []), (48, 64, []), (64, 272, []), (80, 48, []), (96, 49, []), (112, 560, [])], [], 144⟩ (by kernel_rfl)))))
 rintro ⟨v, v1, v2, v3, v4, v5, v6⟩ p
 obtain ⟨e9, h32, p⟩ := obind p
 refine rs G (hD 4 h32 (hS 5 h32 (⟨v3, e9.Stops, v6⟩ : Line) (hP (Eq.refl r1.1.toNat) (hP (Eq.refl r1.1.toNat) h0)))) ?_
 refine rg G ?_
 cases p
 exact rt [80] []
noncomputable def zq38_M : MS l1Cur (Timetable × l1Cur) := ⟨.b 129, zq38, fun y => .aggv [.own 0, dV y.1.Network.Lines, .own 1], fun y => [arO 9 y.1.Network.Stops, arO 167 y.1.Trips], fun _ y => [bxO 129 y.2]⟩
theorem zq38_ok : FnOK Try.prog tJ 100 zq38_M.S := by
 refine fm tt zq38_M [fo zq51_ok, fo zq48_ok, fo zq35_ok, fo zq37_ok] call100 func100 rfl results100 ntmps100 ?_
 rintro c y cx G (p : zq38 c = some y)
 unfold zq38 at p
 refine rg G ?_
 obtain ⟨r, h, p⟩ := obind p
 refine rs G (hC 1 (zq51_M.c _ h) h0) ?_
 refine Ok_seq (rs G (hN 2 r.1.Trips h0) ?_)
 refine cd p ?_ ?_ <;> intro p
 ·refine rg G ?_
  cases p
  exact rt [48, 50] []
 ·refine X_skip (thN ?_)
  obtain ⟨r1, h1, p⟩ := obind p
  refine rs G (hN 3 r.1.Trips (hC 4 (zq48_c h1) h0)) ?_
  obtain ⟨e, h2, p⟩ := obind p
  refine rs G (hD 3 h2 (hE 4 h2 h0)) ?_
  refine jF p (fun (v, v1, v2, v3, v4, v5, v6, v7) => ⟨[(0, .ref 0 0), (2, .ref 32 0), (3, .ref 48 0), (4, dV r1.1), (5, .ref 64 0)], [bX 0 129 [dV v, dV v1, kV .u64 v2], bX 32 35 [.dat (.sc (.slice none 0 0)), .dat (.sc (.slice none 0 0)), .dat (.sc (.slice none 0 0))], bX 48 35 [.own 80, dV v3, .own 96], bX 64 167 [dV v4, dV v5, dV v6], aX 80 9 v7, aX 96 167 r.1.Trips], 128⟩) (fun v18 hr p => ?_) ?_
  ·obtain ⟨r2, h3, p⟩ := obind p
   refine rs G (hC 1 (zq48_c h3) h0) ?_
   refine Ok_block (rg G (cd p ?_ ?_)) <;> intro p
   ·obtain ⟨r3, h4, p⟩ := obind p
    refine re G (hO 2 (.fz [448] [] []) (hC 2 (zq35_M.c (_, _) h4) h0)) ?_
    exact ibN (wF G p)
   ·refine rg G (cd p ?_ ?_) <;> intro p
    ·obtain ⟨r4, h5, p⟩ := obind p
     refine re G (hC 1 (zq48_c h5) h0) ?_
     exact ibN (wF G p)
    ·refine rg G (cd p ?_ ?_) <;> intro p
     ·obtain ⟨r5, h6, p⟩ := obind p
      refine re G (hO 2 (.fz [512] [] []) (hC 2 (zq35_M.c (_, _) h6) h0)) ?_
      exact ibN (wF G p)
     ·refine rg G (cd p ?_ ?_) <;> intro p
      ·obtain ⟨r6, h7, p⟩ := obind p
       refine re G (hC 1 (zq37_M.c _ h7) h0) ?_
       exact ibN (wF G p)
      ·refine rg G (cd p ?_ ?_) <;> intro p
       ·refine Ok_seq (rg G (tl p (fun (v14, v15, v16, v17) => ⟨[(0, .ref 0 0), (2, .ref 32 0), (3, .ref 48 0)], [bX 0 129 [dV v14, dV v15, kV .u64 v16], bX 32 35 [.dat (.sc (.slice none 0 0)), .dat (.sc (.slice none 0 0)), .dat (.sc (.slice none 0 0))], bX 48 35 [.own 64, .own 80, .own 96], aX 64 9 r.1.Network.Stops, aX 80 146 r.1.Network.Lines, aX 96 167 v17], 128⟩) (fun vv p => ?_) ?_))
        ·refine Ok_block (lp G p (fun (v8, v9, v10, v11, v12) => ⟨[(0, .ref 0 0), (2, .ref 32 0), (3, .ref 48 0), (6, dV v8)], [bX 0 129 [dV v9, dV v10, kV .u64 v11], bX 32 35 [.dat (.sc (.slice none 0 0)), .dat (.sc (.slice none 0 0)), .dat (.sc (.slice none 0 0))], bX 48 35 [.own 64, .own 80, .own 96], aX 64 9 r.1.Network.Stops, aX 80 146 r.1.Network.Lines, aX 96 167 v12], 128⟩) ?_)
         rintro ⟨v8, v9, v10, v11, v12⟩ r0 hb p
         rw [zq38_L1] at p
         refine Ok_seq ?_
         obtain ⟨r8, h9, p⟩ := obind p
         refine jn p (fun v13 => ⟨[(0, .ref 0 0), (2, .ref 32 0), (3, .ref 48 0), (6, dV v8), (61, dV v13)], [bX 0 129 [dV r8.2.code_, dV r8.2.at_, kV .u64 r8.2.seed_.v], bX 32 35 [.dat (.sc (.slice none 0 0)), .dat (.sc (.slice none 0 0)), .dat (.sc (.slice none 0 0))], bX 48 35 [.own 64, .own 80, .own 96], aX 64 9 r.1.Network.Stops, aX 80 146 r.1.Network.Lines, aX 96 167 v12], 128⟩) (fun v13 p => ?_) ?_
         ·rcases bf p with ⟨hb1, p⟩ | ⟨hb1, p⟩
          ·refine de G [(4, [0])] (hN 2 v12 (hC 4 (zq48_c h9) (hO 7 (.b true) (hP hb1 h0)))) ?_
           exact wJ G p
          ·refine de G [(4, [0])] (hN 2 v12 (hC 4 (zq48_c h9) (hO 7 (.b false) (hP hb1 h0)))) ?_
           exact wJ G p
         rintro v13 p
         refine cd p ?_ ?_ <;> intro p
         ·refine X_skip (thN (Ok_seq (Ok_block ?_)))
          obtain ⟨u, h10, p⟩ := obind p
          refine re G (hA 8 24 h10 h0) ?_
          exact ibN (thN (rh G (wL G p)))
         ·exact Ok_exit (thE (thE (ibE (wD G p hb))))
        rintro ⟨v14, v15, v16, v17⟩ p s hw
        refine thN (Ok_weak hw ?_)
        refine rg G ?_
        have p := eR p hr
        cases p
        exact rt [64, 96] []
       ·exact X_skip (ibN (wF G p))
  rintro ⟨v, v1, v2, v3, v4, v5, v6, v7⟩ p
  obtain ⟨e2, h11, p⟩ := obind p
  refine rs G (hD 4 h11 (hS 5 h11 (⟨v4, v5, v6⟩ : Trip) h0)) ?_
  refine rg G ?_
  cases p
  exact rt [80, 96] []
noncomputable def zq54_M : MS (Int × Int) Int := ⟨.x .r .r, fun x => zq54 x.1 x.2, fun y => dV y, fun _ => [], fun _ _ => []⟩
theorem zq54_ok : FnOK Try.prog tJ 88 zq54_M.S := by
 refine fm tt zq54_M [] call88 func88 rfl results88 ntmps88 ?_
 rintro ⟨a, b⟩ y cx G (p : zq54 a b = some y)
 unfold zq54 at p
 refine rg G (Ok_seq (rg G (cd p ?_ ?_))) <;> intro p
 ·refine rg G ?_
  cases p
  exact rt [] []
 ·refine X_skip (thN (rg G ?_))
  cases p
  exact rt [] []
noncomputable def zq52_M : MS l1Cur (Timetable × l1Cur) := ⟨.b 129, zq52, fun y => .aggv [.own 0, dV y.1.Network.Lines, .own 1], fun y => [arO 9 y.1.Network.Stops, arO 167 y.1.Trips], fun _ y => [bxO 129 y.2]⟩
theorem zq52_ok : FnOK Try.prog tJ 184 zq52_M.S := by
 refine fm tt zq52_M [fo zq47_ok, fo zq38_ok, fo zq42_ok, fo zq48_ok, fo zq54_ok] call184 func184 rfl results184 ntmps184 ?_
 rintro c y cx G (p : zq52 c = some y)
 unfold zq52 at p
 refine rg G (Ok_seq ?_)
 obtain ⟨r, h, p⟩ := obind p
 refine rs G (hC 1 (zq47_c h) h0) ?_
 refine cd p ?_ ?_ <;> intro p
 ·obtain ⟨r1, h1, p⟩ := obind p
  refine rs G (hC 1 (zq38_M.c _ h1) h0) ?_
  cases p
  exact rt [80, 81] []
 ·refine X_skip (thN ?_)
  obtain ⟨r2, h2, p⟩ := obind p
  refine rs G (hC 1 (zq42_M.c _ h2) h0) ?_
  refine Ok_seq ?_
  obtain ⟨r3, h3, p⟩ := obind p
  refine rs G (hC 1 (zq48_c h3) h0) ?_
  refine tl p (fun (v4, v5, v6, v7) => ⟨[(0, .ref 0 0), (2, .ref 32 0), (3, .ref 48 0)], [bX 0 129 [dV v4, dV v5, kV .u64 v6], bX 32 35 [.dat (.sc (.slice none 0 0)), .dat (.sc (.slice none 0 0)), .dat (.sc (.slice none 0 0))], bX 48 35 [.own 64, .own 80, .own 96], aX 64 9 r2.1.Stops, aX 80 146 r2.1.Lines, aX 96 167 v7], 128⟩) (fun vv p => ?_) ?_
  ·refine Ok_block (lpP p (fun (i, v, v1, v2, v3) => ⟨[(0, .ref 0 0), (2, .ref 32 0), (3, .ref 48 0), (4, dV i)], [bX 0 129 [dV v, dV v1, kV .u64 v2], bX 32 35 [.dat (.sc (.slice none 0 0)), .dat (.sc (.slice none 0 0)), .dat (.sc (.slice none 0 0))], bX 48 35 [.own 64, .own 80, .own 96], aX 64 9 r2.1.Stops, aX 80 146 r2.1.Lines, aX 96 167 v3], 128⟩) (Wk_J G.hL ⟨[(0, []), (2, []), (3, []), (4, [])], [(0, 0, []), (32, 16, []), (48, 112, [.k, .k, .o 96]), (64, 80, []), (80, 81, [])], [(96, 167, 3, [])], 128⟩ (by kernel_rfl)) ?_)
   rintro ⟨i, v, v1, v2, v3⟩ r0 hb p
   rw [zq52_L1] at p
   refine Ok_seq (rg G (cd p ?_ ?_)) <;> intro p
   ·refine X_skip (thN (Ok_seq (Ok_block ?_)))
    obtain ⟨r7, h8, r8, h9, r9, h10, p⟩ := ob3 p
    obtain ⟨u1, h11, p⟩ := obind p
    refine de G [(11, [0]), (19, [0]), (21, [0]), (26, [96, 560]), (28, [48, 576])] (hN 4 v3 (hN 8 v3 (hC 11 (zq48_c h8) (hN 18 r2.1.Lines (hC 19 (zq48_c h9) (hC 21 (zq48_c h10) (hA 26 24 h11 h0))))))) ?_
    exact ibN (thN (rh G (wL G p)))
   ·exact Ok_exit (thE (thE (ibE (wD G p hb))))
  rintro ⟨v4, v5, v6, v7⟩ p s hw
  refine thN (Ok_weak hw ?_)
  refine Ok_seq (rg G (tl p (fun v9 => ⟨[(0, .ref 0 0), (2, .ref 32 0), (3, .ref 48 0)], [bX 0 129 [dV v4, dV v5, kV .u64 v6], bX 32 35 [.dat (.sc (.slice none 0 0)), .dat (.sc (.slice none 0 0)), .dat (.sc (.slice none 0 0))], bX 48 35 [.own 64, .own 80, .own 96], aX 64 9 r2.1.Stops, aX 80 146 r2.1.Lines, aX 96 167 v9], 128⟩) (fun v9 p => ?_) ?_))
  ·refine Ok_block (lp G p (fun (x, v8) => ⟨[(0, .ref 0 0), (2, .ref 32 0), (3, .ref 48 0), (5, dV x)], [bX 0 129 [dV v4, dV v5, kV .u64 v6], bX 32 35 [.dat (.sc (.slice none 0 0)), .dat (.sc (.slice none 0 0)), .dat (.sc (.slice none 0 0))], bX 48 35 [.own 64, .own 80, .own 96], aX 64 9 r2.1.Stops, aX 80 146 r2.1.Lines, aX 96 167 v8], 128⟩) ?_)
   rintro ⟨x, v8⟩ r0 hb1 p
   rw [zq52_L2] at p
   refine Ok_seq (rs G (hN 3 v8 h0) ?_)
   refine cd p ?_ ?_ <;> intro p
   ·refine X_skip (thN (Ok_seq (Ok_block ?_)))
    obtain ⟨e, h12, p⟩ := obind p
    refine rs G (hD 3 h12 (hE 4 h12 h0)) ?_
    obtain ⟨e2, h15, r11, h16, p⟩ := ob2 p
    refine ds G [(12, [288])] (hD 6 h15 (hE 8 h15 (hC 10 (zq54_M.c (_, _) h16) h0))) ?_
    obtain ⟨e3, h17, p⟩ := obind p
    refine re G (hD 4 h17 (hS 5 h17 (⟨r11, e.Line, e.Start⟩ : Trip) h0)) ?_
    exact ibN (thN (rh G (wL G p)))
   ·exact Ok_exit (thE (thE (ibE (wD G p hb1))))
  rintro v9 p s1 hw1
  refine thN (Ok_weak hw1 ?_)
  refine rg G ?_
  cases p
  exact rt [64, 96] []
noncomputable def zq39_M : MS l1Cur (Int × l1Cur) := ⟨.b 129, zq39, fun y => dV y.1, fun _ => [], fun _ y => [bxO 129 y.2]⟩
theorem zq39_ok : FnOK Try.prog tJ 185 zq39_M.S := by
 refine fm tt zq39_M [fo zq35_ok] call185 func185 rfl results185 ntmps185 ?_
 rintro c y cx G (p : zq39 c = some y)
 unfold zq39 at p
 refine rg G ?_
 obtain ⟨r, h, p⟩ := obind p
 refine rs G (hO 2 (.fz [48] [] []) (hC 2 (zq35_M.c (_, _) h) h0)) ?_
 cases p
 exact rt [] []
noncomputable def zq50_M : MS l1Cur (Int × l1Cur) := ⟨.b 129, zq50, fun y => dV y.1, fun _ => [], fun _ y => [bxO 129 y.2]⟩
theorem zq50_ok : FnOK Try.prog tJ 186 zq50_M.S := by
 refine fm tt zq50_M [fo zq47_ok, fo zq35_ok, fo zq48_ok] call186 func186 rfl results186 ntmps186 ?_
 rintro c y cx G (p : zq50 c = some y)
 unfold zq50 at p
 refine rg G (Ok_seq ?_)
 obtain ⟨r, h, p⟩ := obind p
 refine rs G (hC 1 (zq47_c h) h0) ?_
 refine cd p ?_ ?_ <;> intro p
 ·obtain ⟨r1, h1, p⟩ := obind p
  refine rs G (hO 2 (.fz [80] [] []) (hC 2 (zq35_M.c (_, _) h1) h0)) ?_
  cases p
  exact rt [] []
 ·refine X_skip (thN ?_)
  obtain ⟨r2, h2, p⟩ := obind p
  refine rs G (hC 1 (zq48_c h2) h0) ?_
  cases p
  exact rt [] []
noncomputable def zq49_M : MS l1Cur (Timetable × Int × Int × Int × Int × l1Cur) := ⟨.b 129, zq49, fun y => .tup [.aggv [.own 0, dV y.1.Network.Lines, .own 1], dV y.2.1, dV y.2.2.1, dV y.2.2.2.1, dV y.2.2.2.2.1], fun y => [arO 9 y.1.Network.Stops, arO 167 y.1.Trips], fun _ y => [bxO 129 y.2.2.2.2.2]⟩
theorem zq49_ok : FnOK Try.prog tJ 130 zq49_M.S := by
 refine fm tt zq49_M [fo zq52_ok, fo zq47_ok, fo zq39_ok, fo zq48_ok, fo zq50_ok] call130 func130 rfl results130 ntmps130 ?_
 rintro c y cx G (p : zq49 c = some y)
 unfold zq49 at p
 refine rg G ?_
 obtain ⟨r, h, p⟩ := obind p
 refine rs G (hC 1 (zq52_M.c _ h) h0) ?_
 refine rs G (hN 3 r.1.Network.Stops h0) ?_
 refine Ok_seq (jn p (fun (v, v1, v2, v3) => ⟨[(0, .ref 0 0), (2, .ref 32 0), (7, .ref 48 0), (8, dV (r.1.Network.Stops.length : Int)), (21, dV v)], [bX 0 129 [dV v1, dV v2, kV .u64 v3], bX 32 35 [.dat (.sc (.slice none 0 0)), .dat (.sc (.slice none 0 0)), .dat (.sc (.slice none 0 0))], bX 48 35 [.own 64, dV r.1.Network.Lines, .own 80], aX 64 9 r.1.Network.Stops, aX 80 167 r.1.Trips], 112⟩) (fun vv p => ?_) ?_)
 ·rcases bf p with ⟨hb, p⟩ | ⟨hb, p⟩
  ·refine re G (hO 2 (.b true) (hP hb h0)) ?_
   exact wJ G p
  ·obtain ⟨r1, h1, p⟩ := obind p
   refine re G (hO 2 (.b false) (hP hb (hC 4 (zq47_c h1) h0))) ?_
   exact wJ G p
 rintro ⟨v, v1, v2, v3⟩ p
 refine cd p ?_ ?_ <;> intro p
 ·obtain ⟨r6, h6, r7, h7, r8, h8, p⟩ := ob3 p
  obtain ⟨r9, h9, p⟩ := obind p
  refine ds G [(2, [0]), (4, [0]), (7, [0]), (10, [0]), (11, [32, 64, 80])] (hC 2 (zq39_M.c _ h6) (hC 4 (zq48_c h7) (hC 7 (zq48_c h8) (hC 10 (zq50_M.c _ h9) h0)))) ?_
  cases p
  exact rt [64, 80] []
 ·refine X_skip (thN ?_)
  obtain ⟨r10, h10, p⟩ := obind p
  refine rs G (hC 2 (zq48_c h10) h0) ?_
  obtain ⟨r14, h15, r15, h16, u1, h17, p⟩ := ob3 p
  obtain ⟨r16, h18, p⟩ := obind p
  refine ds G [(2, [0]), (9, [0]), (14, [0]), (17, [32, 64, 80])] (hC 2 (zq39_M.c _ h15) (hC 9 (zq48_c h16) (hK h17 (hC 14 (zq48_c h18) h0)))) ?_
  cases p
  exact rt [64, 80] []
noncomputable def zq33_M : MS ((List UInt8)) (Timetable × Int × Int × Int) := ⟨.r, zq33, fun y => .tup [.aggv [.own 0, dV y.1.Network.Lines, .own 1], dV y.2.1, dV y.2.2.1, dV y.2.2.2], fun y => [arO 9 y.1.Network.Stops, arO 167 y.1.Trips], fun _ _ => []⟩
theorem zq33_ok : FnOK Try.prog tJ 58 zq33_M.S := by
 refine fm tt zq33_M [fo zq49_ok] call58 func58 rfl results58 ntmps58 ?_
 rintro code y cx G (p : zq33 code = some y)
 unfold zq33 at p
 refine rg G (rg G ?_)
 obtain ⟨r, h, p⟩ := obind p
 refine rs G (hC 1 (zq49_M.c _ h) h0) ?_
 refine rg G ?_
 cases p
 exact rt [160, 161] []
noncomputable def zq30_M : MS (Int × Int × Int) Bool := ⟨.x .r (.x .r .r), fun x => zq30 x.1 x.2.1 x.2.2, fun y => dV y, fun _ => [], fun _ _ => []⟩
theorem zq30_c {n lo hi y} (p : zq30 n lo hi = some y) : zq30_M.C (n, lo, hi) y := zq30_M.c (n, lo, hi) p
theorem zq30_ok : FnOK Try.prog tJ 91 zq30_M.S := by
 refine fm tt zq30_M [] call91 func91 rfl results91 ntmps91 ?_
 rintro ⟨n, lo, hi⟩ y cx G (p : zq30 n lo hi = some y)
 unfold zq30 at p
 refine rg G (jn p (fun v => ⟨[(6, dV v)], [], 32⟩) (fun v p => ?_) ?_)
 ·rcases bf p with ⟨hb, p⟩ | ⟨hb, p⟩
  ·refine re G (hO 3 (.b true) (hP hb h0)) ?_
   exact wJ G p
  ·refine re G (hO 3 (.b false) (hP hb h0)) ?_
   exact wJ G p
 rintro v p
 cases p
 exact rt [] []
noncomputable def zq18_M : MS ByteArray Bool := ⟨.r, zq18, fun y => dV y, fun _ => [], fun _ _ => []⟩
theorem zq18_ok : FnOK Try.prog tJ 231 zq18_M.S := by
 refine fm tt zq18_M [] call231 func231 rfl results231 ntmps231 ?_
 rintro s y cx G (p : zq18 s = some y)
 unfold zq18 at p
 refine rg G (Ok_seq (jn p (fun v => ⟨[(0, dV s), (12, dV v)], [], 32⟩) (fun v p => ?_) ?_))
 ·rcases bf p with ⟨hb, p⟩ | ⟨hb, p⟩
  ·refine re G (hO 3 (.b true) (hP hb h0)) ?_
   exact wJ G p
  ·refine re G (hO 3 (.b false) (hP hb h0)) ?_
   exact wJ G p
 rintro v p
 refine cd p ?_ ?_ <;> intro p
 ·refine rg G ?_
  cases p
  exact rt [] []
 ·refine X_skip (thN (Ok_seq (rg G (tF p (fun _ => ⟨[], [], 32⟩) (fun v4 hr p => ?_) ?_))))
  ·refine Ok_block (lp G p (fun v1 => ⟨[(0, dV s), (14, dV (s.size : Int)), (15, dV v1)], [], 32⟩) ?_)
   rintro v1 r0 hb1 p
   rw [zq18_L1] at p
   refine rg G (Ok_seq (cd p ?_ ?_)) <;> intro p
   ·refine X_skip (thN (Ok_seq (Ok_block (rg G ?_))))
    obtain ⟨u, h, p⟩ := obind p
    refine jn p (fun v2 => ⟨[(0, dV s), (3, dV v1), (4, dV v2), (14, dV (s.size : Int)), (15, dV v1)], [], 32⟩) (fun v2 p => ?_) ?_
    ·rcases bf p with ⟨hb2, p⟩ | ⟨hb2, p⟩
     ·obtain ⟨u1, h1, p⟩ := obind p
      refine re G (hK h (hO 4 (.b true) (hP hb2 (hK h1 h0)))) ?_
      exact wJ G p
     ·refine re G (hK h (hO 4 (.b false) (hP hb2 h0))) ?_
      exact wJ G p
    rintro v2 p
    refine jn p (fun v3 => ⟨[(0, dV s), (14, dV (s.size : Int)), (15, dV v1), (45, dV v3)], [], 32⟩) (fun v3 p => ?_) ?_
    ·rcases bf p with ⟨hb3, p⟩ | ⟨hb3, p⟩
     ·rcases bf p with ⟨hb4, p⟩ | ⟨hb4, p⟩
      ·refine re G (hO 2 (.b true) (hP hb3 (hO 5 (.b true) (hP hb4 h0)))) ?_
       exact wJ G p
      ·obtain ⟨u2, h2, p⟩ := obind p
       rcases bf p with ⟨hb5, p⟩ | ⟨hb5, p⟩
       ·refine re G (hO 2 (.b true) (hP hb3 (hO 5 (.b false) (hP hb4 (hK h2 (hO 11 (.b true) (hP hb5 h0))))))) ?_
        exact wJ G p
       ·obtain ⟨u3, h3, p⟩ := obind p
        refine re G (hO 2 (.b true) (hP hb3 (hO 5 (.b false) (hP hb4 (hK h2 (hO 11 (.b false) (hP hb5 (hK h3 h0)))))))) ?_
        exact wJ G p
     ·refine re G (hO 2 (.b false) (hP hb3 h0)) ?_
      exact wJ G p
    rintro v3 p
    refine cd p ?_ ?_ <;> intro p
    ·refine rg G ?_
     have p := eL p hb1 hr
     cases p
     exact rt [] []
    ·exact X_skip (ibN (thN (rh G (wL G p))))
   ·exact Ok_exit (thE (thE (ibE (wE G p hb1))))
  rintro ⟨⟩ p s1 hw
  refine thN (Ok_weak hw ?_)
  refine rg G ?_
  cases p
  exact rt [] []
noncomputable def zq89_M : MS ((List ByteArray) × ByteArray) Int := ⟨.x .r .r, fun x => zq89 x.1 x.2, fun y => dV y, fun _ => [], fun _ _ => []⟩
theorem zq89_ok : FnOK Try.prog tJ 232 zq89_M.S := by
 refine fm tt zq89_M [] call232 func232 rfl results232 ntmps232 ?_
 rintro ⟨s, v⟩ y cx G (p : zq89 s v = some y)
 unfold zq89 at p
 refine rg G (Ok_seq (rs G (hN 1 s h0) ?_))
 refine tF p (fun _ => ⟨[], [], 32⟩) (fun v2 hr p => ?_) ?_
 ·refine Ok_block (lp G p (fun v1 => ⟨[(0, dV s), (1, dV v), (7, dV (s.length : Int)), (8, dV v1)], [], 32⟩) ?_)
  rintro v1 r0 hb p
  rw [zq89_L1] at p
  refine rg G (Ok_seq (cd p ?_ ?_)) <;> intro p
  ·refine X_skip (thN (Ok_seq (Ok_block (rg G ?_))))
   obtain ⟨e, h, p⟩ := obind p
   refine rs G (hD 3 h h0) ?_
   refine cd p ?_ ?_ <;> intro p
   ·refine rg G ?_
    have p := eL p hb hr
    cases p
    exact rt [] []
   ·exact X_skip (ibN (thN (rh G (wL G p))))
  ·exact Ok_exit (thE (thE (ibE (wE G p hb))))
 rintro ⟨⟩ p s1 hw
 refine thN (Ok_weak hw ?_)
 refine rg G ?_
 cases p
 exact rt [] []
noncomputable def zq8_M : MS ((List ByteArray)) Bool := ⟨.r, zq8, fun y => dV y, fun _ => [], fun _ _ => []⟩
theorem zq8_ok : FnOK Try.prog tJ 199 zq8_M.S := by
 refine fm tt zq8_M [fo zq18_ok, fo zq89_ok] call199 func199 rfl results199 ntmps199 ?_
 rintro names y cx G (p : zq8 names = some y)
 unfold zq8 at p
 refine rg G (Ok_seq (rs G (hN 1 names h0) ?_))
 refine tF p (fun _ => ⟨[], [], 32⟩) (fun v2 hr p => ?_) ?_
 ·refine Ok_block (lp G p (fun v => ⟨[(0, dV names), (5, dV names), (6, dV (names.length : Int)), (7, dV v)], [], 32⟩) ?_)
  rintro v r0 hb p
  rw [zq8_L1] at p
  refine rg G (Ok_seq (cd p ?_ ?_)) <;> intro p
  ·refine X_skip (thN (Ok_seq (Ok_block ?_)))
   obtain ⟨e, h, p⟩ := obind p
   refine rs G (hD 1 h h0) ?_
   obtain ⟨r, h1, p⟩ := obind p
   refine jn p (fun v1 => ⟨[(0, dV names), (5, dV names), (6, dV (names.length : Int)), (7, dV v), (21, dV v1)], [], 32⟩) (fun v1 p => ?_) ?_
   ·rcases bf p with ⟨hb1, p⟩ | ⟨hb1, p⟩
    ·refine re G (hC 1 (zq18_M.c _ h1) (hO 3 (.b true) (hP hb1 h0))) ?_
     exact wJ G p
    ·obtain ⟨r1, h2, p⟩ := obind p
     refine re G (hC 1 (zq18_M.c _ h1) (hO 3 (.b false) (hP hb1 (hC 6 (zq89_M.c (_, _) h2) h0)))) ?_
     exact wJ G p
   rintro v1 p
   refine cd p ?_ ?_ <;> intro p
   ·refine rg G ?_
    have p := eL p hb hr
    cases p
    exact rt [] []
   ·exact X_skip (ibN (thN (rh G (wL G p))))
  ·exact Ok_exit (thE (thE (ibE (wE G p hb))))
 rintro ⟨⟩ p s hw
 refine thN (Ok_weak hw ?_)
 refine rg G ?_
 cases p
 exact rt [] []
noncomputable def zq22_M : MS Network ((List ByteArray)) := ⟨.r, zq22, fun _ => .own 0, fun y => [arO 9 y], fun _ _ => []⟩
theorem zq22_ok : FnOK Try.prog tJ 200 zq22_M.S := by
 refine fm tt zq22_M [] call200 func200 rfl results200 ntmps200 ?_
 rintro n y cx G (p : zq22 n = some y)
 unfold zq22 at p
 refine rg G ?_
 obtain ⟨u, h, p⟩ := obind p
 refine rs G (hN 2 n.Lines (hO 3 (.l (List.map Enc.e (List.replicate (n.Lines.length : Int).toNat (ByteArray.empty : ByteArray)))) (hP (mk_p (b := 16) (chk_t h) rfl) (hP (rep_m Enc.e (n.Lines.length : Int).toNat (ByteArray.empty : ByteArray)) h0)))) ?_
 refine Ok_seq (rs G (hN 2 n.Lines h0) ?_)
 refine tl p (fun i1 => ⟨[(3, .own 16)], [aX 16 9 i1], 48⟩) (fun i1 p => ?_) ?_
 ·refine Ok_block (lp G p (fun (v, i) => ⟨[(3, .own 16), (11, dV n.Lines), (12, dV (n.Lines.length : Int)), (13, dV v)], [aX 16 9 i], 48⟩) ?_)
  rintro ⟨v, i⟩ r0 hb p
  rw [zq22_L1] at p
  refine rg G (Ok_seq (cd p ?_ ?_)) <;> intro p
  ·refine X_skip (thN (Ok_seq (Ok_block ?_)))
   obtain ⟨e, h1, p⟩ := obind p
   refine rs G (hD 1 h1 h0) ?_
   obtain ⟨e1, h2, p⟩ := obind p
   refine re G (hD 4 h2 (hS 5 h2 e.Name h0)) ?_
   exact ibN (thN (rh G (wL G p)))
  ·exact Ok_exit (thE (thE (ibE (wD G p hb))))
 rintro i1 p s hw
 refine thN (Ok_weak hw ?_)
 refine rg G ?_
 cases p
 exact rt [16] []
noncomputable def zq20_M : MS (Network × Int) Bool := ⟨.x .r .r, fun x => zq20 x.1 x.2, fun y => dV y, fun _ => [], fun _ _ => []⟩
theorem zq20_ok : FnOK Try.prog tJ 107 zq20_M.S := by
 refine fm tt zq20_M [] call107 func107 rfl results107 ntmps107 ?_
 rintro ⟨n, stop⟩ y cx G (p : zq20 n stop = some y)
 unfold zq20 at p
 refine rg G (jn p (fun v => ⟨[(4, dV v)], [], 32⟩) (fun v p => ?_) ?_)
 ·rcases bf p with ⟨hb, p⟩ | ⟨hb, p⟩
  ·refine re G (hO 2 (.b true) (hP hb (hN 6 n.Stops h0))) ?_
   exact wJ G p
  ·refine re G (hO 2 (.b false) (hP hb h0)) ?_
   exact wJ G p
 rintro v p
 cases p
 exact rt [] []
noncomputable def zq88_M : MS ((List Int) × Int) Int := ⟨.x .r .r, fun x => zq88 x.1 x.2, fun y => dV y, fun _ => [], fun _ _ => []⟩
theorem zq88_ok : FnOK Try.prog tJ 160 zq88_M.S := by
 refine fm tt zq88_M [] call160 func160 rfl results160 ntmps160 ?_
 rintro ⟨s, v⟩ y cx G (p : zq88 s v = some y)
 unfold zq88 at p
 refine rg G (Ok_seq (rs G (hN 1 s h0) ?_))
 refine tF p (fun _ => ⟨[], [], 32⟩) (fun v2 hr p => ?_) ?_
 ·refine Ok_block (lp G p (fun v1 => ⟨[(0, dV s), (1, dV v), (7, dV (s.length : Int)), (8, dV v1)], [], 32⟩) ?_)
  rintro v1 r0 hb p
  rw [zq88_L1] at p
  refine rg G (Ok_seq (cd p ?_ ?_)) <;> intro p
  ·refine X_skip (thN (Ok_seq (Ok_block (rg G ?_))))
   obtain ⟨e, h, p⟩ := obind p
   refine rs G (hD 3 h h0) ?_
   refine cd p ?_ ?_ <;> intro p
   ·refine rg G ?_
    have p := eL p hb hr
    cases p
    exact rt [] []
   ·exact X_skip (ibN (thN (rh G (wL G p))))
  ·exact Ok_exit (thE (thE (ibE (wE G p hb))))
 rintro ⟨⟩ p s1 hw
 refine thN (Ok_weak hw ?_)
 refine rg G ?_
 cases p
 exact rt [] []
noncomputable def zq21_M : MS (Network × Line) Bool := ⟨.x .r .r, fun x => zq21 x.1 x.2, fun y => dV y, fun _ => [], fun _ _ => []⟩
theorem zq21_ok : FnOK Try.prog tJ 201 zq21_M.S := by
 refine fm tt zq21_M [fo zq30_ok, fo zq20_ok, fo zq88_ok] call201 func201 rfl results201 ntmps201 ?_
 rintro ⟨n, l⟩ y cx G (p : zq21 n l = some y)
 unfold zq21 at p
 refine rg G (Ok_seq ?_)
 obtain ⟨r, h, p⟩ := obind p
 refine jn p (fun v => ⟨[(2, .ref 16 0), (3, .ref 32 0), (23, dV v)], [bX 16 32 [dV n.Stops, dV n.Lines], bX 32 146 [dV l.Name, dV l.Stops, dV l.Runs]], 64⟩) (fun v p => ?_) ?_
 ·rcases bf p with ⟨hb, p⟩ | ⟨hb, p⟩
  ·refine re G (hN 2 l.Stops (hC 3 (zq30_c h) (hO 5 (.b true) (hP hb h0)))) ?_
   exact wJ G p
  ·refine re G (hN 2 l.Stops (hC 3 (zq30_c h) (hO 5 (.b false) (hP hb (hN 8 l.Runs (hN 11 l.Stops h0)))))) ?_
   exact wJ G p
 rintro v p
 refine cd p ?_ ?_ <;> intro p
 ·refine rg G ?_
  cases p
  exact rt [] []
 ·refine X_skip (thN (Ok_seq (rs G (hN 2 l.Stops h0) ?_)))
  refine tF p (fun _ => ⟨[(3, .ref 16 0)], [bX 16 146 [dV l.Name, dV l.Stops, dV l.Runs]], 48⟩) (fun v5 hr p => ?_) ?_
  ·refine Ok_block (lp G p (fun v1 => ⟨[(2, .ref 16 0), (3, .ref 32 0), (25, dV l.Stops), (26, dV (l.Stops.length : Int)), (27, dV v1)], [bX 16 32 [dV n.Stops, dV n.Lines], bX 32 146 [dV l.Name, dV l.Stops, dV l.Runs]], 64⟩) ?_)
   rintro v1 r0 hb1 p
   rw [zq21_L1] at p
   refine rg G (Ok_seq (cd p ?_ ?_)) <;> intro p
   ·refine X_skip (thN (Ok_seq (Ok_block ?_)))
    obtain ⟨e, h1, p⟩ := obind p
    refine rs G (hD 1 h1 h0) ?_
    obtain ⟨r1, h2, p⟩ := obind p
    refine jn p (fun v2 => ⟨[(2, .ref 16 0), (3, .ref 32 0), (25, dV l.Stops), (26, dV (l.Stops.length : Int)), (27, dV v1), (43, dV v2)], [bX 16 32 [dV n.Stops, dV n.Lines], bX 32 146 [dV l.Name, dV l.Stops, dV l.Runs]], 64⟩) (fun v2 p => ?_) ?_
    ·rcases bf p with ⟨hb2, p⟩ | ⟨hb2, p⟩
     ·refine re G (hC 2 (zq20_M.c (_, _) h2) (hO 4 (.b true) (hP hb2 h0))) ?_
      exact wJ G p
     ·obtain ⟨r2, h3, p⟩ := obind p
      refine re G (hC 2 (zq20_M.c (_, _) h2) (hO 4 (.b false) (hP hb2 (hC 8 (zq88_M.c (_, _) h3) h0)))) ?_
      exact wJ G p
    rintro v2 p
    refine cd p ?_ ?_ <;> intro p
    ·refine rg G ?_
     have p := eL p hb1 hr
     cases p
     exact rt [] []
    ·exact X_skip (ibN (thN (rh G (wL G p))))
   ·exact Ok_exit (thE (thE (ibE (wE G p hb1))))
  rintro ⟨⟩ p s hw
  refine thN (Ok_weak hw ?_)
  refine Ok_seq (rs G (hN 2 l.Runs h0) ?_)
  refine tF p (fun _ => ⟨[], [], 32⟩) (fun v4 hr1 p => ?_) ?_
  ·refine Ok_block (lp G p (fun v3 => ⟨[(46, dV l.Runs), (47, dV (l.Runs.length : Int)), (48, dV v3)], [], 32⟩) ?_)
   rintro v3 r0 hb3 p
   rw [zq21_L2] at p
   refine rg G (Ok_seq (cd p ?_ ?_)) <;> intro p
   ·refine X_skip (thN (Ok_seq (Ok_block ?_)))
    obtain ⟨e2, h4, p⟩ := obind p
    refine rs G (hD 0 h4 h0) ?_
    obtain ⟨r4, h5, p⟩ := obind p
    refine rs G (hC 1 (zq30_c h5) h0) ?_
    refine cd p ?_ ?_ <;> intro p
    ·refine rg G ?_
     have p := eL p hb3 hr1
     cases p
     exact rt [] []
    ·exact X_skip (ibN (thN (rh G (wL G p))))
   ·exact Ok_exit (thE (thE (ibE (wE G p hb3))))
  rintro ⟨⟩ p s1 hw1
  refine thN (Ok_weak hw1 ?_)
  refine rg G ?_
  cases p
  exact rt [] []
noncomputable def zq4_M : MS Network Bool := ⟨.r, zq4, fun y => dV y, fun _ => [], fun _ _ => []⟩
theorem zq4_ok : FnOK Try.prog tJ 143 zq4_M.S := by
 refine fm tt zq4_M [fo zq30_ok, fo zq8_ok, fo zq22_ok, fo zq21_ok] call143 func143 rfl results143 ntmps143 ?_
 rintro n y cx G (p : zq4 n = some y)
 unfold zq4 at p
 refine rg G (Ok_seq ?_)
 obtain ⟨r, h, p⟩ := obind p
 refine jn p (fun v => ⟨[(1, .ref 16 0), (28, dV v)], [bX 16 32 [dV n.Stops, dV n.Lines]], 48⟩) (fun v p => ?_) ?_
 ·rcases bf p with ⟨hb, p⟩ | ⟨hb, p⟩
  ·refine re G (hN 2 n.Stops (hC 3 (zq30_c h) (hO 5 (.b true) (hP hb h0)))) ?_
   exact wJ G p
  ·obtain ⟨r1, h1, p⟩ := obind p
   rcases bf p with ⟨hb1, p⟩ | ⟨hb1, p⟩
   ·refine re G (hN 2 n.Stops (hC 3 (zq30_c h) (hO 5 (.b false) (hP hb (hN 8 n.Lines (hC 9 (zq30_c h1) (hO 12 (.b true) (hP hb1 h0)))))))) ?_
    exact wJ G p
   ·obtain ⟨r2, h2, p⟩ := obind p
    rcases bf p with ⟨hb2, p⟩ | ⟨hb2, p⟩
    ·refine re G (hN 2 n.Stops (hC 3 (zq30_c h) (hO 5 (.b false) (hP hb (hN 8 n.Lines (hC 9 (zq30_c h1) (hO 12 (.b false) (hP hb1 (hC 15 (zq8_M.c _ h2) (hO 18 (.b true) (hP hb2 h0))))))))))) ?_
     exact wJ G p
    ·obtain ⟨r3, h3, r4, h4, p⟩ := ob2 p
     refine re G (hN 2 n.Stops (hC 3 (zq30_c h) (hO 5 (.b false) (hP hb (hN 8 n.Lines (hC 9 (zq30_c h1) (hO 12 (.b false) (hP hb1 (hC 15 (zq8_M.c _ h2) (hO 18 (.b false) (hP hb2 (hC 20 (zq22_M.c _ h3) (hC 21 (zq8_M.c _ h4) h0))))))))))))) ?_
     exact wJ G p
 rintro v p
 refine cd p ?_ ?_ <;> intro p
 ·refine rg G ?_
  cases p
  exact rt [] []
 ·refine X_skip (thN (Ok_seq (rs G (hN 2 n.Lines h0) ?_)))
  refine tF p (fun _ => ⟨[], [], 32⟩) (fun v2 hr p => ?_) ?_
  ·refine Ok_block (lp G p (fun v1 => ⟨[(1, .ref 16 0), (30, dV n.Lines), (31, dV (n.Lines.length : Int)), (32, dV v1)], [bX 16 32 [dV n.Stops, dV n.Lines]], 48⟩) ?_)
   rintro v1 r0 hb3 p
   rw [zq4_L1] at p
   refine rg G (Ok_seq (cd p ?_ ?_)) <;> intro p
   ·refine X_skip (thN (Ok_seq (Ok_block ?_)))
    obtain ⟨e, h5, p⟩ := obind p
    refine rs G (hD 0 h5 h0) ?_
    obtain ⟨r5, h6, p⟩ := obind p
    refine rs G (hC 2 (zq21_M.c (_, _) h6) h0) ?_
    refine cd p ?_ ?_ <;> intro p
    ·refine rg G ?_
     have p := eL p hb3 hr
     cases p
     exact rt [] []
    ·exact X_skip (ibN (thN (rh G (wL G p))))
   ·exact Ok_exit (thE (thE (ibE (wE G p hb3))))
  rintro ⟨⟩ p s hw
  refine thN (Ok_weak hw ?_)
  refine rg G ?_
  cases p
  exact rt [] []
noncomputable def zq17_M : MS (Network × Int) Bool := ⟨.x .r .r, fun x => zq17 x.1 x.2, fun y => dV y, fun _ => [], fun _ _ => []⟩
theorem zq17_ok : FnOK Try.prog tJ 162 zq17_M.S := by
 refine fm tt zq17_M [] call162 func162 rfl results162 ntmps162 ?_
 rintro ⟨n, line⟩ y cx G (p : zq17 n line = some y)
 unfold zq17 at p
 refine rg G (jn p (fun v => ⟨[(4, dV v)], [], 32⟩) (fun v p => ?_) ?_)
 ·rcases bf p with ⟨hb, p⟩ | ⟨hb, p⟩
  ·refine re G (hO 2 (.b true) (hP hb (hN 6 n.Lines h0))) ?_
   exact wJ G p
  ·refine re G (hO 2 (.b false) (hP hb h0)) ?_
   exact wJ G p
 rintro v p
 cases p
 exact rt [] []
noncomputable def zq5_M : MS Int Bool := ⟨.r, zq5, fun y => dV y, fun _ => [], fun _ _ => []⟩
theorem zq5_ok : FnOK Try.prog tJ 121 zq5_M.S := by
 refine fm tt zq5_M [fo zq30_ok] call121 func121 rfl results121 ntmps121 ?_
 rintro t y cx G (p : zq5 t = some y)
 unfold zq5 at p
 refine rg G ?_
 obtain ⟨r, h, p⟩ := obind p
 refine rs G (hC 1 (zq30_c h) h0) ?_
 cases p
 exact rt [] []
noncomputable def zq27_M : MS ((List Int)) Int := ⟨.r, zq27, fun y => dV y, fun _ => [], fun _ _ => []⟩
theorem zq27_c {list y} (p : zq27 list = some y) : zq27_M.C list y := zq27_M.c list p
theorem zq27_ok : FnOK Try.prog tJ 109 zq27_M.S := by
 refine fm tt zq27_M [] call109 func109 rfl results109 ntmps109 ?_
 rintro list y cx G (p : zq27 list = some y)
 unfold zq27 at p
 refine rg G (rg G (Ok_seq (rs G (hN 1 list h0) ?_)))
 refine tl p (fun v2 => ⟨[(3, dV v2)], [], 32⟩) (fun v2 p => ?_) ?_
 ·refine Ok_block (lp G p (fun (v, v1) => ⟨[(3, dV v), (6, dV list), (7, dV (list.length : Int)), (8, dV v1)], [], 32⟩) ?_)
  rintro ⟨v, v1⟩ r0 hb p
  rw [zq27_L1] at p
  refine rg G (Ok_seq (cd p ?_ ?_)) <;> intro p
  ·refine X_skip (thN (Ok_seq (Ok_block ?_)))
   obtain ⟨e, h, p⟩ := obind p
   refine rs G (hD 0 h h0) ?_
   exact rh G (ibN (thN (rh G (wL G p))))
  ·exact Ok_exit (thE (thE (ibE (wD G p hb))))
 rintro v2 p s hw
 refine thN (Ok_weak hw ?_)
 refine rg G ?_
 cases p
 exact rt [] []
noncomputable def zq13_M : MS (Timetable × Trip) Int := ⟨.x .r .r, fun x => zq13 x.1 x.2, fun y => dV y, fun _ => [], fun _ _ => []⟩
theorem zq13_ok : FnOK Try.prog tJ 202 zq13_M.S := by
 refine fm tt zq13_M [fo zq27_ok] call202 func202 rfl results202 ntmps202 ?_
 rintro ⟨t, x⟩ y cx G (p : zq13 t x = some y)
 unfold zq13 at p
 refine rg G ?_
 obtain ⟨e1, h2, r1, h3, p⟩ := ob2 p
 refine ds G [] (hD 7 h2 (hC 10 (zq27_c h3) h0)) ?_
 cases p
 exact rt [] []
noncomputable def zq9_M : MS Timetable Bool := ⟨.r, zq9, fun y => dV y, fun _ => [], fun _ _ => []⟩
theorem zq9_ok : FnOK Try.prog tJ 144 zq9_M.S := by
 refine fm tt zq9_M [fo zq17_ok, fo zq5_ok, fo zq13_ok] call144 func144 rfl results144 ntmps144 ?_
 rintro t y cx G (p : zq9 t = some y)
 unfold zq9 at p
 refine rg G (Ok_seq (rs G (hN 2 t.Trips h0) ?_))
 refine cd p ?_ ?_ <;> intro p
 ·refine rg G ?_
  cases p
  exact rt [] []
 ·refine X_skip (thN (rg G (Ok_seq (rs G (hN 2 t.Trips h0) ?_))))
  refine tF p (fun _ => ⟨[], [], 32⟩) (fun v3 hr p => ?_) ?_
  ·refine Ok_block (lp G p (fun (v, v1) => ⟨[(1, .ref 16 0), (3, dV v), (11, dV t.Trips), (12, dV (t.Trips.length : Int)), (13, dV v1)], [bX 16 35 [dV t.Network.Stops, dV t.Network.Lines, dV t.Trips]], 48⟩) ?_)
   rintro ⟨v, v1⟩ r0 hb p
   rw [zq9_L1] at p
   refine rg G (Ok_seq (cd p ?_ ?_)) <;> intro p
   ·refine X_skip (thN (Ok_seq (Ok_block ?_)))
    obtain ⟨e, h, p⟩ := obind p
    refine rs G (hD 0 h h0) ?_
    refine Ok_seq (jn p (fun v2 => ⟨[(1, .ref 16 0), (5, .ref 32 0), (11, dV t.Trips), (12, dV (t.Trips.length : Int)), (13, dV v1), (46, dV v2)], [bX 16 35 [dV t.Network.Stops, dV t.Network.Lines, dV t.Trips], bX 32 167 [dV e.Id, dV e.Line, dV e.Start]], 64⟩) (fun v2 p => ?_) ?_)
    ·rcases bf p with ⟨hb1, p⟩ | ⟨hb1, p⟩
     ·refine re G (hO 4 (.b true) (hP hb1 h0)) ?_
      exact wJ G p
     ·rcases bf p with ⟨hb2, p⟩ | ⟨hb2, p⟩
      ·refine re G (hO 4 (.b false) (hP hb1 (hO 9 (.b true) (hP hb2 h0)))) ?_
       exact wJ G p
      ·obtain ⟨r, h1, p⟩ := obind p
       rcases bf p with ⟨hb3, p⟩ | ⟨hb3, p⟩
       ·refine re G (hO 4 (.b false) (hP hb1 (hO 9 (.b false) (hP hb2 (hC 14 (zq17_M.c (_, _) h1) (hO 17 (.b true) (hP hb3 h0))))))) ?_
        exact wJ G p
       ·obtain ⟨r1, h2, p⟩ := obind p
        rcases bf p with ⟨hb4, p⟩ | ⟨hb4, p⟩
        ·refine re G (hO 4 (.b false) (hP hb1 (hO 9 (.b false) (hP hb2 (hC 14 (zq17_M.c (_, _) h1) (hO 17 (.b false) (hP hb3 (hC 20 (zq5_M.c _ h2) (hO 23 (.b true) (hP hb4 h0)))))))))) ?_
         exact wJ G p
        ·obtain ⟨r2, h3, r3, h4, p⟩ := ob2 p
         refine re G (hO 4 (.b false) (hP hb1 (hO 9 (.b false) (hP hb2 (hC 14 (zq17_M.c (_, _) h1) (hO 17 (.b false) (hP hb3 (hC 20 (zq5_M.c _ h2) (hO 23 (.b false) (hP hb4 (hC 26 (zq13_M.c (_, _) h3) (hC 27 (zq5_M.c _ h4) h0)))))))))))) ?_
         exact wJ G p
    rintro v2 p
    refine cd p ?_ ?_ <;> intro p
    ·refine rg G ?_
     have p := eL p hb hr
     cases p
     exact rt [] []
    ·exact X_skip (thN (rh G (ibN (thN (rh G (wL G p))))))
   ·exact Ok_exit (thE (thE (ibE (wE G p hb))))
  rintro ⟨⟩ p s hw
  refine thN (Ok_weak hw ?_)
  refine rg G ?_
  cases p
  exact rt [] []
noncomputable def zq6_M : MS Timetable Bool := ⟨.r, zq6, fun y => dV y, fun _ => [], fun _ _ => []⟩
theorem zq6_ok : FnOK Try.prog tJ 68 zq6_M.S := by
 refine fm tt zq6_M [fo zq4_ok, fo zq9_ok] call68 func68 rfl results68 ntmps68 ?_
 rintro t y cx G (p : zq6 t = some y)
 unfold zq6 at p
 refine rg G ?_
 obtain ⟨r, h, p⟩ := obind p
 refine jn p (fun v => ⟨[(2, dV v)], [], 32⟩) (fun v p => ?_) ?_
 ·rcases bf p with ⟨hb, p⟩ | ⟨hb, p⟩
  ·obtain ⟨r1, h1, p⟩ := obind p
   refine re G (hC 2 (zq4_M.c _ h) (hO 3 (.b true) (hP hb (hC 5 (zq9_M.c _ h1) h0)))) ?_
   exact wJ G p
  ·refine re G (hC 2 (zq4_M.c _ h) (hO 3 (.b false) (hP hb h0))) ?_
   exact wJ G p
 rintro v p
 cases p
 exact rt [] []
noncomputable def zq15_M : MS Int Bool := ⟨.r, zq15, fun y => dV y, fun _ => [], fun _ _ => []⟩
theorem zq15_ok : FnOK Try.prog tJ 126 zq15_M.S := by
 refine fm tt zq15_M [fo zq30_ok] call126 func126 rfl results126 ntmps126 ?_
 rintro change y cx G (p : zq15 change = some y)
 unfold zq15 at p
 refine rg G ?_
 obtain ⟨r, h, p⟩ := obind p
 refine rs G (hC 1 (zq30_c h) h0) ?_
 cases p
 exact rt [] []
noncomputable def zq19_M : MS (Timetable × Int × Int × Int) Bool := ⟨.x .r (.x .r (.x .r .r)), fun x => zq19 x.1 x.2.1 x.2.2.1 x.2.2.2, fun y => dV y, fun _ => [], fun _ _ => []⟩
theorem zq19_ok : FnOK Try.prog tJ 120 zq19_M.S := by
 refine fm tt zq19_M [fo zq6_ok, fo zq15_ok, fo zq20_ok] call120 func120 rfl results120 ntmps120 ?_
 rintro ⟨t, change, from_, to_⟩ y cx G (p : zq19 t change from_ to_ = some y)
 unfold zq19 at p
 refine rg G ?_
 obtain ⟨r, h, p⟩ := obind p
 refine jn p (fun v => ⟨[(8, dV v)], [], 32⟩) (fun v p => ?_) ?_
 ·rcases bf p with ⟨hb, p⟩ | ⟨hb, p⟩
  ·obtain ⟨r1, h1, p⟩ := obind p
   rcases bf p with ⟨hb1, p⟩ | ⟨hb1, p⟩
   ·obtain ⟨r2, h2, p⟩ := obind p
    rcases bf p with ⟨hb2, p⟩ | ⟨hb2, p⟩
    ·obtain ⟨r3, h3, p⟩ := obind p
     rcases bf p with ⟨hb3, p⟩ | ⟨hb3, p⟩
     ·refine re G (hC 1 (zq6_M.c _ h) (hO 2 (.b true) (hP hb (hC 4 (zq15_M.c _ h1) (hO 6 (.b true) (hP hb1 (hC 10 (zq20_M.c (_, _) h2) (hO 12 (.b true) (hP hb2 (hC 16 (zq20_M.c (_, _) h3) (hO 18 (.b true) (hP hb3 h0)))))))))))) ?_
      exact wJ G p
     ·refine re G (hC 1 (zq6_M.c _ h) (hO 2 (.b true) (hP hb (hC 4 (zq15_M.c _ h1) (hO 6 (.b true) (hP hb1 (hC 10 (zq20_M.c (_, _) h2) (hO 12 (.b true) (hP hb2 (hC 16 (zq20_M.c (_, _) h3) (hO 18 (.b false) (hP hb3 h0)))))))))))) ?_
      exact wJ G p
    ·refine re G (hC 1 (zq6_M.c _ h) (hO 2 (.b true) (hP hb (hC 4 (zq15_M.c _ h1) (hO 6 (.b true) (hP hb1 (hC 10 (zq20_M.c (_, _) h2) (hO 12 (.b false) (hP hb2 h0))))))))) ?_
     exact wJ G p
   ·refine re G (hC 1 (zq6_M.c _ h) (hO 2 (.b true) (hP hb (hC 4 (zq15_M.c _ h1) (hO 6 (.b false) (hP hb1 h0)))))) ?_
    exact wJ G p
  ·refine re G (hC 1 (zq6_M.c _ h) (hO 2 (.b false) (hP hb h0))) ?_
   exact wJ G p
 rintro v p
 cases p
 exact rt [] []
noncomputable def zq23_M : MS (Timetable × Trip) Line := ⟨.x .r .r, fun x => zq23 x.1 x.2, fun y => dV y, fun _ => [], fun _ _ => []⟩
theorem zq23_ok : FnOK Try.prog tJ 165 zq23_M.S := by
 refine fm tt zq23_M [] call165 func165 rfl results165 ntmps165 ?_
 rintro ⟨t, x⟩ y cx G (p : zq23 t x = some y)
 unfold zq23 at p
 refine rg G ?_
 obtain ⟨e, h, p⟩ := obind p
 refine rs G (hD 5 h h0) ?_
 cases p
 exact rt [] []
noncomputable def zq26_M : MS (Timetable × Trip) ((List Int)) := ⟨.x .r .r, fun x => zq26 x.1 x.2, fun _ => .own 0, fun y => [arO 3 y], fun _ _ => []⟩
theorem zq26_ok : FnOK Try.prog tJ 171 zq26_M.S := by
 refine fm tt zq26_M [fo zq23_ok] call171 func171 rfl results171 ntmps171 ?_
 rintro ⟨t, x⟩ y cx G (p : zq26 t x = some y)
 unfold zq26 at p
 refine rg G (rg G (Ok_seq ?_))
 obtain ⟨r, h, p⟩ := obind p
 refine rs G (hC 2 (zq23_M.c (_, _) h) (hN 4 r.Runs h0)) ?_
 refine tl p (fun r2 => ⟨[(5, .own 16)], [aX 16 3 r2], 48⟩) (fun r2 p => ?_) ?_
 ·refine Ok_block (lp G p (fun (v, r1) => ⟨[(5, .own 16), (14, dV r.Runs), (15, dV (r.Runs.length : Int)), (16, dV v)], [aX 16 3 r1], 48⟩) ?_)
  rintro ⟨v, r1⟩ r0 hb p
  rw [zq26_L1] at p
  refine rg G (Ok_seq (cd p ?_ ?_)) <;> intro p
  ·refine X_skip (thN (Ok_seq (Ok_block ?_)))
   obtain ⟨e, h1, p⟩ := obind p
   refine rs G (hD 1 h1 h0) ?_
   obtain ⟨e1, h2, u, h3, p⟩ := ob2 p
   refine re G (hD 3 h2 (hE 4 h2 (hA 8 8 h3 h0))) ?_
   exact ibN (thN (rh G (wL G p)))
  ·exact Ok_exit (thE (thE (ibE (wD G p hb))))
 rintro r2 p s hw
 refine thN (Ok_weak hw ?_)
 refine rg G ?_
 cases p
 exact rt [16] []
noncomputable def zq32_M : MS ((IK .u64)) Int := ⟨.r, zq32, fun y => dV y, fun _ => [], fun _ _ => []⟩
theorem zq32_ok : FnOK Try.prog tJ 246 zq32_M.S := by
 refine fm tt zq32_M [] call246 func246 rfl results246 ntmps246 ?_
 rintro x y cx G (p : zq32 x = some y)
 unfold zq32 at p
 refine rg G (jn p (fun (x1, v) => ⟨[(0, kV .u64 x1), (2, dV v)], [], 32⟩) (fun vv2 p => ?_) ?_)
 ·refine rg G (cd p ?_ ?_) <;> intro p
  ·obtain ⟨u, h, p⟩ := obind p
   refine rs G (hK h h0) ?_
   exact rh G (wJ G p)
  ·exact X_skip (wJ G p)
 rintro ⟨x1, v⟩ p
 refine jn p (fun (x2, v1) => ⟨[(0, kV .u64 x2), (2, dV v1)], [], 32⟩) (fun vv1 p => ?_) ?_
 ·refine rg G (cd p ?_ ?_) <;> intro p
  ·obtain ⟨u1, h1, p⟩ := obind p
   refine rs G (hK h1 h0) ?_
   exact rh G (wJ G p)
  ·exact X_skip (wJ G p)
 rintro ⟨x2, v1⟩ p
 refine jn p (fun (x3, v2) => ⟨[(0, kV .u64 x3), (2, dV v2)], [], 32⟩) (fun vv p => ?_) ?_
 ·refine rg G (cd p ?_ ?_) <;> intro p
  ·obtain ⟨u2, h2, p⟩ := obind p
   refine rs G (hK h2 h0) ?_
   exact rh G (wJ G p)
  ·exact X_skip (wJ G p)
 rintro ⟨x3, v2⟩ p
 obtain ⟨u3, h3, p⟩ := obind p
 refine rs G (hK h3 h0) ?_
 cases p
 exact rt [] []
noncomputable def zq31_M : MS ((IK .u64)) Int := ⟨.r, zq31, fun y => dV y, fun _ => [], fun _ _ => []⟩
theorem zq31_ok : FnOK Try.prog tJ 215 zq31_M.S := by
 refine fm tt zq31_M [fo zq32_ok] call215 func215 rfl results215 ntmps215 ?_
 rintro x y cx G (p : zq31 x = some y)
 unfold zq31 at p
 refine rg G (Ok_seq (cF (X_skip (thN ?_))))
 obtain ⟨r, h, p⟩ := obind p
 refine rs G (hC 1 (zq32_M.c _ h) h0) ?_
 cases p
 exact rt [] []
noncomputable def zq1_M : MS Int Bool := ⟨.r, zq1, fun y => dV y, fun _ => [], fun _ _ => []⟩
theorem zq1_ok : FnOK Try.prog tJ 218 zq1_M.S := by
 refine fm tt zq1_M [] call218 func218 rfl results218 ntmps218 ?_
 rintro x y cx G (p : zq1 x = some y)
 unfold zq1 at p
 refine rg G (rg G ?_)
 cases p
 exact rt [] []
noncomputable def zq0_M : MS (Int × Int) Bool := ⟨.x .r .r, fun x => zq0 x.1 x.2, fun y => dV y, fun _ => [], fun _ _ => []⟩
theorem zq0_ok : FnOK Try.prog tJ 242 zq0_M.S := by
 refine fm tt zq0_M [fo zq1_ok] call242 func242 rfl results242 ntmps242 ?_
 rintro ⟨x, y_⟩ y cx G (p : zq0 x y_ = some y)
 unfold zq0 at p
 refine rg G ?_
 obtain ⟨r, h, p⟩ := obind p
 refine jn p (fun v => ⟨[(4, dV v)], [], 32⟩) (fun v p => ?_) ?_
 ·rcases bf p with ⟨hb, p⟩ | ⟨hb, p⟩
  ·obtain ⟨r1, h1, p⟩ := obind p
   rcases bf p with ⟨hb1, p⟩ | ⟨hb1, p⟩
   ·refine re G (hC 1 (zq1_M.c _ h) (hO 2 (.b true) (hP hb (hC 4 (zq1_M.c _ h1) (hO 7 (.b true) (hP hb1 h0)))))) ?_
    exact wJ G p
   ·refine re G (hC 1 (zq1_M.c _ h) (hO 2 (.b true) (hP hb (hC 4 (zq1_M.c _ h1) (hO 7 (.b false) (hP hb1 h0)))))) ?_
    exact wJ G p
  ·refine re G (hC 1 (zq1_M.c _ h) (hO 2 (.b false) (hP hb h0))) ?_
   exact wJ G p
 rintro v p
 cases p
 exact rt [] []
noncomputable def zq94_M : MS ((List Int) × Int × Int) ((List Int)) := ⟨.x (.s 3) (.x .r .r), fun x => zq94 x.1 x.2.1 x.2.2, fun _ => .tup [], fun _ => [], fun _ y => [arO 3 y]⟩
theorem zq94_ok : FnOK Try.prog tJ 236 zq94_M.S := by
 refine fm tt zq94_M [fo zq0_ok] call236 func236 rfl results236 ntmps236 ?_
 rintro ⟨data, a, b⟩ y cx G (p : zq94 data a b = some y)
 unfold zq94 at p
 refine rg G (Ok_block (lp G p (fun (v, data1) => ⟨[(0, .own 0), (1, dV a), (2, dV b), (6, dV v)], [aX 0 3 data1], 48⟩) ?_))
 rintro ⟨v, data1⟩ r0 hb p
 rw [zq94_L2] at p
 refine Ok_seq (rg G (cd p ?_ ?_)) <;> intro p
 ·refine X_skip (thN (Ok_seq (Ok_block (rg G (tl p (fun data3 => ⟨[(0, .own 0), (1, dV a), (2, dV b), (6, dV v)], [aX 0 3 data3], 48⟩) (fun data3 p => ?_) ?_)))))
  ·refine Ok_block (lp G p (fun (v1, data2) => ⟨[(0, .own 0), (1, dV a), (2, dV b), (6, dV v), (7, dV v1)], [aX 0 3 data2], 48⟩) ?_)
   rintro ⟨v1, data2⟩ r0 hb1 p
   rw [zq94_L1] at p
   refine Ok_seq (jn p (fun v2 => ⟨[(0, .own 0), (1, dV a), (2, dV b), (6, dV v), (7, dV v1), (30, dV v2)], [aX 0 3 data2], 48⟩) (fun v2 p => ?_) ?_)
   ·rcases bf p with ⟨hb2, p⟩ | ⟨hb2, p⟩
    ·obtain ⟨e2, h3, e3, h4, r1, h5, p⟩ := ob3 p
     refine de G [] (hO 3 (.b true) (hP hb2 (hD 6 h3 (hE 7 h3 (hD 11 h4 (hE 12 h4 (hC 13 (zq0_M.c (_, _) h5) h0))))))) ?_
     exact wJ G p
    ·refine de G [] (hO 3 (.b false) (hP hb2 h0)) ?_
     exact wJ G p
   rintro v2 p
   refine cd p ?_ ?_ <;> intro p
   ·refine X_skip (thN (Ok_seq (Ok_block ?_)))
    obtain ⟨e8, h10, e9, h11, e10, h12, p⟩ := ob3 p
    obtain ⟨e11, h13, p⟩ := obind p
    refine de G [(15, [0]), (17, [0])] (hD 8 h10 (hE 9 h10 (hD 12 h11 (hE 13 h11 (hD 14 h12 (hS 15 h12 e8 (hD 16 h13 (hS 17 h13 e9 h0)))))))) ?_
    exact ibN (thN (rh G (wL G p)))
   ·exact Ok_exit (thE (thE (ibE (wD G p hb1))))
  rintro data3 p s hw
  refine ibN (thN (Ok_weak hw ?_))
  exact rh G (wL G p)
 ·have p := eD p hb
  refine Ok_exit (thE (thE (ibE ?_)))
  cases p
  exact fN [] []
noncomputable def zq104_M : MS ((List Int) × Int × Int × Int) ((List Int)) := ⟨.x (.s 3) (.x .r (.x .r .r)), fun x => zq104 x.1 x.2.1 x.2.2.1 x.2.2.2, fun _ => .tup [], fun _ => [], fun _ y => [arO 3 y]⟩
theorem zq104_ok : FnOK Try.prog tJ 249 zq104_M.S := by
 refine fm tt zq104_M [fo zq0_ok] call249 func249 rfl results249 ntmps249 ?_
 rintro ⟨data, lo, hi, first⟩ y cx G (p : zq104 data lo hi first = some y)
 unfold zq104 at p
 refine rg G (Ok_block (lp G p (fun (v, data1) => ⟨[(0, .own 0), (2, dV hi), (3, dV first), (8, dV v)], [aX 0 3 data1], 48⟩) ?_))
 rintro ⟨v, data1⟩ r0 hb p
 rw [zq104_L1] at p
 refine Ok_block (rg G (Ok_seq (rg G (cd p ?_ ?_)))) <;> intro p
 ·have p := eD p hb
  refine Ok_exit (thE (ibX rfl (thE (ibE ?_))))
  cases p
  exact fN [] []
 ·refine X_skip (thN (jn p (fun v1 => ⟨[(0, .own 0), (2, dV hi), (3, dV first), (8, dV v), (9, dV v1)], [aX 0 3 data1], 48⟩) (fun v1 p => ?_) ?_))
  ·refine jn p (fun v2 => ⟨[(0, .own 0), (2, dV hi), (3, dV first), (8, dV v), (9, dV (w64 ((w64 (2 * v)) + 1))), (36, dV v2)], [aX 0 3 data1], 48⟩) (fun v2 p => ?_) ?_
   ·rcases bf p with ⟨hb1, p⟩ | ⟨hb1, p⟩
    ·obtain ⟨e3, h3, e4, h4, r2, h5, p⟩ := ob3 p
     refine de G [] (hO 4 (.b true) (hP hb1 (hD 9 h3 (hE 10 h3 (hD 16 h4 (hE 17 h4 (hC 18 (zq0_M.c (_, _) h5) h0))))))) ?_
     exact wJ G p
    ·refine de G [] (hO 4 (.b false) (hP hb1 h0)) ?_
     exact wJ G p
   rintro v2 p
   refine cd p ?_ ?_ <;> intro p
   ·exact rh G (wJ G p)
   ·exact X_skip (wJ G p)
  rintro v1 p
  refine Ok_seq ?_
  obtain ⟨e7, h9, e8, h10, r4, h11, p⟩ := ob3 p
  refine ds G [] (hD 4 h9 (hE 5 h9 (hD 10 h10 (hE 11 h10 (hC 12 (zq0_M.c (_, _) h11) h0))))) ?_
  refine cd p ?_ ?_ <;> intro p
  ·have p := eD p hb
   cases p
   exact rt [] []
  ·refine X_skip (thN ?_)
   obtain ⟨e14, h16, e15, h17, e16, h18, p⟩ := ob3 p
   obtain ⟨e17, h19, p⟩ := obind p
   refine ds G [(21, [0]), (23, [0])] (hD 12 h16 (hE 13 h16 (hD 18 h17 (hE 19 h17 (hD 20 h18 (hS 21 h18 e14 (hD 22 h19 (hS 23 h19 e15 h0)))))))) ?_
   exact rh G (ibN (wL G p))
noncomputable def zq93_M : MS ((List Int) × Int × Int) ((List Int)) := ⟨.x (.s 3) (.x .r .r), fun x => zq93 x.1 x.2.1 x.2.2, fun _ => .tup [], fun _ => [], fun _ y => [arO 3 y]⟩
theorem zq93_ok : FnOK Try.prog tJ 237 zq93_M.S := by
 refine fm tt zq93_M [fo zq104_ok] call237 func237 rfl results237 ntmps237 ?_
 rintro ⟨data, a, b⟩ y cx G (p : zq93 data a b = some y)
 unfold zq93 at p
 refine rg G (rg G (rg G (Ok_seq ?_)))
 obtain ⟨u, h, p⟩ := obind p
 refine rs G (hK h h0) ?_
 refine tl p (fun data2 => ⟨[(0, .own 0), (6, dV a), (7, kV .i64 0), (8, dV (w64 (b - a)))], [aX 0 3 data2], 48⟩) (fun data2 p => ?_) ?_
 ·refine Ok_block (lp G p (fun (v, data1) => ⟨[(0, .own 0), (6, dV a), (7, kV .i64 0), (8, dV (w64 (b - a))), (9, dV v)], [aX 0 3 data1], 48⟩) ?_)
  rintro ⟨v, data1⟩ r0 hb p
  rw [zq93_L1] at p
  refine Ok_seq (rg G (cd p ?_ ?_)) <;> intro p
  ·refine X_skip (thN (Ok_seq (Ok_block ?_)))
   obtain ⟨r, h1, p⟩ := obind p
   refine re G (hC 4 (zq104_M.c (_, _, _, _) h1) h0) ?_
   exact ibN (thN (rh G (wL G p)))
  ·exact Ok_exit (thE (thE (ibE (wD G p hb))))
 rintro data2 p s hw
 refine thN (Ok_weak hw ?_)
 refine rg G (Ok_block (lp G p (fun (v1, data3) => ⟨[(0, .own 0), (6, dV a), (7, kV .i64 0), (10, dV v1)], [aX 0 3 data3], 48⟩) ?_))
 rintro ⟨v1, data3⟩ r0 hb1 p
 rw [zq93_L2] at p
 refine Ok_seq (rg G (cd p ?_ ?_)) <;> intro p
 ·refine X_skip (thN (Ok_seq (Ok_block ?_)))
  obtain ⟨e4, h6, e5, h7, e6, h8, p⟩ := ob3 p
  obtain ⟨e7, h9, p⟩ := obind p
  refine ds G [(17, [0]), (19, [0])] (hD 10 h6 (hE 11 h6 (hD 14 h7 (hE 15 h7 (hD 16 h8 (hS 17 h8 e4 (hD 18 h9 (hS 19 h9 e5 h0)))))))) ?_
  obtain ⟨r1, h10, p⟩ := obind p
  refine re G (hC 4 (zq104_M.c (_, _, _, _) h10) h0) ?_
  exact ibN (thN (rh G (wL G p)))
 ·have p := eD p hb1
  refine Ok_exit (thE (thE (ibE ?_)))
  cases p
  exact fN [] []
noncomputable def zq98_M : MS ((List Int) × Int × Int × Int) (Int × Int × Int) := ⟨.x .r (.x .r (.x .r (.b 3))), fun x => zq98 x.1 x.2.1 x.2.2.1 x.2.2.2, fun y => .tup [dV y.1, dV y.2.1], fun _ => [], fun _ y => [bxO 3 y.2.2]⟩
theorem zq98_ok : FnOK Try.prog tJ 255 zq98_M.S := by
 refine fm tt zq98_M [fo zq0_ok] call255 func255 rfl results255 ntmps255 ?_
 rintro ⟨data, a, b, swaps⟩ y cx G (p : zq98 data a b swaps = some y)
 unfold zq98 at p
 refine rg G (Ok_seq ?_)
 obtain ⟨e2, h3, e3, h4, r1, h5, p⟩ := ob3 p
 refine ds G [] (hD 2 h3 (hD 6 h4 (hC 8 (zq0_M.c (_, _) h5) h0))) ?_
 refine cd p ?_ ?_ <;> intro p
 ·refine rg G (rg G ?_)
  cases p
  exact rt [] []
 ·refine X_skip (thN (rg G ?_))
  cases p
  exact rt [] []
noncomputable def zq96_M : MS ((List Int) × Int × Int × Int × Int) (Int × Int) := ⟨.x .r (.x .r (.x .r (.x .r (.b 3)))), fun x => zq96 x.1 x.2.1 x.2.2.1 x.2.2.2.1 x.2.2.2.2, fun y => dV y.1, fun _ => [], fun _ y => [bxO 3 y.2]⟩
theorem zq96_ok : FnOK Try.prog tJ 253 zq96_M.S := by
 refine fm tt zq96_M [fo zq98_ok] call253 func253 rfl results253 ntmps253 ?_
 rintro ⟨data, a, b, c, swaps⟩ y cx G (p : zq96 data a b c swaps = some y)
 unfold zq96 at p
 refine rg G ?_
 obtain ⟨r, h, p⟩ := obind p
 refine rs G (hC 4 (zq98_M.c (_, _, _, _) h) h0) ?_
 obtain ⟨r1, h1, p⟩ := obind p
 refine rs G (hC 4 (zq98_M.c (_, _, _, _) h1) h0) ?_
 obtain ⟨r2, h2, p⟩ := obind p
 refine rs G (hC 4 (zq98_M.c (_, _, _, _) h2) h0) ?_
 refine rg G ?_
 cases p
 exact rt [] []
noncomputable def zq95_M : MS ((List Int) × Int × Int) (Int × Int) := ⟨.x .r (.x .r (.b 3)), fun x => zq95 x.1 x.2.1 x.2.2, fun y => dV y.1, fun _ => [], fun _ y => [bxO 3 y.2]⟩
theorem zq95_ok : FnOK Try.prog tJ 252 zq95_M.S := by
 refine fm tt zq95_M [fo zq96_ok] call252 func252 rfl results252 ntmps252 ?_
 rintro ⟨data, a, swaps⟩ y cx G (p : zq95 data a swaps = some y)
 unfold zq95 at p
 refine rg G ?_
 obtain ⟨r, h, p⟩ := obind p
 refine rs G (hC 7 (zq96_M.c (_, _, _, _, _) h) h0) ?_
 cases p
 exact rt [] []
noncomputable def zq92_M : MS ((List Int) × Int × Int) (Int × Int) := ⟨.x .r (.x .r .r), fun x => zq92 x.1 x.2.1 x.2.2, fun y => .tup [dV y.1, dV y.2], fun _ => [], fun _ _ => []⟩
theorem zq92_ok : FnOK Try.prog tJ 239 zq92_M.S := by
 refine fm tt zq92_M [fo zq95_ok, fo zq96_ok] call239 func239 rfl results239 ntmps239 ?_
 rintro ⟨data, a, b⟩ y cx G (p : zq92 data a b = some y)
 unfold zq92 at p
 refine rg G (rg G (rg G ?_))
 obtain ⟨u, h, p⟩ := obind p
 refine rs G (hK h h0) ?_
 obtain ⟨u1, h1, p⟩ := obind p
 refine rs G (hK h1 h0) ?_
 obtain ⟨u2, h2, p⟩ := obind p
 refine rs G (hK h2 h0) ?_
 refine jn p (fun (v, v1) => ⟨[(9, .ref 16 0), (11, dV v)], [bX 16 3 [dV v1]], 48⟩) (fun vv1 p => ?_) ?_
 ·refine rg G (cd p ?_ ?_) <;> intro p
  ·refine jn p (fun (v2, v3, v4, v5) => ⟨[(0, dV data), (9, .ref 16 0), (10, dV v2), (11, dV v3), (12, dV v4)], [bX 16 3 [dV v5]], 48⟩) (fun vv p => ?_) ?_
   ·refine rg G (cd p ?_ ?_) <;> intro p
    ·obtain ⟨r, h3, p⟩ := obind p
     refine rs G (hC 2 (zq95_M.c (_, _, _) h3) h0) ?_
     obtain ⟨r1, h4, p⟩ := obind p
     refine rs G (hC 2 (zq95_M.c (_, _, _) h4) h0) ?_
     obtain ⟨r2, h5, p⟩ := obind p
     refine re G (hC 2 (zq95_M.c (_, _, _) h5) h0) ?_
     exact wJ G p
    ·exact X_skip (wJ G p)
   rintro ⟨v2, v3, v4, v5⟩ p
   obtain ⟨r3, h6, p⟩ := obind p
   refine re G (hC 4 (zq96_M.c (_, _, _, _, _) h6) h0) ?_
   exact wJ G p
  ·exact X_skip (wJ G p)
 rintro ⟨v, v1⟩ p
 refine rg G (Ok_block (rg G (cd p ?_ ?_))) <;> intro p
 ·refine rg G ?_
  cases p
  exact rt [] []
 ·refine rg G (cd p ?_ ?_) <;> intro p
  ·refine rg G ?_
   cases p
   exact rt [] []
  ·refine rg G ?_
   cases p
   exact rt [] []
noncomputable def zq103_M : MS ((List Int) × Int × Int) ((List Int)) := ⟨.x (.s 3) (.x .r .r), fun x => zq103 x.1 x.2.1 x.2.2, fun _ => .tup [], fun _ => [], fun _ y => [arO 3 y]⟩
theorem zq103_ok : FnOK Try.prog tJ 240 zq103_M.S := by
 refine fm tt zq103_M [] call240 func240 rfl results240 ntmps240 ?_
 rintro ⟨data, a, b⟩ y cx G (p : zq103 data a b = some y)
 unfold zq103 at p
 refine rg G (rg G (Ok_block (lp G p (fun (v, v1, data1) => ⟨[(0, .own 0), (6, dV v), (7, dV v1)], [aX 0 3 data1], 48⟩) ?_)))
 rintro ⟨v, v1, data1⟩ r0 hb p
 rw [zq103_L1] at p
 refine Ok_seq (rg G (cd p ?_ ?_)) <;> intro p
 ·refine X_skip (thN (Ok_block ?_))
  obtain ⟨e4, h4, e5, h5, e6, h6, p⟩ := ob3 p
  obtain ⟨e7, h7, p⟩ := obind p
  refine ds G [(13, [0]), (15, [0])] (hD 6 h4 (hE 7 h4 (hD 10 h5 (hE 11 h5 (hD 12 h6 (hS 13 h6 e4 (hD 14 h7 (hS 15 h7 e5 h0)))))))) ?_
  exact rg G (rh G (ibN (wL G p)))
 ·have p := eD p hb
  refine Ok_exit (thE (thE (ibE ?_)))
  cases p
  exact fN [] []
noncomputable def zq99_M : MS ((List Int) × Int × Int) (Bool × (List Int)) := ⟨.x (.s 3) (.x .r .r), fun x => zq99 x.1 x.2.1 x.2.2, fun y => dV y.1, fun _ => [], fun _ y => [arO 3 y.2]⟩
theorem zq99_ok : FnOK Try.prog tJ 241 zq99_M.S := by
 refine fm tt zq99_M [fo zq0_ok] call241 func241 rfl results241 ntmps241 ?_
 rintro ⟨data, a, b⟩ y cx G (p : zq99 data a b = some y)
 unfold zq99 at p
 refine rg G (rg G (Ok_seq (rg G (tF p (fun data8 => ⟨[(0, .own 0)], [aX 0 3 data8], 48⟩) (fun v5 hr p => ?_) ?_))))
 ·refine Ok_block (lp G p (fun (j, v, data1) => ⟨[(0, .own 0), (1, dV a), (2, dV b), (7, dV j), (8, dV v)], [aX 0 3 data1], 48⟩) ?_)
  rintro ⟨j, v, data1⟩ r0 hb p
  rw [zq99_L4] at p
  refine Ok_seq (rg G (cd p ?_ ?_)) <;> intro p
  ·refine X_skip (thN (jF p (fun (j1, data2) => ⟨[(0, .own 0), (1, dV a), (2, dV b), (7, dV j1), (8, dV v)], [aX 0 3 data2], 48⟩) (fun v4 hr1 p => ?_) ?_))
   ·refine Ok_block (jn p (fun j3 => ⟨[(0, .own 0), (1, dV a), (2, dV b), (7, dV j3), (8, dV v)], [aX 0 3 data1], 48⟩) (fun j3 p => ?_) ?_)
    ·refine Ok_block (lp G p (fun j2 => ⟨[(0, .own 0), (1, dV a), (2, dV b), (7, dV j2), (8, dV v)], [aX 0 3 data1], 48⟩) ?_)
     rintro j2 r0 hb1 p
     rw [zq99_L1] at p
     refine Ok_seq (jn p (fun v1 => ⟨[(0, .own 0), (1, dV a), (2, dV b), (7, dV j2), (8, dV v), (32, dV v1)], [aX 0 3 data1], 48⟩) (fun v1 p => ?_) ?_)
     ·rcases bf p with ⟨hb2, p⟩ | ⟨hb2, p⟩
      ·obtain ⟨e2, h3, e3, h4, r1, h5, p⟩ := ob3 p
       refine de G [] (hO 3 (.b true) (hP hb2 (hD 6 h3 (hE 7 h3 (hD 11 h4 (hE 12 h4 (hC 13 (zq0_M.c (_, _) h5) h0))))))) ?_
       exact wJ G p
      ·refine de G [] (hO 3 (.b false) (hP hb2 h0)) ?_
       exact wJ G p
     rintro v1 p
     refine cd p ?_ ?_ <;> intro p
     ·exact X_skip (thN (Ok_block (rh G (ibN (wL G p)))))
     ·exact Ok_exit (thE (thE (ibE (wD G p hb1))))
    rintro j3 p
    refine Ok_seq (rg G (cd p ?_ ?_)) <;> intro p
    ·refine rg G ?_
     have p := eR p hr1
     have p := eL p hb hr
     cases p
     exact rt [] []
    ·refine X_skip (thN (Ok_seq (rg G (cd p ?_ ?_)))) <;> intro p
     ·refine rg G ?_
      have p := eR p hr1
      have p := eL p hb hr
      cases p
      exact rt [] []
     ·refine X_skip (thN ?_)
      obtain ⟨e12, h10, e13, h11, e14, h12, p⟩ := ob3 p
      obtain ⟨e15, h13, p⟩ := obind p
      refine ds G [(15, [0]), (17, [0])] (hD 8 h10 (hE 9 h10 (hD 12 h11 (hE 13 h11 (hD 14 h12 (hS 15 h12 e12 (hD 16 h13 (hS 17 h13 e13 h0)))))))) ?_
      refine jn p (fun data3 => ⟨[(0, .own 0), (1, dV a), (2, dV b), (7, dV j3), (8, dV v)], [aX 0 3 data3], 48⟩) (fun data3 p => ?_) ?_
      ·refine rg G (cd p ?_ ?_) <;> intro p
       ·refine rg G (tl p (fun data5 => ⟨[(0, .own 0), (1, dV a), (2, dV b), (7, dV j3), (8, dV v)], [aX 0 3 data5], 48⟩) (fun data5 p => ?_) ?_)
        ·refine Ok_block (lp G p (fun (v2, data4) => ⟨[(0, .own 0), (1, dV a), (2, dV b), (7, dV j3), (8, dV v), (9, dV v2)], [aX 0 3 data4], 48⟩) ?_)
         rintro ⟨v2, data4⟩ r0 hb3 p
         rw [zq99_L2] at p
         refine Ok_seq (rg G (cd p ?_ ?_)) <;> intro p
         ·refine X_skip (thN (Ok_seq (Ok_block (Ok_seq ?_))))
          obtain ⟨e18, h17, e19, h18, r7, h19, p⟩ := ob3 p
          refine ds G [] (hD 2 h17 (hE 3 h17 (hD 7 h18 (hE 8 h18 (hC 9 (zq0_M.c (_, _) h19) h0))))) ?_
          refine cd p ?_ ?_ <;> intro p
          ·exact Ok_exit (thE (ibX rfl (thE (thE (ibE (wD G p hb3))))))
          ·refine X_skip (thN ?_)
           obtain ⟨e24, h24, e25, h25, e26, h26, p⟩ := ob3 p
           obtain ⟨e27, h27, p⟩ := obind p
           refine de G [(15, [0]), (17, [0])] (hD 8 h24 (hE 9 h24 (hD 12 h25 (hE 13 h25 (hD 14 h26 (hS 15 h26 e24 (hD 16 h27 (hS 17 h27 e25 h0)))))))) ?_
           exact ibN (thN (rh G (wL G p)))
         ·exact Ok_exit (thE (thE (ibE (wD G p hb3))))
        rintro data5 p s hw
        exact wJp p (Wk.trans hw (Wk_J G.hL ⟨[(0, []), (1, []), (2, []), (7, []), (8, [])], [(0, 0, [])], [], 48⟩ (by kernel_rfl)))
       ·exact X_skip (wJ G p)
      rintro data3 p
      refine rg G (cd p ?_ ?_) <;> intro p
      ·refine rg G (tl p (fun data7 => ⟨[(0, .own 0), (1, dV a), (2, dV b), (7, dV j3), (8, dV v)], [aX 0 3 data7], 48⟩) (fun data7 p => ?_) ?_)
       ·refine Ok_block (lp G p (fun (v3, data6) => ⟨[(0, .own 0), (1, dV a), (2, dV b), (7, dV j3), (8, dV v), (10, dV v3)], [aX 0 3 data6], 48⟩) ?_)
        rintro ⟨v3, data6⟩ r0 hb4 p
        rw [zq99_L3] at p
        refine Ok_seq (rg G (cd p ?_ ?_)) <;> intro p
        ·refine X_skip (thN (Ok_seq (Ok_block (Ok_seq ?_))))
         obtain ⟨e30, h31, e31, h32, r9, h33, p⟩ := ob3 p
         refine ds G [] (hD 2 h31 (hE 3 h31 (hD 7 h32 (hE 8 h32 (hC 9 (zq0_M.c (_, _) h33) h0))))) ?_
         refine cd p ?_ ?_ <;> intro p
         ·exact Ok_exit (thE (ibX rfl (thE (thE (ibE (wD G p hb4))))))
         ·refine X_skip (thN ?_)
          obtain ⟨e36, h38, e37, h39, e38, h40, p⟩ := ob3 p
          obtain ⟨e39, h41, p⟩ := obind p
          refine de G [(15, [0]), (17, [0])] (hD 8 h38 (hE 9 h38 (hD 12 h39 (hE 13 h39 (hD 14 h40 (hS 15 h40 e36 (hD 16 h41 (hS 17 h41 e37 h0)))))))) ?_
          exact ibN (thN (rh G (wL G p)))
        ·exact Ok_exit (thE (thE (ibE (wD G p hb4))))
       rintro data7 p s1 hw1
       exact ibN (wFp p (Wk.trans hw1 (Wk_J G.hL ⟨[(0, []), (1, []), (2, []), (7, []), (8, [])], [(0, 0, [])], [], 48⟩ (by kernel_rfl))))
      ·exact X_skip (ibN (wF G p))
   rintro ⟨j1, data2⟩ p
   exact rh G (wL G p)
  ·exact Ok_exit (thE (thE (ibE (wE G p hb))))
 rintro data8 p s2 hw2
 refine thN (Ok_weak hw2 ?_)
 refine rg G ?_
 cases p
 exact rt [] []
noncomputable def zq100_M : MS ((List Int) × Int × Int × Int) (Int × (List Int)) := ⟨.x (.s 3) (.x .r (.x .r .r)), fun x => zq100 x.1 x.2.1 x.2.2.1 x.2.2.2, fun y => dV y.1, fun _ => [], fun _ y => [arO 3 y.2]⟩
theorem zq100_ok : FnOK Try.prog tJ 243 zq100_M.S := by
 refine fm tt zq100_M [fo zq0_ok] call243 func243 rfl results243 ntmps243 ?_
 rintro ⟨data, a, b, pivot⟩ y cx G (p : zq100 data a b pivot = some y)
 unfold zq100 at p
 refine rg G ?_
 obtain ⟨e4, h4, e5, h5, e6, h6, p⟩ := ob3 p
 obtain ⟨e7, h7, p⟩ := obind p
 refine ds G [(13, [0]), (15, [0])] (hD 6 h4 (hE 7 h4 (hD 10 h5 (hE 11 h5 (hD 12 h6 (hS 13 h6 e4 (hD 14 h7 (hS 15 h7 e5 h0)))))))) ?_
 refine rg G (jn p (fun (v8, data2) => ⟨[(0, .own 0), (9, dV v8)], [aX 0 3 data2], 48⟩) (fun vv p => ?_) ?_)
 ·refine Ok_block (lp G p (fun (v, v1, data1) => ⟨[(0, .own 0), (1, dV a), (9, dV v), (10, dV v1)], [aX 0 3 data1], 48⟩) ?_)
  rintro ⟨v, v1, data1⟩ r0 hb p
  rw [zq100_L3] at p
  refine Ok_block (jn p (fun v4 => ⟨[(0, .own 0), (1, dV a), (9, dV v4), (10, dV v1)], [aX 0 3 data1], 48⟩) (fun v4 p => ?_) ?_)
  ·refine Ok_block (lp G p (fun v2 => ⟨[(0, .own 0), (1, dV a), (9, dV v2), (10, dV v1)], [aX 0 3 data1], 48⟩) ?_)
   rintro v2 r0 hb1 p
   rw [zq100_L1] at p
   refine Ok_seq (jn p (fun v3 => ⟨[(0, .own 0), (1, dV a), (9, dV v2), (10, dV v1), (43, dV v3)], [aX 0 3 data1], 48⟩) (fun v3 p => ?_) ?_)
   ·rcases bf p with ⟨hb2, p⟩ | ⟨hb2, p⟩
    ·obtain ⟨e10, h11, e11, h12, r1, h13, p⟩ := ob3 p
     refine de G [] (hO 3 (.b true) (hP hb2 (hD 6 h11 (hE 7 h11 (hD 10 h12 (hE 11 h12 (hC 12 (zq0_M.c (_, _) h13) h0))))))) ?_
     exact wJ G p
    ·refine de G [] (hO 3 (.b false) (hP hb2 h0)) ?_
     exact wJ G p
   rintro v3 p
   refine cd p ?_ ?_ <;> intro p
   ·exact X_skip (thN (Ok_block (rh G (ibN (wL G p)))))
   ·exact Ok_exit (thE (thE (ibE (wD G p hb1))))
  rintro v4 p
  refine jn p (fun v7 => ⟨[(0, .own 0), (1, dV a), (9, dV v4), (10, dV v7)], [aX 0 3 data1], 48⟩) (fun v7 p => ?_) ?_
  ·refine Ok_block (lp G p (fun v5 => ⟨[(0, .own 0), (1, dV a), (9, dV v4), (10, dV v5)], [aX 0 3 data1], 48⟩) ?_)
   rintro v5 r0 hb3 p
   rw [zq100_L2] at p
   refine Ok_seq (jn p (fun v6 => ⟨[(0, .own 0), (1, dV a), (9, dV v4), (10, dV v5), (59, dV v6)], [aX 0 3 data1], 48⟩) (fun v6 p => ?_) ?_)
   ·rcases bf p with ⟨hb4, p⟩ | ⟨hb4, p⟩
    ·obtain ⟨e14, h17, e15, h18, r3, h19, p⟩ := ob3 p
     refine de G [] (hO 3 (.b true) (hP hb4 (hD 6 h17 (hE 7 h17 (hD 10 h18 (hE 11 h18 (hC 12 (zq0_M.c (_, _) h19) h0))))))) ?_
     exact wJ G p
    ·refine de G [] (hO 3 (.b false) (hP hb4 h0)) ?_
     exact wJ G p
   rintro v6 p
   refine cd p ?_ ?_ <;> intro p
   ·exact X_skip (thN (Ok_block (rh G (ibN (wL G p)))))
   ·exact Ok_exit (thE (thE (ibE (wD G p hb3))))
  rintro v7 p
  refine Ok_seq (rg G (cd p ?_ ?_)) <;> intro p
  ·exact Ok_exit (thE (ibX rfl (thE (ibE (wD G p hb)))))
  ·refine X_skip (thN ?_)
   obtain ⟨e20, h24, e21, h25, e22, h26, p⟩ := ob3 p
   obtain ⟨e23, h27, p⟩ := obind p
   refine ds G [(13, [0]), (15, [0])] (hD 6 h24 (hE 7 h24 (hD 10 h25 (hE 11 h25 (hD 12 h26 (hS 13 h26 e20 (hD 14 h27 (hS 15 h27 e21 h0)))))))) ?_
   exact rg G (rh G (ibN (wL G p)))
 rintro ⟨v8, data2⟩ p
 refine rg G ?_
 cases p
 exact rt [] []
noncomputable def zq101_M : MS ((List Int) × Int × Int × Int) (Int × Bool × (List Int)) := ⟨.x (.s 3) (.x .r (.x .r .r)), fun x => zq101 x.1 x.2.1 x.2.2.1 x.2.2.2, fun y => .tup [dV y.1, dV y.2.1], fun _ => [], fun _ y => [arO 3 y.2.2]⟩
theorem zq101_ok : FnOK Try.prog tJ 244 zq101_M.S := by
 refine fm tt zq101_M [fo zq0_ok] call244 func244 rfl results244 ntmps244 ?_
 rintro ⟨data, a, b, pivot⟩ y cx G (p : zq101 data a b pivot = some y)
 unfold zq101 at p
 refine rg G ?_
 obtain ⟨e4, h4, e5, h5, e6, h6, p⟩ := ob3 p
 obtain ⟨e7, h7, p⟩ := obind p
 refine ds G [(13, [0]), (15, [0])] (hD 6 h4 (hE 7 h4 (hD 10 h5 (hE 11 h5 (hD 12 h6 (hS 13 h6 e4 (hD 14 h7 (hS 15 h7 e5 h0)))))))) ?_
 refine rg G (jn p (fun v2 => ⟨[(0, .own 0), (1, dV a), (10, dV v2), (11, dV (w64 (b - 1)))], [aX 0 3 ((data.set a.toNat e4).set pivot.toNat e5)], 48⟩) (fun v2 p => ?_) ?_)
 ·refine Ok_block (lp G p (fun v => ⟨[(0, .own 0), (1, dV a), (10, dV v), (11, dV (w64 (b - 1)))], [aX 0 3 ((data.set a.toNat e4).set pivot.toNat e5)], 48⟩) ?_)
  rintro v r0 hb p
  rw [zq101_L1] at p
  refine Ok_seq (jn p (fun v1 => ⟨[(0, .own 0), (1, dV a), (10, dV v), (11, dV (w64 (b - 1))), (43, dV v1)], [aX 0 3 ((data.set a.toNat e4).set pivot.toNat e5)], 48⟩) (fun v1 p => ?_) ?_)
  ·rcases bf p with ⟨hb1, p⟩ | ⟨hb1, p⟩
   ·obtain ⟨e10, h11, e11, h12, r1, h13, p⟩ := ob3 p
    refine de G [] (hO 3 (.b true) (hP hb1 (hD 6 h11 (hE 7 h11 (hD 10 h12 (hE 11 h12 (hC 12 (zq0_M.c (_, _) h13) h0))))))) ?_
    exact wJ G p
   ·refine de G [] (hO 3 (.b false) (hP hb1 h0)) ?_
    exact wJ G p
  rintro v1 p
  refine cd p ?_ ?_ <;> intro p
  ·exact X_skip (thN (Ok_block (rh G (ibN (wL G p)))))
  ·exact Ok_exit (thE (thE (ibE (wD G p hb))))
 rintro v2 p
 refine jn p (fun v5 => ⟨[(0, .own 0), (1, dV a), (10, dV v2), (11, dV v5)], [aX 0 3 ((data.set a.toNat e4).set pivot.toNat e5)], 48⟩) (fun v5 p => ?_) ?_
 ·refine Ok_block (lp G p (fun v3 => ⟨[(0, .own 0), (1, dV a), (10, dV v2), (11, dV v3)], [aX 0 3 ((data.set a.toNat e4).set pivot.toNat e5)], 48⟩) ?_)
  rintro v3 r0 hb2 p
  rw [zq101_L2] at p
  refine Ok_seq (jn p (fun v4 => ⟨[(0, .own 0), (1, dV a), (10, dV v2), (11, dV v3), (60, dV v4)], [aX 0 3 ((data.set a.toNat e4).set pivot.toNat e5)], 48⟩) (fun v4 p => ?_) ?_)
  ·rcases bf p with ⟨hb3, p⟩ | ⟨hb3, p⟩
   ·obtain ⟨e14, h17, e15, h18, r3, h19, p⟩ := ob3 p
    refine de G [] (hO 3 (.b true) (hP hb3 (hD 6 h17 (hE 7 h17 (hD 10 h18 (hE 11 h18 (hC 12 (zq0_M.c (_, _) h19) h0))))))) ?_
    exact wJ G p
   ·refine de G [] (hO 3 (.b false) (hP hb3 h0)) ?_
    exact wJ G p
  rintro v4 p
  refine cd p ?_ ?_ <;> intro p
  ·exact X_skip (thN (Ok_block (rh G (ibN (wL G p)))))
  ·exact Ok_exit (thE (thE (ibE (wD G p hb2))))
 rintro v5 p
 refine Ok_seq (rg G (cd p ?_ ?_)) <;> intro p
 ·obtain ⟨e20, h24, e21, h25, e22, h26, p⟩ := ob3 p
  obtain ⟨e23, h27, p⟩ := obind p
  refine ds G [(13, [0]), (15, [0])] (hD 6 h24 (hE 7 h24 (hD 10 h25 (hE 11 h25 (hD 12 h26 (hS 13 h26 e20 (hD 14 h27 (hS 15 h27 e21 h0)))))))) ?_
  refine rg G ?_
  cases p
  exact rt [] []
 ·refine X_skip (thN ?_)
  obtain ⟨e28, h32, e29, h33, e30, h34, p⟩ := ob3 p
  obtain ⟨e31, h35, p⟩ := obind p
  refine ds G [(13, [0]), (15, [0])] (hD 6 h32 (hE 7 h32 (hD 10 h33 (hE 11 h33 (hD 12 h34 (hS 13 h34 e28 (hD 14 h35 (hS 15 h35 e29 h0)))))))) ?_
  refine rg G (rg G (jn p (fun (v14, data2) => ⟨[(0, .own 0), (1, dV a), (11, dV v14)], [aX 0 3 data2], 48⟩) (fun vv p => ?_) ?_))
  ·refine Ok_block (lp G p (fun (v6, v7, data1) => ⟨[(0, .own 0), (1, dV a), (10, dV v6), (11, dV v7)], [aX 0 3 data1], 48⟩) ?_)
   rintro ⟨v6, v7, data1⟩ r0 hb4 p
   rw [zq101_L5] at p
   refine Ok_block (jn p (fun v10 => ⟨[(0, .own 0), (1, dV a), (10, dV v10), (11, dV v7)], [aX 0 3 data1], 48⟩) (fun v10 p => ?_) ?_)
   ·refine Ok_block (lp G p (fun v8 => ⟨[(0, .own 0), (1, dV a), (10, dV v8), (11, dV v7)], [aX 0 3 data1], 48⟩) ?_)
    rintro v8 r0 hb5 p
    rw [zq101_L3] at p
    refine Ok_seq (jn p (fun v9 => ⟨[(0, .own 0), (1, dV a), (10, dV v8), (11, dV v7), (112, dV v9)], [aX 0 3 data1], 48⟩) (fun v9 p => ?_) ?_)
    ·rcases bf p with ⟨hb6, p⟩ | ⟨hb6, p⟩
     ·obtain ⟨e34, h39, e35, h40, r5, h41, p⟩ := ob3 p
      refine de G [] (hO 3 (.b true) (hP hb6 (hD 6 h39 (hE 7 h39 (hD 10 h40 (hE 11 h40 (hC 12 (zq0_M.c (_, _) h41) h0))))))) ?_
      exact wJ G p
     ·refine de G [] (hO 3 (.b false) (hP hb6 h0)) ?_
      exact wJ G p
    rintro v9 p
    refine cd p ?_ ?_ <;> intro p
    ·exact X_skip (thN (Ok_block (rh G (ibN (wL G p)))))
    ·exact Ok_exit (thE (thE (ibE (wD G p hb5))))
   rintro v10 p
   refine jn p (fun v13 => ⟨[(0, .own 0), (1, dV a), (10, dV v10), (11, dV v13)], [aX 0 3 data1], 48⟩) (fun v13 p => ?_) ?_
   ·refine Ok_block (lp G p (fun v11 => ⟨[(0, .own 0), (1, dV a), (10, dV v10), (11, dV v11)], [aX 0 3 data1], 48⟩) ?_)
    rintro v11 r0 hb7 p
    rw [zq101_L4] at p
    refine Ok_seq (jn p (fun v12 => ⟨[(0, .own 0), (1, dV a), (10, dV v10), (11, dV v11), (129, dV v12)], [aX 0 3 data1], 48⟩) (fun v12 p => ?_) ?_)
    ·rcases bf p with ⟨hb8, p⟩ | ⟨hb8, p⟩
     ·obtain ⟨e38, h45, e39, h46, r7, h47, p⟩ := ob3 p
      refine de G [] (hO 3 (.b true) (hP hb8 (hD 6 h45 (hE 7 h45 (hD 10 h46 (hE 11 h46 (hC 12 (zq0_M.c (_, _) h47) h0))))))) ?_
      exact wJ G p
     ·refine de G [] (hO 3 (.b false) (hP hb8 h0)) ?_
      exact wJ G p
    rintro v12 p
    refine cd p ?_ ?_ <;> intro p
    ·exact X_skip (thN (Ok_block (rh G (ibN (wL G p)))))
    ·exact Ok_exit (thE (thE (ibE (wD G p hb7))))
   rintro v13 p
   refine Ok_seq (rg G (cd p ?_ ?_)) <;> intro p
   ·exact Ok_exit (thE (ibX rfl (thE (ibE (wD G p hb4)))))
   ·refine X_skip (thN ?_)
    obtain ⟨e44, h52, e45, h53, e46, h54, p⟩ := ob3 p
    obtain ⟨e47, h55, p⟩ := obind p
    refine ds G [(13, [0]), (15, [0])] (hD 6 h52 (hE 7 h52 (hD 10 h53 (hE 11 h53 (hD 12 h54 (hS 13 h54 e44 (hD 14 h55 (hS 15 h55 e45 h0)))))))) ?_
    exact rg G (rh G (ibN (wL G p)))
  rintro ⟨v14, data2⟩ p
  obtain ⟨e52, h60, e53, h61, e54, h62, p⟩ := ob3 p
  obtain ⟨e55, h63, p⟩ := obind p
  refine ds G [(13, [0]), (15, [0])] (hD 6 h60 (hE 7 h60 (hD 10 h61 (hE 11 h61 (hD 12 h62 (hS 13 h62 e52 (hD 14 h63 (hS 15 h63 e53 h0)))))))) ?_
  refine rg G ?_
  cases p
  exact rt [] []
noncomputable def zq97_M : MS Int ((IK .u64)) := ⟨.r, zq97, fun y => dV y, fun _ => [], fun _ _ => []⟩
theorem zq97_ok : FnOK Try.prog tJ 250 zq97_M.S := by
 refine fm tt zq97_M [fo zq31_ok] call250 func250 rfl results250 ntmps250 ?_
 rintro length y cx G (p : zq97 length = some y)
 unfold zq97 at p
 refine rg G ?_
 obtain ⟨r, h, u, h1, p⟩ := ob2 p
 refine rs G (hC 2 (zq31_M.c _ h) (hK h1 h0)) ?_
 cases p
 exact rt [] []
noncomputable def zq105_M : MS ((IK .u64)) ((IK .u64) × (IK .u64)) := ⟨.b 266, zq105, fun y => dV y.1, fun _ => [], fun _ y => [bxO 266 y.2]⟩
theorem zq105_ok : FnOK Try.prog tJ 251 zq105_M.S := by
 refine fm tt zq105_M [] call251 func251 rfl results251 ntmps251 ?_
 rintro r y cx G (p : zq105 r = some y)
 unfold zq105 at p
 refine rg G ?_
 obtain ⟨u1, h1, p⟩ := obind p
 refine ds G [(9, [0])] (hK h1 h0) ?_
 obtain ⟨u3, h3, p⟩ := obind p
 refine ds G [(9, [0])] (hK h3 h0) ?_
 obtain ⟨u5, h5, p⟩ := obind p
 refine ds G [(9, [0])] (hK h5 h0) ?_
 refine rg G ?_
 cases p
 exact rt [] []
noncomputable def zq91_M : MS ((List Int) × Int × Int) ((List Int)) := ⟨.x (.s 3) (.x .r .r), fun x => zq91 x.1 x.2.1 x.2.2, fun _ => .tup [], fun _ => [], fun _ y => [arO 3 y]⟩
theorem zq91_ok : FnOK Try.prog tJ 238 zq91_M.S := by
 refine fm tt zq91_M [fo zq97_ok, fo zq105_ok] call238 func238 rfl results238 ntmps238 ?_
 rintro ⟨data, a, b⟩ y cx G (p : zq91 data a b = some y)
 unfold zq91 at p
 refine rg G (rg G (cd p ?_ ?_)) <;> intro p
 ·refine rg G ?_
  obtain ⟨r, h, p⟩ := obind p
  refine rs G (hC 1 (zq97_M.c _ h) h0) ?_
  obtain ⟨u, h1, p⟩ := obind p
  refine rs G (hK h1 h0) ?_
  refine Ok_block (lp G p (fun (v, data1, v1) => ⟨[(0, .own 0), (1, dV a), (6, dV (w64 (b - a))), (7, .ref 32 0), (8, kV .u64 r.v), (9, dV v)], [aX 0 3 data1, bX 32 266 [kV .u64 v1]], 64⟩) ?_)
  rintro ⟨v, data1, v1⟩ r0 hb p
  rw [zq91_L1] at p
  refine Ok_seq ?_
  obtain ⟨u1, h2, p⟩ := obind p
  refine rs G (hK h2 h0) ?_
  refine cd p ?_ ?_ <;> intro p
  ·refine X_skip (thN (Ok_seq (Ok_block ?_)))
   obtain ⟨r1, h3, p⟩ := obind p
   refine rs G (hC 0 (zq105_M.c _ h3) h0) ?_
   refine jn p (fun v2 => ⟨[(0, .own 0), (1, dV a), (6, dV (w64 (b - a))), (7, .ref 32 0), (8, kV .u64 r.v), (9, dV v), (10, dV v2)], [aX 0 3 data1, bX 32 266 [kV .u64 r1.2.v]], 64⟩) (fun v2 p => ?_) ?_
   ·refine rg G (cd p ?_ ?_) <;> intro p
    ·exact rh G (wJ G p)
    ·exact X_skip (wJ G p)
   rintro v2 p
   obtain ⟨e4, h8, e5, h9, e6, h10, p⟩ := ob3 p
   obtain ⟨e7, h11, p⟩ := obind p
   refine de G [(17, [0]), (19, [0])] (hD 10 h8 (hE 11 h8 (hD 14 h9 (hE 15 h9 (hD 16 h10 (hS 17 h10 e4 (hD 18 h11 (hS 19 h11 e5 h0)))))))) ?_
   exact ibN (thN (rh G (wL G p)))
  ·have p := eD p hb
   refine Ok_exit (thE (thE (ibE ?_)))
   cases p
   exact fN [] []
 ·refine X_skip ?_
  cases p
  exact fN [] []
noncomputable def zq102_MR (rec_ : (List Int) → Int → Int → Int → Option ((List Int))) : MS ((List Int) × Int × Int × Int) ((List Int)) := ⟨.x (.s 3) (.x .r (.x .r .r)), fun x => rec_ x.1 x.2.1 x.2.2.1 x.2.2.2, fun _ => .tup [], fun _ => [], fun _ y => [arO 3 y]⟩
noncomputable def zq102_M : MS ((List Int) × Int × Int × Int) ((List Int)) := zq102_MR zq102
theorem zq102_c {data a b limit y} (p : zq102 data a b limit = some y) : zq102_M.C (data, a, b, limit) y := zq102_M.c (data, a, b, limit) p
theorem zq102_cR {rec_ : (List Int) → Int → Int → Int → Option ((List Int))} {data a b limit y} (p : rec_ data a b limit = some y) : (zq102_MR rec_).C (data, a, b, limit) y := (zq102_MR rec_).c (data, a, b, limit) p
theorem zq102_okF {rec_ : (List Int) → Int → Int → Int → Option ((List Int))} (hrec : FnOK Try.prog tJ 214 (zq102_MR rec_).S) : FnOK Try.prog tJ 214 (zq102_MR (zq102_F rec_)).S := by
 refine fm tt (zq102_MR (zq102_F rec_)) [fo hrec, fo zq94_ok, fo zq93_ok, fo zq91_ok, fo zq92_ok, fo zq103_ok, fo zq99_ok, fo zq0_ok, fo zq100_ok, fo zq101_ok] call214 func214 rfl results214 ntmps214 ?_
 rintro ⟨data, a, b, limit⟩ y cx G (p : zq102_F rec_ data a b limit = some y)
 unfold zq102_F at p
 refine rg G (rg G (Ok_block (lp G p (fun (a1, b1, limit1, hint, mid, data1) => ⟨[(0, .own 0), (1, dV a1), (2, dV b1), (3, dV limit1), (8, dV hint), (9, dV mid)], [aX 0 3 data1], 48⟩) ?_)))
 rintro ⟨a1, b1, limit1, hint, mid, data1⟩ r0 hb p
 rw [zq102_L1] at p
 refine Ok_block (rg G (Ok_seq (rg G (cd p ?_ ?_)))) <;> intro p
 ·obtain ⟨r, h, p⟩ := obind p
  refine rs G (hC 3 (zq94_M.c (_, _, _) h) h0) ?_
  have p := eD p hb
  cases p
  exact rt [] []
 ·refine X_skip (thN (Ok_seq (rg G (cd p ?_ ?_)))) <;> intro p
  ·obtain ⟨r2, h1, p⟩ := obind p
   refine rs G (hC 3 (zq93_M.c (_, _, _) h1) h0) ?_
   have p := eD p hb
   cases p
   exact rt [] []
  ·refine X_skip (thN (jn p (fun (limit2, data2) => ⟨[(0, .own 0), (1, dV a1), (2, dV b1), (3, dV limit2), (8, dV hint), (9, dV mid), (10, dV (w64 (b1 - a1)))], [aX 0 3 data2], 48⟩) (fun vv1 p => ?_) ?_))
   ·refine rg G (cd p ?_ ?_) <;> intro p
    ·obtain ⟨r4, h2, p⟩ := obind p
     refine rs G (hC 3 (zq91_M.c (_, _, _) h2) h0) ?_
     exact rh G (wJ G p)
    ·exact X_skip (wJ G p)
   rintro ⟨limit2, data2⟩ p
   obtain ⟨r5, h3, p⟩ := obind p
   refine rs G (hC 3 (zq92_M.c (_, _, _) h3) h0) ?_
   refine jn p (fun (alreadyPartitioned, leftLen, data3) => ⟨[(0, .own 0), (1, dV a1), (2, dV b1), (3, dV limit2), (8, dV hint), (9, dV mid), (10, dV (w64 (b1 - a1))), (11, dV alreadyPartitioned), (12, dV leftLen)], [aX 0 3 data3], 48⟩) (fun vv p => ?_) ?_
   ·refine rg G (cd p ?_ ?_) <;> intro p
    ·obtain ⟨r6, h4, p⟩ := obind p
     refine rs G (hC 3 (zq103_M.c (_, _, _) h4) h0) ?_
     exact rg G (rh G (wJ G p))
    ·exact X_skip (wJ G p)
   rintro ⟨alreadyPartitioned, leftLen, data3⟩ p
   refine jF p (fun data4 => ⟨[(0, .own 0), (1, dV a1), (2, dV b1), (3, dV limit2), (8, dV hint), (9, dV mid), (10, dV (w64 (b1 - a1))), (11, dV alreadyPartitioned)], [aX 0 3 data4], 48⟩) (fun v2 hr3 p => ?_) ?_
   ·refine jn p (fun v => ⟨[(0, .own 0), (1, dV a1), (2, dV b1), (3, dV limit2), (8, dV hint), (9, dV mid), (10, dV (w64 (b1 - a1))), (11, dV alreadyPartitioned), (68, dV v)], [aX 0 3 data3], 48⟩) (fun v p => ?_) ?_
    ·rcases bf p with ⟨hb1, p⟩ | ⟨hb1, p⟩
     ·rcases bf p with ⟨hb2, p⟩ | ⟨hb2, p⟩
      ·refine re G (hO 1 (.b true) (hP hb1 (hO 4 (.b true) (hP hb2 h0)))) ?_
       exact wJ G p
      ·refine re G (hO 1 (.b true) (hP hb1 (hO 4 (.b false) (hP hb2 h0)))) ?_
       exact wJ G p
     ·refine re G (hO 1 (.b false) (hP hb1 h0)) ?_
      exact wJ G p
    rintro v p
    refine cd p ?_ ?_ <;> intro p
    ·obtain ⟨r7, h5, p⟩ := obind p
     refine rs G (hC 3 (zq99_M.c (_, _, _) h5) h0) ?_
     refine cd p ?_ ?_ <;> intro p
     ·have p := eR p hr3
      have p := eD p hb
      cases p
      exact rt [] []
     ·exact X_skip (wF G p)
    ·exact X_skip (wF G p)
   rintro data4 p
   refine Ok_seq (jn p (fun v1 => ⟨[(0, .own 0), (1, dV a1), (2, dV b1), (3, dV limit2), (8, dV hint), (9, dV mid), (10, dV (w64 (b1 - a1))), (11, dV alreadyPartitioned), (87, dV v1)], [aX 0 3 data4], 48⟩) (fun v1 p => ?_) ?_)
   ·rcases bf p with ⟨hb3, p⟩ | ⟨hb3, p⟩
    ·obtain ⟨e6, h9, e7, h10, r11, h11, p⟩ := ob3 p
     refine de G [] (hO 2 (.b true) (hP hb3 (hD 6 h9 (hE 7 h9 (hD 10 h10 (hE 11 h10 (hC 12 (zq0_M.c (_, _) h11) h0))))))) ?_
     exact wJ G p
    ·refine de G [] (hO 2 (.b false) (hP hb3 h0)) ?_
     exact wJ G p
   rintro v1 p
   refine cd p ?_ ?_ <;> intro p
   ·obtain ⟨r12, h12, p⟩ := obind p
    refine rs G (hC 4 (zq100_M.c (_, _, _, _) h12) h0) ?_
    exact rg G (Ok_exit (thE (ibE (wL G p))))
   ·refine X_skip (thN ?_)
    obtain ⟨r13, h13, p⟩ := obind p
    refine rs G (hC 4 (zq101_M.c (_, _, _, _) h13) h0) ?_
    refine rg G (rg G ?_)
    obtain ⟨u, h14, p⟩ := obind p
    refine rs G (hK h14 h0) ?_
    refine rg G (cd p ?_ ?_) <;> intro p
    ·refine rg G ?_
     obtain ⟨r14, h15, p⟩ := obind p
     refine rs G (hC 4 (zq102_cR h15) h0) ?_
     exact rh G (ibN (wL G p))
    ·refine rg G ?_
     obtain ⟨r15, h16, p⟩ := obind p
     refine rs G (hC 5 (zq102_cR h16) h0) ?_
     exact rh G (ibN (wL G p))
theorem zq102_okn : ∀ k, FnOK Try.prog tJ 214 (zq102_MR (zq102_k k)).S
 | 0 => ⟨fun args w => call214 args w, fun vs w F ds obs κ hp => by obtain ⟨x, y, _, _, h⟩ := hp; cases h⟩
 | k + 1 => zq102_okF (zq102_okn k)
theorem zq102_ok : FnOK Try.prog tJ 214 zq102_M.S := zq102_okn 4294967296
noncomputable def zq90_M : MS ((List Int)) ((List Int)) := ⟨.s 3, zq90, fun _ => .tup [], fun _ => [], fun _ y => [arO 3 y]⟩
theorem zq90_ok : FnOK Try.prog tJ 157 zq90_M.S := by
 refine fm tt zq90_M [fo zq31_ok, fo zq102_ok] call157 func157 rfl results157 ntmps157 ?_
 rintro x y cx G (p : zq90 x = some y)
 unfold zq90 at p
 refine rs G (hN 1 x h0) ?_
 obtain ⟨r, h, r1, h1, p⟩ := ob2 p
 refine re G (hC 4 (zq31_M.c _ h) (hC 5 (zq102_c h1) h0)) ?_
 cases p
 exact fN [] []
noncomputable def zq83_M : MS ((List Int)) ((List Int)) := ⟨.m 3, zq83, fun _ => .own 0, fun y => [arO 3 y], fun _ _ => []⟩
def zq83_R : Go.Shelf.Ren := ⟨fun x => bif Nat.beq x 20 then 225 else x, fun x => bif Nat.beq x 22 then 53 else bif Nat.beq x 3 then 3 else bif Nat.beq x 4 then 4 else x, fun x => x⟩
theorem zq83_F : Try.f225 = Go.Proofs.Body2.n20 zq83_R := by kernel_rfl
theorem zq83_ok : FnOK Try.prog tJ 225 zq83_M.S := comOK tt zq83_R call225 (func225.trans (congrArg some zq83_F)) (b0 := 0) (e0 := false) ⟨Try.underlying0, Try.t0, Try.type0, rfl, rfl, rfl, fun h => by cases h⟩ (by kernel_rfl) (by kernel_rfl) (by kernel_rfl)
noncomputable def zq11_M : MS (Timetable × Int) ((List Int)) := ⟨.x .r .r, fun x => zq11 x.1 x.2, fun _ => .own 0, fun y => [arO 3 y], fun _ _ => []⟩
theorem zq11_ok : FnOK Try.prog tJ 187 zq11_M.S := by
 refine fm tt zq11_M [fo zq23_ok, fo zq26_ok, fo zq88_ok, fo zq90_ok, fo zq83_ok] call187 func187 rfl results187 ntmps187 ?_
 rintro ⟨t, stop⟩ y cx G (p : zq11 t stop = some y)
 unfold zq11 at p
 refine rg G (rg G (Ok_seq (rs G (hN 2 t.Trips h0) ?_)))
 refine tl p (fun x2 => ⟨[(5, .own 16)], [aX 16 3 x2], 48⟩) (fun x2 p => ?_) ?_
 ·refine Ok_block (lpP p (fun (v, x) => ⟨[(1, dV stop), (2, .ref 16 0), (5, .own 32), (12, dV t.Trips), (13, dV (t.Trips.length : Int)), (14, dV v)], [bX 16 35 [dV t.Network.Stops, dV t.Network.Lines, dV t.Trips], aX 32 3 x], 64⟩) (Wk_J G.hL ⟨[(1, []), (2, []), (5, [.o 32]), (12, []), (13, []), (14, [])], [(16, 16, [])], [(32, 3, 1, [])], 64⟩ (by kernel_rfl)) ?_)
  rintro ⟨v, x⟩ r0 hb p
  rw [zq11_L1] at p
  refine rg G (Ok_seq (cd p ?_ ?_)) <;> intro p
  ·refine X_skip (thN (jn p (fun x1 => ⟨[(1, dV stop), (2, .ref 16 0), (5, .own 32), (12, dV t.Trips), (13, dV (t.Trips.length : Int)), (14, dV v)], [bX 16 35 [dV t.Network.Stops, dV t.Network.Lines, dV t.Trips], aX 32 3 x1], 64⟩) (fun x1 p => ?_) ?_))
   ·refine Ok_block ?_
    obtain ⟨e, h, p⟩ := obind p
    refine rs G (hD 0 h h0) ?_
    obtain ⟨r2, h3, r3, h4, p⟩ := ob2 p
    refine ds G [] (hC 2 (zq23_M.c (_, _) h3) (hC 6 (zq26_M.c (_, _) h4) h0)) ?_
    obtain ⟨r4, h5, p⟩ := obind p
    refine rs G (hC 2 (zq88_M.c (_, _) h5) h0) ?_
    refine jn p (fun v1 => ⟨[(1, dV stop), (2, .ref 16 0), (5, .own 32), (9, .own 48), (10, dV r4), (12, dV t.Trips), (13, dV (t.Trips.length : Int)), (14, dV v), (36, dV v1)], [bX 16 35 [dV t.Network.Stops, dV t.Network.Lines, dV t.Trips], aX 32 3 x, aX 48 3 r3], 80⟩) (fun v1 p => ?_) ?_
    ·rcases bf p with ⟨hb1, p⟩ | ⟨hb1, p⟩
     ·refine re G (hO 2 (.b true) (hP hb1 (hN 5 r2.Stops h0))) ?_
      exact wJ G p
     ·refine re G (hO 2 (.b false) (hP hb1 h0)) ?_
      exact wJ G p
    rintro v1 p
    refine cd p ?_ ?_ <;> intro p
    ·obtain ⟨e1, h6, u, h7, p⟩ := ob2 p
     refine re G (hD 3 h6 (hE 4 h6 (hA 6 8 h7 h0))) ?_
     exact ibN (wJ G p)
    ·exact X_skip (ibN (wJ G p))
   rintro x1 p
   exact rh G (wL G p)
  ·exact Ok_exit (thE (thE (ibE (wD G p hb))))
 rintro x2 p s hw
 refine thN (Ok_weak hw ?_)
 obtain ⟨r5, h8, p⟩ := obind p
 refine rs G (hC 1 (zq90_M.c _ h8) h0) ?_
 obtain ⟨r6, h9, p⟩ := obind p
 refine rs G (hC 1 (zq83_M.c _ h9) h0) ?_
 cases p
 exact rt [96] []
noncomputable def zq24_M : MS (Timetable × Int × Int) ((List Int)) := ⟨.x .r (.x .r .r), fun x => zq24 x.1 x.2.1 x.2.2, fun _ => .own 0, fun y => [arO 3 y], fun _ _ => []⟩
theorem zq24_ok : FnOK Try.prog tJ 176 zq24_M.S := by
 refine fm tt zq24_M [] call176 func176 rfl results176 ntmps176 ?_
 rintro ⟨t, stop, at_⟩ y cx G (p : zq24 t stop at_ = some y)
 unfold zq24 at p
 refine rg G ?_
 obtain ⟨u, h, p⟩ := obind p
 refine rs G (hN 3 t.Network.Stops (hO 4 (.l (List.map Enc.e (List.replicate (t.Network.Stops.length : Int).toNat (0 : Int)))) (hP (mk_p (b := 8) (chk_t h) rfl) (hP (rep_m Enc.e (t.Network.Stops.length : Int).toNat (0 : Int)) h0)))) ?_
 refine Ok_seq (rs G (hN 1 (List.replicate (t.Network.Stops.length : Int).toNat (0 : Int)) h0) ?_)
 refine tl p (fun v2 => ⟨[(1, dV stop), (2, dV at_), (7, .own 16)], [aX 16 3 v2], 48⟩) (fun v2 p => ?_) ?_
 ·refine Ok_block (lp G p (fun (v, v1) => ⟨[(1, dV stop), (2, dV at_), (7, .own 16), (15, dV ((List.replicate (t.Network.Stops.length : Int).toNat (0 : Int)).length : Int)), (16, dV v)], [aX 16 3 v1], 48⟩) ?_)
  rintro ⟨v, v1⟩ r0 hb p
  rw [zq24_L1] at p
  refine rg G (Ok_seq (cd p ?_ ?_)) <;> intro p
  ·refine X_skip (thN (Ok_seq (Ok_block (rg G ?_))))
   obtain ⟨e, h1, p⟩ := obind p
   refine re G (hD 2 h1 (hS 3 h1 1073741824 h0)) ?_
   exact ibN (thN (rh G (wL G p)))
  ·exact Ok_exit (thE (thE (ibE (wD G p hb))))
 rintro v2 p s hw
 refine thN (Ok_weak hw ?_)
 obtain ⟨e1, h2, p⟩ := obind p
 refine rs G (hD 3 h2 (hS 4 h2 at_ h0)) ?_
 refine rg G ?_
 cases p
 exact rt [16] []
noncomputable def zq25_M : MS (Timetable × (List Int)) ((List Int)) := ⟨.x .r .r, fun x => zq25 x.1 x.2, fun _ => .own 0, fun y => [arO 3 y], fun _ _ => []⟩
theorem zq25_ok : FnOK Try.prog tJ 219 zq25_M.S := by
 refine fm tt zq25_M [fo zq26_ok, fo zq23_ok] call219 func219 rfl results219 ntmps219 ?_
 rintro ⟨t, ready⟩ y cx G (p : zq25 t ready = some y)
 unfold zq25 at p
 refine rg G ?_
 obtain ⟨u, h, p⟩ := obind p
 refine rs G (hN 1 ready (hO 2 (.l (List.map Enc.e (List.replicate (ready.length : Int).toNat (0 : Int)))) (hP (mk_p (b := 8) (chk_t h) rfl) (hP (rep_m Enc.e (ready.length : Int).toNat (0 : Int)) h0)))) ?_
 refine Ok_seq (rs G (hN 1 (List.replicate (ready.length : Int).toNat (0 : Int)) h0) ?_)
 refine tl p (fun v2 => ⟨[(1, dV ready), (2, .ref 16 0), (5, .own 32)], [bX 16 35 [dV t.Network.Stops, dV t.Network.Lines, dV t.Trips], aX 32 3 v2], 64⟩) (fun v2 p => ?_) ?_
 ·refine Ok_block (lp G p (fun (v, v1) => ⟨[(1, dV ready), (2, .ref 16 0), (5, .own 32), (17, dV ((List.replicate (ready.length : Int).toNat (0 : Int)).length : Int)), (18, dV v)], [bX 16 35 [dV t.Network.Stops, dV t.Network.Lines, dV t.Trips], aX 32 3 v1], 64⟩) ?_)
  rintro ⟨v, v1⟩ r0 hb p
  rw [zq25_L1] at p
  refine rg G (Ok_seq (cd p ?_ ?_)) <;> intro p
  ·refine X_skip (thN (Ok_seq (Ok_block (rg G ?_))))
   obtain ⟨e, h1, p⟩ := obind p
   refine re G (hD 2 h1 (hS 3 h1 1073741824 h0)) ?_
   exact ibN (thN (rh G (wL G p)))
  ·exact Ok_exit (thE (thE (ibE (wD G p hb))))
 rintro v2 p s hw
 refine thN (Ok_weak hw ?_)
 refine Ok_seq (rs G (hN 2 t.Trips h0) ?_)
 refine tl p (fun v9 => ⟨[(5, .own 16)], [aX 16 3 v9], 48⟩) (fun v9 p => ?_) ?_
 ·refine Ok_block (lp G p (fun (v3, v4) => ⟨[(1, dV ready), (2, .ref 16 0), (5, .own 32), (26, dV t.Trips), (27, dV (t.Trips.length : Int)), (28, dV v3)], [bX 16 35 [dV t.Network.Stops, dV t.Network.Lines, dV t.Trips], aX 32 3 v4], 64⟩) ?_)
  rintro ⟨v3, v4⟩ r0 hb1 p
  rw [zq25_L3] at p
  refine rg G (Ok_seq (cd p ?_ ?_)) <;> intro p
  ·refine X_skip (thN (Ok_seq (Ok_block ?_)))
   obtain ⟨e1, h2, p⟩ := obind p
   refine rs G (hD 0 h2 h0) ?_
   obtain ⟨r, h3, p⟩ := obind p
   refine rs G (hC 2 (zq26_M.c (_, _) h3) h0) ?_
   refine rg G ?_
   obtain ⟨r1, h4, p⟩ := obind p
   refine rs G (hC 2 (zq23_M.c (_, _) h4) (hN 4 r1.Stops h0)) ?_
   refine tl p (fun v8 => ⟨[(1, dV ready), (2, .ref 16 0), (5, .own 32), (26, dV t.Trips), (27, dV (t.Trips.length : Int)), (28, dV v3)], [bX 16 35 [dV t.Network.Stops, dV t.Network.Lines, dV t.Trips], aX 32 3 v8], 64⟩) (fun v8 p => ?_) ?_
   ·refine Ok_block (lp G p (fun (s1, v5, v6) => ⟨[(1, dV ready), (2, .ref 16 0), (5, .own 32), (9, .own 48), (10, dV s1), (26, dV t.Trips), (27, dV (t.Trips.length : Int)), (28, dV v3), (38, dV r1.Stops), (39, dV (r1.Stops.length : Int)), (40, dV v5)], [bX 16 35 [dV t.Network.Stops, dV t.Network.Lines, dV t.Trips], aX 32 3 v6, aX 48 3 r], 80⟩) ?_)
    rintro ⟨s1, v5, v6⟩ r0 hb2 p
    rw [zq25_L2] at p
    refine rg G (Ok_seq (cd p ?_ ?_)) <;> intro p
    ·refine X_skip (thN (Ok_seq (Ok_block ?_)))
     obtain ⟨e2, h5, p⟩ := obind p
     refine rs G (hD 1 h5 h0) ?_
     refine jn p (fun v7 => ⟨[(1, dV ready), (2, .ref 16 0), (5, .own 32), (9, .own 48), (10, dV s1), (11, dV v5), (12, dV e2), (26, dV t.Trips), (27, dV (t.Trips.length : Int)), (28, dV v3), (38, dV r1.Stops), (39, dV (r1.Stops.length : Int)), (40, dV v5)], [bX 16 35 [dV t.Network.Stops, dV t.Network.Lines, dV t.Trips], aX 32 3 v7, aX 48 3 r], 80⟩) (fun v7 p => ?_) ?_
     ·refine rg G (cd p ?_ ?_) <;> intro p
      ·obtain ⟨e6, h9, e7, h10, e8, h11, p⟩ := ob3 p
       refine de G [(12, [32])] (hD 4 h9 (hE 5 h9 (hD 8 h10 (hE 9 h10 (hD 11 h11 (hS 12 h11 (if e7 < e6 then e7 else e6) h0)))))) ?_
       exact wJ G p
      ·exact X_skip (wJ G p)
     rintro v7 p
     rcases bf p with ⟨hb3, p⟩ | ⟨hb3, p⟩
     ·refine de G [] (hO 1 (.b true) (hP hb3 h0)) ?_
      exact ibN (thN (rh G (wL G p)))
     ·obtain ⟨e11, h14, e12, h15, p⟩ := ob2 p
      refine de G [] (hO 1 (.b false) (hP hb3 (hD 4 h14 (hD 8 h15 (hE 9 h15 h0))))) ?_
      exact ibN (thN (rh G (wL G p)))
    ·exact Ok_exit (thE (thE (ibE (wD G p hb2))))
   rintro v8 p s2 hw1
   refine ibN (thN (Ok_weak hw1 ?_))
   exact rh G (wL G p)
  ·exact Ok_exit (thE (thE (ibE (wD G p hb1))))
 rintro v9 p s3 hw2
 refine thN (Ok_weak hw2 ?_)
 refine rg G ?_
 cases p
 exact rt [16] []
noncomputable def zq10_M : MS (Timetable × Int × (List Int) × Int) ((List Int)) := ⟨.x .r (.x .r (.x .r .r)), fun x => zq10 x.1 x.2.1 x.2.2.1 x.2.2.2, fun _ => .own 0, fun y => [arO 3 y], fun _ _ => []⟩
theorem zq10_c {t change ready legs y} (p : zq10 t change ready legs = some y) : zq10_M.C (t, change, ready, legs) y := zq10_M.c (t, change, ready, legs) p
theorem zq10_ok : FnOK Try.prog tJ 175 zq10_M.S := by
 refine fm tt zq10_M [fo zq25_ok] call175 func175 rfl results175 ntmps175 ?_
 rintro ⟨t, change, ready, legs⟩ y cx G (p : zq10 t change ready legs = some y)
 unfold zq10 at p
 refine rg G ?_
 obtain ⟨u, h, p⟩ := obind p
 refine rs G (hN 1 ready (hO 2 (.l (List.map Enc.e (List.replicate (ready.length : Int).toNat (0 : Int)))) (hP (mk_p (b := 8) (chk_t h) rfl) (hP (rep_m Enc.e (ready.length : Int).toNat (0 : Int)) h0)))) ?_
 refine Ok_seq (rs G (hN 1 (List.replicate (ready.length : Int).toNat (0 : Int)) h0) ?_)
 refine tl p (fun a1 => ⟨[(1, dV change), (2, dV ready), (3, dV legs), (4, .ref 16 0), (9, .own 32)], [bX 16 35 [dV t.Network.Stops, dV t.Network.Lines, dV t.Trips], aX 32 3 a1], 64⟩) (fun a1 p => ?_) ?_
 ·refine Ok_block (lp G p (fun (v, a) => ⟨[(1, dV change), (2, dV ready), (3, dV legs), (4, .ref 16 0), (9, .own 32), (18, dV ((List.replicate (ready.length : Int).toNat (0 : Int)).length : Int)), (19, dV v)], [bX 16 35 [dV t.Network.Stops, dV t.Network.Lines, dV t.Trips], aX 32 3 a], 64⟩) ?_)
  rintro ⟨v, a⟩ r0 hb p
  rw [zq10_L1] at p
  refine rg G (Ok_seq (cd p ?_ ?_)) <;> intro p
  ·refine X_skip (thN (Ok_seq (Ok_block (rg G ?_))))
   obtain ⟨e, h1, p⟩ := obind p
   refine re G (hD 2 h1 (hS 3 h1 1073741824 h0)) ?_
   exact ibN (thN (rh G (wL G p)))
  ·exact Ok_exit (thE (thE (ibE (wD G p hb))))
 rintro a1 p s hw
 refine thN (Ok_weak hw ?_)
 refine Ok_seq (rg G (tl p (fun a6 => ⟨[(9, .own 16)], [aX 16 3 a6], 48⟩) (fun a6 p => ?_) ?_))
 ·refine Ok_block (lp G p (fun (ready1, v1, a2) => ⟨[(1, dV change), (2, dV ready1), (4, .ref 16 0), (9, .own 32), (26, dV legs), (27, dV v1)], [bX 16 35 [dV t.Network.Stops, dV t.Network.Lines, dV t.Trips], aX 32 3 a2], 64⟩) ?_)
  rintro ⟨ready1, v1, a2⟩ r0 hb1 p
  rw [zq10_L3] at p
  refine rg G (Ok_seq (cd p ?_ ?_)) <;> intro p
  ·refine X_skip (thN (Ok_seq (Ok_block ?_)))
   obtain ⟨r, h2, p⟩ := obind p
   refine rs G (hC 2 (zq25_M.c (_, _) h2) h0) ?_
   obtain ⟨u1, h3, p⟩ := obind p
   refine rs G (hN 1 a2 (hO 2 (.l (List.map Enc.e (List.replicate (a2.length : Int).toNat (0 : Int)))) (hP (mk_p (b := 8) (chk_t h3) rfl) (hP (rep_m Enc.e (a2.length : Int).toNat (0 : Int)) h0)))) ?_
   refine rs G (hN 1 r h0) ?_
   refine tl p (fun (ready4, a5) => ⟨[(1, dV change), (2, .own 16), (4, .ref 32 0), (9, .own 48), (26, dV legs), (27, dV v1)], [aX 16 3 ready4, bX 32 35 [dV t.Network.Stops, dV t.Network.Lines, dV t.Trips], aX 48 3 a5], 80⟩) (fun vv1 p => ?_) ?_
   ·refine Ok_block (lp G p (fun (v2, ready2, a3) => ⟨[(1, dV change), (2, .own 16), (4, .ref 32 0), (9, .own 48), (26, dV legs), (27, dV v1), (35, .own 64), (36, dV (r.length : Int)), (37, dV v2)], [aX 16 3 ready2, bX 32 35 [dV t.Network.Stops, dV t.Network.Lines, dV t.Trips], aX 48 3 a3, aX 64 3 r], 96⟩) ?_)
    rintro ⟨v2, ready2, a3⟩ r0 hb2 p
    rw [zq10_L2] at p
    refine rg G (Ok_seq (cd p ?_ ?_)) <;> intro p
    ·refine X_skip (thN (jn p (fun (ready3, a4) => ⟨[(1, dV change), (2, .own 16), (4, .ref 32 0), (9, .own 48), (26, dV legs), (27, dV v1), (35, .own 64), (36, dV (r.length : Int)), (37, dV v2)], [aX 16 3 ready3, bX 32 35 [dV t.Network.Stops, dV t.Network.Lines, dV t.Trips], aX 48 3 a4, aX 64 3 r], 96⟩) (fun vv p => ?_) ?_))
     ·refine Ok_block ?_
      obtain ⟨e1, h4, p⟩ := obind p
      refine rs G (hD 1 h4 (hE 2 h4 h0)) ?_
      obtain ⟨e2, h5, p⟩ := obind p
      refine rs G (hD 2 h5 (hS 3 h5 1073741824 h0)) ?_
      obtain ⟨e3, h6, p⟩ := obind p
      refine rs G (hD 3 h6 (hE 4 h6 h0)) ?_
      refine cd p ?_ ?_ <;> intro p
      ·obtain ⟨e4, h7, p⟩ := obind p
       refine rs G (hD 3 h7 (hS 4 h7 e1 h0)) ?_
       obtain ⟨e5, h8, p⟩ := obind p
       refine re G (hD 5 h8 (hS 6 h8 (w64 (e1 + change)) h0)) ?_
       exact ibN (wJ G p)
      ·exact X_skip (ibN (wJ G p))
     rintro ⟨ready3, a4⟩ p
     exact rh G (wL G p)
    ·exact Ok_exit (thE (thE (ibE (wD G p hb2))))
   rintro ⟨ready4, a5⟩ p s1 hw1
   refine ibN (thN (Ok_weak hw1 ?_))
   exact rh G (wL G p)
  ·exact Ok_exit (thE (thE (ibE (wD G p hb1))))
 rintro a6 p s2 hw2
 refine thN (Ok_weak hw2 ?_)
 refine rg G ?_
 cases p
 exact rt [16] []
noncomputable def zq14_M : MS (Choice × Choice) Bool := ⟨.x .r .r, fun x => zq14 x.1 x.2, fun y => dV y, fun _ => [], fun _ _ => []⟩
theorem zq14_ok : FnOK Try.prog tJ 190 zq14_M.S := by
 refine fm tt zq14_M [] call190 func190 rfl results190 ntmps190 ?_
 rintro ⟨a, b⟩ y cx G (p : zq14 a b = some y)
 unfold zq14 at p
 refine rg G (jn p (fun v => ⟨[(4, dV v)], [], 32⟩) (fun v p => ?_) ?_)
 ·rcases bf p with ⟨hb, p⟩ | ⟨hb, p⟩
  ·rcases bf p with ⟨hb1, p⟩ | ⟨hb1, p⟩
   ·rcases bf p with ⟨hb2, p⟩ | ⟨hb2, p⟩
    ·refine re G (hO 3 (.b true) (hP hb (hO 10 (.b true) (hP hb1 (hO 17 (.b true) (hP hb2 h0)))))) ?_
     exact wJ G p
    ·refine re G (hO 3 (.b true) (hP hb (hO 10 (.b true) (hP hb1 (hO 17 (.b false) (hP hb2 h0)))))) ?_
     exact wJ G p
   ·refine re G (hO 3 (.b true) (hP hb (hO 10 (.b false) (hP hb1 h0)))) ?_
    exact wJ G p
  ·refine re G (hO 3 (.b false) (hP hb h0)) ?_
   exact wJ G p
 rintro v p
 cases p
 exact rt [] []
noncomputable def zq29_M : MS (Choice × Choice) Bool := ⟨.x .r (.b 112), fun x => zq29 x.1 x.2, fun y => dV y, fun _ => [], fun x _ => [bxO 112 x.2]⟩
theorem zq29_ok : FnOK Try.prog tJ 189 zq29_M.S := by
 refine fm tt zq29_M [fo zq14_ok] call189 func189 rfl results189 ntmps189 ?_
 rintro ⟨b, c1⟩ y cx G (p : zq29 b c1 = some y)
 unfold zq29 at p
 refine rg G ?_
 obtain ⟨r, h, p⟩ := obind p
 refine rs G (hC 2 (zq14_M.c (_, _) h) h0) ?_
 cases p
 exact rt [] []
noncomputable def zq87_M : MS ((List Choice) × Choice) Int := ⟨⟨[.rd, .fn 189 [.bx]], fun x => [Enc.e x.1, .agg [.sc undef]], fun x => [bxO 112 x.2], 1, 1, fun _ => rfl, fun _ => rfl, rfl, (by
  rintro ⟨a0, a1⟩ ⟨b0, b1⟩ h hO
  have q0 : a0 = b0 := qI 0 h
  have q1 : a1 = b1 := Enc.inj _ _ (congrArg (fun l => D.agg (obD l 0)) hO)
  subst q0; subst q1; rfl)⟩, fun x => zq87 x.1 x.2, fun y => dV y, fun _ => [], fun x _ => [bxO 112 x.2]⟩
theorem zq87_ok : FnOK Try.prog tJ 226 zq87_M.S := by
 refine fm tt zq87_M [fo zq29_ok] call226 func226 rfl results226 ntmps226 ?_
 rintro ⟨s, c1⟩ y cx G (p : zq87 s c1 = some y)
 obtain ⟨f, hf_f⟩ : ∃ q, (fun (z0 : Choice) => zq29 z0 c1) = q := ⟨_, rfl⟩
 have p : zq86 s f = some y := by rw [← hf_f]; exact p
 unfold zq86 at p
 refine rg G (Ok_seq (rs G (hN 1 s h0) ?_))
 refine tF p (fun _ => ⟨[(1, .fn 189 [.ref 0 0])], [bX 0 112 [dV c1.Depart, dV c1.Arrive, dV c1.Legs]], 48⟩) (fun v1 hr p => ?_) ?_
 ·refine Ok_block (lp G p (fun v => ⟨[(0, dV s), (1, .fn 189 [.ref 0 0]), (7, dV (s.length : Int)), (8, dV v)], [bX 0 112 [dV c1.Depart, dV c1.Arrive, dV c1.Legs]], 48⟩) ?_)
  rintro v r0 hb p
  rw [zq86_L1] at p
  refine rg G (Ok_seq (cd p ?_ ?_)) <;> intro p
  ·refine X_skip (thN (Ok_seq (Ok_block (rg G ?_))))
   obtain ⟨e, h, r, h1, p⟩ := ob2 p
   have h1 : zq29 e c1 = some r := by rw [← hf_f] at h1; exact h1
   refine rs G (hD 3 h (hC 5 (zq29_M.c (_, _) h1) h0)) ?_
   refine cd p ?_ ?_ <;> intro p
   ·refine rg G ?_
    have p := eL p hb hr
    cases p
    exact rt [] []
   ·exact X_skip (ibN (thN (rh G (wL G p))))
  ·exact Ok_exit (thE (thE (ibE (wE G p hb))))
 rintro ⟨⟩ p s1 hw
 refine thN (Ok_weak hw ?_)
 refine rg G ?_
 cases p
 exact rt [] []
noncomputable def zq85_M : MS ((List Choice) × Choice) Bool := ⟨⟨[.rd, .fn 189 [.bx]], fun x => [Enc.e x.1, .agg [.sc undef]], fun x => [bxO 112 x.2], 1, 1, fun _ => rfl, fun _ => rfl, rfl, (by
  rintro ⟨a0, a1⟩ ⟨b0, b1⟩ h hO
  have q0 : a0 = b0 := qI 0 h
  have q1 : a1 = b1 := Enc.inj _ _ (congrArg (fun l => D.agg (obD l 0)) hO)
  subst q0; subst q1; rfl)⟩, fun x => zq85 x.1 x.2, fun y => dV y, fun _ => [], fun x _ => [bxO 112 x.2]⟩
theorem zq85_ok : FnOK Try.prog tJ 188 zq85_M.S := by
 refine fm tt zq85_M [fo zq87_ok] call188 func188 rfl results188 ntmps188 ?_
 rintro ⟨s, c1⟩ y cx G (p : zq85 s c1 = some y)
 obtain ⟨f, hf_f⟩ : ∃ q, (fun (z0 : Choice) => zq29 z0 c1) = q := ⟨_, rfl⟩
 have p : zq84 s f = some y := by rw [← hf_f]; exact p
 unfold zq84 at p
 refine rg G ?_
 obtain ⟨r, h, p⟩ := obind p
 have h : zq87 s c1 = some r := by rw [← hf_f] at h; exact h
 refine rs G (hC 2 (zq87_M.c (_, _) h) h0) ?_
 cases p
 exact rt [] []
noncomputable def zq28_M : MS (Timetable × Int × Int × Int) ((List Choice)) := ⟨.x .r (.x .r (.x .r .r)), fun x => zq28 x.1 x.2.1 x.2.2.1 x.2.2.2, fun _ => .own 0, fun y => [arO 112 y], fun _ _ => []⟩
theorem zq28_ok : FnOK Try.prog tJ 131 zq28_M.S := by
 refine fm tt zq28_M [fo zq11_ok, fo zq24_ok, fo zq10_ok, fo zq85_ok] call131 func131 rfl results131 ntmps131 ?_
 rintro ⟨t, change, from_, to_⟩ y cx G (p : zq28 t change from_ to_ = some y)
 unfold zq28 at p
 refine rg G (rg G (Ok_seq ?_))
 obtain ⟨r, h, p⟩ := obind p
 refine rs G (hC 2 (zq11_M.c (_, _) h) (hN 3 r h0)) ?_
 refine tl p (fun legs4 => ⟨[(9, .own 16)], [aX 16 112 legs4], 48⟩) (fun legs4 p => ?_) ?_
 ·refine Ok_block (lpP p (fun (v, legs) => ⟨[(1, dV change), (2, dV from_), (3, dV to_), (4, .ref 16 0), (9, .own 32), (20, .own 48), (21, dV (r.length : Int)), (22, dV v)], [bX 16 35 [dV t.Network.Stops, dV t.Network.Lines, dV t.Trips], aX 32 112 legs, aX 48 3 r], 80⟩) (Wk_J G.hL ⟨[(1, []), (2, []), (3, []), (4, []), (9, [.o 32]), (20, []), (21, []), (22, [])], [(16, 16, []), (48, 96, [])], [(32, 112, 3, [])], 80⟩ (by kernel_rfl)) ?_)
  rintro ⟨v, legs⟩ r0 hb p
  rw [zq28_L2] at p
  refine rg G (Ok_seq (cd p ?_ ?_)) <;> intro p
  ·refine X_skip (thN (Ok_seq (Ok_block ?_)))
   obtain ⟨e, h1, p⟩ := obind p
   refine rs G (hD 0 h1 (hE 1 h1 h0)) ?_
   refine rg G (rg G (tl p (fun legs3 => ⟨[(1, dV change), (2, dV from_), (3, dV to_), (4, .ref 16 0), (9, .own 32), (20, .own 48), (21, dV (r.length : Int)), (22, dV v)], [bX 16 35 [dV t.Network.Stops, dV t.Network.Lines, dV t.Trips], aX 32 112 legs3, aX 48 3 r], 80⟩) (fun legs3 p => ?_) ?_))
   ·refine Ok_block (lp G p (fun (v1, c, legs1) => ⟨[(1, dV change), (2, dV from_), (3, dV to_), (4, .ref 16 0), (9, .own 32), (11, dV e), (12, dV v1), (13, dV c), (20, .own 48), (21, dV (r.length : Int)), (22, dV v)], [bX 16 35 [dV t.Network.Stops, dV t.Network.Lines, dV t.Trips], aX 32 112 legs1, aX 48 3 r], 80⟩) ?_)
    rintro ⟨v1, c, legs1⟩ r0 hb1 p
    rw [zq28_L1] at p
    refine Ok_seq (rg G (cd p ?_ ?_)) <;> intro p
    ·refine X_skip (thN (jn p (fun (v2, legs2) => ⟨[(1, dV change), (2, dV from_), (3, dV to_), (4, .ref 16 0), (9, .own 32), (11, dV e), (12, dV v2), (13, dV c), (20, .own 48), (21, dV (r.length : Int)), (22, dV v)], [bX 16 35 [dV t.Network.Stops, dV t.Network.Lines, dV t.Trips], aX 32 112 legs2, aX 48 3 r], 80⟩) (fun vv p => ?_) ?_))
     ·refine Ok_block ?_
      obtain ⟨r3, h5, r4, h6, e2, h7, p⟩ := ob3 p
      refine ds G [] (hC 5 (zq24_M.c (_, _, _) h5) (hF 7 (zq10_c h6) ⟨(flat_cons flat_arr flat_nil), flat_nil⟩ (hD 9 h7 (hE 10 h7 h0)))) ?_
      refine rg G (cd p ?_ ?_) <;> intro p
      ·refine rg G ?_
       obtain ⟨u, h8, p⟩ := obind p
       refine re G (hA 6 24 h8 h0) ?_
       exact ibN (wJ G p)
      ·exact X_skip (ibN (wJ G p))
     rintro ⟨v2, legs2⟩ p
     exact rh G (wL G p)
    ·exact Ok_exit (thE (thE (ibE (wD G p hb1))))
   rintro legs3 p s hw
   refine ibN (thN (Ok_weak hw ?_))
   exact rh G (wL G p)
  ·exact Ok_exit (thE (thE (ibE (wD G p hb))))
 rintro legs4 p s1 hw1
 refine thN (Ok_weak hw1 ?_)
 refine rg G (Ok_seq (rs G (hN 1 legs4 h0) ?_))
 refine tl p (fun v6 => ⟨[(15, .own 16)], [aX 16 112 v6], 48⟩) (fun v6 p => ?_) ?_
 ·refine Ok_block (lpP p (fun (v3, v4) => ⟨[(9, .own 16), (15, .own 32), (53, .own 16), (54, dV (legs4.length : Int)), (55, dV v3)], [aX 16 112 legs4, aX 32 112 v4], 64⟩) (Wk_J G.hL ⟨[(9, []), (15, [.o 32]), (53, []), (54, []), (55, [])], [(16, 16, [])], [(32, 112, 3, [])], 64⟩ (by kernel_rfl)) ?_)
  rintro ⟨v3, v4⟩ r0 hb2 p
  rw [zq28_L3] at p
  refine rg G (Ok_seq (cd p ?_ ?_)) <;> intro p
  ·refine X_skip (thN (jn p (fun v5 => ⟨[(9, .own 16), (15, .own 32), (53, .own 16), (54, dV (legs4.length : Int)), (55, dV v3)], [aX 16 112 legs4, aX 32 112 v5], 64⟩) (fun v5 p => ?_) ?_))
   ·refine Ok_block ?_
    obtain ⟨e3, h9, p⟩ := obind p
    refine rs G (hD 0 h9 (hE 1 h9 h0)) ?_
    obtain ⟨r5, h10, p⟩ := obind p
    refine rs G (hC 2 (zq85_M.c (_, _) h10) h0) ?_
    refine cd p ?_ ?_ <;> intro p
    ·obtain ⟨u1, h11, p⟩ := obind p
     refine re G (hA 3 24 h11 h0) ?_
     exact ibN (wJ G p)
    ·exact X_skip (ibN (wJ G p))
   rintro v5 p
   exact rh G (wL G p)
  ·exact Ok_exit (thE (thE (ibE (wD G p hb2))))
 rintro v6 p s2 hw2
 refine thN (Ok_weak hw2 ?_)
 refine rg G ?_
 cases p
 exact rt [16] []
noncomputable def zq7_M : MS (Timetable × Int × Int × Int) ((List Choice) × Bool) := ⟨.x .r (.x .r (.x .r .r)), fun x => zq7 x.1 x.2.1 x.2.2.1 x.2.2.2, fun y => .tup [dV y.1, dV y.2], fun _ => [], fun _ _ => []⟩
theorem zq7_ok : FnOK Try.prog tJ 59 zq7_M.S := by
 refine fm tt zq7_M [fo zq19_ok, fo zq28_ok] call59 func59 rfl results59 ntmps59 ?_
 rintro ⟨t, change, from_, to_⟩ y cx G (p : zq7 t change from_ to_ = some y)
 unfold zq7 at p
 refine rg G (Ok_seq ?_)
 obtain ⟨r, h, p⟩ := obind p
 refine rs G (hC 4 (zq19_M.c (_, _, _, _) h) h0) ?_
 refine cd p ?_ ?_ <;> intro p
 ·refine rg G ?_
  cases p
  exact rt [] [[.z 3]]
 ·refine X_skip (thN ?_)
  obtain ⟨r1, h1, p⟩ := obind p
  refine rs G (hC 4 (zq28_M.c (_, _, _, _) h1) h0) ?_
  cases p
  exact rt [] []
noncomputable def zq53_M : MS (Int × Int × Int) Bool := ⟨.x .r (.x .r .r), fun x => zq53 x.1 x.2.1 x.2.2, fun y => dV y, fun _ => [], fun _ _ => []⟩
theorem zq53_c {x a b y} (p : zq53 x a b = some y) : zq53_M.C (x, a, b) y := zq53_M.c (x, a, b) p
theorem zq53_ok : FnOK Try.prog tJ 94 zq53_M.S := by
 refine fm tt zq53_M [] call94 func94 rfl results94 ntmps94 ?_
 rintro ⟨x, a, b⟩ y cx G (p : zq53 x a b = some y)
 unfold zq53 at p
 refine rg G (jn p (fun v => ⟨[(6, dV v)], [], 32⟩) (fun v p => ?_) ?_)
 ·rcases bf p with ⟨hb, p⟩ | ⟨hb, p⟩
  ·refine re G (hO 3 (.b true) (hP hb h0)) ?_
   exact wJ G p
  ·refine re G (hO 3 (.b false) (hP hb h0)) ?_
   exact wJ G p
 rintro v p
 cases p
 exact rt [] []
noncomputable def zq65_M : MS ByteArray Bool := ⟨.r, zq65, fun y => dV y, fun _ => [], fun _ _ => []⟩
theorem zq65_ok : FnOK Try.prog tJ 193 zq65_M.S := by
 refine fm tt zq65_M [fo zq53_ok] call193 func193 rfl results193 ntmps193 ?_
 rintro s y cx G (p : zq65 s = some y)
 unfold zq65 at p
 refine rg G (Ok_seq ?_)
 obtain ⟨r, h, p⟩ := obind p
 refine jn p (fun v => ⟨[(0, dV s), (17, dV v)], [], 32⟩) (fun v p => ?_) ?_
 ·rcases bf p with ⟨hb, p⟩ | ⟨hb, p⟩
  ·refine re G (hC 2 (zq53_c h) (hO 4 (.b true) (hP hb h0))) ?_
   exact wJ G p
  ·obtain ⟨u, h1, p⟩ := obind p
   rcases bf p with ⟨hb1, p⟩ | ⟨hb1, p⟩
   ·refine re G (hC 2 (zq53_c h) (hO 4 (.b false) (hP hb (hK h1 (hO 9 (.b true) (hP hb1 h0)))))) ?_
    exact wJ G p
   ·obtain ⟨u1, h2, p⟩ := obind p
    refine re G (hC 2 (zq53_c h) (hO 4 (.b false) (hP hb (hK h1 (hO 9 (.b false) (hP hb1 (hK h2 h0))))))) ?_
    exact wJ G p
 rintro v p
 refine cd p ?_ ?_ <;> intro p
 ·refine rg G ?_
  cases p
  exact rt [] []
 ·refine X_skip (thN (Ok_seq (rg G (tF p (fun _ => ⟨[], [], 32⟩) (fun v3 hr p => ?_) ?_))))
  ·refine Ok_block (lp G p (fun v1 => ⟨[(0, dV s), (3, dV v1)], [], 32⟩) ?_)
   rintro v1 r0 hb2 p
   rw [zq65_L1] at p
   refine Ok_seq (rg G (cd p ?_ ?_)) <;> intro p
   ·refine X_skip (thN (Ok_seq (Ok_block ?_)))
    obtain ⟨u2, h3, p⟩ := obind p
    refine jn p (fun v2 => ⟨[(0, dV s), (3, dV v1), (45, dV v2)], [], 32⟩) (fun v2 p => ?_) ?_
    ·rcases bf p with ⟨hb3, p⟩ | ⟨hb3, p⟩
     ·obtain ⟨u3, h4, p⟩ := obind p
      rcases bf p with ⟨hb4, p⟩ | ⟨hb4, p⟩
      ·refine re G (hK h3 (hO 4 (.b true) (hP hb3 (hK h4 (hO 15 (.b true) (hP hb4 h0)))))) ?_
       exact wJ G p
      ·obtain ⟨u4, h5, p⟩ := obind p
       refine re G (hK h3 (hO 4 (.b true) (hP hb3 (hK h4 (hO 15 (.b false) (hP hb4 (hK h5 h0))))))) ?_
       exact wJ G p
     ·obtain ⟨u5, h6, p⟩ := obind p
      rcases bf p with ⟨hb5, p⟩ | ⟨hb5, p⟩
      ·obtain ⟨u6, h7, p⟩ := obind p
       rcases bf p with ⟨hb6, p⟩ | ⟨hb6, p⟩
       ·refine re G (hK h3 (hO 4 (.b false) (hP hb3 (hK h6 (hO 10 (.b true) (hP hb5 (hK h7 (hO 15 (.b true) (hP hb6 h0))))))))) ?_
        exact wJ G p
       ·obtain ⟨u7, h8, p⟩ := obind p
        refine re G (hK h3 (hO 4 (.b false) (hP hb3 (hK h6 (hO 10 (.b true) (hP hb5 (hK h7 (hO 15 (.b false) (hP hb6 (hK h8 h0)))))))))) ?_
        exact wJ G p
      ·refine re G (hK h3 (hO 4 (.b false) (hP hb3 (hK h6 (hO 10 (.b false) (hP hb5 h0)))))) ?_
       exact wJ G p
    rintro v2 p
    refine cd p ?_ ?_ <;> intro p
    ·refine rg G ?_
     have p := eL p hb2 hr
     cases p
     exact rt [] []
    ·exact X_skip (ibN (thN (rh G (wL G p))))
   ·exact Ok_exit (thE (thE (ibE (wE G p hb2))))
  rintro ⟨⟩ p s1 hw
  refine thN (Ok_weak hw ?_)
  refine rg G ?_
  cases p
  exact rt [] []
noncomputable def zq61_M : MS ((List ByteArray) × ByteArray) Int := ⟨.x .r .r, fun x => zq61 x.1 x.2, fun y => dV y, fun _ => [], fun _ _ => []⟩
theorem zq61_ok : FnOK Try.prog tJ 194 zq61_M.S := by
 refine fm tt zq61_M [] call194 func194 rfl results194 ntmps194 ?_
 rintro ⟨list, name⟩ y cx G (p : zq61 list name = some y)
 unfold zq61 at p
 refine rg G (Ok_seq (rg G (tF p (fun _ => ⟨[], [], 32⟩) (fun v1 hr p => ?_) ?_)))
 ·refine Ok_block (lp G p (fun v => ⟨[(0, dV list), (1, dV name), (5, dV v)], [], 32⟩) ?_)
  rintro v r0 hb p
  rw [zq61_L1] at p
  refine Ok_seq (rs G (hN 2 list h0) ?_)
  refine cd p ?_ ?_ <;> intro p
  ·refine X_skip (thN (Ok_seq (Ok_block ?_)))
   obtain ⟨e, h, p⟩ := obind p
   refine rs G (hD 2 h h0) ?_
   refine cd p ?_ ?_ <;> intro p
   ·refine rg G ?_
    have p := eL p hb hr
    cases p
    exact rt [] []
   ·exact X_skip (ibN (thN (rh G (wL G p))))
  ·exact Ok_exit (thE (thE (ibE (wE G p hb))))
 rintro ⟨⟩ p s hw
 refine thN (Ok_weak hw ?_)
 refine rg G ?_
 cases p
 exact rt [] []
noncomputable def zq63_M : MS (Line × Int) Bool := ⟨.x .r .r, fun x => zq63 x.1 x.2, fun y => dV y, fun _ => [], fun _ _ => []⟩
theorem zq63_ok : FnOK Try.prog tJ 195 zq63_M.S := by
 refine fm tt zq63_M [fo zq65_ok, fo zq53_ok, fo zq68_ok] call195 func195 rfl results195 ntmps195 ?_
 rintro ⟨x, stops⟩ y cx G (p : zq63 x stops = some y)
 unfold zq63 at p
 refine rg G (Ok_seq ?_)
 obtain ⟨r, h, p⟩ := obind p
 refine jn p (fun v => ⟨[(1, dV stops), (2, .ref 16 0), (27, dV v)], [bX 16 146 [dV x.Name, dV x.Stops, dV x.Runs]], 48⟩) (fun v p => ?_) ?_
 ·rcases bf p with ⟨hb, p⟩ | ⟨hb, p⟩
  ·refine re G (hC 2 (zq65_M.c _ h) (hO 4 (.b true) (hP hb h0))) ?_
   exact wJ G p
  ·obtain ⟨r1, h1, p⟩ := obind p
   rcases bf p with ⟨hb1, p⟩ | ⟨hb1, p⟩
   ·refine re G (hC 2 (zq65_M.c _ h) (hO 4 (.b false) (hP hb (hN 7 x.Stops (hC 8 (zq53_c h1) (hO 11 (.b true) (hP hb1 h0))))))) ?_
    exact wJ G p
   ·refine re G (hC 2 (zq65_M.c _ h) (hO 4 (.b false) (hP hb (hN 7 x.Stops (hC 8 (zq53_c h1) (hO 11 (.b false) (hP hb1 (hN 14 x.Runs (hN 17 x.Stops h0))))))))) ?_
    exact wJ G p
 rintro v p
 refine cd p ?_ ?_ <;> intro p
 ·refine rg G ?_
  cases p
  exact rt [] []
 ·refine X_skip (thN (Ok_seq (rg G (tF p (fun _ => ⟨[(2, .ref 16 0)], [bX 16 146 [dV x.Name, dV x.Stops, dV x.Runs]], 48⟩) (fun v5 hr p => ?_) ?_))))
  ·refine Ok_block (lp G p (fun v1 => ⟨[(1, dV stops), (2, .ref 16 0), (5, dV v1)], [bX 16 146 [dV x.Name, dV x.Stops, dV x.Runs]], 48⟩) ?_)
   rintro v1 r0 hb2 p
   rw [zq63_L1] at p
   refine Ok_seq (rs G (hN 3 x.Stops h0) ?_)
   refine cd p ?_ ?_ <;> intro p
   ·refine X_skip (thN (Ok_seq (Ok_block ?_)))
    obtain ⟨e2, h6, r4, h7, p⟩ := ob2 p
    refine jn p (fun v2 => ⟨[(1, dV stops), (2, .ref 16 0), (5, dV v1), (54, dV v2)], [bX 16 146 [dV x.Name, dV x.Stops, dV x.Runs]], 48⟩) (fun v2 p => ?_) ?_
    ·rcases bf p with ⟨hb3, p⟩ | ⟨hb3, p⟩
     ·refine de G [] (hD 3 h6 (hC 7 (zq53_c h7) (hO 9 (.b true) (hP hb3 h0)))) ?_
      exact wJ G p
     ·obtain ⟨e3, h8, r5, h9, p⟩ := ob2 p
      refine de G [] (hD 3 h6 (hC 7 (zq53_c h7) (hO 9 (.b false) (hP hb3 (hD 14 h8 (hC 16 (zq68_M.c (_, _) h9) h0)))))) ?_
      exact wJ G p
    rintro v2 p
    refine cd p ?_ ?_ <;> intro p
    ·refine rg G ?_
     have p := eL p hb2 hr
     cases p
     exact rt [] []
    ·exact X_skip (ibN (thN (rh G (wL G p))))
   ·exact Ok_exit (thE (thE (ibE (wE G p hb2))))
  rintro ⟨⟩ p s hw
  refine thN (Ok_weak hw ?_)
  refine Ok_seq (rg G (tF p (fun _ => ⟨[], [], 32⟩) (fun v4 hr1 p => ?_) ?_))
  ·refine Ok_block (lp G p (fun v3 => ⟨[(2, .ref 16 0), (6, dV v3)], [bX 16 146 [dV x.Name, dV x.Stops, dV x.Runs]], 48⟩) ?_)
   rintro v3 r0 hb4 p
   rw [zq63_L2] at p
   refine Ok_seq (rs G (hN 3 x.Runs h0) ?_)
   refine cd p ?_ ?_ <;> intro p
   ·refine X_skip (thN (Ok_seq (Ok_block ?_)))
    obtain ⟨e5, h10, r7, h11, p⟩ := ob2 p
    refine rs G (hD 3 h10 (hC 5 (zq53_c h11) h0)) ?_
    refine cd p ?_ ?_ <;> intro p
    ·refine rg G ?_
     have p := eL p hb4 hr1
     cases p
     exact rt [] []
    ·exact X_skip (ibN (thN (rh G (wL G p))))
   ·exact Ok_exit (thE (thE (ibE (wE G p hb4))))
  rintro ⟨⟩ p s1 hw1
  refine thN (Ok_weak hw1 ?_)
  refine rg G ?_
  cases p
  exact rt [] []
noncomputable def zq64_M : MS (Network × ByteArray) Int := ⟨.x .r .r, fun x => zq64 x.1 x.2, fun y => dV y, fun _ => [], fun _ _ => []⟩
theorem zq64_c {n name y} (p : zq64 n name = some y) : zq64_M.C (n, name) y := zq64_M.c (n, name) p
theorem zq64_ok : FnOK Try.prog tJ 196 zq64_M.S := by
 refine fm tt zq64_M [] call196 func196 rfl results196 ntmps196 ?_
 rintro ⟨n, name⟩ y cx G (p : zq64 n name = some y)
 unfold zq64 at p
 refine rg G (Ok_seq (rg G (tF p (fun _ => ⟨[], [], 32⟩) (fun v1 hr p => ?_) ?_)))
 ·refine Ok_block (lp G p (fun v => ⟨[(1, dV name), (2, .ref 16 0), (5, dV v)], [bX 16 32 [dV n.Stops, dV n.Lines]], 48⟩) ?_)
  rintro v r0 hb p
  rw [zq64_L1] at p
  refine Ok_seq (rs G (hN 3 n.Lines h0) ?_)
  refine cd p ?_ ?_ <;> intro p
  ·refine X_skip (thN (Ok_seq (Ok_block ?_)))
   obtain ⟨e, h, p⟩ := obind p
   refine rs G (hD 3 h h0) ?_
   refine cd p ?_ ?_ <;> intro p
   ·refine rg G ?_
    have p := eL p hb hr
    cases p
    exact rt [] []
   ·exact X_skip (ibN (thN (rh G (wL G p))))
  ·exact Ok_exit (thE (thE (ibE (wE G p hb))))
 rintro ⟨⟩ p s hw
 refine thN (Ok_weak hw ?_)
 refine rg G ?_
 cases p
 exact rt [] []
noncomputable def zq62_M : MS Network Bool := ⟨.r, zq62, fun y => dV y, fun _ => [], fun _ _ => []⟩
theorem zq62_ok : FnOK Try.prog tJ 136 zq62_M.S := by
 refine fm tt zq62_M [fo zq53_ok, fo zq65_ok, fo zq61_ok, fo zq63_ok, fo zq64_ok] call136 func136 rfl results136 ntmps136 ?_
 rintro n y cx G (p : zq62 n = some y)
 unfold zq62 at p
 refine rg G (Ok_seq ?_)
 obtain ⟨r, h, p⟩ := obind p
 refine jn p (fun v => ⟨[(1, .ref 16 0), (16, dV v)], [bX 16 32 [dV n.Stops, dV n.Lines]], 48⟩) (fun v p => ?_) ?_
 ·rcases bf p with ⟨hb, p⟩ | ⟨hb, p⟩
  ·refine re G (hN 2 n.Stops (hC 3 (zq53_c h) (hO 5 (.b true) (hP hb h0)))) ?_
   exact wJ G p
  ·obtain ⟨r1, h1, p⟩ := obind p
   refine re G (hN 2 n.Stops (hC 3 (zq53_c h) (hO 5 (.b false) (hP hb (hN 8 n.Lines (hC 9 (zq53_c h1) h0)))))) ?_
   exact wJ G p
 rintro v p
 refine cd p ?_ ?_ <;> intro p
 ·refine rg G ?_
  cases p
  exact rt [] []
 ·refine X_skip (thN (Ok_seq (rg G (tF p (fun _ => ⟨[(1, .ref 16 0)], [bX 16 32 [dV n.Stops, dV n.Lines]], 48⟩) (fun v5 hr p => ?_) ?_))))
  ·refine Ok_block (lp G p (fun i => ⟨[(1, .ref 16 0), (3, dV i)], [bX 16 32 [dV n.Stops, dV n.Lines]], 48⟩) ?_)
   rintro i r0 hb1 p
   rw [zq62_L1] at p
   refine Ok_seq (rs G (hN 3 n.Stops h0) ?_)
   refine cd p ?_ ?_ <;> intro p
   ·refine X_skip (thN (Ok_seq (Ok_block ?_)))
    obtain ⟨e2, h6, r4, h7, p⟩ := ob2 p
    refine jn p (fun v1 => ⟨[(1, .ref 16 0), (3, dV i), (42, dV v1)], [bX 16 32 [dV n.Stops, dV n.Lines]], 48⟩) (fun v1 p => ?_) ?_
    ·rcases bf p with ⟨hb2, p⟩ | ⟨hb2, p⟩
     ·refine de G [] (hD 3 h6 (hC 5 (zq65_M.c _ h7) (hO 7 (.b true) (hP hb2 h0)))) ?_
      exact wJ G p
     ·obtain ⟨e3, h8, r5, h9, p⟩ := ob2 p
      refine de G [] (hD 3 h6 (hC 5 (zq65_M.c _ h7) (hO 7 (.b false) (hP hb2 (hD 13 h8 (hC 15 (zq61_M.c (_, _) h9) h0)))))) ?_
      exact wJ G p
    rintro v1 p
    refine cd p ?_ ?_ <;> intro p
    ·refine rg G ?_
     have p := eL p hb1 hr
     cases p
     exact rt [] []
    ·exact X_skip (ibN (thN (rh G (wL G p))))
   ·exact Ok_exit (thE (thE (ibE (wE G p hb1))))
  rintro ⟨⟩ p s hw
  refine thN (Ok_weak hw ?_)
  refine Ok_seq (rg G (tF p (fun _ => ⟨[], [], 32⟩) (fun v4 hr1 p => ?_) ?_))
  ·refine Ok_block (lp G p (fun v2 => ⟨[(1, .ref 16 0), (4, dV v2)], [bX 16 32 [dV n.Stops, dV n.Lines]], 48⟩) ?_)
   rintro v2 r0 hb3 p
   rw [zq62_L2] at p
   refine Ok_seq (rs G (hN 3 n.Lines h0) ?_)
   refine cd p ?_ ?_ <;> intro p
   ·refine X_skip (thN (Ok_seq (Ok_block ?_)))
    obtain ⟨e7, h14, r9, h15, p⟩ := ob2 p
    refine jn p (fun v3 => ⟨[(1, .ref 16 0), (4, dV v2), (71, dV v3)], [bX 16 32 [dV n.Stops, dV n.Lines]], 48⟩) (fun v3 p => ?_) ?_
    ·rcases bf p with ⟨hb4, p⟩ | ⟨hb4, p⟩
     ·refine de G [] (hD 3 h14 (hN 7 n.Stops (hC 8 (zq63_M.c (_, _) h15) (hO 10 (.b true) (hP hb4 h0))))) ?_
      exact wJ G p
     ·obtain ⟨e8, h16, r10, h17, p⟩ := ob2 p
      refine de G [] (hD 3 h14 (hN 7 n.Stops (hC 8 (zq63_M.c (_, _) h15) (hO 10 (.b false) (hP hb4 (hD 15 h16 (hC 18 (zq64_c h17) h0))))))) ?_
      exact wJ G p
    rintro v3 p
    refine cd p ?_ ?_ <;> intro p
    ·refine rg G ?_
     have p := eL p hb3 hr1
     cases p
     exact rt [] []
    ·exact X_skip (ibN (thN (rh G (wL G p))))
   ·exact Ok_exit (thE (thE (ibE (wE G p hb3))))
  rintro ⟨⟩ p s1 hw1
  refine thN (Ok_weak hw1 ?_)
  refine rg G ?_
  cases p
  exact rt [] []
noncomputable def zq70_M : MS Int Bool := ⟨.r, zq70, fun y => dV y, fun _ => [], fun _ _ => []⟩
theorem zq70_ok : FnOK Try.prog tJ 137 zq70_M.S := by
 refine fm tt zq70_M [fo zq53_ok] call137 func137 rfl results137 ntmps137 ?_
 rintro t y cx G (p : zq70 t = some y)
 unfold zq70 at p
 refine rg G ?_
 obtain ⟨r, h, p⟩ := obind p
 refine rs G (hC 1 (zq53_c h) h0) ?_
 cases p
 exact rt [] []
noncomputable def zq74_M : MS (Timetable × Int) Line := ⟨.x .r .r, fun x => zq74 x.1 x.2, fun y => dV y, fun _ => [], fun _ _ => []⟩
theorem zq74_ok : FnOK Try.prog tJ 216 zq74_M.S := by
 refine fm tt zq74_M [] call216 func216 rfl results216 ntmps216 ?_
 rintro ⟨t, i⟩ y cx G (p : zq74 t i = some y)
 unfold zq74 at p
 refine rg G ?_
 obtain ⟨e2, h2, e3, h3, p⟩ := ob2 p
 refine ds G [(11, [32])] (hD 6 h2 (hD 9 h3 h0)) ?_
 cases p
 exact rt [] []
noncomputable def zq75_M : MS (Timetable × Int) ((List Int)) := ⟨.x .r .r, fun x => zq75 x.1 x.2, fun y => dV y, fun _ => [], fun _ _ => []⟩
theorem zq75_ok : FnOK Try.prog tJ 167 zq75_M.S := by
 refine fm tt zq75_M [fo zq74_ok] call167 func167 rfl results167 ntmps167 ?_
 rintro ⟨t, i⟩ y cx G (p : zq75 t i = some y)
 unfold zq75 at p
 refine rg G ?_
 obtain ⟨r, h, p⟩ := obind p
 refine rs G (hC 2 (zq74_M.c (_, _) h) h0) ?_
 cases p
 exact rt [] []
noncomputable def zq69_M : MS (Line × Int × Int) Int := ⟨.x .r (.x .r .r), fun x => zq69 x.1 x.2.1 x.2.2, fun y => dV y, fun _ => [], fun _ _ => []⟩
theorem zq69_c {x from_ to_ y} (p : zq69 x from_ to_ = some y) : zq69_M.C (x, from_, to_) y := zq69_M.c (x, from_, to_) p
theorem zq69_ok : FnOK Try.prog tJ 161 zq69_M.S := by
 refine fm tt zq69_M [] call161 func161 rfl results161 ntmps161 ?_
 rintro ⟨x, from_, to_⟩ y cx G (p : zq69 x from_ to_ = some y)
 unfold zq69 at p
 refine rg G (rg G (Ok_seq (rg G (tl p (fun v2 => ⟨[(7, dV v2)], [], 32⟩) (fun v2 p => ?_) ?_))))
 ·refine Ok_block (lp G p (fun (v, v1) => ⟨[(2, dV to_), (3, .ref 16 0), (7, dV v), (8, dV v1)], [bX 16 146 [dV x.Name, dV x.Stops, dV x.Runs]], 48⟩) ?_)
  rintro ⟨v, v1⟩ r0 hb p
  rw [zq69_L1] at p
  refine Ok_seq (rg G (cd p ?_ ?_)) <;> intro p
  ·refine X_skip (thN (Ok_seq (Ok_block ?_)))
   obtain ⟨e, h, p⟩ := obind p
   refine re G (hD 4 h h0) ?_
   exact ibN (thN (rh G (wL G p)))
  ·exact Ok_exit (thE (thE (ibE (wD G p hb))))
 rintro v2 p s hw
 refine thN (Ok_weak hw ?_)
 refine rg G ?_
 cases p
 exact rt [] []
noncomputable def zq71_M : MS (Timetable × Int × Int) Int := ⟨.x .r (.x .r .r), fun x => zq71 x.1 x.2.1 x.2.2, fun y => dV y, fun _ => [], fun _ _ => []⟩
theorem zq71_ok : FnOK Try.prog tJ 169 zq71_M.S := by
 refine fm tt zq71_M [fo zq74_ok, fo zq69_ok] call169 func169 rfl results169 ntmps169 ?_
 rintro ⟨t, i, k⟩ y cx G (p : zq71 t i k = some y)
 unfold zq71 at p
 refine rg G ?_
 obtain ⟨e1, h3, r2, h4, r3, h5, p⟩ := ob3 p
 refine ds G [] (hD 3 h3 (hC 8 (zq74_M.c (_, _) h4) (hC 10 (zq69_c h5) h0))) ?_
 cases p
 exact rt [] []
noncomputable def zq72_M : MS (Timetable × Int) Int := ⟨.x .r .r, fun x => zq72 x.1 x.2, fun y => dV y, fun _ => [], fun _ _ => []⟩
theorem zq72_ok : FnOK Try.prog tJ 138 zq72_M.S := by
 refine fm tt zq72_M [fo zq75_ok, fo zq71_ok] call138 func138 rfl results138 ntmps138 ?_
 rintro ⟨t, i⟩ y cx G (p : zq72 t i = some y)
 unfold zq72 at p
 refine rg G ?_
 obtain ⟨r2, h2, r3, h3, p⟩ := ob2 p
 refine ds G [] (hC 4 (zq75_M.c (_, _) h2) (hN 5 r2 (hC 7 (zq71_M.c (_, _, _) h3) h0))) ?_
 cases p
 exact rt [] []
end Go.Proofs.Ytdocbkbpjdjlpaa
