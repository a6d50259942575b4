/- Each function computes what its model says. Made by program (dec.py). -/
import Derived.Test.YtdocbkbpjdjlpaaGreatDoorTy
import Derived.Test.YtdocbkbpjdjlpaaGreatDoorAbC
import Derived.Test.YtdocbkbpjdjlpaaGreatDoorVsM
import Derived.Test.YtdocbkbpjdjlpaaGreatDoorSh
namespace Go.Proofs.YtdocbkbpjdjlpaaGreatDoor
open Go Go.Ab Tryz
set_option maxRecDepth 100000
set_option maxHeartbeats 4000000
set_option linter.unusedVariables false
set_option linter.unusedSimpArgs false
noncomputable section
theorem tt : TT Tryz.prog ty := ⟨by kernel_rfl, ty_ok⟩
abbrev tJ : Inv := strJ Tryz.prog (some Lib.pow10Tab)
def yf2 : MS ((List UInt8)) Bool := ⟨.r, ykb, fun y => dV y, fun _ => [], fun _ _ => []⟩
theorem ylu : FnOK Tryz.prog tJ 4 yf2.S := by
 refine fm tt yf2 [] call4 func4 rfl results4 ntmps4 ?_
 rintro code y cx G (p : ykb code = some y)
 unfold ykb at p
 refine rg G (rs G (hN 1 code h0) ?_)
 cases p
 exact rt [] []
def yg3 : MS l1Cur (Int × l1Cur) := ⟨.b 45, zq43, fun y => dV y.1, fun _ => [], fun _ y => [bxO 45 y.2]⟩
theorem yob : FnOK Tryz.prog tJ 40 yg3.S := by
 refine fm tt yg3 [] call40 func40 rfl results40 ntmps40 ?_
 rintro c y cx G (p : zq43 c = some y)
 unfold zq43 at p
 refine rg G (rg G (jn p (fun v => ⟨[(0, .ref 0 0), (3, dV v)], [bX 0 45 [dV c.code_, dV c.at_, kV .u64 c.seed_.v]], 48⟩) (fun v p => ?_) ?_))
 ·refine ds G [] (hN 8 c.code_ h0) ?_
  refine cd p ?_ ?_ <;> intro p
  ·obtain ⟨e1, h1, p⟩ := jae p
   refine de G [] (hD 8 h1 h0) ?_
   exact wJ G p
  ·exact jad (wJ G p)
 rintro v p
 refine rg G (rg G (jac (ds G [] (hN 8 c.code_ h0) ?_)))
 refine cd p ?_ ?_ <;> intro p
 ·refine rg G ?_
  cases p
  exact rt [] []
 ·refine jad (thN ?_)
  obtain ⟨u, h2, p⟩ := jae p
  refine rs G (hK h2 h0) ?_
  cases p
  exact rt [] []
def yg0 : MS (l1Cur × Int) (Int × l1Cur) := ⟨.x (.b 45) .r, fun x => zq47 x.1 x.2, fun y => dV y.1, fun _ => [], fun _ y => [bxO 45 y.2]⟩
theorem yaa {c n y} (p : zq47 c n = some y) : yg0.C (c, n) y := yg0.c (c, n) p
theorem yaj : FnOK Tryz.prog tJ 18 yg0.S := by
 refine fm tt yg0 [fo yob] call18 func18 rfl results18 ntmps18 ?_
 rintro ⟨c, n⟩ y cx G (p : zq47 c n = some y)
 unfold zq47 at p
 refine rg G (jac (rg G (cd p ?_ ?_))) <;> intro p
 ·refine rg G ?_
  cases p
  exact rt [] []
 ·refine jad (thN ?_)
  obtain ⟨r, h, p⟩ := jae p
  refine rs G (hC 1 (yg3.c _ h) h0) ?_
  refine jn p (fun (v, v1, v2, v3) => ⟨[(0, .ref 0 0), (1, dV n), (5, dV v)], [bX 0 45 [dV v1, dV v2, kV .u64 v3]], 48⟩) (fun vv p => ?_) ?_
  ·refine rg G (cd p ?_ ?_) <;> intro p
   ·obtain ⟨r1, h1, p⟩ := jae p
    refine re G (hC 3 (yg3.c _ h1) h0) ?_
    exact wJ G p
   ·exact jad (wJ G p)
  rintro ⟨v, v1, v2, v3⟩ p
  obtain ⟨u, h2, p⟩ := jae p
  refine rs G (hK h2 h0) ?_
  cases p
  exact rt [] []
def yg1 : MS (l1Cur × Int) (Bool × l1Cur) := ⟨.x (.b 45) .r, fun x => zq46 x.1 x.2, fun y => dV y.1, fun _ => [], fun _ y => [bxO 45 y.2]⟩
theorem ybx {c n y} (p : zq46 c n = some y) : yg1.C (c, n) y := yg1.c (c, n) p
theorem ybs : FnOK Tryz.prog tJ 17 yg1.S := by
 refine fm tt yg1 [fo yaj] call17 func17 rfl results17 ntmps17 ?_
 rintro ⟨c, n⟩ y cx G (p : zq46 c n = some y)
 unfold zq46 at p
 refine rg G ?_
 obtain ⟨r, h, p⟩ := jae p
 refine rs G (hC 2 (yaa h) h0) ?_
 cases p
 exact rt [] []
def yba (rec_ : Int -> Option (ByteArray)) : MS Int ByteArray := ⟨.r, rec_, fun y => dV y, fun _ => [], fun _ _ => []⟩
def yel : MS Int ByteArray := yba zq53
theorem yjg {rec_ : Int -> Option (ByteArray)} {n y} (p : rec_ n = some y) : (yba rec_).C n y := (yba rec_).c n p
theorem yll {rec_ : Int -> Option (ByteArray)} (hrec : FnOK Tryz.prog tJ 52 (yba rec_).S) : FnOK Tryz.prog tJ 52 (yba (ya0 rec_)).S := by
 refine fm tt (yba (ya0 rec_)) [fo hrec] call52 func52 rfl results52 ntmps52 ?_
 rintro n y cx G (p : ya0 rec_ n = some y)
 unfold ya0 at p
 refine rg G (jac (rg G (cd p ?_ ?_))) <;> intro p
 ·obtain ⟨r, h, u, h1, p⟩ := ob2 p
  refine rs G (hC 2 (yjg h) (hP (jdw (jcm h1)) h0)) ?_
  cases p
  exact rt [] []
 ·refine jad (thN (jac (rg G (cd p ?_ ?_)))) <;> intro p
  ·obtain ⟨u1, h2, p⟩ := jae p
   refine rs G (hK h2 h0) ?_
   cases p
   exact rt [] []
  ·refine jad (thN ?_)
   obtain ⟨u7, h9, r2, h10, u8, h11, p⟩ := ob3 p
   obtain ⟨u9, h12, u10, h13, u11, h14, p⟩ := ob3 p
   refine ds G [] (hK h9 (hC 2 (yjg h10) (hK h11 (hK h12 (hK h13 (hP (jdw (jcm h14)) h0)))))) ?_
   cases p
   exact rt [] []
theorem ygx : ∀ k, FnOK Tryz.prog tJ 52 (yba (ybw k)).S
 | 0 => ⟨fun args w => call52 args w, fun vs w F ds obs κ hp => by obtain ⟨x, y, _, _, h⟩ := hp; cases h⟩
 | k + 1 => yll (ygx k)
theorem ydi : FnOK Tryz.prog tJ 52 yel.S := ygx 4294967296
def yek : MS (Line × Int) Int := ⟨.x .r .r, fun x => zq66 x.1 x.2, fun y => dV y, fun _ => [], fun _ _ => []⟩
theorem yfq : FnOK Tryz.prog tJ 96 yek.S := by
 refine fm tt yek [] call96 func96 rfl results96 ntmps96 ?_
 rintro ⟨x, stop⟩ y cx G (p : zq66 x stop = some y)
 unfold zq66 at p
 refine rg G (jac (rg G (tF p (fun _ => ⟨[], [], 32⟩) (fun v1 hr p => ?_) ?_)))
 ·refine jab (lp G p (fun v => ⟨[(1, dV stop), (2, .ref 16 0), (5, dV v)], [bX 16 78 [dV x.Name, dV x.Stops, dV x.Runs]], 48⟩) ?_)
  rintro v r0 hb p
  rw [yc8] at p
  refine jac (rs G (hN 3 x.Stops h0) ?_)
  refine cd p ?_ ?_ <;> intro p
  ·refine jad (thN (jac (jab ?_)))
   obtain ⟨e, h, p⟩ := jae p
   refine rs G (hD 3 h h0) ?_
   refine cd p ?_ ?_ <;> intro p
   ·refine rg G ?_
    have p := eL p hb hr
    cases p
    exact rt [] []
   ·exact jad (ibN (thN (rh G (wL G p))))
  ·exact jaf (thE (thE (ibE (wE G p hb))))
 rintro ⟨⟩ p s hw
 refine thN (jai hw ?_)
 refine rg G ?_
 cases p
 exact rt [] []
def yjq : MS (l1Cur × ByteArray × Int) (Line × l1Cur) := ⟨.x (.b 45) (.x .r .r), fun x => zq39 x.1 x.2.1 x.2.2, fun y => .aggv [dV y.1.Name, .own 0, .own 1], fun y => [arO 3 y.1.Stops, arO 3 y.1.Runs], fun _ y => [bxO 45 y.2]⟩
theorem yoe : FnOK Tryz.prog tJ 62 yjq.S := by
 refine fm tt yjq [fo yaj, fo yfq] call62 func62 rfl results62 ntmps62 ?_
 rintro ⟨c, name, stops⟩ y cx G (p : zq39 c name stops = some y)
 unfold zq39 at p
 refine rg G (rg G ?_)
 obtain ⟨r, h, p⟩ := jae p
 refine rs G (hC 2 (yaa h) h0) ?_
 refine jac ?_
 obtain ⟨r1, h1, p⟩ := jae p
 refine rs G (hC 1 (yaa h1) h0) ?_
 refine tl p (fun (v7, v8, v9, v10) => ⟨[(0, .ref 0 0), (2, dV stops), (6, .ref 32 0), (7, .ref 48 0)], [bX 0 45 [dV v7, dV v8, kV .u64 v9], bX 32 78 [dV ByteArray.empty, .dat (.sc (.slice none 0 0)), .dat (.sc (.slice none 0 0))], bX 48 78 [dV name, .own 64, .dat (.sc (.slice none 0 0))], aX 64 3 v10], 96⟩) (fun vv1 p => ?_) ?_
 ·refine jab (lpP p (fun (v, v1, v2, v3, v4, v5) => ⟨[(0, .ref 0 0), (2, dV stops), (6, .ref 32 0), (7, .ref 48 0), (8, dV v), (9, dV v1)], [bX 0 45 [dV v2, dV v3, kV .u64 v4], bX 32 78 [dV ByteArray.empty, .dat (.sc (.slice none 0 0)), .dat (.sc (.slice none 0 0))], bX 48 78 [dV name, .own 64, .dat (.sc (.slice none 0 0))], aX 64 3 v5], 96⟩) (Wk_J G.hL ⟨[(0, []), (2, []), (6, []), (7, []), (8, []), (9, [])], [(0, 0, []), (32, 16, []), (48, 64, [.k, .o 64])], [(64, 3, 1, [])], 96⟩ (by kernel_rfl)) ?_)
  rintro ⟨v, v1, v2, v3, v4, v5⟩ r0 hb p
  rw [ydl] at p
  refine jac (rg G (cd p ?_ ?_)) <;> intro p
  ·refine jad (thN (jac (jab (jn p (fun v6 => ⟨[(0, .ref 0 0), (2, dV stops), (6, .ref 32 0), (7, .ref 48 0), (8, dV v), (9, dV v1)], [bX 0 45 [dV v2, dV v3, kV .u64 v4], bX 32 78 [dV ByteArray.empty, .dat (.sc (.slice none 0 0)), .dat (.sc (.slice none 0 0))], bX 48 78 [dV name, .own 64, .dat (.sc (.slice none 0 0))], aX 64 3 v6], 96⟩) (fun v6 p => ?_) ?_))))
   ·obtain ⟨r2, h2, p⟩ := jae p
    refine rs G (hC 2 (yek.c (_, _) h2) h0) ?_
    refine cd p ?_ ?_ <;> intro p
    ·obtain ⟨u, h3, p⟩ := jae p
     refine re G (hA 4 8 h3 h0) ?_
     exact wJ G p
    ·exact jad (wJ G p)
   rintro v6 p
   obtain ⟨r3, h4, u1, h5, p⟩ := ob2 p
   refine re G (hC 3 (yaa h4) (hK h5 h0)) ?_
   exact ibN (thN (rh G (wL G p)))
  ·exact jaf (thE (thE (ibE (wD G p hb))))
 rintro ⟨v7, v8, v9, v10⟩ p s hw
 refine thN (jai hw ?_)
 refine jn p (fun v11 => ⟨[(0, .ref 0 0), (6, .ref 32 0), (7, .ref 48 0)], [bX 0 45 [dV v7, dV v8, kV .u64 v9], bX 32 78 [dV ByteArray.empty, .dat (.sc (.slice none 0 0)), .dat (.sc (.slice none 0 0))], bX 48 78 [dV name, .own 64, .dat (.sc (.slice none 0 0))], aX 64 3 v11], 96⟩) (fun v11 p => ?_) ?_
 ·refine rs G (hN 2 v10 h0) ?_
  refine cd p ?_ ?_ <;> intro p
  ·obtain ⟨e1, h9, u4, h10, u5, h11, p⟩ := ob3 p
   refine de G [(10, [64, 304]), (12, [48, 320])] (hD 4 h9 (hE 5 h9 (hK h10 (hA 10 8 h11 h0)))) ?_
   exact wJ G p
  ·exact jad (wJ G p)
 rintro v11 p
 refine jac (rg G (tl p (fun (v17, v18, v19, v20) => ⟨[(0, .ref 0 0), (6, .ref 32 0), (7, .ref 48 0)], [bX 0 45 [dV v17, dV v18, kV .u64 v19], bX 32 78 [dV ByteArray.empty, .dat (.sc (.slice none 0 0)), .dat (.sc (.slice none 0 0))], bX 48 78 [dV name, .own 64, .own 80], aX 64 3 v11, aX 80 3 v20], 112⟩) (fun vv p => ?_) ?_))
 ·refine jab (lpP p (fun (v12, v13, v14, v15, v16) => ⟨[(0, .ref 0 0), (6, .ref 32 0), (7, .ref 48 0), (10, dV v12)], [bX 0 45 [dV v13, dV v14, kV .u64 v15], bX 32 78 [dV ByteArray.empty, .dat (.sc (.slice none 0 0)), .dat (.sc (.slice none 0 0))], bX 48 78 [dV name, .own 64, .own 80], aX 64 3 v11, aX 80 3 v16], 112⟩) (Wk_J G.hL ⟨[(0, []), (6, []), (7, []), (10, [])], [(0, 0, []), (32, 32, []), (48, 48, [.k, .k, .o 80]), (64, 64, [])], [(80, 3, 1, [])], 112⟩ (by kernel_rfl)) ?_)
  rintro ⟨v12, v13, v14, v15, v16⟩ r0 hb1 p
  rw [ydk] at p
  refine jac (rs G (hN 3 v11 h0) ?_)
  refine cd p ?_ ?_ <;> intro p
  ·refine jad (thN (jac (jab ?_)))
   obtain ⟨r5, h14, u7, h15, p⟩ := ob2 p
   refine de G [(3, [0]), (6, [80, 272]), (8, [48, 288])] (hC 3 (yaa h14) (hA 6 8 h15 h0)) ?_
   exact ibN (thN (rh G (wL G p)))
  ·exact jaf (thE (thE (ibE (wD G p hb1))))
 rintro ⟨v17, v18, v19, v20⟩ p s1 hw1
 refine thN (jai hw1 ?_)
 refine rg G ?_
 cases p
 exact rt [64, 80] []
def yg5 : MS (l1Cur × ByteArray × Int) (Line × l1Cur) := ⟨.x (.b 45) (.x .r .r), fun x => zq40 x.1 x.2.1 x.2.2, fun y => dV y.1, fun _ => [], fun _ y => [bxO 45 y.2]⟩
theorem yjn : FnOK Tryz.prog tJ 62 yg5.S := by
 refine fm tt yg5 [fo yaj, fo yfq] call62 func62 rfl results62 ntmps62 ?_
 rintro ⟨c, name, stops⟩ y cx G (p : zq40 c name stops = some y)
 unfold zq40 at p
 refine rg G (rg G ?_)
 obtain ⟨r, h, p⟩ := jae p
 refine rs G (hC 2 (yaa h) h0) ?_
 refine jac ?_
 obtain ⟨r1, h1, p⟩ := jae p
 refine rs G (hC 1 (yaa h1) h0) ?_
 refine tl p (fun (v7, v8, v9, v10) => ⟨[(0, .ref 0 0), (2, dV stops), (6, .ref 32 0), (7, .ref 48 0)], [bX 0 45 [dV v7, dV v8, kV .u64 v9], bX 32 78 [dV ByteArray.empty, .dat (.sc (.slice none 0 0)), .dat (.sc (.slice none 0 0))], bX 48 78 [dV name, .own 64, .dat (.sc (.slice none 0 0))], aX 64 3 v10], 96⟩) (fun vv1 p => ?_) ?_
 ·refine jab (lpP p (fun (v, v1, v2, v3, v4, v5) => ⟨[(0, .ref 0 0), (2, dV stops), (6, .ref 32 0), (7, .ref 48 0), (8, dV v), (9, dV v1)], [bX 0 45 [dV v2, dV v3, kV .u64 v4], bX 32 78 [dV ByteArray.empty, .dat (.sc (.slice none 0 0)), .dat (.sc (.slice none 0 0))], bX 48 78 [dV name, .own 64, .dat (.sc (.slice none 0 0))], aX 64 3 v5], 96⟩) (Wk_J G.hL ⟨[(0, []), (2, []), (6, []), (7, []), (8, []), (9, [])], [(0, 0, []), (32, 16, []), (48, 64, [.k, .o 64])], [(64, 3, 1, [])], 96⟩ (by kernel_rfl)) ?_)
  rintro ⟨v, v1, v2, v3, v4, v5⟩ r0 hb p
  rw [yjp] at p
  refine jac (rg G (cd p ?_ ?_)) <;> intro p
  ·refine jad (thN (jac (jab (jn p (fun v6 => ⟨[(0, .ref 0 0), (2, dV stops), (6, .ref 32 0), (7, .ref 48 0), (8, dV v), (9, dV v1)], [bX 0 45 [dV v2, dV v3, kV .u64 v4], bX 32 78 [dV ByteArray.empty, .dat (.sc (.slice none 0 0)), .dat (.sc (.slice none 0 0))], bX 48 78 [dV name, .own 64, .dat (.sc (.slice none 0 0))], aX 64 3 v6], 96⟩) (fun v6 p => ?_) ?_))))
   ·obtain ⟨r2, h2, p⟩ := jae p
    refine rs G (hC 2 (yek.c (_, _) h2) h0) ?_
    refine cd p ?_ ?_ <;> intro p
    ·obtain ⟨u, h3, p⟩ := jae p
     refine re G (hA 4 8 h3 h0) ?_
     exact wJ G p
    ·exact jad (wJ G p)
   rintro v6 p
   obtain ⟨r3, h4, u1, h5, p⟩ := ob2 p
   refine re G (hC 3 (yaa h4) (hK h5 h0)) ?_
   exact ibN (thN (rh G (wL G p)))
  ·exact jaf (thE (thE (ibE (wD G p hb))))
 rintro ⟨v7, v8, v9, v10⟩ p s hw
 refine thN (jai hw ?_)
 refine jn p (fun v11 => ⟨[(0, .ref 0 0), (6, .ref 32 0), (7, .ref 48 0)], [bX 0 45 [dV v7, dV v8, kV .u64 v9], bX 32 78 [dV ByteArray.empty, .dat (.sc (.slice none 0 0)), .dat (.sc (.slice none 0 0))], bX 48 78 [dV name, .own 64, .dat (.sc (.slice none 0 0))], aX 64 3 v11], 96⟩) (fun v11 p => ?_) ?_
 ·refine rs G (hN 2 v10 h0) ?_
  refine cd p ?_ ?_ <;> intro p
  ·obtain ⟨e1, h9, u4, h10, u5, h11, p⟩ := ob3 p
   refine de G [(10, [64, 304]), (12, [48, 320])] (hD 4 h9 (hE 5 h9 (hK h10 (hA 10 8 h11 h0)))) ?_
   exact wJ G p
  ·exact jad (wJ G p)
 rintro v11 p
 refine jac (rg G (tl p (fun (v17, v18, v19, v20) => ⟨[(0, .ref 0 0), (6, .ref 32 0), (7, .ref 48 0)], [bX 0 45 [dV v17, dV v18, kV .u64 v19], bX 32 78 [dV ByteArray.empty, .dat (.sc (.slice none 0 0)), .dat (.sc (.slice none 0 0))], bX 48 78 [dV name, .own 64, .own 80], aX 64 3 v11, aX 80 3 v20], 112⟩) (fun vv p => ?_) ?_))
 ·refine jab (lpP p (fun (v12, v13, v14, v15, v16) => ⟨[(0, .ref 0 0), (6, .ref 32 0), (7, .ref 48 0), (10, dV v12)], [bX 0 45 [dV v13, dV v14, kV .u64 v15], bX 32 78 [dV ByteArray.empty, .dat (.sc (.slice none 0 0)), .dat (.sc (.slice none 0 0))], bX 48 78 [dV name, .own 64, .own 80], aX 64 3 v11, aX 80 3 v16], 112⟩) (Wk_J G.hL ⟨[(0, []), (6, []), (7, []), (10, [])], [(0, 0, []), (32, 32, []), (48, 48, [.k, .k, .o 80]), (64, 64, [])], [(80, 3, 1, [])], 112⟩ (by kernel_rfl)) ?_)
  rintro ⟨v12, v13, v14, v15, v16⟩ r0 hb1 p
  rw [yjo] at p
  refine jac (rs G (hN 3 v11 h0) ?_)
  refine cd p ?_ ?_ <;> intro p
  ·refine jad (thN (jac (jab ?_)))
   obtain ⟨r5, h14, u7, h15, p⟩ := ob2 p
   refine de G [(3, [0]), (6, [80, 272]), (8, [48, 288])] (hC 3 (yaa h14) (hA 6 8 h15 h0)) ?_
   exact ibN (thN (rh G (wL G p)))
  ·exact jaf (thE (thE (ibE (wD G p hb1))))
 rintro ⟨v17, v18, v19, v20⟩ p s1 hw1
 refine thN (jai hw1 ?_)
 refine rg G ?_
 cases p
 exact rt [] []
def ycu : MS ((List Int)) ((List Int)) := ⟨.r, zq58, fun y => dV y, fun _ => [], fun _ _ => []⟩
theorem yjd : FnOK Tryz.prog tJ 63 ycu.S := by
 refine fm tt ycu [] call63 func63 rfl results63 ntmps63 ?_
 rintro list y cx G (p : zq58 list = some y)
 unfold zq58 at p
 refine rg G (rg G (jac (rs G (hN 1 list h0) ?_)))
 refine tl p (fun i1 => ⟨[(3, .own 16)], [aX 16 3 i1], 48⟩) (fun i1 p => ?_) ?_
 ·refine jab (lp G p (fun (v, i) => ⟨[(0, dV list), (3, .own 16), (4, dV v)], [aX 16 3 i], 48⟩) ?_)
  rintro ⟨v, i⟩ r0 hb p
  rw [yje] at p
  refine jac (rg G (cd p ?_ ?_)) <;> intro p
  ·refine jad (thN (jac (jab ?_)))
   obtain ⟨e, h, u, h1, p⟩ := ob2 p
   refine re G (hD 3 h (hA 6 8 h1 h0)) ?_
   exact ibN (thN (rh G (wL G p)))
  ·exact jaf (thE (thE (ibE (wD G p hb))))
 rintro i1 p s hw
 refine thN (jai hw ?_)
 refine rg G ?_
 cases p
 exact rt [] []
def ygw : MS ((List Int)) ((List Int)) := ⟨.r, zq54, fun _ => .own 0, fun y => [arO 3 y], fun _ _ => []⟩
theorem yn5 : FnOK Tryz.prog tJ 97 ygw.S := by
 refine fm tt ygw [] call97 func97 rfl results97 ntmps97 ?_
 rintro l y cx G (p : zq54 l = some y)
 unfold zq54 at p
 refine rg G ?_
 obtain ⟨u, h, p⟩ := jae p
 refine rs G (hA 2 8 h h0) ?_
 cases p
 exact rt [64] []
def ygv : MS ((List Int)) ((List Int)) := ⟨.r, zq55, fun y => dV y, fun _ => [], fun _ _ => []⟩
theorem yn4 : FnOK Tryz.prog tJ 97 ygv.S := by
 refine fm tt ygv [] call97 func97 rfl results97 ntmps97 ?_
 rintro l y cx G (p : zq55 l = some y)
 unfold zq55 at p
 refine rg G ?_
 obtain ⟨u, h, p⟩ := jae p
 refine rs G (hA 2 8 h h0) ?_
 cases p
 exact rt [] []
def ygs : MS Network Network := ⟨.r, zq64, fun _ => .aggv [.own 0, .own 1], fun y => [arO 9 y.Stops, arO 78 y.Lines], fun _ _ => []⟩
theorem yi9 : FnOK Tryz.prog tJ 64 ygs.S := by
 refine fm tt ygs [fo yn4] call64 func64 rfl results64 ntmps64 ?_
 rintro n y cx G (p : zq64 n = some y)
 unfold zq64 at p
 refine rg G ?_
 obtain ⟨u, h, p⟩ := jae p
 refine rs G (hA 3 16 h h0) ?_
 refine jac (rg G (tl p (fun v2 => ⟨[(2, .ref 16 0), (3, .ref 32 0)], [bX 16 27 [.dat (.sc (.slice none 0 0)), .dat (.sc (.slice none 0 0))], bX 32 27 [.own 48, .own 64], aX 48 9 (([] : List ByteArray) ++ n.Stops), aX 64 78 v2], 96⟩) (fun v2 p => ?_) ?_))
 ·refine jab (lpP p (fun (v, v1) => ⟨[(1, .ref 16 0), (2, .ref 32 0), (3, .ref 48 0), (4, dV v)], [bX 16 27 [dV n.Stops, dV n.Lines], bX 32 27 [.dat (.sc (.slice none 0 0)), .dat (.sc (.slice none 0 0))], bX 48 27 [.own 64, .own 80], aX 64 9 (([] : List ByteArray) ++ n.Stops), aX 80 78 v1], 112⟩) (Wk_J G.hL ⟨[(1, []), (2, []), (3, []), (4, [])], [(16, 16, []), (32, 32, []), (48, 128, [.k, .o 80]), (64, 96, [])], [(80, 78, 3, [])], 112⟩ (by kernel_rfl)) ?_)
  rintro ⟨v, v1⟩ r0 hb p
  rw [yc9] at p
  refine jac (rs G (hN 3 n.Lines h0) ?_)
  refine cd p ?_ ?_ <;> intro p
  ·refine jad (thN (jac (jab ?_)))
   obtain ⟨e3, h7, e4, h8, r2, h9, p⟩ := ob3 p
   obtain ⟨e5, h10, r3, h11, u2, h12, p⟩ := ob3 p
   refine de G [(23, []), (24, [80, 560]), (26, [48, 576])] (hD 5 h7 (hD 11 h8 (hC 14 (ygv.c _ h9) (hD 18 h10 (hC 21 (ygv.c _ h11) (hA 24 64 h12 h0)))))) ?_
   exact ibN (thN (rh G (wL G p)))
  ·exact jaf (thE (thE (ibE (wD G p hb))))
 rintro v2 p s hw
 refine thN (jai hw ?_)
 refine rg G ?_
 cases p
 exact rt [48, 64] []
def yg4 : MS l1Cur (Network × l1Cur) := ⟨.b 45, zq41, fun _ => .aggv [.own 0, .own 1], fun y => [arO 9 y.1.Stops, arO 78 y.1.Lines], fun _ y => [bxO 45 y.2]⟩
theorem yjl : FnOK Tryz.prog tJ 28 yg4.S := by
 refine fm tt yg4 [fo yaj, fo ydi, fo yjn, fo ybs, fo yjd, fo yi9] call28 func28 rfl results28 ntmps28 ?_
 rintro c y cx G (p : zq41 c = some y)
 unfold zq41 at p
 refine rg G ?_
 obtain ⟨r, h, p⟩ := jae p
 refine rs G (hC 1 (yaa h) h0) ?_
 obtain ⟨u, h1, p⟩ := jae p
 refine rs G (hO 2 (.fz [96] [] []) (hU 2 h1 h0)) ?_
 refine jac ?_
 obtain ⟨r1, h2, p⟩ := jae p
 refine rs G (hC 1 (yaa h2) h0) ?_
 refine tl p (fun (v4, v5, v6, v7) => ⟨[(0, .ref 0 0), (2, .ref 32 0), (4, .ref 48 0)], [bX 0 45 [dV v4, dV v5, kV .u64 v6], bX 32 27 [.dat (.sc (.slice none 0 0)), .dat (.sc (.slice none 0 0))], bX 48 27 [dV ((([(str [112, 111, 114, 116]), (str [109, 105, 108, 108]), (str [112, 97, 114, 107]), (str [104, 97, 108, 108]), (str [100, 111, 99, 107]), (str [102, 97, 105, 114])] : List ByteArray).take (w64 (2 + r.1)).toNat).drop (0 : Int).toNat), .own 64], aX 64 78 v7], 96⟩) (fun vv1 p => ?_) ?_
 ·refine jab (lpP p (fun (x, v, v1, v2, v3) => ⟨[(0, .ref 0 0), (2, .ref 32 0), (3, dV (w64 (2 + r.1))), (4, .ref 48 0), (5, dV x)], [bX 0 45 [dV v, dV v1, kV .u64 v2], bX 32 27 [.dat (.sc (.slice none 0 0)), .dat (.sc (.slice none 0 0))], bX 48 27 [dV ((([(str [112, 111, 114, 116]), (str [109, 105, 108, 108]), (str [112, 97, 114, 107]), (str [104, 97, 108, 108]), (str [100, 111, 99, 107]), (str [102, 97, 105, 114])] : List ByteArray).take (w64 (2 + r.1)).toNat).drop (0 : Int).toNat), .own 64], aX 64 78 v3], 96⟩) (Wk_J G.hL ⟨[(0, []), (2, []), (3, []), (4, []), (5, [])], [(0, 0, []), (32, 16, []), (48, 160, [.k, .o 64])], [(64, 78, 3, [])], 96⟩ (by kernel_rfl)) ?_)
  rintro ⟨x, v, v1, v2, v3⟩ r0 hb p
  rw [yjm] at p
  refine jac (rg G (cd p ?_ ?_)) <;> intro p
  ·refine jad (thN (jac (jab ?_)))
   obtain ⟨r4, h7, u3, h8, r5, h9, p⟩ := ob3 p
   obtain ⟨u4, h10, p⟩ := jae p
   refine de G [(7, [0]), (8, []), (9, [64, 256]), (11, [48, 272])] (hC 4 (yel.c _ h7) (hP (jdw (jcm h8)) (hC 7 (yg5.c (_, _, _) h9) (hA 9 64 h10 h0)))) ?_
   exact ibN (thN (rh G (wL G p)))
  ·exact jaf (thE (thE (ibE (wD G p hb))))
 rintro ⟨v4, v5, v6, v7⟩ p s hw
 refine thN (jai hw ?_)
 refine jn p (fun (v8, v9, v10, v11) => ⟨[(0, .ref 0 0), (2, .ref 32 0), (4, .ref 48 0)], [bX 0 45 [dV v8, dV v9, kV .u64 v10], bX 32 27 [.dat (.sc (.slice none 0 0)), .dat (.sc (.slice none 0 0))], bX 48 27 [dV ((([(str [112, 111, 114, 116]), (str [109, 105, 108, 108]), (str [112, 97, 114, 107]), (str [104, 97, 108, 108]), (str [100, 111, 99, 107]), (str [102, 97, 105, 114])] : List ByteArray).take (w64 (2 + r.1)).toNat).drop (0 : Int).toNat), .own 64], aX 64 78 v11], 96⟩) (fun vv p => ?_) ?_
 ·obtain ⟨r6, h11, p⟩ := jae p
  refine rs G (hC 1 (ybx h11) h0) ?_
  refine cd p ?_ ?_ <;> intro p
  ·obtain ⟨e, h12, p⟩ := jae p
   refine rs G (hD 2 h12 (hE 3 h12 h0)) ?_
   obtain ⟨r9, h16, r10, h17, u6, h18, p⟩ := ob3 p
   refine de G [(9, []), (10, [64, 368]), (12, [48, 384])] (hC 4 (ycu.c _ h16) (hC 7 (ycu.c _ h17) (hA 10 64 h18 h0))) ?_
   exact wJ G p
  ·exact jad (wJ G p)
 rintro ⟨v8, v9, v10, v11⟩ p
 obtain ⟨r11, h19, p⟩ := jae p
 refine rs G (hO 1 (.fz [64] [] []) (hC 1 (ygs.c _ h19) h0)) ?_
 cases p
 exact rt [112, 113] []
def yji : MS l1Cur (Timetable × l1Cur) := ⟨.b 45, zq49, fun _ => .aggv [.own 0, .own 1, .own 2], fun y => [arO 9 y.1.Network.Stops, arO 78 y.1.Network.Lines, arO 51 y.1.Trips], fun _ y => [bxO 45 y.2]⟩
theorem yn8 : FnOK Tryz.prog tJ 60 yji.S := by
 refine fm tt yji [fo yjl, fo yaj] call60 func60 rfl results60 ntmps60 ?_
 rintro c y cx G (p : zq49 c = some y)
 unfold zq49 at p
 refine rg G ?_
 obtain ⟨r, h, p⟩ := jae p
 refine rs G (hC 1 (yg4.c _ h) h0) ?_
 refine rg G (jac ?_)
 obtain ⟨r1, h1, p⟩ := jae p
 refine rs G (hC 1 (yaa h1) h0) ?_
 refine tl p (fun (v5, v6, v7, v8) => ⟨[(0, .ref 0 0), (2, .ref 32 0), (3, .ref 48 0)], [bX 0 45 [dV v5, dV v6, kV .u64 v7], bX 32 30 [.dat (.sc (.slice none 0 0)), .dat (.sc (.slice none 0 0)), .dat (.sc (.slice none 0 0))], bX 48 30 [.own 64, .own 80, .own 96], aX 64 9 r.1.Stops, aX 80 78 r.1.Lines, aX 96 51 v8], 128⟩) (fun vv p => ?_) ?_
 ·refine jab (lpP p (fun (n, v, v1, v2, v3, v4) => ⟨[(0, .ref 0 0), (2, .ref 32 0), (3, .ref 48 0), (4, dV n), (5, dV v)], [bX 0 45 [dV v1, dV v2, kV .u64 v3], bX 32 30 [.dat (.sc (.slice none 0 0)), .dat (.sc (.slice none 0 0)), .dat (.sc (.slice none 0 0))], bX 48 30 [.own 64, .own 80, .own 96], aX 64 9 r.1.Stops, aX 80 78 r.1.Lines, aX 96 51 v4], 128⟩) (Wk_J G.hL ⟨[(0, []), (2, []), (3, []), (4, []), (5, [])], [(0, 0, []), (32, 16, []), (48, 80, [.k, .k, .o 96]), (64, 48, []), (80, 49, [])], [(96, 51, 3, [])], 128⟩ (by kernel_rfl)) ?_)
  rintro ⟨n, v, v1, v2, v3, v4⟩ r0 hb p
  rw [yft] at p
  refine jac (rg G (cd p ?_ ?_)) <;> intro p
  ·refine jad (thN (jac (jab ?_)))
   obtain ⟨r2, h2, p⟩ := jae p
   refine rs G (hC 3 (yaa h2) h0) ?_
   obtain ⟨r5, h6, r6, h7, u1, h8, p⟩ := ob3 p
   refine de G [(8, [0]), (10, [0]), (15, [96, 480]), (17, [48, 496])] (hN 7 r.1.Lines (hC 8 (yaa h6) (hC 10 (yaa h7) (hA 15 24 h8 h0)))) ?_
   exact ibN (thN (rh G (wL G p)))
  ·exact jaf (thE (thE (ibE (wD G p hb))))
 rintro ⟨v5, v6, v7, v8⟩ p s hw
 refine thN (jai hw ?_)
 refine rg G ?_
 cases p
 exact rt [64, 80, 96] []
def yeo : MS (l1Cur × (List Int)) (Int × l1Cur) := ⟨.x (.b 45) .r, fun x => zq34 x.1 x.2, fun y => dV y.1, fun _ => [], fun _ y => [bxO 45 y.2]⟩
theorem yjv : FnOK Tryz.prog tJ 38 yeo.S := by
 refine fm tt yeo [fo yaj] call38 func38 rfl results38 ntmps38 ?_
 rintro ⟨c, list⟩ y cx G (p : zq34 c list = some y)
 unfold zq34 at p
 refine rg G ?_
 obtain ⟨r, h, e, h1, p⟩ := ob2 p
 refine rs G (hN 3 list (hC 4 (yaa h) (hD 5 h1 h0))) ?_
 cases p
 exact rt [] []
def yg2 : MS (l1Cur × (List ByteArray)) (ByteArray × l1Cur) := ⟨.x (.b 45) (.s 9), fun x => zq45 x.1 x.2, fun y => dV y.1, fun _ => [], fun x y => [bxO 45 y.2, arO 9 x.2]⟩
theorem yoa : FnOK Tryz.prog tJ 95 yg2.S := by
 refine fm tt yg2 [fo yaj] call95 func95 rfl results95 ntmps95 ?_
 rintro ⟨c, list⟩ y cx G (p : zq45 c list = some y)
 unfold zq45 at p
 refine rg G ?_
 obtain ⟨r, h, e, h1, p⟩ := ob2 p
 refine rs G (hN 3 list (hC 4 (yaa h) (hD 5 h1 (hE 6 h1 h0)))) ?_
 cases p
 exact rt [] []
def yi7 : MS Network Network := ⟨.r, zq65, fun _ => .aggv [.own 0, .own 1], fun y => [arO 9 y.Stops, taO 78 [none, some 3, some 3] y.Lines], fun _ _ => []⟩
theorem yny : FnOK Tryz.prog tJ 64 yi7.S := by
 refine fm tt yi7 [fo yn5] call64 func64 rfl results64 ntmps64 ?_
 rintro n y cx G (p : zq65 n = some y)
 unfold zq65 at p
 refine rg G ?_
 obtain ⟨u, h, p⟩ := jae p
 refine rs G (hA 3 16 h h0) ?_
 refine jac (rg G (tl p (fun v2 => ⟨[(2, .ref 16 0), (3, .ref 32 0)], [bX 16 27 [.dat (.sc (.slice none 0 0)), .dat (.sc (.slice none 0 0))], bX 32 27 [.own 48, .own 64], aX 48 9 (([] : List ByteArray) ++ n.Stops), tX 64 78 [none, some 3, some 3] v2 64 none], 96⟩) (fun v2 p => ?_) ?_))
 ·refine jab (lpP p (fun (v, v1) => ⟨[(1, .ref 16 0), (2, .ref 32 0), (3, .ref 48 0), (4, dV v)], [bX 16 27 [dV n.Stops, dV n.Lines], bX 32 27 [.dat (.sc (.slice none 0 0)), .dat (.sc (.slice none 0 0))], bX 48 27 [.own 64, .own 80], aX 64 9 (([] : List ByteArray) ++ n.Stops), tX 80 78 [none, some 3, some 3] v1 80 none], 112⟩) (Wk_J G.hL ⟨[(1, []), (2, []), (3, []), (4, [])], [(16, 16, []), (32, 32, []), (48, 128, [.k, .o 80]), (64, 96, [])], [(80, 78, 3, [none, some 3, some 3])], 112⟩ (by kernel_rfl)) ?_)
  rintro ⟨v, v1⟩ r0 hb p
  rw [yi8] at p
  refine jac (rs G (hN 3 n.Lines h0) ?_)
  refine cd p ?_ ?_ <;> intro p
  ·refine jad (thN (jac (jab ?_)))
   obtain ⟨e3, h7, e4, h8, r2, h9, p⟩ := ob3 p
   obtain ⟨e5, h10, r3, h11, u2, h12, p⟩ := ob3 p
   refine de G [(23, [416, 528]), (24, [80, 560]), (26, [48, 576])] (hD 5 h7 (hD 11 h8 (hC 14 (ygw.c _ h9) (hD 18 h10 (hC 21 (ygw.c _ h11) (hP (jb6 (l := [416, 528]) rfl) (hA 24 64 h12 h0))))))) ?_
   exact ibN (thN (rh G (wL G p)))
  ·exact jaf (thE (thE (ibE (wD G p hb))))
 rintro v2 p s hw
 refine thN (jai hw ?_)
 refine rg G ?_
 cases p
 exact rt [48, 64] []
def yjk : MS l1Cur (Network × l1Cur) := ⟨.b 45, zq42, fun _ => .aggv [.own 0, .own 1], fun y => [arO 9 y.1.Stops, taO 78 [none, some 3, some 3] y.1.Lines], fun _ y => [bxO 45 y.2]⟩
theorem yoc : FnOK Tryz.prog tJ 28 yjk.S := by
 refine fm tt yjk [fo yaj, fo ydi, fo yjn, fo ybs, fo yjd, fo yny] call28 func28 rfl results28 ntmps28 ?_
 rintro c y cx G (p : zq42 c = some y)
 unfold zq42 at p
 refine rg G ?_
 obtain ⟨r, h, p⟩ := jae p
 refine rs G (hC 1 (yaa h) h0) ?_
 obtain ⟨u, h1, p⟩ := jae p
 refine rs G (hO 2 (.fz [96] [] []) (hU 2 h1 h0)) ?_
 refine jac ?_
 obtain ⟨r1, h2, p⟩ := jae p
 refine rs G (hC 1 (yaa h2) h0) ?_
 refine tl p (fun (v4, v5, v6, v7) => ⟨[(0, .ref 0 0), (2, .ref 32 0), (4, .ref 48 0)], [bX 0 45 [dV v4, dV v5, kV .u64 v6], bX 32 27 [.dat (.sc (.slice none 0 0)), .dat (.sc (.slice none 0 0))], bX 48 27 [dV ((([(str [112, 111, 114, 116]), (str [109, 105, 108, 108]), (str [112, 97, 114, 107]), (str [104, 97, 108, 108]), (str [100, 111, 99, 107]), (str [102, 97, 105, 114])] : List ByteArray).take (w64 (2 + r.1)).toNat).drop (0 : Int).toNat), .own 64], aX 64 78 v7], 96⟩) (fun vv1 p => ?_) ?_
 ·refine jab (lpP p (fun (x, v, v1, v2, v3) => ⟨[(0, .ref 0 0), (2, .ref 32 0), (3, dV (w64 (2 + r.1))), (4, .ref 48 0), (5, dV x)], [bX 0 45 [dV v, dV v1, kV .u64 v2], bX 32 27 [.dat (.sc (.slice none 0 0)), .dat (.sc (.slice none 0 0))], bX 48 27 [dV ((([(str [112, 111, 114, 116]), (str [109, 105, 108, 108]), (str [112, 97, 114, 107]), (str [104, 97, 108, 108]), (str [100, 111, 99, 107]), (str [102, 97, 105, 114])] : List ByteArray).take (w64 (2 + r.1)).toNat).drop (0 : Int).toNat), .own 64], aX 64 78 v3], 96⟩) (Wk_J G.hL ⟨[(0, []), (2, []), (3, []), (4, []), (5, [])], [(0, 0, []), (32, 16, []), (48, 160, [.k, .o 64])], [(64, 78, 3, [])], 96⟩ (by kernel_rfl)) ?_)
  rintro ⟨x, v, v1, v2, v3⟩ r0 hb p
  rw [ydj] at p
  refine jac (rg G (cd p ?_ ?_)) <;> intro p
  ·refine jad (thN (jac (jab ?_)))
   obtain ⟨r4, h7, u3, h8, r5, h9, p⟩ := ob3 p
   obtain ⟨u4, h10, p⟩ := jae p
   refine de G [(7, [0]), (8, []), (9, [64, 256]), (11, [48, 272])] (hC 4 (yel.c _ h7) (hP (jdw (jcm h8)) (hC 7 (yg5.c (_, _, _) h9) (hA 9 64 h10 h0)))) ?_
   exact ibN (thN (rh G (wL G p)))
  ·exact jaf (thE (thE (ibE (wD G p hb))))
 rintro ⟨v4, v5, v6, v7⟩ p s hw
 refine thN (jai hw ?_)
 refine jn p (fun (v8, v9, v10, v11) => ⟨[(0, .ref 0 0), (2, .ref 32 0), (4, .ref 48 0)], [bX 0 45 [dV v8, dV v9, kV .u64 v10], bX 32 27 [.dat (.sc (.slice none 0 0)), .dat (.sc (.slice none 0 0))], bX 48 27 [dV ((([(str [112, 111, 114, 116]), (str [109, 105, 108, 108]), (str [112, 97, 114, 107]), (str [104, 97, 108, 108]), (str [100, 111, 99, 107]), (str [102, 97, 105, 114])] : List ByteArray).take (w64 (2 + r.1)).toNat).drop (0 : Int).toNat), .own 64], aX 64 78 v11], 96⟩) (fun vv p => ?_) ?_
 ·obtain ⟨r6, h11, p⟩ := jae p
  refine rs G (hC 1 (ybx h11) h0) ?_
  refine cd p ?_ ?_ <;> intro p
  ·obtain ⟨e, h12, p⟩ := jae p
   refine rs G (hD 2 h12 (hE 3 h12 h0)) ?_
   obtain ⟨r9, h16, r10, h17, u6, h18, p⟩ := ob3 p
   refine de G [(9, []), (10, [64, 368]), (12, [48, 384])] (hC 4 (ycu.c _ h16) (hC 7 (ycu.c _ h17) (hA 10 64 h18 h0))) ?_
   exact wJ G p
  ·exact jad (wJ G p)
 rintro ⟨v8, v9, v10, v11⟩ p
 obtain ⟨r11, h19, p⟩ := jae p
 refine rs G (hO 1 (.fz [64] [] []) (hC 1 (yi7.c _ h19) h0)) ?_
 cases p
 exact rt [112, 113] []
def yg7 : MS (l1Cur × (List Int)) (Int × l1Cur) := ⟨.x (.b 45) (.s 3), fun x => zq35 x.1 x.2, fun y => dV y.1, fun _ => [], fun x y => [bxO 45 y.2, arO 3 x.2]⟩
theorem yju : FnOK Tryz.prog tJ 38 yg7.S := by
 refine fm tt yg7 [fo yaj] call38 func38 rfl results38 ntmps38 ?_
 rintro ⟨c, list⟩ y cx G (p : zq35 c list = some y)
 unfold zq35 at p
 refine rg G ?_
 obtain ⟨r, h, e, h1, p⟩ := ob2 p
 refine rs G (hN 3 list (hC 4 (yaa h) (hD 5 h1 (hE 6 h1 h0)))) ?_
 cases p
 exact rt [] []
def yjt : MS l1Cur (Network × l1Cur) := ⟨.b 45, zq36, fun y => .aggv [.own 0, dV y.1.Lines], fun y => [arO 9 y.1.Stops], fun _ y => [bxO 45 y.2]⟩
theorem yoh : FnOK Tryz.prog tJ 61 yjt.S := by
 refine fm tt yjt [fo yoc, fo yaj, fo yoa, fo yju, fo ydi, fo yoe] call61 func61 rfl results61 ntmps61 ?_
 rintro c y cx G (p : zq36 c = some y)
 unfold zq36 at p
 refine rg G ?_
 obtain ⟨r, h, p⟩ := jae p
 refine rs G (hC 1 (yjk.c _ h) h0) ?_
 obtain ⟨r1, h1, p⟩ := jae p
 refine rs G (hN 3 r.1.Lines (hC 4 (yaa h1) h0)) ?_
 obtain ⟨e, h2, p⟩ := jae p
 refine rs G (hD 3 h2 (hE 4 h2 h0)) ?_
 refine jF p (fun (v, v1, v2, v3, v4, v5, v6) => ⟨[(0, .ref 0 0), (2, .ref 32 0), (3, .ref 48 0), (4, dV r1.1), (5, .ref 64 0)], [bX 0 45 [dV v, dV v1, kV .u64 v2], bX 32 27 [.dat (.sc (.slice none 0 0)), .dat (.sc (.slice none 0 0))], bX 48 27 [.own 80, .own 96], bX 64 78 [dV v3, .row 96 96 r1.1.toNat 1, .own 112], aX 80 9 v4, tX 96 78 [none, some 3, some 3] v5 96 (some (r1.1.toNat, 2)), aX 112 3 v6], 144⟩) (fun v17 hr p => ?_) ?_
 ·obtain ⟨r2, h3, p⟩ := jae p
  refine rs G (hC 1 (yaa h3) h0) ?_
  refine jab (rg G (cd p ?_ ?_)) <;> intro p
  ·obtain ⟨r4, h6, e2, h7, p⟩ := ob2 p
   refine de G [(4, [0, 416]), (6, [48])] (hC 4 (yg2.c (_, _) h6) (hD 5 h7 (hS 6 h7 r4.1 h0))) ?_
   exact ibN (wFp p (Wk.trans (Wk_S (.c 272 2) (Enc.e e) (.cons (jdf (f := Enc.e) (l := r.1.Lines) (i := r1.1) h2) .nil) (by kernel_rfl)) (Wk_J G.hL ⟨[(0, []), (2, []), (3, []), (4, []), (5, [])], [(0, 0, []), (32, 16, []), (48, 64, []), (64, 272, []), (80, 48, []), (96, 49, []), (112, 480, [])], [], 144⟩ (by kernel_rfl))))
  ·refine rg G (cd p ?_ ?_) <;> intro p
   ·obtain ⟨r5, h8, p⟩ := jae p
    refine re G (hC 2 (yg2.c (_, _) h8) h0) ?_
    exact ibN (wFp p (Wk.trans (Wk_S (.c 272 2) (Enc.e e) (.cons (jdf (f := Enc.e) (l := r.1.Lines) (i := r1.1) h2) .nil) (by kernel_rfl)) (Wk_J G.hL ⟨[(0, []), (2, []), (3, []), (4, []), (5, [])], [(0, 0, []), (32, 16, []), (48, 64, []), (64, 272, []), (80, 48, []), (96, 49, []), (112, 480, [])], [], 144⟩ (by kernel_rfl))))
   ·refine rg G (cd p ?_ ?_) <;> intro p
    ·obtain ⟨r8, h12, r9, h13, e4, h14, p⟩ := ob3 p
     refine de G [(6, [0]), (8, [0]), (11, [49])] (hO 5 (.dn (Enc.e e) (e.Stops.length : Int)) (hP (jdf (f := Enc.e) h2) (hP (js7 Enc.e e.Stops) (hC 6 (yaa h12) (hC 8 (yaa h13) (hE 10 h2 (hP (jud (f := Enc.e) h14) (hO 11 (.sd2 (Enc.e e) (Enc.e e4) (List.map Enc.e (e.Stops.set r8.1.toNat (w64 (r9.1 - 1)))) (List.map Enc.e (r.1.Lines.set r1.1.toNat (⟨e.Name, (e.Stops.set r8.1.toNat (w64 (r9.1 - 1))), e.Runs⟩ : Line)))) (hP (jdf (f := Enc.e) h2) (hP (jdf (f := Enc.e) h14) (hP (jo5 Enc.e e.Stops r8.1.toNat (w64 (r9.1 - 1))) (hP (jo5 Enc.e r.1.Lines r1.1.toNat (⟨e.Name, (e.Stops.set r8.1.toNat (w64 (r9.1 - 1))), e.Runs⟩ : Line)) h0)))))))))))) ?_
     exact ibN (wFp p (Wk.trans (Wk_S (.c 272 2) (Enc.e (⟨e.Name, (e.Stops.set r8.1.toNat (w64 (r9.1 - 1))), e.Runs⟩ : Line)) (.cons (jdf (f := Enc.e) (l := (r.1.Lines.set r1.1.toNat (⟨e.Name, (e.Stops.set r8.1.toNat (w64 (r9.1 - 1))), e.Runs⟩ : Line))) (i := r1.1) (jp7 (y := (⟨e.Name, (e.Stops.set r8.1.toNat (w64 (r9.1 - 1))), e.Runs⟩ : Line)) h2)) .nil) (by kernel_rfl)) (Wk_J G.hL ⟨[(0, []), (2, []), (3, []), (4, []), (5, [])], [(0, 0, []), (32, 16, []), (48, 64, []), (64, 272, []), (80, 48, []), (96, 49, []), (112, 624, [])], [], 144⟩ (by kernel_rfl))))
    ·refine rg G (cd p ?_ ?_) <;> intro p
     ·obtain ⟨r12, h18, r13, h19, e6, h20, p⟩ := ob3 p
      refine de G [(6, [0]), (9, [0, 592]), (11, [49])] (hO 5 (.dn (Enc.e e) (e.Runs.length : Int)) (hP (jdf (f := Enc.e) h2) (hP (js7 Enc.e e.Runs) (hC 6 (yaa h18) (hC 9 (yg7.c (_, _) h19) (hE 10 h2 (hP (jud (f := Enc.e) h20) (hO 11 (.sd2 (Enc.e e) (Enc.e e6) (List.map Enc.e (e.Runs.set r12.1.toNat r13.1)) (List.map Enc.e (r.1.Lines.set r1.1.toNat (⟨e.Name, e.Stops, (e.Runs.set r12.1.toNat r13.1)⟩ : Line)))) (hP (jdf (f := Enc.e) h2) (hP (jdf (f := Enc.e) h20) (hP (jo5 Enc.e e.Runs r12.1.toNat r13.1) (hP (jo5 Enc.e r.1.Lines r1.1.toNat (⟨e.Name, e.Stops, (e.Runs.set r12.1.toNat r13.1)⟩ : Line)) h0)))))))))))) ?_
      exact ibN (wFp p (Wk.trans (Wk_S (.c 272 2) (Enc.e (⟨e.Name, e.Stops, (e.Runs.set r12.1.toNat r13.1)⟩ : Line)) (.cons (jdf (f := Enc.e) (l := (r.1.Lines.set r1.1.toNat (⟨e.Name, e.Stops, (e.Runs.set r12.1.toNat r13.1)⟩ : Line))) (i := r1.1) (jp7 (y := (⟨e.Name, e.Stops, (e.Runs.set r12.1.toNat r13.1)⟩ : Line)) h2)) .nil) (by kernel_rfl)) (Wk_J G.hL ⟨[(0, []), (2, []), (3, []), (4, []), (5, [])], [(0, 0, []), (32, 16, []), (48, 64, []), (64, 272, []), (80, 48, []), (96, 49, []), (112, 656, [])], [], 144⟩ (by kernel_rfl))))
     ·refine rg G (cd p ?_ ?_) <;> intro p
      ·obtain ⟨u, h21, p⟩ := jae p
       refine re G (hO 3 (.sd (Enc.e e) (List.map Enc.e (e.Runs ++ ([3] : List Int)))) (hP (jdf (f := Enc.e) h2) (hP (jul (f := Enc.e) (g := Enc.e) (l := e.Runs) (r := ([3] : List Int)) (b := 8) (jcm h21) rfl) (hP (jum Enc.e e.Runs ([3] : List Int)) h0)))) ?_
       exact ibN (wF G p)
      ·refine rg G (cd p ?_ ?_) <;> intro p
       ·refine rg G (rg G ?_)
        have p := eR p hr
        cases p
        exact rt [48] []
       ·refine rg G (cd p ?_ ?_) <;> intro p
        ·refine jac (rg G (tl p (fun (v13, v14, v15, v16) => ⟨[(0, .ref 0 0), (2, .ref 32 0), (3, .ref 48 0)], [bX 0 45 [dV v13, dV v14, kV .u64 v15], bX 32 27 [.dat (.sc (.slice none 0 0)), .dat (.sc (.slice none 0 0))], bX 48 27 [.own 64, .own 80], aX 64 9 r.1.Stops, tX 80 78 [none, some 3, some 3] v16 80 none], 112⟩) (fun vv p => ?_) ?_))
         ·refine jab (lp G p (fun (v7, v8, v9, v10, v11) => ⟨[(0, .ref 0 0), (2, .ref 32 0), (3, .ref 48 0), (6, dV v7)], [bX 0 45 [dV v8, dV v9, kV .u64 v10], bX 32 27 [.dat (.sc (.slice none 0 0)), .dat (.sc (.slice none 0 0))], bX 48 27 [.own 64, .own 80], aX 64 9 r.1.Stops, tX 80 78 [none, some 3, some 3] v11 80 none], 112⟩) ?_)
          rintro ⟨v7, v8, v9, v10, v11⟩ r0 hb p
          rw [ydm] at p
          refine jac ?_
          obtain ⟨r16, h23, p⟩ := jae p
          refine jn p (fun v12 => ⟨[(0, .ref 0 0), (2, .ref 32 0), (3, .ref 48 0), (6, dV v7), (85, dV v12)], [bX 0 45 [dV r16.2.code_, dV r16.2.at_, kV .u64 r16.2.seed_.v], bX 32 27 [.dat (.sc (.slice none 0 0)), .dat (.sc (.slice none 0 0))], bX 48 27 [.own 64, .own 80], aX 64 9 r.1.Stops, tX 80 78 [none, some 3, some 3] v11 80 none], 112⟩) (fun v12 p => ?_) ?_
          ·rcases bf p with ⟨hb1, p⟩ | ⟨hb1, p⟩
           ·refine de G [(4, [0])] (hN 2 v11 (hC 4 (yaa h23) (hO 7 (.b true) (hP hb1 h0)))) ?_
            exact wJ G p
           ·refine de G [(4, [0])] (hN 2 v11 (hC 4 (yaa h23) (hO 7 (.b false) (hP hb1 h0)))) ?_
            exact wJ G p
          rintro v12 p
          refine cd p ?_ ?_ <;> intro p
          ·refine jad (thN (jac (jab ?_)))
           obtain ⟨r19, h28, u3, h29, r20, h30, p⟩ := ob3 p
           obtain ⟨u4, h31, p⟩ := jae p
           refine de G [(9, [0]), (10, [256, 257]), (11, [80, 272]), (13, [48, 288])] (hC 4 (yel.c _ h28) (hP (jdw (jcm h29)) (hN 8 r.1.Stops (hC 9 (yjq.c (_, _, _) h30) (hP (jb6 (l := [256, 257]) rfl) (hA 11 64 h31 h0)))))) ?_
           exact ibN (thN (rh G (wL G p)))
          ·exact jaf (thE (thE (ibE (wD G p hb))))
         rintro ⟨v13, v14, v15, v16⟩ p s hw
         refine thN (jai hw ?_)
         refine rg G ?_
         have p := eR p hr
         cases p
         exact rt [64] []
        ·exact jad (ibN (wFp p (Wk.trans (Wk_S (.c 272 2) (Enc.e e) (.cons (jdf (f := Enc.e) (l := r.1.Lines) (i := r1.1) h2) .nil) (by kernel_rfl)) (Wk_J G.hL ⟨[(0, []), (2, []), (3, []), (4, []), (5, [])], [(0, 0, []), (32, 16, []), (48, 64, []), (64, 272, []), (80, 48, []), (96, 49, []), (112, 560, [])], [], 144⟩ (by kernel_rfl)))))
 rintro ⟨v, v1, v2, v3, v4, v5, v6⟩ p
 obtain ⟨e9, h32, p⟩ := jae p
 refine rs G (hD 4 h32 (hS 5 h32 (⟨v3, e9.Stops, v6⟩ : Line) (hP (Eq.refl r1.1.toNat) (hP (Eq.refl r1.1.toNat) h0)))) ?_
 refine rg G ?_
 cases p
 exact rt [80] []
def yjs : MS l1Cur (Timetable × l1Cur) := ⟨.b 45, zq37, fun y => .aggv [.own 0, dV y.1.Network.Lines, .own 1], fun y => [arO 9 y.1.Network.Stops, arO 51 y.1.Trips], fun _ y => [bxO 45 y.2]⟩
theorem yog : FnOK Tryz.prog tJ 27 yjs.S := by
 refine fm tt yjs [fo yn8, fo yaj, fo yjv, fo yoh] call27 func27 rfl results27 ntmps27 ?_
 rintro c y cx G (p : zq37 c = some y)
 unfold zq37 at p
 refine rg G ?_
 obtain ⟨r, h, p⟩ := jae p
 refine rs G (hC 1 (yji.c _ h) h0) ?_
 refine jac (rs G (hN 2 r.1.Trips h0) ?_)
 refine cd p ?_ ?_ <;> intro p
 ·refine rg G ?_
  cases p
  exact rt [48, 50] []
 ·refine jad (thN ?_)
  obtain ⟨r1, h1, p⟩ := jae p
  refine rs G (hN 3 r.1.Trips (hC 4 (yaa h1) h0)) ?_
  obtain ⟨e, h2, p⟩ := jae p
  refine rs G (hD 3 h2 (hE 4 h2 h0)) ?_
  refine jF p (fun (v, v1, v2, v3, v4, v5, v6, v7) => ⟨[(0, .ref 0 0), (2, .ref 32 0), (3, .ref 48 0), (4, dV r1.1), (5, .ref 64 0)], [bX 0 45 [dV v, dV v1, kV .u64 v2], bX 32 30 [.dat (.sc (.slice none 0 0)), .dat (.sc (.slice none 0 0)), .dat (.sc (.slice none 0 0))], bX 48 30 [.own 80, dV v3, .own 96], bX 64 51 [dV v4, dV v5, dV v6], aX 80 9 v7, aX 96 51 r.1.Trips], 128⟩) (fun v18 hr p => ?_) ?_
  ·obtain ⟨r2, h3, p⟩ := jae p
   refine rs G (hC 1 (yaa h3) h0) ?_
   refine jab (rg G (cd p ?_ ?_)) <;> intro p
   ·obtain ⟨r3, h4, p⟩ := jae p
    refine re G (hO 2 (.fz [448] [] []) (hC 2 (yeo.c (_, _) h4) h0)) ?_
    exact ibN (wF G p)
   ·refine rg G (cd p ?_ ?_) <;> intro p
    ·obtain ⟨r4, h5, p⟩ := jae p
     refine re G (hC 1 (yaa h5) h0) ?_
     exact ibN (wF G p)
    ·refine rg G (cd p ?_ ?_) <;> intro p
     ·obtain ⟨r5, h6, p⟩ := jae p
      refine re G (hO 2 (.fz [512] [] []) (hC 2 (yeo.c (_, _) h6) h0)) ?_
      exact ibN (wF G p)
     ·refine rg G (cd p ?_ ?_) <;> intro p
      ·obtain ⟨r6, h7, p⟩ := jae p
       refine re G (hC 1 (yjt.c _ h7) h0) ?_
       exact ibN (wF G p)
      ·refine rg G (cd p ?_ ?_) <;> intro p
       ·refine jac (rg G (tl p (fun (v14, v15, v16, v17) => ⟨[(0, .ref 0 0), (2, .ref 32 0), (3, .ref 48 0)], [bX 0 45 [dV v14, dV v15, kV .u64 v16], bX 32 30 [.dat (.sc (.slice none 0 0)), .dat (.sc (.slice none 0 0)), .dat (.sc (.slice none 0 0))], bX 48 30 [.own 64, .own 80, .own 96], aX 64 9 r.1.Network.Stops, aX 80 78 r.1.Network.Lines, aX 96 51 v17], 128⟩) (fun vv p => ?_) ?_))
        ·refine jab (lp G p (fun (v8, v9, v10, v11, v12) => ⟨[(0, .ref 0 0), (2, .ref 32 0), (3, .ref 48 0), (6, dV v8)], [bX 0 45 [dV v9, dV v10, kV .u64 v11], bX 32 30 [.dat (.sc (.slice none 0 0)), .dat (.sc (.slice none 0 0)), .dat (.sc (.slice none 0 0))], bX 48 30 [.own 64, .own 80, .own 96], aX 64 9 r.1.Network.Stops, aX 80 78 r.1.Network.Lines, aX 96 51 v12], 128⟩) ?_)
         rintro ⟨v8, v9, v10, v11, v12⟩ r0 hb p
         rw [yfv] at p
         refine jac ?_
         obtain ⟨r8, h9, p⟩ := jae p
         refine jn p (fun v13 => ⟨[(0, .ref 0 0), (2, .ref 32 0), (3, .ref 48 0), (6, dV v8), (61, dV v13)], [bX 0 45 [dV r8.2.code_, dV r8.2.at_, kV .u64 r8.2.seed_.v], bX 32 30 [.dat (.sc (.slice none 0 0)), .dat (.sc (.slice none 0 0)), .dat (.sc (.slice none 0 0))], bX 48 30 [.own 64, .own 80, .own 96], aX 64 9 r.1.Network.Stops, aX 80 78 r.1.Network.Lines, aX 96 51 v12], 128⟩) (fun v13 p => ?_) ?_
         ·rcases bf p with ⟨hb1, p⟩ | ⟨hb1, p⟩
          ·refine de G [(4, [0])] (hN 2 v12 (hC 4 (yaa h9) (hO 7 (.b true) (hP hb1 h0)))) ?_
           exact wJ G p
          ·refine de G [(4, [0])] (hN 2 v12 (hC 4 (yaa h9) (hO 7 (.b false) (hP hb1 h0)))) ?_
           exact wJ G p
         rintro v13 p
         refine cd p ?_ ?_ <;> intro p
         ·refine jad (thN (jac (jab ?_)))
          obtain ⟨u, h10, p⟩ := jae p
          refine re G (hA 8 24 h10 h0) ?_
          exact ibN (thN (rh G (wL G p)))
         ·exact jaf (thE (thE (ibE (wD G p hb))))
        rintro ⟨v14, v15, v16, v17⟩ p s hw
        refine thN (jai hw ?_)
        refine rg G ?_
        have p := eR p hr
        cases p
        exact rt [64, 96] []
       ·exact jad (ibN (wF G p))
  rintro ⟨v, v1, v2, v3, v4, v5, v6, v7⟩ p
  obtain ⟨e2, h11, p⟩ := jae p
  refine rs G (hD 4 h11 (hS 5 h11 (⟨v4, v5, v6⟩ : Trip) h0)) ?_
  refine rg G ?_
  cases p
  exact rt [80, 96] []
def yjh : MS (Int × Int) Int := ⟨.x .r .r, fun x => zq52 x.1 x.2, fun y => dV y, fun _ => [], fun _ _ => []⟩
theorem yn6 : FnOK Tryz.prog tJ 29 yjh.S := by
 refine fm tt yjh [] call29 func29 rfl results29 ntmps29 ?_
 rintro ⟨a, b⟩ y cx G (p : zq52 a b = some y)
 unfold zq52 at p
 refine rg G (jac (rg G (cd p ?_ ?_))) <;> intro p
 ·refine rg G ?_
  cases p
  exact rt [] []
 ·refine jad (thN (rg G ?_))
  cases p
  exact rt [] []
def yem : MS l1Cur (Timetable × l1Cur) := ⟨.b 45, zq50, fun y => .aggv [.own 0, dV y.1.Network.Lines, .own 1], fun y => [arO 9 y.1.Network.Stops, arO 51 y.1.Trips], fun _ y => [bxO 45 y.2]⟩
theorem yn7 : FnOK Tryz.prog tJ 13 yem.S := by
 refine fm tt yem [fo ybs, fo yog, fo yjl, fo yaj, fo yn6] call13 func13 rfl results13 ntmps13 ?_
 rintro c y cx G (p : zq50 c = some y)
 unfold zq50 at p
 refine rg G (jac ?_)
 obtain ⟨r, h, p⟩ := jae p
 refine rs G (hC 1 (ybx h) h0) ?_
 refine cd p ?_ ?_ <;> intro p
 ·obtain ⟨r1, h1, p⟩ := jae p
  refine rs G (hC 1 (yjs.c _ h1) h0) ?_
  cases p
  exact rt [80, 81] []
 ·refine jad (thN ?_)
  obtain ⟨r2, h2, p⟩ := jae p
  refine rs G (hC 1 (yg4.c _ h2) h0) ?_
  refine jac ?_
  obtain ⟨r3, h3, p⟩ := jae p
  refine rs G (hC 1 (yaa h3) h0) ?_
  refine tl p (fun (v4, v5, v6, v7) => ⟨[(0, .ref 0 0), (2, .ref 32 0), (3, .ref 48 0)], [bX 0 45 [dV v4, dV v5, kV .u64 v6], bX 32 30 [.dat (.sc (.slice none 0 0)), .dat (.sc (.slice none 0 0)), .dat (.sc (.slice none 0 0))], bX 48 30 [.own 64, .own 80, .own 96], aX 64 9 r2.1.Stops, aX 80 78 r2.1.Lines, aX 96 51 v7], 128⟩) (fun vv p => ?_) ?_
  ·refine jab (lpP p (fun (i, v, v1, v2, v3) => ⟨[(0, .ref 0 0), (2, .ref 32 0), (3, .ref 48 0), (4, dV i)], [bX 0 45 [dV v, dV v1, kV .u64 v2], bX 32 30 [.dat (.sc (.slice none 0 0)), .dat (.sc (.slice none 0 0)), .dat (.sc (.slice none 0 0))], bX 48 30 [.own 64, .own 80, .own 96], aX 64 9 r2.1.Stops, aX 80 78 r2.1.Lines, aX 96 51 v3], 128⟩) (Wk_J G.hL ⟨[(0, []), (2, []), (3, []), (4, [])], [(0, 0, []), (32, 16, []), (48, 112, [.k, .k, .o 96]), (64, 80, []), (80, 81, [])], [(96, 51, 3, [])], 128⟩ (by kernel_rfl)) ?_)
   rintro ⟨i, v, v1, v2, v3⟩ r0 hb p
   rw [yfs] at p
   refine jac (rg G (cd p ?_ ?_)) <;> intro p
   ·refine jad (thN (jac (jab ?_)))
    obtain ⟨r7, h8, r8, h9, r9, h10, p⟩ := ob3 p
    obtain ⟨u1, h11, p⟩ := jae p
    refine de G [(11, [0]), (19, [0]), (21, [0]), (26, [96, 560]), (28, [48, 576])] (hN 4 v3 (hN 8 v3 (hC 11 (yaa h8) (hN 18 r2.1.Lines (hC 19 (yaa h9) (hC 21 (yaa h10) (hA 26 24 h11 h0))))))) ?_
    exact ibN (thN (rh G (wL G p)))
   ·exact jaf (thE (thE (ibE (wD G p hb))))
  rintro ⟨v4, v5, v6, v7⟩ p s hw
  refine thN (jai hw ?_)
  refine jac (rg G (tl p (fun v9 => ⟨[(0, .ref 0 0), (2, .ref 32 0), (3, .ref 48 0)], [bX 0 45 [dV v4, dV v5, kV .u64 v6], bX 32 30 [.dat (.sc (.slice none 0 0)), .dat (.sc (.slice none 0 0)), .dat (.sc (.slice none 0 0))], bX 48 30 [.own 64, .own 80, .own 96], aX 64 9 r2.1.Stops, aX 80 78 r2.1.Lines, aX 96 51 v9], 128⟩) (fun v9 p => ?_) ?_))
  ·refine jab (lp G p (fun (x, v8) => ⟨[(0, .ref 0 0), (2, .ref 32 0), (3, .ref 48 0), (5, dV x)], [bX 0 45 [dV v4, dV v5, kV .u64 v6], bX 32 30 [.dat (.sc (.slice none 0 0)), .dat (.sc (.slice none 0 0)), .dat (.sc (.slice none 0 0))], bX 48 30 [.own 64, .own 80, .own 96], aX 64 9 r2.1.Stops, aX 80 78 r2.1.Lines, aX 96 51 v8], 128⟩) ?_)
   rintro ⟨x, v8⟩ r0 hb1 p
   rw [yfr] at p
   refine jac (rs G (hN 3 v8 h0) ?_)
   refine cd p ?_ ?_ <;> intro p
   ·refine jad (thN (jac (jab ?_)))
    obtain ⟨e, h12, p⟩ := jae p
    refine rs G (hD 3 h12 (hE 4 h12 h0)) ?_
    obtain ⟨e2, h15, r11, h16, p⟩ := ob2 p
    refine ds G [(12, [288])] (hD 6 h15 (hE 8 h15 (hC 10 (yjh.c (_, _) h16) h0))) ?_
    obtain ⟨e3, h17, p⟩ := jae p
    refine re G (hD 4 h17 (hS 5 h17 (⟨r11, e.Line, e.Start⟩ : Trip) h0)) ?_
    exact ibN (thN (rh G (wL G p)))
   ·exact jaf (thE (thE (ibE (wD G p hb1))))
  rintro v9 p s1 hw1
  refine thN (jai hw1 ?_)
  refine rg G ?_
  cases p
  exact rt [64, 96] []
def ygy : MS (Int × Int × Int) Bool := ⟨.x .r (.x .r .r), fun x => zq51 x.1 x.2.1 x.2.2, fun y => dV y, fun _ => [], fun _ _ => []⟩
theorem yai {x a b y} (p : zq51 x a b = some y) : ygy.C (x, a, b) y := ygy.c (x, a, b) p
theorem yca : FnOK Tryz.prog tJ 31 ygy.S := by
 refine fm tt ygy [] call31 func31 rfl results31 ntmps31 ?_
 rintro ⟨x, a, b⟩ y cx G (p : zq51 x a b = some y)
 unfold zq51 at p
 refine rg G (jn p (fun v => ⟨[(6, dV v)], [], 32⟩) (fun v p => ?_) ?_)
 ·rcases bf p with ⟨hb, p⟩ | ⟨hb, p⟩
  ·refine re G (hO 3 (.b true) (hP hb h0)) ?_
   exact wJ G p
  ·refine re G (hO 3 (.b false) (hP hb h0)) ?_
   exact wJ G p
 rintro v p
 cases p
 exact rt [] []
def yb8 : MS ByteArray Bool := ⟨.r, zq63, fun y => dV y, fun _ => [], fun _ _ => []⟩
theorem yja : FnOK Tryz.prog tJ 65 yb8.S := by
 refine fm tt yb8 [fo yca] call65 func65 rfl results65 ntmps65 ?_
 rintro s y cx G (p : zq63 s = some y)
 unfold zq63 at p
 refine rg G (jac ?_)
 obtain ⟨r, h, p⟩ := jae p
 refine jn p (fun v => ⟨[(0, dV s), (17, dV v)], [], 32⟩) (fun v p => ?_) ?_
 ·rcases bf p with ⟨hb, p⟩ | ⟨hb, p⟩
  ·refine re G (hC 2 (yai h) (hO 4 (.b true) (hP hb h0))) ?_
   exact wJ G p
  ·obtain ⟨u, h1, p⟩ := jae p
   rcases bf p with ⟨hb1, p⟩ | ⟨hb1, p⟩
   ·refine re G (hC 2 (yai h) (hO 4 (.b false) (hP hb (hK h1 (hO 9 (.b true) (hP hb1 h0)))))) ?_
    exact wJ G p
   ·obtain ⟨u1, h2, p⟩ := jae p
    refine re G (hC 2 (yai h) (hO 4 (.b false) (hP hb (hK h1 (hO 9 (.b false) (hP hb1 (hK h2 h0))))))) ?_
    exact wJ G p
 rintro v p
 refine cd p ?_ ?_ <;> intro p
 ·refine rg G ?_
  cases p
  exact rt [] []
 ·refine jad (thN (jac (rg G (tF p (fun _ => ⟨[], [], 32⟩) (fun v3 hr p => ?_) ?_))))
  ·refine jab (lp G p (fun v1 => ⟨[(0, dV s), (3, dV v1)], [], 32⟩) ?_)
   rintro v1 r0 hb2 p
   rw [yb9] at p
   refine jac (rg G (cd p ?_ ?_)) <;> intro p
   ·refine jad (thN (jac (jab ?_)))
    obtain ⟨u2, h3, p⟩ := jae p
    refine jn p (fun v2 => ⟨[(0, dV s), (3, dV v1), (45, dV v2)], [], 32⟩) (fun v2 p => ?_) ?_
    ·rcases bf p with ⟨hb3, p⟩ | ⟨hb3, p⟩
     ·obtain ⟨u3, h4, p⟩ := jae p
      rcases bf p with ⟨hb4, p⟩ | ⟨hb4, p⟩
      ·refine re G (hK h3 (hO 4 (.b true) (hP hb3 (hK h4 (hO 15 (.b true) (hP hb4 h0)))))) ?_
       exact wJ G p
      ·obtain ⟨u4, h5, p⟩ := jae p
       refine re G (hK h3 (hO 4 (.b true) (hP hb3 (hK h4 (hO 15 (.b false) (hP hb4 (hK h5 h0))))))) ?_
       exact wJ G p
     ·obtain ⟨u5, h6, p⟩ := jae p
      rcases bf p with ⟨hb5, p⟩ | ⟨hb5, p⟩
      ·obtain ⟨u6, h7, p⟩ := jae p
       rcases bf p with ⟨hb6, p⟩ | ⟨hb6, p⟩
       ·refine re G (hK h3 (hO 4 (.b false) (hP hb3 (hK h6 (hO 10 (.b true) (hP hb5 (hK h7 (hO 15 (.b true) (hP hb6 h0))))))))) ?_
        exact wJ G p
       ·obtain ⟨u7, h8, p⟩ := jae p
        refine re G (hK h3 (hO 4 (.b false) (hP hb3 (hK h6 (hO 10 (.b true) (hP hb5 (hK h7 (hO 15 (.b false) (hP hb6 (hK h8 h0)))))))))) ?_
        exact wJ G p
      ·refine re G (hK h3 (hO 4 (.b false) (hP hb3 (hK h6 (hO 10 (.b false) (hP hb5 h0)))))) ?_
       exact wJ G p
    rintro v2 p
    refine cd p ?_ ?_ <;> intro p
    ·refine rg G ?_
     have p := eL p hb2 hr
     cases p
     exact rt [] []
    ·exact jad (ibN (thN (rh G (wL G p))))
   ·exact jaf (thE (thE (ibE (wE G p hb2))))
  rintro ⟨⟩ p s1 hw
  refine thN (jai hw ?_)
  refine rg G ?_
  cases p
  exact rt [] []
def yjc : MS ((List ByteArray) × ByteArray) Int := ⟨.x .r .r, fun x => zq59 x.1 x.2, fun y => dV y, fun _ => [], fun _ _ => []⟩
theorem yn2 : FnOK Tryz.prog tJ 66 yjc.S := by
 refine fm tt yjc [] call66 func66 rfl results66 ntmps66 ?_
 rintro ⟨list, name⟩ y cx G (p : zq59 list name = some y)
 unfold zq59 at p
 refine rg G (jac (rg G (tF p (fun _ => ⟨[], [], 32⟩) (fun v1 hr p => ?_) ?_)))
 ·refine jab (lp G p (fun v => ⟨[(0, dV list), (1, dV name), (5, dV v)], [], 32⟩) ?_)
  rintro v r0 hb p
  rw [ydf] at p
  refine jac (rs G (hN 2 list h0) ?_)
  refine cd p ?_ ?_ <;> intro p
  ·refine jad (thN (jac (jab ?_)))
   obtain ⟨e, h, p⟩ := jae p
   refine rs G (hD 2 h h0) ?_
   refine cd p ?_ ?_ <;> intro p
   ·refine rg G ?_
    have p := eL p hb hr
    cases p
    exact rt [] []
   ·exact jad (ibN (thN (rh G (wL G p))))
  ·exact jaf (thE (thE (ibE (wE G p hb))))
 rintro ⟨⟩ p s hw
 refine thN (jai hw ?_)
 refine rg G ?_
 cases p
 exact rt [] []
def ygt : MS (Line × Int) Bool := ⟨.x .r .r, fun x => zq61 x.1 x.2, fun y => dV y, fun _ => [], fun _ _ => []⟩
theorem yn0 : FnOK Tryz.prog tJ 67 ygt.S := by
 refine fm tt ygt [fo yja, fo yca, fo yfq] call67 func67 rfl results67 ntmps67 ?_
 rintro ⟨x, stops⟩ y cx G (p : zq61 x stops = some y)
 unfold zq61 at p
 refine rg G (jac ?_)
 obtain ⟨r, h, p⟩ := jae p
 refine jn p (fun v => ⟨[(1, dV stops), (2, .ref 16 0), (27, dV v)], [bX 16 78 [dV x.Name, dV x.Stops, dV x.Runs]], 48⟩) (fun v p => ?_) ?_
 ·rcases bf p with ⟨hb, p⟩ | ⟨hb, p⟩
  ·refine re G (hC 2 (yb8.c _ h) (hO 4 (.b true) (hP hb h0))) ?_
   exact wJ G p
  ·obtain ⟨r1, h1, p⟩ := jae p
   rcases bf p with ⟨hb1, p⟩ | ⟨hb1, p⟩
   ·refine re G (hC 2 (yb8.c _ h) (hO 4 (.b false) (hP hb (hN 7 x.Stops (hC 8 (yai h1) (hO 11 (.b true) (hP hb1 h0))))))) ?_
    exact wJ G p
   ·refine re G (hC 2 (yb8.c _ h) (hO 4 (.b false) (hP hb (hN 7 x.Stops (hC 8 (yai h1) (hO 11 (.b false) (hP hb1 (hN 14 x.Runs (hN 17 x.Stops h0))))))))) ?_
    exact wJ G p
 rintro v p
 refine cd p ?_ ?_ <;> intro p
 ·refine rg G ?_
  cases p
  exact rt [] []
 ·refine jad (thN (jac (rg G (tF p (fun _ => ⟨[(2, .ref 16 0)], [bX 16 78 [dV x.Name, dV x.Stops, dV x.Runs]], 48⟩) (fun v5 hr p => ?_) ?_))))
  ·refine jab (lp G p (fun v1 => ⟨[(1, dV stops), (2, .ref 16 0), (5, dV v1)], [bX 16 78 [dV x.Name, dV x.Stops, dV x.Runs]], 48⟩) ?_)
   rintro v1 r0 hb2 p
   rw [ydc] at p
   refine jac (rs G (hN 3 x.Stops h0) ?_)
   refine cd p ?_ ?_ <;> intro p
   ·refine jad (thN (jac (jab ?_)))
    obtain ⟨e2, h6, r4, h7, p⟩ := ob2 p
    refine jn p (fun v2 => ⟨[(1, dV stops), (2, .ref 16 0), (5, dV v1), (54, dV v2)], [bX 16 78 [dV x.Name, dV x.Stops, dV x.Runs]], 48⟩) (fun v2 p => ?_) ?_
    ·rcases bf p with ⟨hb3, p⟩ | ⟨hb3, p⟩
     ·refine de G [] (hD 3 h6 (hC 7 (yai h7) (hO 9 (.b true) (hP hb3 h0)))) ?_
      exact wJ G p
     ·obtain ⟨e3, h8, r5, h9, p⟩ := ob2 p
      refine de G [] (hD 3 h6 (hC 7 (yai h7) (hO 9 (.b false) (hP hb3 (hD 14 h8 (hC 16 (yek.c (_, _) h9) h0)))))) ?_
      exact wJ G p
    rintro v2 p
    refine cd p ?_ ?_ <;> intro p
    ·refine rg G ?_
     have p := eL p hb2 hr
     cases p
     exact rt [] []
    ·exact jad (ibN (thN (rh G (wL G p))))
   ·exact jaf (thE (thE (ibE (wE G p hb2))))
  rintro ⟨⟩ p s hw
  refine thN (jai hw ?_)
  refine jac (rg G (tF p (fun _ => ⟨[], [], 32⟩) (fun v4 hr1 p => ?_) ?_))
  ·refine jab (lp G p (fun v3 => ⟨[(2, .ref 16 0), (6, dV v3)], [bX 16 78 [dV x.Name, dV x.Stops, dV x.Runs]], 48⟩) ?_)
   rintro v3 r0 hb4 p
   rw [ydb] at p
   refine jac (rs G (hN 3 x.Runs h0) ?_)
   refine cd p ?_ ?_ <;> intro p
   ·refine jad (thN (jac (jab ?_)))
    obtain ⟨e5, h10, r7, h11, p⟩ := ob2 p
    refine rs G (hD 3 h10 (hC 5 (yai h11) h0)) ?_
    refine cd p ?_ ?_ <;> intro p
    ·refine rg G ?_
     have p := eL p hb4 hr1
     cases p
     exact rt [] []
    ·exact jad (ibN (thN (rh G (wL G p))))
   ·exact jaf (thE (thE (ibE (wE G p hb4))))
  rintro ⟨⟩ p s1 hw1
  refine thN (jai hw1 ?_)
  refine rg G ?_
  cases p
  exact rt [] []
def yjb : MS (Network × ByteArray) Int := ⟨.x .r .r, fun x => zq62 x.1 x.2, fun y => dV y, fun _ => [], fun _ _ => []⟩
theorem ynz : FnOK Tryz.prog tJ 68 yjb.S := by
 refine fm tt yjb [] call68 func68 rfl results68 ntmps68 ?_
 rintro ⟨n, name⟩ y cx G (p : zq62 n name = some y)
 unfold zq62 at p
 refine rg G (jac (rg G (tF p (fun _ => ⟨[], [], 32⟩) (fun v1 hr p => ?_) ?_)))
 ·refine jab (lp G p (fun v => ⟨[(1, dV name), (2, .ref 16 0), (5, dV v)], [bX 16 27 [dV n.Stops, dV n.Lines]], 48⟩) ?_)
  rintro v r0 hb p
  rw [yda] at p
  refine jac (rs G (hN 3 n.Lines h0) ?_)
  refine cd p ?_ ?_ <;> intro p
  ·refine jad (thN (jac (jab ?_)))
   obtain ⟨e, h, p⟩ := jae p
   refine rs G (hD 3 h h0) ?_
   refine cd p ?_ ?_ <;> intro p
   ·refine rg G ?_
    have p := eL p hb hr
    cases p
    exact rt [] []
   ·exact jad (ibN (thN (rh G (wL G p))))
  ·exact jaf (thE (thE (ibE (wE G p hb))))
 rintro ⟨⟩ p s hw
 refine thN (jai hw ?_)
 refine rg G ?_
 cases p
 exact rt [] []
def ygu : MS Network Bool := ⟨.r, zq60, fun y => dV y, fun _ => [], fun _ _ => []⟩
theorem yn1 : FnOK Tryz.prog tJ 30 ygu.S := by
 refine fm tt ygu [fo yca, fo yja, fo yn2, fo yn0, fo ynz] call30 func30 rfl results30 ntmps30 ?_
 rintro n y cx G (p : zq60 n = some y)
 unfold zq60 at p
 refine rg G (jac ?_)
 obtain ⟨r, h, p⟩ := jae p
 refine jn p (fun v => ⟨[(1, .ref 16 0), (16, dV v)], [bX 16 27 [dV n.Stops, dV n.Lines]], 48⟩) (fun v p => ?_) ?_
 ·rcases bf p with ⟨hb, p⟩ | ⟨hb, p⟩
  ·refine re G (hN 2 n.Stops (hC 3 (yai h) (hO 5 (.b true) (hP hb h0)))) ?_
   exact wJ G p
  ·obtain ⟨r1, h1, p⟩ := jae p
   refine re G (hN 2 n.Stops (hC 3 (yai h) (hO 5 (.b false) (hP hb (hN 8 n.Lines (hC 9 (yai h1) h0)))))) ?_
   exact wJ G p
 rintro v p
 refine cd p ?_ ?_ <;> intro p
 ·refine rg G ?_
  cases p
  exact rt [] []
 ·refine jad (thN (jac (rg G (tF p (fun _ => ⟨[(1, .ref 16 0)], [bX 16 27 [dV n.Stops, dV n.Lines]], 48⟩) (fun v5 hr p => ?_) ?_))))
  ·refine jab (lp G p (fun i => ⟨[(1, .ref 16 0), (3, dV i)], [bX 16 27 [dV n.Stops, dV n.Lines]], 48⟩) ?_)
   rintro i r0 hb1 p
   rw [yde] at p
   refine jac (rs G (hN 3 n.Stops h0) ?_)
   refine cd p ?_ ?_ <;> intro p
   ·refine jad (thN (jac (jab ?_)))
    obtain ⟨e2, h6, r4, h7, p⟩ := ob2 p
    refine jn p (fun v1 => ⟨[(1, .ref 16 0), (3, dV i), (42, dV v1)], [bX 16 27 [dV n.Stops, dV n.Lines]], 48⟩) (fun v1 p => ?_) ?_
    ·rcases bf p with ⟨hb2, p⟩ | ⟨hb2, p⟩
     ·refine de G [] (hD 3 h6 (hC 5 (yb8.c _ h7) (hO 7 (.b true) (hP hb2 h0)))) ?_
      exact wJ G p
     ·obtain ⟨e3, h8, r5, h9, p⟩ := ob2 p
      refine de G [] (hD 3 h6 (hC 5 (yb8.c _ h7) (hO 7 (.b false) (hP hb2 (hD 13 h8 (hC 15 (yjc.c (_, _) h9) h0)))))) ?_
      exact wJ G p
    rintro v1 p
    refine cd p ?_ ?_ <;> intro p
    ·refine rg G ?_
     have p := eL p hb1 hr
     cases p
     exact rt [] []
    ·exact jad (ibN (thN (rh G (wL G p))))
   ·exact jaf (thE (thE (ibE (wE G p hb1))))
  rintro ⟨⟩ p s hw
  refine thN (jai hw ?_)
  refine jac (rg G (tF p (fun _ => ⟨[], [], 32⟩) (fun v4 hr1 p => ?_) ?_))
  ·refine jab (lp G p (fun v2 => ⟨[(1, .ref 16 0), (4, dV v2)], [bX 16 27 [dV n.Stops, dV n.Lines]], 48⟩) ?_)
   rintro v2 r0 hb3 p
   rw [ydd] at p
   refine jac (rs G (hN 3 n.Lines h0) ?_)
   refine cd p ?_ ?_ <;> intro p
   ·refine jad (thN (jac (jab ?_)))
    obtain ⟨e7, h14, r9, h15, p⟩ := ob2 p
    refine jn p (fun v3 => ⟨[(1, .ref 16 0), (4, dV v2), (71, dV v3)], [bX 16 27 [dV n.Stops, dV n.Lines]], 48⟩) (fun v3 p => ?_) ?_
    ·rcases bf p with ⟨hb4, p⟩ | ⟨hb4, p⟩
     ·refine de G [] (hD 3 h14 (hN 7 n.Stops (hC 8 (ygt.c (_, _) h15) (hO 10 (.b true) (hP hb4 h0))))) ?_
      exact wJ G p
     ·obtain ⟨e8, h16, r10, h17, p⟩ := ob2 p
      refine de G [] (hD 3 h14 (hN 7 n.Stops (hC 8 (ygt.c (_, _) h15) (hO 10 (.b false) (hP hb4 (hD 15 h16 (hC 18 (yjb.c (_, _) h17) h0))))))) ?_
      exact wJ G p
    rintro v3 p
    refine cd p ?_ ?_ <;> intro p
    ·refine rg G ?_
     have p := eL p hb3 hr1
     cases p
     exact rt [] []
    ·exact jad (ibN (thN (rh G (wL G p))))
   ·exact jaf (thE (thE (ibE (wE G p hb3))))
  rintro ⟨⟩ p s1 hw1
  refine thN (jai hw1 ?_)
  refine rg G ?_
  cases p
  exact rt [] []
def ybi : MS Int Bool := ⟨.r, zq68, fun y => dV y, fun _ => [], fun _ _ => []⟩
theorem ynw : FnOK Tryz.prog tJ 32 ybi.S := by
 refine fm tt ybi [fo yca] call32 func32 rfl results32 ntmps32 ?_
 rintro t y cx G (p : zq68 t = some y)
 unfold zq68 at p
 refine rg G ?_
 obtain ⟨r, h, p⟩ := jae p
 refine rs G (hC 1 (yai h) h0) ?_
 cases p
 exact rt [] []
def ygp : MS (Timetable × Int) Line := ⟨.x .r .r, fun x => zq73 x.1 x.2, fun y => dV y, fun _ => [], fun _ _ => []⟩
theorem yi5 : FnOK Tryz.prog tJ 99 ygp.S := by
 refine fm tt ygp [] call99 func99 rfl results99 ntmps99 ?_
 rintro ⟨t, i⟩ y cx G (p : zq73 t i = some y)
 unfold zq73 at p
 refine rg G ?_
 obtain ⟨e2, h2, e3, h3, p⟩ := ob2 p
 refine ds G [(11, [32])] (hD 6 h2 (hD 9 h3 h0)) ?_
 cases p
 exact rt [] []
def yi3 : MS (Timetable × Int) ((List Int)) := ⟨.x .r .r, fun x => zq76 x.1 x.2, fun y => dV y, fun _ => [], fun _ _ => []⟩
theorem ynr : FnOK Tryz.prog tJ 70 yi3.S := by
 refine fm tt yi3 [fo yi5] call70 func70 rfl results70 ntmps70 ?_
 rintro ⟨t, i⟩ y cx G (p : zq76 t i = some y)
 unfold zq76 at p
 refine rg G ?_
 obtain ⟨r, h, p⟩ := jae p
 refine rs G (hC 2 (ygp.c (_, _) h) h0) ?_
 cases p
 exact rt [] []
def ygr : MS (Line × Int × Int) Int := ⟨.x .r (.x .r .r), fun x => zq67 x.1 x.2.1 x.2.2, fun y => dV y, fun _ => [], fun _ _ => []⟩
theorem yp8 {x from_ to_ y} (p : zq67 x from_ to_ = some y) : ygr.C (x, from_, to_) y := ygr.c (x, from_, to_) p
theorem ynx : FnOK Tryz.prog tJ 98 ygr.S := by
 refine fm tt ygr [] call98 func98 rfl results98 ntmps98 ?_
 rintro ⟨x, from_, to_⟩ y cx G (p : zq67 x from_ to_ = some y)
 unfold zq67 at p
 refine rg G (rg G (jac (rg G (tl p (fun v2 => ⟨[(7, dV v2)], [], 32⟩) (fun v2 p => ?_) ?_))))
 ·refine jab (lp G p (fun (v, v1) => ⟨[(2, dV to_), (3, .ref 16 0), (7, dV v), (8, dV v1)], [bX 16 78 [dV x.Name, dV x.Stops, dV x.Runs]], 48⟩) ?_)
  rintro ⟨v, v1⟩ r0 hb p
  rw [yfp] at p
  refine jac (rg G (cd p ?_ ?_)) <;> intro p
  ·refine jad (thN (jac (jab ?_)))
   obtain ⟨e, h, p⟩ := jae p
   refine re G (hD 4 h h0) ?_
   exact ibN (thN (rh G (wL G p)))
  ·exact jaf (thE (thE (ibE (wD G p hb))))
 rintro v2 p s hw
 refine thN (jai hw ?_)
 refine rg G ?_
 cases p
 exact rt [] []
def yi6 : MS (Timetable × Int × Int) Int := ⟨.x .r (.x .r .r), fun x => zq69 x.1 x.2.1 x.2.2, fun y => dV y, fun _ => [], fun _ _ => []⟩
theorem ynv : FnOK Tryz.prog tJ 69 yi6.S := by
 refine fm tt yi6 [fo yi5, fo ynx] call69 func69 rfl results69 ntmps69 ?_
 rintro ⟨t, i, k⟩ y cx G (p : zq69 t i k = some y)
 unfold zq69 at p
 refine rg G ?_
 obtain ⟨e1, h3, r2, h4, r3, h5, p⟩ := ob3 p
 refine ds G [] (hD 3 h3 (hC 8 (ygp.c (_, _) h4) (hC 10 (yp8 h5) h0))) ?_
 cases p
 exact rt [] []
def yej : MS (Timetable × Int) Int := ⟨.x .r .r, fun x => zq70 x.1 x.2, fun y => dV y, fun _ => [], fun _ _ => []⟩
theorem ynu : FnOK Tryz.prog tJ 33 yej.S := by
 refine fm tt yej [fo ynr, fo ynv] call33 func33 rfl results33 ntmps33 ?_
 rintro ⟨t, i⟩ y cx G (p : zq70 t i = some y)
 unfold zq70 at p
 refine rg G ?_
 obtain ⟨r2, h2, r3, h3, p⟩ := ob2 p
 refine ds G [] (hC 4 (yi3.c (_, _) h2) (hN 5 r2 (hC 7 (yi6.c (_, _, _) h3) h0))) ?_
 cases p
 exact rt [] []
def ybh : MS Timetable Bool := ⟨.r, zq72, fun y => dV y, fun _ => [], fun _ _ => []⟩
theorem yfn : FnOK Tryz.prog tJ 14 ybh.S := by
 refine fm tt ybh [fo yn1, fo yca, fo ynw, fo ynu] call14 func14 rfl results14 ntmps14 ?_
 rintro t y cx G (p : zq72 t = some y)
 unfold zq72 at p
 refine rg G (jac ?_)
 obtain ⟨r, h, p⟩ := jae p
 refine jn p (fun v => ⟨[(1, .ref 16 0), (14, dV v)], [bX 16 30 [dV t.Network.Stops, dV t.Network.Lines, dV t.Trips]], 48⟩) (fun v p => ?_) ?_
 ·rcases bf p with ⟨hb, p⟩ | ⟨hb, p⟩
  ·refine re G (hC 2 (ygu.c _ h) (hO 4 (.b true) (hP hb h0))) ?_
   exact wJ G p
  ·refine re G (hC 2 (ygu.c _ h) (hO 4 (.b false) (hP hb (hN 7 t.Trips h0)))) ?_
   exact wJ G p
 rintro v p
 refine cd p ?_ ?_ <;> intro p
 ·refine rg G ?_
  cases p
  exact rt [] []
 ·refine jad (thN (jac (rg G (tF p (fun _ => ⟨[], [], 32⟩) (fun v2 hr p => ?_) ?_))))
  ·refine jab (lp G p (fun x => ⟨[(1, .ref 16 0), (3, dV x)], [bX 16 30 [dV t.Network.Stops, dV t.Network.Lines, dV t.Trips]], 48⟩) ?_)
   rintro x r0 hb1 p
   rw [yfo] at p
   refine jac (rs G (hN 3 t.Trips h0) ?_)
   refine cd p ?_ ?_ <;> intro p
   ·refine jad (thN (jac (jab ?_)))
    obtain ⟨e, h1, p⟩ := jae p
    refine rs G (hD 3 h1 h0) ?_
    obtain ⟨r6, h8, p⟩ := jae p
    refine jn p (fun v1 => ⟨[(1, .ref 16 0), (3, dV x), (70, dV v1)], [bX 16 30 [dV t.Network.Stops, dV t.Network.Lines, dV t.Trips]], 48⟩) (fun v1 p => ?_) ?_
    ·rcases bf p with ⟨hb2, p⟩ | ⟨hb2, p⟩
     ·refine de G [] (hC 2 (yai h8) (hO 4 (.b true) (hP hb2 h0))) ?_
      exact wJ G p
     ·obtain ⟨r7, h9, p⟩ := jae p
      rcases bf p with ⟨hb3, p⟩ | ⟨hb3, p⟩
      ·refine de G [] (hC 2 (yai h8) (hO 4 (.b false) (hP hb2 (hN 10 t.Network.Lines (hC 12 (yai h9) (hO 15 (.b true) (hP hb3 h0))))))) ?_
       exact wJ G p
      ·obtain ⟨r8, h10, p⟩ := jae p
       rcases bf p with ⟨hb4, p⟩ | ⟨hb4, p⟩
       ·refine de G [] (hC 2 (yai h8) (hO 4 (.b false) (hP hb2 (hN 10 t.Network.Lines (hC 12 (yai h9) (hO 15 (.b false) (hP hb3 (hC 18 (ybi.c _ h10) (hO 21 (.b true) (hP hb4 h0)))))))))) ?_
        exact wJ G p
       ·obtain ⟨r9, h11, r10, h12, p⟩ := ob2 p
        rcases bf p with ⟨hb5, p⟩ | ⟨hb5, p⟩
        ·refine de G [] (hC 2 (yai h8) (hO 4 (.b false) (hP hb2 (hN 10 t.Network.Lines (hC 12 (yai h9) (hO 15 (.b false) (hP hb3 (hC 18 (ybi.c _ h10) (hO 21 (.b false) (hP hb4 (hC 24 (yej.c (_, _) h11) (hC 25 (ybi.c _ h12) (hO 28 (.b true) (hP hb5 h0)))))))))))))) ?_
         exact wJ G p
        ·rcases bf p with ⟨hb6, p⟩ | ⟨hb6, p⟩
         ·obtain ⟨e2, h13, p⟩ := jae p
          refine de G [] (hC 2 (yai h8) (hO 4 (.b false) (hP hb2 (hN 10 t.Network.Lines (hC 12 (yai h9) (hO 15 (.b false) (hP hb3 (hC 18 (ybi.c _ h10) (hO 21 (.b false) (hP hb4 (hC 24 (yej.c (_, _) h11) (hC 25 (ybi.c _ h12) (hO 28 (.b false) (hP hb5 (hO 31 (.b true) (hP hb6 (hD 36 h13 h0))))))))))))))))) ?_
          exact wJ G p
         ·refine de G [] (hC 2 (yai h8) (hO 4 (.b false) (hP hb2 (hN 10 t.Network.Lines (hC 12 (yai h9) (hO 15 (.b false) (hP hb3 (hC 18 (ybi.c _ h10) (hO 21 (.b false) (hP hb4 (hC 24 (yej.c (_, _) h11) (hC 25 (ybi.c _ h12) (hO 28 (.b false) (hP hb5 (hO 31 (.b false) (hP hb6 h0)))))))))))))))) ?_
          exact wJ G p
    rintro v1 p
    refine cd p ?_ ?_ <;> intro p
    ·refine rg G ?_
     have p := eL p hb1 hr
     cases p
     exact rt [] []
    ·exact jad (ibN (thN (rh G (wL G p))))
   ·exact jaf (thE (thE (ibE (wE G p hb1))))
  rintro ⟨⟩ p s hw
  refine thN (jai hw ?_)
  refine rg G ?_
  cases p
  exact rt [] []
def yjj : MS l1Cur (Int × l1Cur) := ⟨.b 45, zq48, fun y => dV y.1, fun _ => [], fun _ y => [bxO 45 y.2]⟩
theorem yn9 : FnOK Tryz.prog tJ 39 yjj.S := by
 refine fm tt yjj [fo ybs, fo yjv, fo yaj] call39 func39 rfl results39 ntmps39 ?_
 rintro c y cx G (p : zq48 c = some y)
 unfold zq48 at p
 refine rg G (jac ?_)
 obtain ⟨r, h, p⟩ := jae p
 refine rs G (hC 1 (ybx h) h0) ?_
 refine cd p ?_ ?_ <;> intro p
 ·obtain ⟨r1, h1, p⟩ := jae p
  refine rs G (hO 2 (.fz [80] [] []) (hC 2 (yeo.c (_, _) h1) h0)) ?_
  cases p
  exact rt [] []
 ·refine jad (thN ?_)
  obtain ⟨r2, h2, p⟩ := jae p
  refine rs G (hC 1 (yaa h2) h0) ?_
  cases p
  exact rt [] []
def yjr : MS (l1Cur × Timetable) ((List Change) × l1Cur) := ⟨.x (.b 45) .r, fun x => zq38 x.1 x.2, fun _ => .own 0, fun y => [arO 56 y.1], fun _ y => [bxO 45 y.2]⟩
theorem yof : FnOK Tryz.prog tJ 16 yjr.S := by
 refine fm tt yjr [fo yaj, fo yju, fo ybs, fo yn9] call16 func16 rfl results16 ntmps16 ?_
 rintro ⟨c, t⟩ y cx G (p : zq38 c t = some y)
 unfold zq38 at p
 refine rg G (rg G (jac (rg G (tl p (fun (v7, v8, v9, x2) => ⟨[(0, .ref 0 0), (5, .own 32)], [bX 0 45 [dV v7, dV v8, kV .u64 v9], aX 32 56 x2], 64⟩) (fun vv5 p => ?_) ?_))))
 ·refine jab (lp G p (fun (i, v, v1, v2, x) => ⟨[(0, .ref 0 0), (3, .ref 32 0), (5, .own 48), (6, dV i)], [bX 0 45 [dV v, dV v1, kV .u64 v2], bX 32 30 [dV t.Network.Stops, dV t.Network.Lines, dV t.Trips], aX 48 56 x], 80⟩) ?_)
  rintro ⟨i, v, v1, v2, x⟩ r0 hb p
  rw [yfu] at p
  refine jac (rs G (hN 3 t.Trips h0) ?_)
  refine cd p ?_ ?_ <;> intro p
  ·refine jad (thN (jn p (fun (v3, v4, v5, x1) => ⟨[(0, .ref 0 0), (3, .ref 32 0), (5, .own 48), (6, dV i)], [bX 0 45 [dV v3, dV v4, kV .u64 v5], bX 32 30 [dV t.Network.Stops, dV t.Network.Lines, dV t.Trips], aX 48 56 x1], 80⟩) (fun vv p => ?_) ?_))
   ·refine jab ?_
    obtain ⟨e, h, p⟩ := jae p
    refine rs G (hD 3 h h0) ?_
    obtain ⟨r, h1, p⟩ := jae p
    refine rs G (hC 1 (yaa h1) h0) ?_
    refine jab (rg G (cd p ?_ ?_)) <;> intro p
    ·obtain ⟨u, h2, p⟩ := jae p
     refine re G (hA 4 40 h2 h0) ?_
     exact ibN (ibN (wJ G p))
    ·refine jn p (fun v6 => ⟨[(0, .ref 0 0), (3, .ref 32 0), (5, .own 48), (6, dV i), (7, .ref 64 0), (32, dV v6)], [bX 0 45 [dV r.2.code_, dV r.2.at_, kV .u64 r.2.seed_.v], bX 32 30 [dV t.Network.Stops, dV t.Network.Lines, dV t.Trips], aX 48 56 x, bX 64 51 [dV e.Id, dV e.Line, dV e.Start]], 96⟩) (fun v6 p => ?_) ?_
     ·refine rg G (cd p ?_ ?_) <;> intro p
      ·exact jad (wJ G p)
      ·exact rh G (wJ G p)
     rintro v6 p
     refine cd p ?_ ?_ <;> intro p
     ·obtain ⟨r2, h5, u2, h6, p⟩ := ob2 p
      refine de G [(6, [0, 176]), (10, [48, 240])] (hC 6 (yg7.c (_, _) h5) (hA 10 40 h6 h0)) ?_
      exact ibN (ibN (wJ G p))
     ·exact jad (ibN (ibN (wJ G p)))
   rintro ⟨v3, v4, v5, x1⟩ p
   exact rh G (wL G p)
  ·exact jaf (thE (thE (ibE (wD G p hb))))
 rintro ⟨v7, v8, v9, x2⟩ p s hw
 refine thN (jai hw ?_)
 refine jn p (fun (v10, v11, v12, x3) => ⟨[(0, .ref 0 0), (5, .own 32)], [bX 0 45 [dV v10, dV v11, kV .u64 v12], aX 32 56 x3], 64⟩) (fun vv4 p => ?_) ?_
 ·obtain ⟨r3, h7, p⟩ := jae p
  refine rs G (hC 1 (ybx h7) h0) ?_
  refine cd p ?_ ?_ <;> intro p
  ·obtain ⟨r4, h8, r5, h9, u3, h10, p⟩ := ob3 p
   refine re G (hC 2 (yaa h8) (hC 5 (yaa h9) (hA 11 40 h10 h0))) ?_
   exact wJ G p
  ·exact jad (wJ G p)
 rintro ⟨v10, v11, v12, x3⟩ p
 refine jn p (fun (v13, v14, v15, x4) => ⟨[(0, .ref 0 0), (5, .own 32)], [bX 0 45 [dV v13, dV v14, kV .u64 v15], aX 32 56 x4], 64⟩) (fun vv3 p => ?_) ?_
 ·refine jn p (fun (v16, v17, v18, v19) => ⟨[(0, .ref 0 0), (5, .own 32), (66, dV v16)], [bX 0 45 [dV v17, dV v18, kV .u64 v19], aX 32 56 x3], 64⟩) (fun vv2 p => ?_) ?_
  ·rcases bf p with ⟨hb1, p⟩ | ⟨hb1, p⟩
   ·obtain ⟨r6, h11, p⟩ := jae p
    refine re G (hN 1 x3 (hO 3 (.b true) (hP hb1 (hC 5 (ybx h11) h0)))) ?_
    exact wJ G p
   ·refine re G (hN 1 x3 (hO 3 (.b false) (hP hb1 h0))) ?_
    exact wJ G p
  rintro ⟨v16, v17, v18, v19⟩ p
  refine cd p ?_ ?_ <;> intro p
  ·obtain ⟨r7, h12, p⟩ := jae p
   refine rs G (hN 2 x3 (hC 3 (yaa h12) h0)) ?_
   obtain ⟨e1, h13, p⟩ := jae p
   refine rs G (hD 2 h13 (hE 3 h13 h0)) ?_
   refine jn p (fun (v20, v21, v22, v23, v24, v25, v26) => ⟨[(0, .ref 0 0), (5, .own 32), (8, dV r7.1), (9, .ref 48 0)], [bX 0 45 [dV v20, dV v21, kV .u64 v22], aX 32 56 x3, bX 48 56 [dV v23, dV e1.Trip.Id, dV v24, dV v25, dV v26]], 80⟩) (fun vv1 p => ?_) ?_
   ·obtain ⟨r8, h14, p⟩ := jae p
    refine rs G (hC 1 (yaa h14) h0) ?_
    refine jab (rg G (cd p ?_ ?_)) <;> intro p
    ·obtain ⟨r9, h15, p⟩ := jae p
     refine re G (hC 1 (yaa h15) h0) ?_
     exact ibN (wJ G p)
    ·refine rg G (cd p ?_ ?_) <;> intro p
     ·exact rh G (ibN (wJ G p))
     ·refine rg G (cd p ?_ ?_) <;> intro p
      ·obtain ⟨r10, h16, p⟩ := jae p
       refine re G (hC 1 (yjj.c _ h16) h0) ?_
       exact ibN (wJ G p)
      ·obtain ⟨r11, h17, p⟩ := jae p
       refine re G (hC 1 (yaa h17) h0) ?_
       exact ibN (wJ G p)
   rintro ⟨v20, v21, v22, v23, v24, v25, v26⟩ p
   obtain ⟨e2, h18, p⟩ := jae p
   refine re G (hD 3 h18 (hS 4 h18 (⟨v23, (⟨e1.Trip.Id, v24, v25⟩ : Trip), v26⟩ : Change) h0)) ?_
   exact wJ G p
  ·exact jad (wJ G p)
 rintro ⟨v13, v14, v15, x4⟩ p
 refine rg G ?_
 cases p
 exact rt [32] []
def yeh : MS Timetable Timetable := ⟨.r, zq74, fun _ => .aggv [.own 0, .own 1, .own 2], fun y => [arO 9 y.Network.Stops, arO 78 y.Network.Lines, arO 51 y.Trips], fun _ _ => []⟩
theorem yfm : FnOK Tryz.prog tJ 34 yeh.S := by
 refine fm tt yeh [fo yi9] call34 func34 rfl results34 ntmps34 ?_
 rintro t y cx G (p : zq74 t = some y)
 unfold zq74 at p
 refine rg G ?_
 obtain ⟨r1, h2, u1, h3, p⟩ := ob2 p
 refine ds G [(6, [96]), (8, [32, 80, 81, 144])] (hC 2 (ygs.c _ h2) (hA 6 24 h3 h0)) ?_
 cases p
 exact rt [80, 81, 144] []
def yei : MS (Timetable × Int) Int := ⟨.x .r .r, fun x => zq71 x.1 x.2, fun y => dV y, fun _ => [], fun _ _ => []⟩
theorem ynt : FnOK Tryz.prog tJ 35 yei.S := by
 refine fm tt yei [] call35 func35 rfl results35 ntmps35 ?_
 rintro ⟨t, id⟩ y cx G (p : zq71 t id = some y)
 unfold zq71 at p
 refine rg G (jac (rg G (tF p (fun _ => ⟨[], [], 32⟩) (fun v1 hr p => ?_) ?_)))
 ·refine jab (lp G p (fun v => ⟨[(1, dV id), (2, .ref 16 0), (5, dV v)], [bX 16 30 [dV t.Network.Stops, dV t.Network.Lines, dV t.Trips]], 48⟩) ?_)
  rintro v r0 hb p
  rw [yc7] at p
  refine jac (rs G (hN 3 t.Trips h0) ?_)
  refine cd p ?_ ?_ <;> intro p
  ·refine jad (thN (jac (jab ?_)))
   obtain ⟨e, h, p⟩ := jae p
   refine rs G (hD 3 h h0) ?_
   refine cd p ?_ ?_ <;> intro p
   ·refine rg G ?_
    have p := eL p hb hr
    cases p
    exact rt [] []
   ·exact jad (ibN (thN (rh G (wL G p))))
  ·exact jaf (thE (thE (ibE (wE G p hb))))
 rintro ⟨⟩ p s hw
 refine thN (jai hw ?_)
 refine rg G ?_
 cases p
 exact rt [] []
def yi4 : MS (Timetable × Trip) Timetable := ⟨.x .r .r, fun x => zq75 x.1 x.2, fun _ => .aggv [.own 0, .own 1, .own 2], fun y => [arO 9 y.Network.Stops, arO 78 y.Network.Lines, arO 51 y.Trips], fun _ _ => []⟩
theorem yns : FnOK Tryz.prog tJ 36 yi4.S := by
 refine fm tt yi4 [fo yfm] call36 func36 rfl results36 ntmps36 ?_
 rintro ⟨t, x⟩ y cx G (p : zq75 t x = some y)
 unfold zq75 at p
 refine rg G (rg G (jn p (fun v2 => ⟨[(2, .ref 16 0), (3, .ref 32 0), (4, .ref 48 0), (5, dV v2)], [bX 16 30 [dV t.Network.Stops, dV t.Network.Lines, dV t.Trips], bX 32 51 [dV x.Id, dV x.Line, dV x.Start], bX 48 30 [.dat (.sc (.slice none 0 0)), .dat (.sc (.slice none 0 0)), .dat (.sc (.slice none 0 0))]], 80⟩) (fun v2 p => ?_) ?_))
 ·refine jab (lp G p (fun v => ⟨[(2, .ref 16 0), (3, .ref 32 0), (4, .ref 48 0), (5, dV v)], [bX 16 30 [dV t.Network.Stops, dV t.Network.Lines, dV t.Trips], bX 32 51 [dV x.Id, dV x.Line, dV x.Start], bX 48 30 [.dat (.sc (.slice none 0 0)), .dat (.sc (.slice none 0 0)), .dat (.sc (.slice none 0 0))]], 80⟩) ?_)
  rintro v r0 hb p
  rw [yfl] at p
  refine jac (jn p (fun v1 => ⟨[(2, .ref 16 0), (3, .ref 32 0), (4, .ref 48 0), (5, dV v), (22, dV v1)], [bX 16 30 [dV t.Network.Stops, dV t.Network.Lines, dV t.Trips], bX 32 51 [dV x.Id, dV x.Line, dV x.Start], bX 48 30 [.dat (.sc (.slice none 0 0)), .dat (.sc (.slice none 0 0)), .dat (.sc (.slice none 0 0))]], 80⟩) (fun v1 p => ?_) ?_)
  ·rcases bf p with ⟨hb1, p⟩ | ⟨hb1, p⟩
   ·obtain ⟨e1, h1, p⟩ := jae p
    refine de G [] (hN 3 t.Trips (hO 5 (.b true) (hP hb1 (hD 9 h1 h0)))) ?_
    exact wJ G p
   ·refine de G [] (hN 3 t.Trips (hO 5 (.b false) (hP hb1 h0))) ?_
    exact wJ G p
  rintro v1 p
  refine cd p ?_ ?_ <;> intro p
  ·exact jad (thN (jab (rh G (ibN (wL G p)))))
  ·exact jaf (thE (thE (ibE (wD G p hb))))
 rintro v2 p
 obtain ⟨r, h2, p⟩ := jae p
 refine rs G (hC 1 (yeh.c _ h2) h0) ?_
 obtain ⟨u5, h8, u6, h9, u7, h10, p⟩ := ob3 p
 obtain ⟨u8, h11, u9, h12, p⟩ := ob2 p
 refine ds G [(4, []), (5, [144]), (8, [224, 256]), (12, []), (13, [272]), (15, [112, 352])] (hU 4 h8 (hA 5 24 h9 (hA 8 24 h10 (hV 12 h11 (hA 13 24 h12 h0))))) ?_
 refine rg G ?_
 cases p
 exact rt [96, 97, 352] []
def yi2 : MS (Timetable × Int) Timetable := ⟨.x .r .r, fun x => zq77 x.1 x.2, fun _ => .aggv [.own 0, .own 1, .own 2], fun y => [arO 9 y.Network.Stops, arO 78 y.Network.Lines, arO 51 y.Trips], fun _ _ => []⟩
theorem ynq : FnOK Tryz.prog tJ 37 yi2.S := by
 refine fm tt yi2 [fo yfm] call37 func37 rfl results37 ntmps37 ?_
 rintro ⟨t, i⟩ y cx G (p : zq77 t i = some y)
 unfold zq77 at p
 refine rg G ?_
 obtain ⟨r, h, p⟩ := jae p
 refine rs G (hC 1 (yeh.c _ h) h0) ?_
 obtain ⟨u4, h5, u5, h6, u6, h7, p⟩ := ob3 p
 obtain ⟨u7, h8, p⟩ := jae p
 refine ds G [(4, []), (5, [112]), (10, []), (11, [192]), (13, [80, 288])] (hU 4 h5 (hA 5 24 h6 (hV 10 h7 (hA 11 24 h8 h0)))) ?_
 refine rg G ?_
 cases p
 exact rt [64, 65, 288] []
def yjf : MS (Timetable × (List Change)) (Timetable × Bool) := ⟨.x .r (.s 56), fun x => zq56 x.1 x.2, fun y => .tup [.aggv [.own 0, .own 1, .own 2], dV y.2], fun y => [arO 9 y.1.Network.Stops, arO 78 y.1.Network.Lines, arO 51 y.1.Trips], fun x _ => [arO 56 x.2]⟩
theorem yn3 : FnOK Tryz.prog tJ 15 yjf.S := by
 refine fm tt yjf [fo yfm, fo ynt, fo yns, fo ynq, fo yfn] call15 func15 rfl results15 ntmps15 ?_
 rintro ⟨t, list⟩ y cx G (p : zq56 t list = some y)
 unfold zq56 at p
 refine rg G (rg G (jac (rs G (hN 1 list h0) ?_)))
 refine cd p ?_ ?_ <;> intro p
 ·refine rg G ?_
  cases p
  refine wR (x' := ⟨[(1, .own 0), (4, .ref 32 0), (5, dV false)], [aX 0 56 list, bX 32 30 [.own 48, .own 64, .own 80], aX 48 9 ([] : List ByteArray), aX 64 78 ([] : List Line), aX 80 51 ([] : List Trip)], 112⟩) (Wk_J G.hL ⟨[(1, []), (4, []), (5, [])], [(0, 0, []), (32, 32, [.o 48, .o 64, .o 80])], [(48, 9, 1, []), (64, 78, 3, []), (80, 51, 3, [])], 112⟩ (by kernel_rfl)) ?_
  exact rt [48, 64, 80] []
 ·refine jad (thN ?_)
  obtain ⟨r, h, p⟩ := jae p
  refine rs G (hC 1 (yeh.c _ h) h0) ?_
  refine jac (rg G (tF p (fun (v11, v12, v13) => ⟨[(1, .own 0), (4, .ref 32 0), (6, .ref 48 0), (7, .ref 64 0)], [aX 0 56 list, bX 32 30 [.dat (.sc (.slice none 0 0)), .dat (.sc (.slice none 0 0)), .dat (.sc (.slice none 0 0))], bX 48 30 [.dat (.sc (.slice none 0 0)), .dat (.sc (.slice none 0 0)), .dat (.sc (.slice none 0 0))], bX 64 30 [.own 80, .own 96, .own 112], aX 80 9 v11, aX 96 78 v12, aX 112 51 v13], 144⟩) (fun v14 hr p => ?_) ?_))
  ·refine jab (lp G p (fun (at_, v, v1, v2) => ⟨[(1, .own 0), (2, .ref 32 0), (4, .ref 48 0), (6, .ref 64 0), (7, .ref 80 0), (8, dV at_)], [aX 0 56 list, bX 32 30 [dV t.Network.Stops, dV t.Network.Lines, dV t.Trips], bX 48 30 [.dat (.sc (.slice none 0 0)), .dat (.sc (.slice none 0 0)), .dat (.sc (.slice none 0 0))], bX 64 30 [.dat (.sc (.slice none 0 0)), .dat (.sc (.slice none 0 0)), .dat (.sc (.slice none 0 0))], bX 80 30 [.own 96, .own 112, .own 128], aX 96 9 v, aX 112 78 v1, aX 128 51 v2], 160⟩) ?_)
   rintro ⟨at_, v, v1, v2⟩ r0 hb p
   rw [ydh] at p
   refine jac (rs G (hN 2 list h0) ?_)
   refine cd p ?_ ?_ <;> intro p
   ·refine jad (thN (jF p (fun (v3, v4, v5) => ⟨[(1, .own 0), (2, .ref 32 0), (4, .ref 48 0), (6, .ref 64 0), (7, .ref 80 0), (8, dV at_)], [aX 0 56 list, bX 32 30 [dV t.Network.Stops, dV t.Network.Lines, dV t.Trips], bX 48 30 [.dat (.sc (.slice none 0 0)), .dat (.sc (.slice none 0 0)), .dat (.sc (.slice none 0 0))], bX 64 30 [.dat (.sc (.slice none 0 0)), .dat (.sc (.slice none 0 0)), .dat (.sc (.slice none 0 0))], bX 80 30 [.own 96, .own 112, .own 128], aX 96 9 v3, aX 112 78 v4, aX 128 51 v5], 160⟩) (fun v10 hr1 p => ?_) ?_))
    ·refine jab ?_
     obtain ⟨e, h1, p⟩ := jae p
     refine rs G (hD 2 h1 (hE 3 h1 h0)) ?_
     refine jac (jn p (fun v6 => ⟨[(1, .own 0), (2, .ref 32 0), (4, .ref 48 0), (6, .ref 64 0), (7, .ref 80 0), (8, dV at_), (9, .ref 96 0), (45, dV v6)], [aX 0 56 list, bX 32 30 [dV t.Network.Stops, dV t.Network.Lines, dV t.Trips], bX 48 30 [.dat (.sc (.slice none 0 0)), .dat (.sc (.slice none 0 0)), .dat (.sc (.slice none 0 0))], bX 64 30 [.dat (.sc (.slice none 0 0)), .dat (.sc (.slice none 0 0)), .dat (.sc (.slice none 0 0))], bX 80 30 [.own 112, .own 128, .own 144], bX 96 56 [dV e.Kind, dV e.Trip.Id, dV e.Trip.Line, dV e.Trip.Start, dV e.To], aX 112 9 v, aX 128 78 v1, aX 144 51 v2], 176⟩) (fun v6 p => ?_) ?_)
     ·rcases bf p with ⟨hb1, p⟩ | ⟨hb1, p⟩
      ·obtain ⟨e2, h3, p⟩ := jae p
       refine de G [] (hO 2 (.b true) (hP hb1 (hD 6 h3 (hE 9 h3 h0)))) ?_
       exact wJ G p
      ·refine de G [] (hO 2 (.b false) (hP hb1 h0)) ?_
       exact wJ G p
     rintro v6 p
     refine cd p ?_ ?_ <;> intro p
     ·refine rg G ?_
      have p := eR p hr1
      have p := eL p hb hr
      cases p
      refine wR (x' := ⟨[(1, .own 0), (4, .ref 32 0), (5, dV false)], [aX 0 56 list, bX 32 30 [.own 48, .own 64, .own 80], aX 48 9 ([] : List ByteArray), aX 64 78 ([] : List Line), aX 80 51 ([] : List Trip)], 112⟩) (Wk_J G.hL ⟨[(1, []), (4, []), (5, [])], [(0, 0, []), (32, 48, [.o 48, .o 64, .o 80])], [(48, 9, 1, []), (64, 78, 3, []), (80, 51, 3, [])], 112⟩ (by kernel_rfl)) ?_
      exact rt [48, 64, 80] []
     ·refine jad (thN ?_)
      obtain ⟨r3, h4, p⟩ := jae p
      refine rs G (hC 4 (yei.c (_, _) h4) h0) ?_
      refine jn p (fun x => ⟨[(1, .own 0), (2, .ref 32 0), (4, .ref 48 0), (6, .ref 64 0), (7, .ref 80 0), (8, dV at_), (9, .ref 96 0), (10, dV r3), (11, dV x)], [aX 0 56 list, bX 32 30 [dV t.Network.Stops, dV t.Network.Lines, dV t.Trips], bX 48 30 [.dat (.sc (.slice none 0 0)), .dat (.sc (.slice none 0 0)), .dat (.sc (.slice none 0 0))], bX 64 30 [.dat (.sc (.slice none 0 0)), .dat (.sc (.slice none 0 0)), .dat (.sc (.slice none 0 0))], bX 80 30 [.own 112, .own 128, .own 144], bX 96 56 [dV e.Kind, dV e.Trip.Id, dV e.Trip.Line, dV e.Trip.Start, dV e.To], aX 112 9 v, aX 128 78 v1, aX 144 51 v2], 176⟩) (fun x p => ?_) ?_
      ·rcases bf p with ⟨hb2, p⟩ | ⟨hb2, p⟩
       ·obtain ⟨e6, h6, p⟩ := jae p
        refine de G [] (hO 2 (.b true) (hP hb2 (hD 6 h6 h0))) ?_
        exact wJ G p
       ·refine de G [] (hO 2 (.b false) (hP hb2 h0)) ?_
        exact wJ G p
      rintro x p
      refine jab (jn p (fun v7 => ⟨[(1, .own 0), (2, .ref 32 0), (4, .ref 48 0), (6, .ref 64 0), (7, .ref 80 0), (8, dV at_), (9, .ref 96 0), (11, dV x), (65, dV v7)], [aX 0 56 list, bX 32 30 [dV t.Network.Stops, dV t.Network.Lines, dV t.Trips], bX 48 30 [.dat (.sc (.slice none 0 0)), .dat (.sc (.slice none 0 0)), .dat (.sc (.slice none 0 0))], bX 64 30 [.dat (.sc (.slice none 0 0)), .dat (.sc (.slice none 0 0)), .dat (.sc (.slice none 0 0))], bX 80 30 [.own 112, .own 128, .own 144], bX 96 56 [dV e.Kind, dV e.Trip.Id, dV e.Trip.Line, dV e.Trip.Start, dV e.To], aX 112 9 v, aX 128 78 v1, aX 144 51 v2], 176⟩) (fun v7 p => ?_) ?_)
      ·rcases bf p with ⟨hb3, p⟩ | ⟨hb3, p⟩
       ·rcases bf p with ⟨hb4, p⟩ | ⟨hb4, p⟩
        ·refine re G (hO 3 (.b true) (hP hb3 (hO 7 (.b true) (hP hb4 h0)))) ?_
         exact wJ G p
        ·refine re G (hO 3 (.b true) (hP hb3 (hO 7 (.b false) (hP hb4 h0)))) ?_
         exact wJ G p
       ·refine re G (hO 3 (.b false) (hP hb3 h0)) ?_
        exact wJ G p
      rintro v7 p
      refine cd p ?_ ?_ <;> intro p
      ·obtain ⟨r4, h7, p⟩ := jae p
       refine re G (hO 3 (.fz [112, 128, 144] [] []) (hC 3 (yi4.c (_, _) h7) h0)) ?_
       exact ibN (ibN (wF G p))
      ·refine jn p (fun v8 => ⟨[(1, .own 0), (2, .ref 32 0), (4, .ref 48 0), (6, .ref 64 0), (7, .ref 80 0), (8, dV at_), (9, .ref 96 0), (11, dV x), (82, dV v8)], [aX 0 56 list, bX 32 30 [dV t.Network.Stops, dV t.Network.Lines, dV t.Trips], bX 48 30 [.dat (.sc (.slice none 0 0)), .dat (.sc (.slice none 0 0)), .dat (.sc (.slice none 0 0))], bX 64 30 [.dat (.sc (.slice none 0 0)), .dat (.sc (.slice none 0 0)), .dat (.sc (.slice none 0 0))], bX 80 30 [.own 112, .own 128, .own 144], bX 96 56 [dV e.Kind, dV e.Trip.Id, dV e.Trip.Line, dV e.Trip.Start, dV e.To], aX 112 9 v, aX 128 78 v1, aX 144 51 v2], 176⟩) (fun v8 p => ?_) ?_
       ·rcases bf p with ⟨hb5, p⟩ | ⟨hb5, p⟩
        ·rcases bf p with ⟨hb6, p⟩ | ⟨hb6, p⟩
         ·refine re G (hO 3 (.b true) (hP hb5 (hO 6 (.b true) (hP hb6 h0)))) ?_
          exact wJ G p
         ·refine re G (hO 3 (.b true) (hP hb5 (hO 6 (.b false) (hP hb6 h0)))) ?_
          exact wJ G p
        ·refine re G (hO 3 (.b false) (hP hb5 h0)) ?_
         exact wJ G p
       rintro v8 p
       refine cd p ?_ ?_ <;> intro p
       ·refine jai (Wk_J (x' := (⟨[(1, .own 0), (2, .ref 32 0), (4, .ref 48 0), (6, .ref 64 0), (7, .ref 80 0), (8, dV at_), (9, .ref 96 0)], [aX 0 56 list, bX 32 30 [dV t.Network.Stops, dV t.Network.Lines, dV t.Trips], bX 48 30 [.dat (.sc (.slice none 0 0)), .dat (.sc (.slice none 0 0)), .dat (.sc (.slice none 0 0))], bX 64 30 [.dat (.sc (.slice none 0 0)), .dat (.sc (.slice none 0 0)), .dat (.sc (.slice none 0 0))], bX 80 30 [dV v, dV v1, dV v2], bX 96 56 [dV e.Kind, dV e.Trip.Id, dV e.Trip.Line, dV e.Trip.Start, dV e.To]], 128⟩ : X)) G.hL ⟨[(1, []), (2, []), (4, []), (6, []), (7, []), (8, []), (9, [])], [(0, 0, []), (32, 32, []), (48, 48, []), (64, 64, []), (80, 80, []), (96, 96, [])], [], 128⟩ (by kernel_rfl)) ?_
        obtain ⟨r7, h10, r8, h11, p⟩ := ob2 p
        refine de G [(7, [80, 224, 225, 226])] (hC 5 (yei.c (_, _) h10) (hC 6 (yi2.c (_, _) h11) h0)) ?_
        exact ibN (ibN (wF G p))
       ·refine jn p (fun v9 => ⟨[(1, .own 0), (2, .ref 32 0), (4, .ref 48 0), (6, .ref 64 0), (7, .ref 80 0), (8, dV at_), (9, .ref 96 0), (101, dV v9)], [aX 0 56 list, bX 32 30 [dV t.Network.Stops, dV t.Network.Lines, dV t.Trips], bX 48 30 [.dat (.sc (.slice none 0 0)), .dat (.sc (.slice none 0 0)), .dat (.sc (.slice none 0 0))], bX 64 30 [.dat (.sc (.slice none 0 0)), .dat (.sc (.slice none 0 0)), .dat (.sc (.slice none 0 0))], bX 80 30 [.own 112, .own 128, .own 144], bX 96 56 [dV e.Kind, dV e.Trip.Id, dV e.Trip.Line, dV e.Trip.Start, dV e.To], aX 112 9 v, aX 128 78 v1, aX 144 51 v2], 176⟩) (fun v9 p => ?_) ?_
        ·rcases bf p with ⟨hb7, p⟩ | ⟨hb7, p⟩
         ·rcases bf p with ⟨hb8, p⟩ | ⟨hb8, p⟩
          ·refine re G (hO 3 (.b true) (hP hb7 (hO 6 (.b true) (hP hb8 h0)))) ?_
           exact wJ G p
          ·refine re G (hO 3 (.b true) (hP hb7 (hO 6 (.b false) (hP hb8 h0)))) ?_
           exact wJ G p
         ·refine re G (hO 3 (.b false) (hP hb7 h0)) ?_
          exact wJ G p
        rintro v9 p
        refine cd p ?_ ?_ <;> intro p
        ·obtain ⟨r9, h12, p⟩ := jae p
         refine rs G (hC 4 (yei.c (_, _) h12) h0) ?_
         obtain ⟨e7, h13, p⟩ := jae p
         refine rs G (hD 3 h13 (hE 4 h13 h0)) ?_
         refine rg G ?_
         obtain ⟨e8, h14, p⟩ := jae p
         refine re G (hD 4 h14 (hS 5 h14 (⟨e7.Id, e7.Line, e.To⟩ : Trip) h0)) ?_
         exact ibN (ibN (wF G p))
        ·refine rg G ?_
         have p := eR p hr1
         have p := eL p hb hr
         cases p
         refine wR (x' := ⟨[(1, .own 0), (4, .ref 32 0), (5, dV false)], [aX 0 56 list, bX 32 30 [.own 48, .own 64, .own 80], aX 48 9 ([] : List ByteArray), aX 64 78 ([] : List Line), aX 80 51 ([] : List Trip)], 112⟩) (Wk_J G.hL ⟨[(1, []), (4, []), (5, [])], [(0, 0, []), (32, 48, [.o 48, .o 64, .o 80])], [(48, 9, 1, []), (64, 78, 3, []), (80, 51, 3, [])], 112⟩ (by kernel_rfl)) ?_
         exact rt [48, 64, 80] []
    rintro ⟨v3, v4, v5⟩ p
    exact rh G (wL G p)
   ·exact jaf (thE (thE (ibE (wE G p hb))))
  rintro ⟨v11, v12, v13⟩ p s hw
  refine thN (jai hw ?_)
  refine jac ?_
  obtain ⟨r12, h15, p⟩ := jae p
  refine rs G (hC 1 (ybh.c _ h15) h0) ?_
  refine cd p ?_ ?_ <;> intro p
  ·refine rg G ?_
   cases p
   refine wR (x' := ⟨[(1, .own 0), (4, .ref 32 0), (5, dV false)], [aX 0 56 list, bX 32 30 [.own 48, .own 64, .own 80], aX 48 9 ([] : List ByteArray), aX 64 78 ([] : List Line), aX 80 51 ([] : List Trip)], 112⟩) (Wk_J G.hL ⟨[(1, []), (4, []), (5, [])], [(0, 0, []), (32, 32, [.o 48, .o 64, .o 80])], [(48, 9, 1, []), (64, 78, 3, []), (80, 51, 3, [])], 112⟩ (by kernel_rfl)) ?_
   exact rt [48, 64, 80] []
  ·refine jad (thN (rg G ?_))
   cases p
   exact rt [80, 96, 112] []
def yjw : MS ((List UInt8)) (Timetable × Timetable) := ⟨.r, zq33, fun y => .tup [dV y.1, .aggv [.own 0, dV y.2.Network.Lines, .own 1]], fun y => [arO 9 y.2.Network.Stops, arO 51 y.2.Trips], fun _ _ => []⟩
theorem yoi : FnOK Tryz.prog tJ 5 yjw.S := by
 refine fm tt yjw [fo yn7, fo yfn, fo yof, fo yn3, fo ybs, fo yaj] call5 func5 rfl results5 ntmps5 ?_
 rintro code y cx G (p : zq33 code = some y)
 unfold zq33 at p
 refine rg G (rg G ?_)
 obtain ⟨r, h, p⟩ := jae p
 refine rs G (hC 1 (yem.c _ h) h0) ?_
 refine jac ?_
 obtain ⟨r1, h1, p⟩ := jae p
 refine rs G (hC 1 (ybh.c _ h1) h0) ?_
 refine cd p ?_ ?_ <;> intro p
 ·obtain ⟨r3, h3, p⟩ := jae p
  refine ds G [(2, [80]), (3, [16, 128, 129]), (4, [32, 256, 257])] (hC 2 (yem.c _ h3) h0) ?_
  cases p
  exact rt [256, 257] []
 ·refine jad (thN (jai (Wk_J (x' := (⟨[(2, .ref 16 0), (3, .ref 32 0), (4, .ref 48 0), (5, .ref 64 0)], [bX 16 30 [.dat (.sc (.slice none 0 0)), .dat (.sc (.slice none 0 0)), .dat (.sc (.slice none 0 0))], bX 32 30 [.dat (.sc (.slice none 0 0)), .dat (.sc (.slice none 0 0)), .dat (.sc (.slice none 0 0))], bX 48 45 [dV r.2.code_, dV r.2.at_, kV .u64 r.2.seed_.v], bX 64 30 [dV r.1.Network.Stops, dV r.1.Network.Lines, dV r.1.Trips]], 96⟩ : X)) G.hL ⟨[(2, []), (3, []), (4, []), (5, [])], [(16, 16, []), (32, 32, []), (48, 80, []), (64, 144, [])], [], 96⟩ (by kernel_rfl)) ?_))
  obtain ⟨r6, h6, r7, h7, p⟩ := ob2 p
  refine ds G [(3, [48]), (4, [144]), (9, [160, 161, 162, 224])] (hC 3 (yjr.c (_, _) h6) (hC 4 (yjf.c (_, _) h7) h0)) ?_
  refine jac (jn p (fun (v, v1, v2, v3) => ⟨[(2, .ref 16 0), (3, .ref 32 0), (4, .ref 48 0), (5, .ref 64 0), (6, .ref 80 0), (33, dV v)], [bX 16 30 [.dat (.sc (.slice none 0 0)), .dat (.sc (.slice none 0 0)), .dat (.sc (.slice none 0 0))], bX 32 30 [.dat (.sc (.slice none 0 0)), .dat (.sc (.slice none 0 0)), .dat (.sc (.slice none 0 0))], bX 48 45 [dV v1, dV v2, kV .u64 v3], bX 64 30 [dV r.1.Network.Stops, dV r.1.Network.Lines, dV r.1.Trips], bX 80 30 [.own 96, .own 112, .own 128], aX 96 9 r7.1.Network.Stops, aX 112 78 r7.1.Network.Lines, aX 128 51 r7.1.Trips], 160⟩) (fun vv1 p => ?_) ?_)
  ·rcases bf p with ⟨hb, p⟩ | ⟨hb, p⟩
   ·refine re G (hO 2 (.b true) (hP hb h0)) ?_
    exact wJ G p
   ·obtain ⟨r8, h8, p⟩ := jae p
    refine re G (hO 2 (.b false) (hP hb (hC 4 (ybx h8) h0))) ?_
    exact wJ G p
  rintro ⟨v, v1, v2, v3⟩ p
  refine cd p ?_ ?_ <;> intro p
  ·obtain ⟨r10, h10, p⟩ := jae p
   refine ds G [(2, [48]), (3, [16]), (4, [32, 192, 193])] (hC 2 (yem.c _ h10) h0) ?_
   cases p
   exact rt [192, 193] []
  ·refine jad (thN (jn p (fun v4 => ⟨[(2, .ref 16 0), (3, .ref 32 0), (5, .ref 48 0), (6, .ref 64 0)], [bX 16 30 [.dat (.sc (.slice none 0 0)), .dat (.sc (.slice none 0 0)), .dat (.sc (.slice none 0 0))], bX 32 30 [.dat (.sc (.slice none 0 0)), .dat (.sc (.slice none 0 0)), .dat (.sc (.slice none 0 0))], bX 48 30 [dV r.1.Network.Stops, dV r.1.Network.Lines, dV r.1.Trips], bX 64 30 [.own 80, .own 96, .own 112], aX 80 9 r7.1.Network.Stops, aX 96 78 r7.1.Network.Lines, aX 112 51 v4], 144⟩) (fun v4 p => ?_) ?_))
   ·refine jn p (fun (v5, v6, v7, v8) => ⟨[(2, .ref 16 0), (3, .ref 32 0), (4, .ref 48 0), (5, .ref 64 0), (6, .ref 80 0), (44, dV v5)], [bX 16 30 [.dat (.sc (.slice none 0 0)), .dat (.sc (.slice none 0 0)), .dat (.sc (.slice none 0 0))], bX 32 30 [.dat (.sc (.slice none 0 0)), .dat (.sc (.slice none 0 0)), .dat (.sc (.slice none 0 0))], bX 48 45 [dV v6, dV v7, kV .u64 v8], bX 64 30 [dV r.1.Network.Stops, dV r.1.Network.Lines, dV r.1.Trips], bX 80 30 [.own 96, .own 112, .own 128], aX 96 9 r7.1.Network.Stops, aX 112 78 r7.1.Network.Lines, aX 128 51 r7.1.Trips], 160⟩) (fun vv p => ?_) ?_
    ·rcases bf p with ⟨hb1, p⟩ | ⟨hb1, p⟩
     ·obtain ⟨r11, h11, p⟩ := jae p
      refine re G (hN 2 r7.1.Trips (hO 4 (.b true) (hP hb1 (hC 6 (ybx h11) h0)))) ?_
      exact wJ G p
     ·refine re G (hN 2 r7.1.Trips (hO 4 (.b false) (hP hb1 h0))) ?_
      exact wJ G p
    rintro ⟨v5, v6, v7, v8⟩ p
    refine cd p ?_ ?_ <;> intro p
    ·obtain ⟨e, h12, p⟩ := jae p
     refine rs G (hD 2 h12 (hE 3 h12 h0)) ?_
     obtain ⟨r12, h13, p⟩ := jae p
     refine rs G (hN 4 r7.1.Network.Lines (hC 5 (yaa h13) h0)) ?_
     obtain ⟨e1, h14, p⟩ := jae p
     refine re G (hD 3 h14 (hS 4 h14 (⟨e.Id, r12.1, e.Start⟩ : Trip) h0)) ?_
     exact wJ G p
    ·exact jad (wJ G p)
   rintro v4 p
   refine ds G [(2, [16]), (3, [32, 80, 96, 112])] h0 ?_
   cases p
   exact rt [80, 112] []
def yg9 : MS (Int × Int × Int) Bool := ⟨.x .r (.x .r .r), fun x => zq28 x.1 x.2.1 x.2.2, fun y => dV y, fun _ => [], fun _ _ => []⟩
theorem ya1 {n lo hi y} (p : zq28 n lo hi = some y) : yg9.C (n, lo, hi) y := yg9.c (n, lo, hi) p
theorem yfw : FnOK Tryz.prog tJ 71 yg9.S := by
 refine fm tt yg9 [] call71 func71 rfl results71 ntmps71 ?_
 rintro ⟨n, lo, hi⟩ y cx G (p : zq28 n lo hi = some y)
 unfold zq28 at p
 refine rg G (jn p (fun v => ⟨[(6, dV v)], [], 32⟩) (fun v p => ?_) ?_)
 ·rcases bf p with ⟨hb, p⟩ | ⟨hb, p⟩
  ·refine re G (hO 3 (.b true) (hP hb h0)) ?_
   exact wJ G p
  ·refine re G (hO 3 (.b false) (hP hb h0)) ?_
   exact wJ G p
 rintro v p
 cases p
 exact rt [] []
def yhb : MS ByteArray Bool := ⟨.r, zq20, fun y => dV y, fun _ => [], fun _ _ => []⟩
theorem yos : FnOK Tryz.prog tJ 100 yhb.S := by
 refine fm tt yhb [] call100 func100 rfl results100 ntmps100 ?_
 rintro s y cx G (p : zq20 s = some y)
 unfold zq20 at p
 refine rg G (jac (jn p (fun v => ⟨[(0, dV s), (12, dV v)], [], 32⟩) (fun v p => ?_) ?_))
 ·rcases bf p with ⟨hb, p⟩ | ⟨hb, p⟩
  ·refine re G (hO 3 (.b true) (hP hb h0)) ?_
   exact wJ G p
  ·refine re G (hO 3 (.b false) (hP hb h0)) ?_
   exact wJ G p
 rintro v p
 refine cd p ?_ ?_ <;> intro p
 ·refine rg G ?_
  cases p
  exact rt [] []
 ·refine jad (thN (jac (rg G (tF p (fun _ => ⟨[], [], 32⟩) (fun v4 hr p => ?_) ?_))))
  ·refine jab (lp G p (fun v1 => ⟨[(0, dV s), (14, dV (s.size : Int)), (15, dV v1)], [], 32⟩) ?_)
   rintro v1 r0 hb1 p
   rw [ycb] at p
   refine rg G (jac (cd p ?_ ?_)) <;> intro p
   ·refine jad (thN (jac (jab (rg G ?_))))
    obtain ⟨u, h, p⟩ := jae p
    refine jn p (fun v2 => ⟨[(0, dV s), (3, dV v1), (4, dV v2), (14, dV (s.size : Int)), (15, dV v1)], [], 32⟩) (fun v2 p => ?_) ?_
    ·rcases bf p with ⟨hb2, p⟩ | ⟨hb2, p⟩
     ·obtain ⟨u1, h1, p⟩ := jae p
      refine re G (hK h (hO 4 (.b true) (hP hb2 (hK h1 h0)))) ?_
      exact wJ G p
     ·refine re G (hK h (hO 4 (.b false) (hP hb2 h0))) ?_
      exact wJ G p
    rintro v2 p
    refine jn p (fun v3 => ⟨[(0, dV s), (14, dV (s.size : Int)), (15, dV v1), (45, dV v3)], [], 32⟩) (fun v3 p => ?_) ?_
    ·rcases bf p with ⟨hb3, p⟩ | ⟨hb3, p⟩
     ·rcases bf p with ⟨hb4, p⟩ | ⟨hb4, p⟩
      ·refine re G (hO 2 (.b true) (hP hb3 (hO 5 (.b true) (hP hb4 h0)))) ?_
       exact wJ G p
      ·obtain ⟨u2, h2, p⟩ := jae p
       rcases bf p with ⟨hb5, p⟩ | ⟨hb5, p⟩
       ·refine re G (hO 2 (.b true) (hP hb3 (hO 5 (.b false) (hP hb4 (hK h2 (hO 11 (.b true) (hP hb5 h0))))))) ?_
        exact wJ G p
       ·obtain ⟨u3, h3, p⟩ := jae p
        refine re G (hO 2 (.b true) (hP hb3 (hO 5 (.b false) (hP hb4 (hK h2 (hO 11 (.b false) (hP hb5 (hK h3 h0)))))))) ?_
        exact wJ G p
     ·refine re G (hO 2 (.b false) (hP hb3 h0)) ?_
      exact wJ G p
    rintro v3 p
    refine cd p ?_ ?_ <;> intro p
    ·refine rg G ?_
     have p := eL p hb1 hr
     cases p
     exact rt [] []
    ·exact jad (ibN (thN (rh G (wL G p))))
   ·exact jaf (thE (thE (ibE (wE G p hb1))))
  rintro ⟨⟩ p s1 hw
  refine thN (jai hw ?_)
  refine rg G ?_
  cases p
  exact rt [] []
def yiv : MS ((List ByteArray) × ByteArray) Int := ⟨.x .r .r, fun x => zq87 x.1 x.2, fun y => dV y, fun _ => [], fun _ _ => []⟩
theorem ynh : FnOK Tryz.prog tJ 101 yiv.S := by
 refine fm tt yiv [] call101 func101 rfl results101 ntmps101 ?_
 rintro ⟨s, v⟩ y cx G (p : zq87 s v = some y)
 unfold zq87 at p
 refine rg G (jac (rs G (hN 1 s h0) ?_))
 refine tF p (fun _ => ⟨[], [], 32⟩) (fun v2 hr p => ?_) ?_
 ·refine jab (lp G p (fun v1 => ⟨[(0, dV s), (1, dV v), (7, dV (s.length : Int)), (8, dV v1)], [], 32⟩) ?_)
  rintro v1 r0 hb p
  rw [yc2] at p
  refine rg G (jac (cd p ?_ ?_)) <;> intro p
  ·refine jad (thN (jac (jab (rg G ?_))))
   obtain ⟨e, h, p⟩ := jae p
   refine rs G (hD 3 h h0) ?_
   refine cd p ?_ ?_ <;> intro p
   ·refine rg G ?_
    have p := eL p hb hr
    cases p
    exact rt [] []
   ·exact jad (ibN (thN (rh G (wL G p))))
  ·exact jaf (thE (thE (ibE (wE G p hb))))
 rintro ⟨⟩ p s1 hw
 refine thN (jai hw ?_)
 refine rg G ?_
 cases p
 exact rt [] []
def yet : MS ((List ByteArray)) Bool := ⟨.r, zq10, fun y => dV y, fun _ => [], fun _ _ => []⟩
theorem yo5 : FnOK Tryz.prog tJ 72 yet.S := by
 refine fm tt yet [fo yos, fo ynh] call72 func72 rfl results72 ntmps72 ?_
 rintro names y cx G (p : zq10 names = some y)
 unfold zq10 at p
 refine rg G (jac (rs G (hN 1 names h0) ?_))
 refine tF p (fun _ => ⟨[], [], 32⟩) (fun v2 hr p => ?_) ?_
 ·refine jab (lp G p (fun v => ⟨[(0, dV names), (5, dV names), (6, dV (names.length : Int)), (7, dV v)], [], 32⟩) ?_)
  rintro v r0 hb p
  rw [yd0] at p
  refine rg G (jac (cd p ?_ ?_)) <;> intro p
  ·refine jad (thN (jac (jab ?_)))
   obtain ⟨e, h, p⟩ := jae p
   refine rs G (hD 1 h h0) ?_
   obtain ⟨r, h1, p⟩ := jae p
   refine jn p (fun v1 => ⟨[(0, dV names), (5, dV names), (6, dV (names.length : Int)), (7, dV v), (21, dV v1)], [], 32⟩) (fun v1 p => ?_) ?_
   ·rcases bf p with ⟨hb1, p⟩ | ⟨hb1, p⟩
    ·refine re G (hC 1 (yhb.c _ h1) (hO 3 (.b true) (hP hb1 h0))) ?_
     exact wJ G p
    ·obtain ⟨r1, h2, p⟩ := jae p
     refine re G (hC 1 (yhb.c _ h1) (hO 3 (.b false) (hP hb1 (hC 6 (yiv.c (_, _) h2) h0)))) ?_
     exact wJ G p
   rintro v1 p
   refine cd p ?_ ?_ <;> intro p
   ·refine rg G ?_
    have p := eL p hb hr
    cases p
    exact rt [] []
   ·exact jad (ibN (thN (rh G (wL G p))))
  ·exact jaf (thE (thE (ibE (wE G p hb))))
 rintro ⟨⟩ p s hw
 refine thN (jai hw ?_)
 refine rg G ?_
 cases p
 exact rt [] []
def yj5 : MS Network ((List ByteArray)) := ⟨.r, zq23, fun _ => .own 0, fun y => [arO 9 y], fun _ _ => []⟩
theorem yop : FnOK Tryz.prog tJ 73 yj5.S := by
 refine fm tt yj5 [] call73 func73 rfl results73 ntmps73 ?_
 rintro n y cx G (p : zq23 n = some y)
 unfold zq23 at p
 refine rg G ?_
 obtain ⟨u, h, p⟩ := jae p
 refine rs G (hN 2 n.Lines (hO 3 (.l (List.map Enc.e (List.replicate (n.Lines.length : Int).toNat (ByteArray.empty : ByteArray)))) (hP (mk_p (b := 16) (jcm h) rfl) (hP (jt3 Enc.e (n.Lines.length : Int).toNat (ByteArray.empty : ByteArray)) h0)))) ?_
 refine jac (rs G (hN 2 n.Lines h0) ?_)
 refine tl p (fun i1 => ⟨[(3, .own 16)], [aX 16 9 i1], 48⟩) (fun i1 p => ?_) ?_
 ·refine jab (lp G p (fun (v, i) => ⟨[(3, .own 16), (11, dV n.Lines), (12, dV (n.Lines.length : Int)), (13, dV v)], [aX 16 9 i], 48⟩) ?_)
  rintro ⟨v, i⟩ r0 hb p
  rw [ydp] at p
  refine rg G (jac (cd p ?_ ?_)) <;> intro p
  ·refine jad (thN (jac (jab ?_)))
   obtain ⟨e, h1, p⟩ := jae p
   refine rs G (hD 1 h1 h0) ?_
   obtain ⟨e1, h2, p⟩ := jae p
   refine re G (hD 4 h2 (hS 5 h2 e.Name h0)) ?_
   exact ibN (thN (rh G (wL G p)))
  ·exact jaf (thE (thE (ibE (wD G p hb))))
 rintro i1 p s hw
 refine thN (jai hw ?_)
 refine rg G ?_
 cases p
 exact rt [16] []
def yha : MS (Network × Int) Bool := ⟨.x .r .r, fun x => zq21 x.1 x.2, fun y => dV y, fun _ => [], fun _ _ => []⟩
theorem yor : FnOK Tryz.prog tJ 102 yha.S := by
 refine fm tt yha [] call102 func102 rfl results102 ntmps102 ?_
 rintro ⟨n, stop⟩ y cx G (p : zq21 n stop = some y)
 unfold zq21 at p
 refine rg G (jn p (fun v => ⟨[(4, dV v)], [], 32⟩) (fun v p => ?_) ?_)
 ·rcases bf p with ⟨hb, p⟩ | ⟨hb, p⟩
  ·refine re G (hO 2 (.b true) (hP hb (hN 6 n.Stops h0))) ?_
   exact wJ G p
  ·refine re G (hO 2 (.b false) (hP hb h0)) ?_
   exact wJ G p
 rintro v p
 cases p
 exact rt [] []
def yiw : MS ((List Int) × Int) Int := ⟨.x .r .r, fun x => zq86 x.1 x.2, fun y => dV y, fun _ => [], fun _ _ => []⟩
theorem yni : FnOK Tryz.prog tJ 103 yiw.S := by
 refine fm tt yiw [] call103 func103 rfl results103 ntmps103 ?_
 rintro ⟨s, v⟩ y cx G (p : zq86 s v = some y)
 unfold zq86 at p
 refine rg G (jac (rs G (hN 1 s h0) ?_))
 refine tF p (fun _ => ⟨[], [], 32⟩) (fun v2 hr p => ?_) ?_
 ·refine jab (lp G p (fun v1 => ⟨[(0, dV s), (1, dV v), (7, dV (s.length : Int)), (8, dV v1)], [], 32⟩) ?_)
  rintro v1 r0 hb p
  rw [yc3] at p
  refine rg G (jac (cd p ?_ ?_)) <;> intro p
  ·refine jad (thN (jac (jab (rg G ?_))))
   obtain ⟨e, h, p⟩ := jae p
   refine rs G (hD 3 h h0) ?_
   refine cd p ?_ ?_ <;> intro p
   ·refine rg G ?_
    have p := eL p hb hr
    cases p
    exact rt [] []
   ·exact jad (ibN (thN (rh G (wL G p))))
  ·exact jaf (thE (thE (ibE (wE G p hb))))
 rintro ⟨⟩ p s1 hw
 refine thN (jai hw ?_)
 refine rg G ?_
 cases p
 exact rt [] []
def yj6 : MS (Network × Line) Bool := ⟨.x .r .r, fun x => zq22 x.1 x.2, fun y => dV y, fun _ => [], fun _ _ => []⟩
theorem yoq : FnOK Tryz.prog tJ 74 yj6.S := by
 refine fm tt yj6 [fo yfw, fo yor, fo yni] call74 func74 rfl results74 ntmps74 ?_
 rintro ⟨n, l⟩ y cx G (p : zq22 n l = some y)
 unfold zq22 at p
 refine rg G (jac ?_)
 obtain ⟨r, h, p⟩ := jae p
 refine jn p (fun v => ⟨[(2, .ref 16 0), (3, .ref 32 0), (23, dV v)], [bX 16 27 [dV n.Stops, dV n.Lines], bX 32 78 [dV l.Name, dV l.Stops, dV l.Runs]], 64⟩) (fun v p => ?_) ?_
 ·rcases bf p with ⟨hb, p⟩ | ⟨hb, p⟩
  ·refine re G (hN 2 l.Stops (hC 3 (ya1 h) (hO 5 (.b true) (hP hb h0)))) ?_
   exact wJ G p
  ·refine re G (hN 2 l.Stops (hC 3 (ya1 h) (hO 5 (.b false) (hP hb (hN 8 l.Runs (hN 11 l.Stops h0)))))) ?_
   exact wJ G p
 rintro v p
 refine cd p ?_ ?_ <;> intro p
 ·refine rg G ?_
  cases p
  exact rt [] []
 ·refine jad (thN (jac (rs G (hN 2 l.Stops h0) ?_)))
  refine tF p (fun _ => ⟨[(3, .ref 16 0)], [bX 16 78 [dV l.Name, dV l.Stops, dV l.Runs]], 48⟩) (fun v5 hr p => ?_) ?_
  ·refine jab (lp G p (fun v1 => ⟨[(2, .ref 16 0), (3, .ref 32 0), (25, dV l.Stops), (26, dV (l.Stops.length : Int)), (27, dV v1)], [bX 16 27 [dV n.Stops, dV n.Lines], bX 32 78 [dV l.Name, dV l.Stops, dV l.Runs]], 64⟩) ?_)
   rintro v1 r0 hb1 p
   rw [ydr] at p
   refine rg G (jac (cd p ?_ ?_)) <;> intro p
   ·refine jad (thN (jac (jab ?_)))
    obtain ⟨e, h1, p⟩ := jae p
    refine rs G (hD 1 h1 h0) ?_
    obtain ⟨r1, h2, p⟩ := jae p
    refine jn p (fun v2 => ⟨[(2, .ref 16 0), (3, .ref 32 0), (25, dV l.Stops), (26, dV (l.Stops.length : Int)), (27, dV v1), (43, dV v2)], [bX 16 27 [dV n.Stops, dV n.Lines], bX 32 78 [dV l.Name, dV l.Stops, dV l.Runs]], 64⟩) (fun v2 p => ?_) ?_
    ·rcases bf p with ⟨hb2, p⟩ | ⟨hb2, p⟩
     ·refine re G (hC 2 (yha.c (_, _) h2) (hO 4 (.b true) (hP hb2 h0))) ?_
      exact wJ G p
     ·obtain ⟨r2, h3, p⟩ := jae p
      refine re G (hC 2 (yha.c (_, _) h2) (hO 4 (.b false) (hP hb2 (hC 8 (yiw.c (_, _) h3) h0)))) ?_
      exact wJ G p
    rintro v2 p
    refine cd p ?_ ?_ <;> intro p
    ·refine rg G ?_
     have p := eL p hb1 hr
     cases p
     exact rt [] []
    ·exact jad (ibN (thN (rh G (wL G p))))
   ·exact jaf (thE (thE (ibE (wE G p hb1))))
  rintro ⟨⟩ p s hw
  refine thN (jai hw ?_)
  refine jac (rs G (hN 2 l.Runs h0) ?_)
  refine tF p (fun _ => ⟨[], [], 32⟩) (fun v4 hr1 p => ?_) ?_
  ·refine jab (lp G p (fun v3 => ⟨[(46, dV l.Runs), (47, dV (l.Runs.length : Int)), (48, dV v3)], [], 32⟩) ?_)
   rintro v3 r0 hb3 p
   rw [ydq] at p
   refine rg G (jac (cd p ?_ ?_)) <;> intro p
   ·refine jad (thN (jac (jab ?_)))
    obtain ⟨e2, h4, p⟩ := jae p
    refine rs G (hD 0 h4 h0) ?_
    obtain ⟨r4, h5, p⟩ := jae p
    refine rs G (hC 1 (ya1 h5) h0) ?_
    refine cd p ?_ ?_ <;> intro p
    ·refine rg G ?_
     have p := eL p hb3 hr1
     cases p
     exact rt [] []
    ·exact jad (ibN (thN (rh G (wL G p))))
   ·exact jaf (thE (thE (ibE (wE G p hb3))))
  rintro ⟨⟩ p s1 hw1
  refine thN (jai hw1 ?_)
  refine rg G ?_
  cases p
  exact rt [] []
def ylj : MS Network Bool := ⟨.r, zq6, fun y => dV y, fun _ => [], fun _ _ => []⟩
theorem yp7 : FnOK Tryz.prog tJ 41 ylj.S := by
 refine fm tt ylj [fo yfw, fo yo5, fo yop, fo yoq] call41 func41 rfl results41 ntmps41 ?_
 rintro n y cx G (p : zq6 n = some y)
 unfold zq6 at p
 refine rg G (jac ?_)
 obtain ⟨r, h, p⟩ := jae p
 refine jn p (fun v => ⟨[(1, .ref 16 0), (28, dV v)], [bX 16 27 [dV n.Stops, dV n.Lines]], 48⟩) (fun v p => ?_) ?_
 ·rcases bf p with ⟨hb, p⟩ | ⟨hb, p⟩
  ·refine re G (hN 2 n.Stops (hC 3 (ya1 h) (hO 5 (.b true) (hP hb h0)))) ?_
   exact wJ G p
  ·obtain ⟨r1, h1, p⟩ := jae p
   rcases bf p with ⟨hb1, p⟩ | ⟨hb1, p⟩
   ·refine re G (hN 2 n.Stops (hC 3 (ya1 h) (hO 5 (.b false) (hP hb (hN 8 n.Lines (hC 9 (ya1 h1) (hO 12 (.b true) (hP hb1 h0)))))))) ?_
    exact wJ G p
   ·obtain ⟨r2, h2, p⟩ := jae p
    rcases bf p with ⟨hb2, p⟩ | ⟨hb2, p⟩
    ·refine re G (hN 2 n.Stops (hC 3 (ya1 h) (hO 5 (.b false) (hP hb (hN 8 n.Lines (hC 9 (ya1 h1) (hO 12 (.b false) (hP hb1 (hC 15 (yet.c _ h2) (hO 18 (.b true) (hP hb2 h0))))))))))) ?_
     exact wJ G p
    ·obtain ⟨r3, h3, r4, h4, p⟩ := ob2 p
     refine re G (hN 2 n.Stops (hC 3 (ya1 h) (hO 5 (.b false) (hP hb (hN 8 n.Lines (hC 9 (ya1 h1) (hO 12 (.b false) (hP hb1 (hC 15 (yet.c _ h2) (hO 18 (.b false) (hP hb2 (hC 20 (yj5.c _ h3) (hC 21 (yet.c _ h4) h0))))))))))))) ?_
     exact wJ G p
 rintro v p
 refine cd p ?_ ?_ <;> intro p
 ·refine rg G ?_
  cases p
  exact rt [] []
 ·refine jad (thN (jac (rs G (hN 2 n.Lines h0) ?_)))
  refine tF p (fun _ => ⟨[], [], 32⟩) (fun v2 hr p => ?_) ?_
  ·refine jab (lp G p (fun v1 => ⟨[(1, .ref 16 0), (30, dV n.Lines), (31, dV (n.Lines.length : Int)), (32, dV v1)], [bX 16 27 [dV n.Stops, dV n.Lines]], 48⟩) ?_)
   rintro v1 r0 hb3 p
   rw [ygq] at p
   refine rg G (jac (cd p ?_ ?_)) <;> intro p
   ·refine jad (thN (jac (jab ?_)))
    obtain ⟨e, h5, p⟩ := jae p
    refine rs G (hD 0 h5 h0) ?_
    obtain ⟨r5, h6, p⟩ := jae p
    refine rs G (hC 2 (yj6.c (_, _) h6) h0) ?_
    refine cd p ?_ ?_ <;> intro p
    ·refine rg G ?_
     have p := eL p hb3 hr
     cases p
     exact rt [] []
    ·exact jad (ibN (thN (rh G (wL G p))))
   ·exact jaf (thE (thE (ibE (wE G p hb3))))
  rintro ⟨⟩ p s hw
  refine thN (jai hw ?_)
  refine rg G ?_
  cases p
  exact rt [] []
def yeq : MS (Network × Int) Bool := ⟨.x .r .r, fun x => zq19 x.1 x.2, fun y => dV y, fun _ => [], fun _ _ => []⟩
theorem yot : FnOK Tryz.prog tJ 75 yeq.S := by
 refine fm tt yeq [] call75 func75 rfl results75 ntmps75 ?_
 rintro ⟨n, line⟩ y cx G (p : zq19 n line = some y)
 unfold zq19 at p
 refine rg G (jn p (fun v => ⟨[(4, dV v)], [], 32⟩) (fun v p => ?_) ?_)
 ·rcases bf p with ⟨hb, p⟩ | ⟨hb, p⟩
  ·refine re G (hO 2 (.b true) (hP hb (hN 6 n.Lines h0))) ?_
   exact wJ G p
  ·refine re G (hO 2 (.b false) (hP hb h0)) ?_
   exact wJ G p
 rintro v p
 cases p
 exact rt [] []
def yi0 : MS Int Bool := ⟨.r, zq7, fun y => dV y, fun _ => [], fun _ _ => []⟩
theorem yp6 : FnOK Tryz.prog tJ 76 yi0.S := by
 refine fm tt yi0 [fo yfw] call76 func76 rfl results76 ntmps76 ?_
 rintro t y cx G (p : zq7 t = some y)
 unfold zq7 at p
 refine rg G ?_
 obtain ⟨r, h, p⟩ := jae p
 refine rs G (hC 1 (ya1 h) h0) ?_
 cases p
 exact rt [] []
def yj4 : MS ((List Int)) Int := ⟨.r, zq24, fun y => dV y, fun _ => [], fun _ _ => []⟩
theorem yoo : FnOK Tryz.prog tJ 104 yj4.S := by
 refine fm tt yj4 [] call104 func104 rfl results104 ntmps104 ?_
 rintro list y cx G (p : zq24 list = some y)
 unfold zq24 at p
 refine rg G (rg G (jac (rs G (hN 1 list h0) ?_)))
 refine tl p (fun v2 => ⟨[(3, dV v2)], [], 32⟩) (fun v2 p => ?_) ?_
 ·refine jab (lp G p (fun (v, v1) => ⟨[(3, dV v), (6, dV list), (7, dV (list.length : Int)), (8, dV v1)], [], 32⟩) ?_)
  rintro ⟨v, v1⟩ r0 hb p
  rw [ydo] at p
  refine rg G (jac (cd p ?_ ?_)) <;> intro p
  ·refine jad (thN (jac (jab ?_)))
   obtain ⟨e, h, p⟩ := jae p
   refine rs G (hD 0 h h0) ?_
   exact rh G (ibN (thN (rh G (wL G p))))
  ·exact jaf (thE (thE (ibE (wD G p hb))))
 rintro v2 p s hw
 refine thN (jai hw ?_)
 refine rg G ?_
 cases p
 exact rt [] []
def yj7 : MS (Timetable × Trip) Int := ⟨.x .r .r, fun x => zq17 x.1 x.2, fun y => dV y, fun _ => [], fun _ _ => []⟩
theorem yov : FnOK Tryz.prog tJ 77 yj7.S := by
 refine fm tt yj7 [fo yoo] call77 func77 rfl results77 ntmps77 ?_
 rintro ⟨t, x⟩ y cx G (p : zq17 t x = some y)
 unfold zq17 at p
 refine rg G ?_
 obtain ⟨e1, h2, r1, h3, p⟩ := ob2 p
 refine ds G [] (hD 7 h2 (hC 10 (yj4.c _ h3) h0)) ?_
 cases p
 exact rt [] []
def ykc : MS Timetable Bool := ⟨.r, zq11, fun y => dV y, fun _ => [], fun _ _ => []⟩
theorem yoz : FnOK Tryz.prog tJ 42 ykc.S := by
 refine fm tt ykc [fo yot, fo yp6, fo yov] call42 func42 rfl results42 ntmps42 ?_
 rintro t y cx G (p : zq11 t = some y)
 unfold zq11 at p
 refine rg G (jac (rs G (hN 2 t.Trips h0) ?_))
 refine cd p ?_ ?_ <;> intro p
 ·refine rg G ?_
  cases p
  exact rt [] []
 ·refine jad (thN (rg G (jac (rs G (hN 2 t.Trips h0) ?_))))
  refine tF p (fun _ => ⟨[], [], 32⟩) (fun v3 hr p => ?_) ?_
  ·refine jab (lp G p (fun (v, v1) => ⟨[(1, .ref 16 0), (3, dV v), (11, dV t.Trips), (12, dV (t.Trips.length : Int)), (13, dV v1)], [bX 16 30 [dV t.Network.Stops, dV t.Network.Lines, dV t.Trips]], 48⟩) ?_)
   rintro ⟨v, v1⟩ r0 hb p
   rw [yf4] at p
   refine rg G (jac (cd p ?_ ?_)) <;> intro p
   ·refine jad (thN (jac (jab ?_)))
    obtain ⟨e, h, p⟩ := jae p
    refine rs G (hD 0 h h0) ?_
    refine jac (jn p (fun v2 => ⟨[(1, .ref 16 0), (5, .ref 32 0), (11, dV t.Trips), (12, dV (t.Trips.length : Int)), (13, dV v1), (46, dV v2)], [bX 16 30 [dV t.Network.Stops, dV t.Network.Lines, dV t.Trips], bX 32 51 [dV e.Id, dV e.Line, dV e.Start]], 64⟩) (fun v2 p => ?_) ?_)
    ·rcases bf p with ⟨hb1, p⟩ | ⟨hb1, p⟩
     ·refine re G (hO 4 (.b true) (hP hb1 h0)) ?_
      exact wJ G p
     ·rcases bf p with ⟨hb2, p⟩ | ⟨hb2, p⟩
      ·refine re G (hO 4 (.b false) (hP hb1 (hO 9 (.b true) (hP hb2 h0)))) ?_
       exact wJ G p
      ·obtain ⟨r, h1, p⟩ := jae p
       rcases bf p with ⟨hb3, p⟩ | ⟨hb3, p⟩
       ·refine re G (hO 4 (.b false) (hP hb1 (hO 9 (.b false) (hP hb2 (hC 14 (yeq.c (_, _) h1) (hO 17 (.b true) (hP hb3 h0))))))) ?_
        exact wJ G p
       ·obtain ⟨r1, h2, p⟩ := jae p
        rcases bf p with ⟨hb4, p⟩ | ⟨hb4, p⟩
        ·refine re G (hO 4 (.b false) (hP hb1 (hO 9 (.b false) (hP hb2 (hC 14 (yeq.c (_, _) h1) (hO 17 (.b false) (hP hb3 (hC 20 (yi0.c _ h2) (hO 23 (.b true) (hP hb4 h0)))))))))) ?_
         exact wJ G p
        ·obtain ⟨r2, h3, r3, h4, p⟩ := ob2 p
         refine re G (hO 4 (.b false) (hP hb1 (hO 9 (.b false) (hP hb2 (hC 14 (yeq.c (_, _) h1) (hO 17 (.b false) (hP hb3 (hC 20 (yi0.c _ h2) (hO 23 (.b false) (hP hb4 (hC 26 (yj7.c (_, _) h3) (hC 27 (yi0.c _ h4) h0)))))))))))) ?_
         exact wJ G p
    rintro v2 p
    refine cd p ?_ ?_ <;> intro p
    ·refine rg G ?_
     have p := eL p hb hr
     cases p
     exact rt [] []
    ·exact jad (thN (rh G (ibN (thN (rh G (wL G p))))))
   ·exact jaf (thE (thE (ibE (wE G p hb))))
  rintro ⟨⟩ p s hw
  refine thN (jai hw ?_)
  refine rg G ?_
  cases p
  exact rt [] []
def ycr : MS Timetable Bool := ⟨.r, zq8, fun y => dV y, fun _ => [], fun _ _ => []⟩
theorem ygm : FnOK Tryz.prog tJ 19 ycr.S := by
 refine fm tt ycr [fo yp7, fo yoz] call19 func19 rfl results19 ntmps19 ?_
 rintro t y cx G (p : zq8 t = some y)
 unfold zq8 at p
 refine rg G ?_
 obtain ⟨r, h, p⟩ := jae p
 refine jn p (fun v => ⟨[(2, dV v)], [], 32⟩) (fun v p => ?_) ?_
 ·rcases bf p with ⟨hb, p⟩ | ⟨hb, p⟩
  ·obtain ⟨r1, h1, p⟩ := jae p
   refine re G (hC 2 (ylj.c _ h) (hO 3 (.b true) (hP hb (hC 5 (ykc.c _ h1) h0)))) ?_
   exact wJ G p
  ·refine re G (hC 2 (ylj.c _ h) (hO 3 (.b false) (hP hb h0))) ?_
   exact wJ G p
 rintro v p
 cases p
 exact rt [] []
def yce : MS ((List UInt8) × ByteArray) (Int × NilErr × (List UInt8)) := jga 72 5
theorem ylv : FnOK Tryz.prog tJ 43 yce.S := jji Tryz.lays166 Tryz.Builder_Extra_166 call43
def ykf : MS Int ByteArray := ⟨.r, ylz, fun y => dV y, fun _ => [], fun _ _ => []⟩
theorem yly : FnOK Tryz.prog tJ 44 ykf.S := jt9 Tryz.laysM171 call44 (g := 0) (by kernel_rfl)
def ykd : MS ((List UInt8) × UInt8) (NilErr × (List UInt8)) := jiv 72 5
theorem ylw : FnOK Tryz.prog tJ 45 ykd.S := jlo Tryz.lays167 Tryz.Builder_Extra_167 call45
def yke : MS ((List UInt8)) ByteArray := jjd 72 5
theorem ylx : FnOK Tryz.prog tJ 46 yke.S := jme Tryz.lays169 Tryz.Builder_Extra_169 call46
def yhc : MS Network ByteArray := ⟨.r, zq18, fun y => dV y, fun _ => [], fun _ _ => []⟩
theorem you : FnOK Tryz.prog tJ 20 yhc.S := by
 refine fm tt yhc [fo ylv, fo yly, fo ylw, fo ylx] call20 func20 rfl results20 ntmps20 ?_
 rintro n y cx G (p : zq18 n = some y)
 unfold zq18 at p
 refine rg G (rg G (jac (rs G (hN 2 n.Stops h0) ?_)))
 refine tl p (fun v2 => ⟨[(1, .ref 16 0), (3, .ref 32 0)], [bX 16 27 [dV n.Stops, dV n.Lines], (32, some (.bld 72 5 v2 32))], 64⟩) (fun v2 p => ?_) ?_
 ·refine jab (lpP p (fun (v, v1) => ⟨[(1, .ref 16 0), (3, .ref 32 0), (11, dV n.Stops), (12, dV (n.Stops.length : Int)), (13, dV v)], [bX 16 27 [dV n.Stops, dV n.Lines], (32, some (.bld 72 5 v1 32))], 64⟩) (Wk_J G.hL ⟨[(1, []), (3, []), (11, []), (12, []), (13, [])], [(16, 16, []), (32, 48, [.bd 5])], [], 64⟩ (by kernel_rfl)) ?_)
  rintro ⟨v, v1⟩ r0 hb p
  rw [ydt] at p
  refine rg G (jac (cd p ?_ ?_)) <;> intro p
  ·refine jad (thN (jac (jab ?_)))
   obtain ⟨e, h, p⟩ := jae p
   refine rs G (hD 0 h h0) ?_
   obtain ⟨u, h1, u1, h2, r, h3, p⟩ := ob3 p
   refine re G (hP (jdw (jcm h1)) (hP (jdw (jcm h2)) (hC 3 (yce.c (_, _) h3) h0))) ?_
   exact ibN (thN (rh G (wL G p)))
  ·exact jaf (thE (thE (ibE (wD G p hb))))
 rintro v2 p s hw
 refine thN (jai hw ?_)
 refine jac (rs G (hN 2 n.Lines h0) ?_)
 refine tl p (fun v9 => ⟨[(3, .ref 16 0)], [(16, some (.bld 72 5 v9 16))], 48⟩) (fun v9 p => ?_) ?_
 ·refine jab (lp G p (fun (v3, v4) => ⟨[(1, .ref 16 0), (3, .ref 32 0), (23, dV n.Lines), (24, dV (n.Lines.length : Int)), (25, dV v3)], [bX 16 27 [dV n.Stops, dV n.Lines], (32, some (.bld 72 5 v4 32))], 64⟩) ?_)
  rintro ⟨v3, v4⟩ r0 hb1 p
  rw [yfx] at p
  refine rg G (jac (cd p ?_ ?_)) <;> intro p
  ·refine jad (thN (jac (jab ?_)))
   obtain ⟨e1, h4, p⟩ := jae p
   refine rs G (hD 0 h4 h0) ?_
   obtain ⟨u2, h5, r1, h6, p⟩ := ob2 p
   refine rs G (hP (jdw (jcm h5)) (hC 3 (yce.c (_, _) h6) h0)) ?_
   refine jac (rs G (hN 2 e1.Stops h0) ?_)
   refine tl p (fun v8 => ⟨[(1, .ref 16 0), (3, .ref 32 0), (23, dV n.Lines), (24, dV (n.Lines.length : Int)), (25, dV v3)], [bX 16 27 [dV n.Stops, dV n.Lines], (32, some (.bld 72 5 v8 32))], 64⟩) (fun v8 p => ?_) ?_
   ·refine jab (lp G p (fun (v5, v6) => ⟨[(1, .ref 16 0), (3, .ref 32 0), (7, .ref 48 0), (23, dV n.Lines), (24, dV (n.Lines.length : Int)), (25, dV v3), (34, dV e1.Stops), (35, dV (e1.Stops.length : Int)), (36, dV v5)], [bX 16 27 [dV n.Stops, dV n.Lines], (32, some (.bld 72 5 v6 32)), bX 48 78 [dV e1.Name, dV e1.Stops, dV e1.Runs]], 80⟩) ?_)
    rintro ⟨v5, v6⟩ r0 hb2 p
    rw [yds] at p
    refine rg G (jac (cd p ?_ ?_)) <;> intro p
    ·refine jad (thN (jac (jab ?_)))
     obtain ⟨e2, h7, p⟩ := jae p
     refine rs G (hD 1 h7 h0) ?_
     refine jn p (fun v7 => ⟨[(1, .ref 16 0), (3, .ref 32 0), (7, .ref 48 0), (9, dV e2), (23, dV n.Lines), (24, dV (n.Lines.length : Int)), (25, dV v3), (34, dV e1.Stops), (35, dV (e1.Stops.length : Int)), (36, dV v5)], [bX 16 27 [dV n.Stops, dV n.Lines], (32, some (.bld 72 5 v7 32)), bX 48 78 [dV e1.Name, dV e1.Stops, dV e1.Runs]], 80⟩) (fun v7 p => ?_) ?_
     ·refine rg G (cd p ?_ ?_) <;> intro p
      ·obtain ⟨e3, h8, r2, h9, u3, h10, p⟩ := ob3 p
       obtain ⟨r3, h11, p⟩ := jae p
       refine re G (hD 4 h8 (hC 6 (ykf.c _ h9) (hP (jdw (jcm h10)) (hC 8 (yce.c (_, _) h11) h0)))) ?_
       exact wJ G p
      ·exact jad (wJ G p)
     rintro v7 p
     obtain ⟨e4, h12, u4, h13, r4, h14, p⟩ := ob3 p
     refine re G (hD 3 h12 (hP (jdw (jcm h13)) (hC 6 (yce.c (_, _) h14) h0))) ?_
     exact ibN (thN (rh G (wL G p)))
    ·exact jaf (thE (thE (ibE (wD G p hb2))))
   rintro v8 p s1 hw1
   refine thN (jai hw1 ?_)
   obtain ⟨r5, h15, p⟩ := jae p
   refine re G (hC 0 (ykd.c (_, _) h15) h0) ?_
   exact ibN (thN (rh G (wL G p)))
  ·exact jaf (thE (thE (ibE (wD G p hb1))))
 rintro v9 p s2 hw2
 refine thN (jai hw2 ?_)
 obtain ⟨r6, h16, p⟩ := jae p
 refine rs G (hC 0 (yke.c _ h16) h0) ?_
 cases p
 exact rt [] []
def yj2 : MS (Trip × Int) Bool := ⟨.x .r (.b 3), fun x => zq26 x.1 x.2, fun y => dV y, fun _ => [], fun x _ => [bxO 3 x.2]⟩
theorem yon : FnOK Tryz.prog tJ 48 yj2.S := by
 refine fm tt yj2 [] call48 func48 rfl results48 ntmps48 ?_
 rintro ⟨x, c1⟩ y cx G (p : zq26 x c1 = some y)
 unfold zq26 at p
 refine rg G (rg G ?_)
 cases p
 exact rt [] []
def yiy : MS ((List Trip) × Int) Int := ⟨⟨[.rd, .fn 48 [.bx]], fun x => [Enc.e x.1, .agg [.sc undef]], fun x => [bxO 3 x.2], 1, 1, fun _ => rfl, fun _ => rfl, rfl, (by
  rintro ⟨a0, a1⟩ ⟨b0, b1⟩ h hO
  have q0 : a0 = b0 := qI 0 h
  have q1 : a1 = b1 := Enc.inj _ _ (congrArg (fun l => (obD l 0).getD 0 (.sc undef)) hO)
  subst q0; subst q1; rfl)⟩, fun x => zq84 x.1 x.2, fun y => dV y, fun _ => [], fun x _ => [bxO 3 x.2]⟩
theorem ynk : FnOK Tryz.prog tJ 47 yiy.S := by
 refine fm tt yiy [fo yon] call47 func47 rfl results47 ntmps47 ?_
 rintro ⟨s, c1⟩ y cx G (p : zq84 s c1 = some y)
 obtain ⟨f, hf_f⟩ : ∃ q, (fun (z0 : Trip) => zq26 z0 c1) = q := ⟨_, rfl⟩
 have p : zq83 s f = some y := by rw [<- hf_f]; exact p
 unfold zq83 at p
 refine rg G (jac (rs G (hN 1 s h0) ?_))
 refine tF p (fun _ => ⟨[(1, .fn 48 [.ref 0 0])], [bX 0 3 [dV c1]], 48⟩) (fun v1 hr p => ?_) ?_
 ·refine jab (lp G p (fun v => ⟨[(0, dV s), (1, .fn 48 [.ref 0 0]), (7, dV (s.length : Int)), (8, dV v)], [bX 0 3 [dV c1]], 48⟩) ?_)
  rintro v r0 hb p
  rw [yc5] at p
  refine rg G (jac (cd p ?_ ?_)) <;> intro p
  ·refine jad (thN (jac (jab (rg G ?_))))
   obtain ⟨e, h, r, h1, p⟩ := ob2 p
   have h1 : zq26 e c1 = some r := by rw [<- hf_f] at h1; exact h1
   refine rs G (hD 3 h (hC 5 (yj2.c (_, _) h1) h0)) ?_
   refine cd p ?_ ?_ <;> intro p
   ·refine rg G ?_
    have p := eL p hb hr
    cases p
    exact rt [] []
   ·exact jad (ibN (thN (rh G (wL G p))))
  ·exact jaf (thE (thE (ibE (wE G p hb))))
 rintro ⟨⟩ p s1 hw
 refine thN (jai hw ?_)
 refine rg G ?_
 cases p
 exact rt [] []
def yep : MS (Timetable × Int) Int := ⟨.x .r .r, fun x => zq25 x.1 x.2, fun y => dV y, fun _ => [], fun _ _ => []⟩
theorem yj3 : FnOK Tryz.prog tJ 21 yep.S := by
 refine fm tt yep [fo ynk] call21 func21 rfl results21 ntmps21 ?_
 rintro ⟨t, id⟩ y cx G (p : zq25 t id = some y)
 unfold zq25 at p
 refine rg G ?_
 obtain ⟨r, h, p⟩ := jae p
 refine rs G (hC 3 (yiy.c (_, _) h) h0) ?_
 cases p
 exact rt [] []
def ylo : MS Int Bool := ⟨.r, zq1, fun y => dV y, fun _ => [], fun _ _ => []⟩
theorem yqc : FnOK Tryz.prog tJ 90 ylo.S := by
 refine fm tt ylo [] call90 func90 rfl results90 ntmps90 ?_
 rintro x y cx G (p : zq1 x = some y)
 unfold zq1 at p
 refine rg G (rg G ?_)
 cases p
 exact rt [] []
def ypb : MS (Int × Int) Int := ⟨.x .r .r, fun x => zq0 x.1 x.2, fun y => dV y, fun _ => [], fun _ _ => []⟩
theorem yqd : FnOK Tryz.prog tJ 51 ypb.S := by
 refine fm tt ypb [fo yqc] call51 func51 rfl results51 ntmps51 ?_
 rintro ⟨x, y_⟩ y cx G (p : zq0 x y_ = some y)
 unfold zq0 at p
 refine rg G ?_
 obtain ⟨r, h, p⟩ := jae p
 refine rs G (hC 1 (ylo.c _ h) h0) ?_
 obtain ⟨r1, h1, p⟩ := jae p
 refine rs G (hC 1 (ylo.c _ h1) h0) ?_
 refine jac (rg G (cd p ?_ ?_)) <;> intro p
 ·refine jac (rg G (cd p ?_ ?_)) <;> intro p
  ·refine rg G ?_
   cases p
   exact rt [] []
  ·refine jad (thN (rg G ?_))
   cases p
   exact rt [] []
 ·refine jad (thN (jac (rg G (cd p ?_ ?_)))) <;> intro p
  ·refine rg G ?_
   cases p
   exact rt [] []
  ·refine jad (thN (jac (rg G (cd p ?_ ?_)))) <;> intro p
   ·refine rg G ?_
    cases p
    exact rt [] []
   ·refine jad (thN (jac (rg G (cd p ?_ ?_)))) <;> intro p
    ·refine rg G ?_
     cases p
     exact rt [] []
    ·refine jad (thN (rg G ?_))
     cases p
     exact rt [] []
def yar : MS (Change × Change) Int := ⟨.x .r .r, fun x => zq13 x.1 x.2, fun y => dV y, fun _ => [], fun _ _ => []⟩
theorem ybc : FnOK Tryz.prog tJ 23 yar.S := by
 refine fm tt yar [fo yqd] call23 func23 rfl results23 ntmps23 ?_
 rintro ⟨a, b⟩ y cx G (p : zq13 a b = some y)
 unfold zq13 at p
 refine rg G ?_
 obtain ⟨r, h, p⟩ := jae p
 refine rs G (hC 6 (ypb.c (_, _) h) h0) ?_
 cases p
 exact rt [] []
def yjy : MS ((IK .u64)) Int := ⟨.r, zq31, fun y => dV y, fun _ => [], fun _ _ => []⟩
theorem yok : FnOK Tryz.prog tJ 89 yjy.S := by
 refine fm tt yjy [] call89 func89 rfl results89 ntmps89 ?_
 rintro x y cx G (p : zq31 x = some y)
 unfold zq31 at p
 refine rg G (jn p (fun (x1, v) => ⟨[(0, kV .u64 x1), (2, dV v)], [], 32⟩) (fun vv2 p => ?_) ?_)
 ·refine rg G (cd p ?_ ?_) <;> intro p
  ·obtain ⟨u, h, p⟩ := jae p
   refine rs G (hK h h0) ?_
   exact rh G (wJ G p)
  ·exact jad (wJ G p)
 rintro ⟨x1, v⟩ p
 refine jn p (fun (x2, v1) => ⟨[(0, kV .u64 x2), (2, dV v1)], [], 32⟩) (fun vv1 p => ?_) ?_
 ·refine rg G (cd p ?_ ?_) <;> intro p
  ·obtain ⟨u1, h1, p⟩ := jae p
   refine rs G (hK h1 h0) ?_
   exact rh G (wJ G p)
  ·exact jad (wJ G p)
 rintro ⟨x2, v1⟩ p
 refine jn p (fun (x3, v2) => ⟨[(0, kV .u64 x3), (2, dV v2)], [], 32⟩) (fun vv p => ?_) ?_
 ·refine rg G (cd p ?_ ?_) <;> intro p
  ·obtain ⟨u2, h2, p⟩ := jae p
   refine rs G (hK h2 h0) ?_
   exact rh G (wJ G p)
  ·exact jad (wJ G p)
 rintro ⟨x3, v2⟩ p
 obtain ⟨u3, h3, p⟩ := jae p
 refine rs G (hK h3 h0) ?_
 cases p
 exact rt [] []
def yg8 : MS ((IK .u64)) Int := ⟨.r, zq30, fun y => dV y, fun _ => [], fun _ _ => []⟩
theorem yjz : FnOK Tryz.prog tJ 50 yg8.S := by
 refine fm tt yg8 [fo yok] call50 func50 rfl results50 ntmps50 ?_
 rintro x y cx G (p : zq30 x = some y)
 unfold zq30 at p
 refine rg G (jac (cF (jad (thN ?_))))
 obtain ⟨r, h, p⟩ := jae p
 refine rs G (hC 1 (yjy.c _ h) h0) ?_
 cases p
 exact rt [] []
def yil : MS ((List Change) × Int × Int) ((List Change)) := ⟨⟨[.sl, .rd, .rd, .fn 23 []], fun x => [.sc undef, Enc.e x.2.1, Enc.e x.2.2, .agg []], fun x => [arO 56 x.1], 1, 1, fun _ => rfl, fun _ => rfl, rfl, (by
  rintro ⟨a0, a1, a2⟩ ⟨b0, b1, b2⟩ h hO
  have q0 : a0 = b0 := Enc.inj _ _ (congrArg (fun l => D.sl 5 (obL l 0)) hO)
  have q1 : a1 = b1 := qI 1 h
  have q2 : a2 = b2 := qI 2 h
  subst q0; subst q1; subst q2; rfl)⟩, fun x => zq97 x.1 x.2.1 x.2.2, fun _ => .tup [], fun _ => [], fun _ y => [arO 56 y]⟩
theorem ynb : FnOK Tryz.prog tJ 80 yil.S := by
 refine fm tt yil [fo ybc] call80 func80 rfl results80 ntmps80 ?_
 rintro ⟨data, a, b⟩ y cx G (p : zq97 data a b = some y)
 obtain ⟨cmp, hf_cmp⟩ : ∃ q, (fun (z0 : Change) (z1 : Change) => zq13 z0 z1) = q := ⟨_, rfl⟩
 have p : zq96 data a b cmp = some y := by rw [<- hf_cmp]; exact p
 unfold zq96 at p
 refine rg G (jab (lp G p (fun (v, data1) => ⟨[(0, .own 0), (1, dV a), (2, dV b), (3, .fn 23 []), (8, dV v)], [aX 0 56 data1], 48⟩) ?_))
 rintro ⟨v, data1⟩ r0 hb p
 rw [yim] at p
 refine jac (rg G (cd p ?_ ?_)) <;> intro p
 ·refine jad (thN (jac (jab (rg G (tl p (fun data3 => ⟨[(0, .own 0), (1, dV a), (2, dV b), (3, .fn 23 []), (8, dV v)], [aX 0 56 data3], 48⟩) (fun data3 p => ?_) ?_)))))
  ·refine jab (lp G p (fun (v1, data2) => ⟨[(0, .own 0), (1, dV a), (2, dV b), (3, .fn 23 []), (8, dV v), (9, dV v1)], [aX 0 56 data2], 48⟩) ?_)
   rintro ⟨v1, data2⟩ r0 hb1 p
   rw [yin] at p
   refine jac (jn p (fun v2 => ⟨[(0, .own 0), (1, dV a), (2, dV b), (3, .fn 23 []), (8, dV v), (9, dV v1), (34, dV v2)], [aX 0 56 data2], 48⟩) (fun v2 p => ?_) ?_)
   ·rcases bf p with ⟨hb2, p⟩ | ⟨hb2, p⟩
    ·obtain ⟨e2, h3, e3, h4, r1, h5, p⟩ := ob3 p
     have h5 : zq13 e2 e3 = some r1 := by rw [<- hf_cmp] at h5; exact h5
     refine de G [(14, [])] (hO 3 (.b true) (hP hb2 (hD 7 h3 (hE 8 h3 (hD 12 h4 (hE 13 h4 (hC 14 (yar.c (_, _) h5) h0))))))) ?_
     exact wJ G p
    ·refine de G [(14, [])] (hO 3 (.b false) (hP hb2 h0)) ?_
     exact wJ G p
   rintro v2 p
   refine cd p ?_ ?_ <;> intro p
   ·refine jad (thN (jac (jab ?_)))
    obtain ⟨e8, h10, e9, h11, e10, h12, p⟩ := ob3 p
    obtain ⟨e11, h13, p⟩ := jae p
    refine de G [(15, [0]), (17, [0])] (hD 8 h10 (hE 9 h10 (hD 12 h11 (hE 13 h11 (hD 14 h12 (hS 15 h12 e8 (hD 16 h13 (hS 17 h13 e9 h0)))))))) ?_
    exact ibN (thN (rh G (wL G p)))
   ·exact jaf (thE (thE (ibE (wD G p hb1))))
  rintro data3 p s hw
  refine ibN (thN (jai hw ?_))
  exact rh G (wL G p)
 ·have p := eD p hb
  refine jaf (thE (thE (ibE ?_)))
  cases p
  exact fN [] []
def ydz : MS ((List Change) × Int × Int × Int) ((List Change)) := ⟨⟨[.sl, .rd, .rd, .rd, .fn 23 []], fun x => [.sc undef, Enc.e x.2.1, Enc.e x.2.2.1, Enc.e x.2.2.2, .agg []], fun x => [arO 56 x.1], 1, 1, fun _ => rfl, fun _ => rfl, rfl, (by
  rintro ⟨a0, a1, a2, a3⟩ ⟨b0, b1, b2, b3⟩ h hO
  have q0 : a0 = b0 := Enc.inj _ _ (congrArg (fun l => D.sl 5 (obL l 0)) hO)
  have q1 : a1 = b1 := qI 1 h
  have q2 : a2 = b2 := qI 2 h
  have q3 : a3 = b3 := qI 3 h
  subst q0; subst q1; subst q2; subst q3; rfl)⟩, fun x => yl2 x.1 x.2.1 x.2.2.1 x.2.2.2, fun _ => .tup [], fun _ => [], fun _ y => [arO 56 y]⟩
theorem yl1 : FnOK Tryz.prog tJ 107 ydz.S := by
 refine fm tt ydz [fo ybc] call107 func107 rfl results107 ntmps107 ?_
 rintro ⟨data, lo, hi, first⟩ y cx G (p : yl2 data lo hi first = some y)
 obtain ⟨cmp, hf_cmp⟩ : ∃ q, (fun (z0 : Change) (z1 : Change) => zq13 z0 z1) = q := ⟨_, rfl⟩
 have p : ykg data lo hi first cmp = some y := by rw [<- hf_cmp]; exact p
 unfold ykg at p
 refine rg G (jab (lp G p (fun (v, data1) => ⟨[(0, .own 0), (2, dV hi), (3, dV first), (4, .fn 23 []), (10, dV v)], [aX 0 56 data1], 48⟩) ?_))
 rintro ⟨v, data1⟩ r0 hb p
 rw [yhd] at p
 refine jab (rg G (jac (rg G (cd p ?_ ?_)))) <;> intro p
 ·have p := eD p hb
  refine jaf (thE (ibX rfl (thE (ibE ?_))))
  cases p
  exact fN [] []
 ·refine jad (thN (jn p (fun v1 => ⟨[(0, .own 0), (2, dV hi), (3, dV first), (4, .fn 23 []), (10, dV v), (11, dV v1)], [aX 0 56 data1], 48⟩) (fun v1 p => ?_) ?_))
  ·refine jn p (fun v2 => ⟨[(0, .own 0), (2, dV hi), (3, dV first), (4, .fn 23 []), (10, dV v), (11, dV (w64 ((w64 (2 * v)) + 1))), (40, dV v2)], [aX 0 56 data1], 48⟩) (fun v2 p => ?_) ?_
   ·rcases bf p with ⟨hb1, p⟩ | ⟨hb1, p⟩
    ·obtain ⟨e3, h3, e4, h4, r2, h5, p⟩ := ob3 p
     have h5 : zq13 e3 e4 = some r2 := by rw [<- hf_cmp] at h5; exact h5
     refine de G [(19, [])] (hO 4 (.b true) (hP hb1 (hD 10 h3 (hE 11 h3 (hD 17 h4 (hE 18 h4 (hC 19 (yar.c (_, _) h5) h0))))))) ?_
     exact wJ G p
    ·refine de G [(19, [])] (hO 4 (.b false) (hP hb1 h0)) ?_
     exact wJ G p
   rintro v2 p
   refine cd p ?_ ?_ <;> intro p
   ·exact rh G (wJ G p)
   ·exact jad (wJ G p)
  rintro v1 p
  refine jac ?_
  obtain ⟨e7, h9, e8, h10, r4, h11, p⟩ := ob3 p
  have h11 : zq13 e7 e8 = some r4 := by rw [<- hf_cmp] at h11; exact h11
  refine ds G [(13, [])] (hD 5 h9 (hE 6 h9 (hD 11 h10 (hE 12 h10 (hC 13 (yar.c (_, _) h11) h0))))) ?_
  refine cd p ?_ ?_ <;> intro p
  ·have p := eD p hb
   cases p
   exact rt [] []
  ·refine jad (thN ?_)
   obtain ⟨e14, h16, e15, h17, e16, h18, p⟩ := ob3 p
   obtain ⟨e17, h19, p⟩ := jae p
   refine ds G [(21, [0]), (23, [0])] (hD 12 h16 (hE 13 h16 (hD 18 h17 (hE 19 h17 (hD 20 h18 (hS 21 h18 e14 (hD 22 h19 (hS 23 h19 e15 h0)))))))) ?_
   exact rh G (ibN (wL G p))
def yio : MS ((List Change) × Int × Int) ((List Change)) := ⟨⟨[.sl, .rd, .rd, .fn 23 []], fun x => [.sc undef, Enc.e x.2.1, Enc.e x.2.2, .agg []], fun x => [arO 56 x.1], 1, 1, fun _ => rfl, fun _ => rfl, rfl, (by
  rintro ⟨a0, a1, a2⟩ ⟨b0, b1, b2⟩ h hO
  have q0 : a0 = b0 := Enc.inj _ _ (congrArg (fun l => D.sl 5 (obL l 0)) hO)
  have q1 : a1 = b1 := qI 1 h
  have q2 : a2 = b2 := qI 2 h
  subst q0; subst q1; subst q2; rfl)⟩, fun x => zq95 x.1 x.2.1 x.2.2, fun _ => .tup [], fun _ => [], fun _ y => [arO 56 y]⟩
theorem ync : FnOK Tryz.prog tJ 81 yio.S := by
 refine fm tt yio [fo yl1] call81 func81 rfl results81 ntmps81 ?_
 rintro ⟨data, a, b⟩ y cx G (p : zq95 data a b = some y)
 obtain ⟨cmp, hf_cmp⟩ : ∃ q, (fun (z0 : Change) (z1 : Change) => zq13 z0 z1) = q := ⟨_, rfl⟩
 have p : zq94 data a b cmp = some y := by rw [<- hf_cmp]; exact p
 unfold zq94 at p
 refine rg G (rg G (rg G (jac ?_)))
 obtain ⟨u, h, p⟩ := jae p
 refine rs G (hK h h0) ?_
 refine tl p (fun data2 => ⟨[(0, .own 0), (3, .fn 23 []), (8, dV a), (9, kV .i64 0), (10, dV (w64 (b - a)))], [aX 0 56 data2], 48⟩) (fun data2 p => ?_) ?_
 ·refine jab (lp G p (fun (v, data1) => ⟨[(0, .own 0), (3, .fn 23 []), (8, dV a), (9, kV .i64 0), (10, dV (w64 (b - a))), (11, dV v)], [aX 0 56 data1], 48⟩) ?_)
  rintro ⟨v, data1⟩ r0 hb p
  rw [yiq] at p
  refine jac (rg G (cd p ?_ ?_)) <;> intro p
  ·refine jad (thN (jac (jab ?_)))
   obtain ⟨r, h1, p⟩ := jae p
   have h1 : yl2 data1 v (w64 (b - a)) a = some r := by rw [<- hf_cmp] at h1; exact h1
   refine re G (hC 5 (ydz.c (_, _, _, _) h1) h0) ?_
   exact ibN (thN (rh G (wL G p)))
  ·exact jaf (thE (thE (ibE (wD G p hb))))
 rintro data2 p s hw
 refine thN (jai hw ?_)
 refine rg G (jab (lp G p (fun (v1, data3) => ⟨[(0, .own 0), (3, .fn 23 []), (8, dV a), (9, kV .i64 0), (12, dV v1)], [aX 0 56 data3], 48⟩) ?_))
 rintro ⟨v1, data3⟩ r0 hb1 p
 rw [yip] at p
 refine jac (rg G (cd p ?_ ?_)) <;> intro p
 ·refine jad (thN (jac (jab ?_)))
  obtain ⟨e4, h6, e5, h7, e6, h8, p⟩ := ob3 p
  obtain ⟨e7, h9, p⟩ := jae p
  refine ds G [(17, [0]), (19, [0])] (hD 10 h6 (hE 11 h6 (hD 14 h7 (hE 15 h7 (hD 16 h8 (hS 17 h8 e4 (hD 18 h9 (hS 19 h9 e5 h0)))))))) ?_
  obtain ⟨r1, h10, p⟩ := jae p
  have h10 : yl2 ((data3.set a.toNat e4).set (w64 (a + v1)).toNat e5) 0 v1 a = some r1 := by rw [<- hf_cmp] at h10; exact h10
  refine re G (hC 5 (ydz.c (_, _, _, _) h10) h0) ?_
  exact ibN (thN (rh G (wL G p)))
 ·have p := eD p hb1
  refine jaf (thE (thE (ibE ?_)))
  cases p
  exact fN [] []
def ycg : MS ((List Change) × Int × Int × Int) (Int × Int × Int) := ⟨⟨[.rd, .rd, .rd, .bx, .fn 23 []], fun x => [Enc.e x.1, Enc.e x.2.1, Enc.e x.2.2.1, .sc undef, .agg []], fun x => [bxO 3 x.2.2.2], 1, 1, fun _ => rfl, fun _ => rfl, rfl, (by
  rintro ⟨a0, a1, a2, a3⟩ ⟨b0, b1, b2, b3⟩ h hO
  have q0 : a0 = b0 := qI 0 h
  have q1 : a1 = b1 := qI 1 h
  have q2 : a2 = b2 := qI 2 h
  have q3 : a3 = b3 := Enc.inj _ _ (congrArg (fun l => (obD l 0).getD 0 (.sc undef)) hO)
  subst q0; subst q1; subst q2; subst q3; rfl)⟩, fun x => yki x.1 x.2.1 x.2.2.1 x.2.2.2, fun y => .tup [dV y.1, dV y.2.1], fun _ => [], fun _ y => [bxO 3 y.2.2]⟩
theorem yl9 : FnOK Tryz.prog tJ 120 ycg.S := by
 refine fm tt ycg [fo ybc] call120 func120 rfl results120 ntmps120 ?_
 rintro ⟨data, a, b, swaps⟩ y cx G (p : yki data a b swaps = some y)
 obtain ⟨cmp, hf_cmp⟩ : ∃ q, (fun (z0 : Change) (z1 : Change) => zq13 z0 z1) = q := ⟨_, rfl⟩
 have p : yic data a b swaps cmp = some y := by rw [<- hf_cmp]; exact p
 unfold yic at p
 refine rg G (jac ?_)
 obtain ⟨e2, h3, e3, h4, r1, h5, p⟩ := ob3 p
 have h5 : zq13 e2 e3 = some r1 := by rw [<- hf_cmp] at h5; exact h5
 refine ds G [(9, [])] (hD 3 h3 (hD 7 h4 (hC 9 (yar.c (_, _) h5) h0))) ?_
 refine cd p ?_ ?_ <;> intro p
 ·refine rg G (rg G ?_)
  cases p
  exact rt [] []
 ·refine jad (thN (rg G ?_))
  cases p
  exact rt [] []
def yd2 : MS ((List Change) × Int × Int × Int × Int) (Int × Int) := ⟨⟨[.rd, .rd, .rd, .rd, .bx, .fn 23 []], fun x => [Enc.e x.1, Enc.e x.2.1, Enc.e x.2.2.1, Enc.e x.2.2.2.1, .sc undef, .agg []], fun x => [bxO 3 x.2.2.2.2], 1, 1, fun _ => rfl, fun _ => rfl, rfl, (by
  rintro ⟨a0, a1, a2, a3, a4⟩ ⟨b0, b1, b2, b3, b4⟩ h hO
  have q0 : a0 = b0 := qI 0 h
  have q1 : a1 = b1 := qI 1 h
  have q2 : a2 = b2 := qI 2 h
  have q3 : a3 = b3 := qI 3 h
  have q4 : a4 = b4 := Enc.inj _ _ (congrArg (fun l => (obD l 0).getD 0 (.sc undef)) hO)
  subst q0; subst q1; subst q2; subst q3; subst q4; rfl)⟩, fun x => ymb x.1 x.2.1 x.2.2.1 x.2.2.2.1 x.2.2.2.2, fun y => dV y.1, fun _ => [], fun _ y => [bxO 3 y.2]⟩
theorem yht : FnOK Tryz.prog tJ 111 yd2.S := by
 refine fm tt yd2 [fo yl9] call111 func111 rfl results111 ntmps111 ?_
 rintro ⟨data, a, b, c, swaps⟩ y cx G (p : ymb data a b c swaps = some y)
 obtain ⟨cmp, hf_cmp⟩ : ∃ q, (fun (z0 : Change) (z1 : Change) => zq13 z0 z1) = q := ⟨_, rfl⟩
 have p : ykj data a b c swaps cmp = some y := by rw [<- hf_cmp]; exact p
 unfold ykj at p
 refine rg G ?_
 obtain ⟨r, h, p⟩ := jae p
 have h : yki data a b swaps = some r := by rw [<- hf_cmp] at h; exact h
 refine rs G (hC 5 (ycg.c (_, _, _, _) h) h0) ?_
 obtain ⟨r1, h1, p⟩ := jae p
 have h1 : yki data r.2.1 c r.2.2 = some r1 := by rw [<- hf_cmp] at h1; exact h1
 refine rs G (hC 5 (ycg.c (_, _, _, _) h1) h0) ?_
 obtain ⟨r2, h2, p⟩ := jae p
 have h2 : yki data r.1 r1.1 r1.2.2 = some r2 := by rw [<- hf_cmp] at h2; exact h2
 refine rs G (hC 5 (ycg.c (_, _, _, _) h2) h0) ?_
 refine rg G ?_
 cases p
 exact rt [] []
def yeg : MS ((List Change) × Int × Int) (Int × Int) := ⟨⟨[.rd, .rd, .bx, .fn 23 []], fun x => [Enc.e x.1, Enc.e x.2.1, .sc undef, .agg []], fun x => [bxO 3 x.2.2], 1, 1, fun _ => rfl, fun _ => rfl, rfl, (by
  rintro ⟨a0, a1, a2⟩ ⟨b0, b1, b2⟩ h hO
  have q0 : a0 = b0 := qI 0 h
  have q1 : a1 = b1 := qI 1 h
  have q2 : a2 = b2 := Enc.inj _ _ (congrArg (fun l => (obD l 0).getD 0 (.sc undef)) hO)
  subst q0; subst q1; subst q2; rfl)⟩, fun x => zq99 x.1 x.2.1 x.2.2, fun y => dV y.1, fun _ => [], fun _ y => [bxO 3 y.2]⟩
theorem yna : FnOK Tryz.prog tJ 110 yeg.S := by
 refine fm tt yeg [fo yht] call110 func110 rfl results110 ntmps110 ?_
 rintro ⟨data, a, swaps⟩ y cx G (p : zq99 data a swaps = some y)
 obtain ⟨cmp, hf_cmp⟩ : ∃ q, (fun (z0 : Change) (z1 : Change) => zq13 z0 z1) = q := ⟨_, rfl⟩
 have p : zq98 data a swaps cmp = some y := by rw [<- hf_cmp]; exact p
 unfold zq98 at p
 refine rg G ?_
 obtain ⟨r, h, p⟩ := jae p
 have h : ymb data (w64 (a - 1)) a (w64 (a + 1)) swaps = some r := by rw [<- hf_cmp] at h; exact h
 refine rs G (hC 8 (yd2.c (_, _, _, _, _) h) h0) ?_
 cases p
 exact rt [] []
def yir : MS ((List Change) × Int × Int) (Int × Int) := ⟨⟨[.rd, .rd, .rd, .fn 23 []], fun x => [Enc.e x.1, Enc.e x.2.1, Enc.e x.2.2, .agg []], fun x => [], 0, 0, fun _ => rfl, fun _ => rfl, rfl, (by
  rintro ⟨a0, a1, a2⟩ ⟨b0, b1, b2⟩ h hO
  have q0 : a0 = b0 := qI 0 h
  have q1 : a1 = b1 := qI 1 h
  have q2 : a2 = b2 := qI 2 h
  subst q0; subst q1; subst q2; rfl)⟩, fun x => zq93 x.1 x.2.1 x.2.2, fun y => .tup [dV y.1, dV y.2], fun _ => [], fun _ _ => []⟩
theorem ynd : FnOK Tryz.prog tJ 83 yir.S := by
 refine fm tt yir [fo yna, fo yht] call83 func83 rfl results83 ntmps83 ?_
 rintro ⟨data, a, b⟩ y cx G (p : zq93 data a b = some y)
 obtain ⟨cmp, hf_cmp⟩ : ∃ q, (fun (z0 : Change) (z1 : Change) => zq13 z0 z1) = q := ⟨_, rfl⟩
 have p : zq92 data a b cmp = some y := by rw [<- hf_cmp]; exact p
 unfold zq92 at p
 refine rg G (rg G (rg G ?_))
 obtain ⟨u, h, p⟩ := jae p
 refine rs G (hK h h0) ?_
 obtain ⟨u1, h1, p⟩ := jae p
 refine rs G (hK h1 h0) ?_
 obtain ⟨u2, h2, p⟩ := jae p
 refine rs G (hK h2 h0) ?_
 refine jn p (fun (v, v1) => ⟨[(3, .fn 23 []), (11, .ref 16 0), (13, dV v)], [bX 16 3 [dV v1]], 48⟩) (fun vv1 p => ?_) ?_
 ·refine rg G (cd p ?_ ?_) <;> intro p
  ·refine jn p (fun (v2, v3, v4, v5) => ⟨[(0, dV data), (3, .fn 23 []), (11, .ref 16 0), (12, dV v2), (13, dV v3), (14, dV v4)], [bX 16 3 [dV v5]], 48⟩) (fun vv p => ?_) ?_
   ·refine rg G (cd p ?_ ?_) <;> intro p
    ·obtain ⟨r, h3, p⟩ := jae p
     have h3 : zq99 data (w64 (a + (w64 ((w64 ((w64 (b - a)).tdiv 4)) * 1)))) 0 = some r := by rw [<- hf_cmp] at h3; exact h3
     refine rs G (hC 3 (yeg.c (_, _, _) h3) h0) ?_
     obtain ⟨r1, h4, p⟩ := jae p
     have h4 : zq99 data (w64 (a + (w64 ((w64 ((w64 (b - a)).tdiv 4)) * 2)))) r.2 = some r1 := by rw [<- hf_cmp] at h4; exact h4
     refine rs G (hC 3 (yeg.c (_, _, _) h4) h0) ?_
     obtain ⟨r2, h5, p⟩ := jae p
     have h5 : zq99 data (w64 (a + (w64 ((w64 ((w64 (b - a)).tdiv 4)) * 3)))) r1.2 = some r2 := by rw [<- hf_cmp] at h5; exact h5
     refine re G (hC 3 (yeg.c (_, _, _) h5) h0) ?_
     exact wJ G p
    ·exact jad (wJ G p)
   rintro ⟨v2, v3, v4, v5⟩ p
   obtain ⟨r3, h6, p⟩ := jae p
   have h6 : ymb data v2 v3 v4 v5 = some r3 := by rw [<- hf_cmp] at h6; exact h6
   refine re G (hC 5 (yd2.c (_, _, _, _, _) h6) h0) ?_
   exact wJ G p
  ·exact jad (wJ G p)
 rintro ⟨v, v1⟩ p
 refine rg G (jab (rg G (cd p ?_ ?_))) <;> intro p
 ·refine rg G ?_
  cases p
  exact rt [] []
 ·refine rg G (cd p ?_ ?_) <;> intro p
  ·refine rg G ?_
   cases p
   exact rt [] []
  ·refine rg G ?_
   cases p
   exact rt [] []
def yf6 : MS ((List Change) × Int × Int) ((List Change)) := ⟨⟨[.sl, .rd, .rd, .fn 23 []], fun x => [.sc undef, Enc.e x.2.1, Enc.e x.2.2, .agg []], fun x => [arO 56 x.1], 1, 1, fun _ => rfl, fun _ => rfl, rfl, (by
  rintro ⟨a0, a1, a2⟩ ⟨b0, b1, b2⟩ h hO
  have q0 : a0 = b0 := Enc.inj _ _ (congrArg (fun l => D.sl 5 (obL l 0)) hO)
  have q1 : a1 = b1 := qI 1 h
  have q2 : a2 = b2 := qI 2 h
  subst q0; subst q1; subst q2; rfl)⟩, fun x => yo1 x.1 x.2.1 x.2.2, fun _ => .tup [], fun _ => [], fun _ y => [arO 56 y]⟩
theorem yl3 : FnOK Tryz.prog tJ 84 yf6.S := by
 refine fm tt yf6 [] call84 func84 rfl results84 ntmps84 ?_
 rintro ⟨data, a, b⟩ y cx G (p : yo1 data a b = some y)
 obtain ⟨cmp, hf_cmp⟩ : ∃ q, (fun (z0 : Change) (z1 : Change) => zq13 z0 z1) = q := ⟨_, rfl⟩
 have p : yo2 data a b cmp = some y := by rw [<- hf_cmp]; exact p
 unfold yo2 at p
 refine rg G (rg G (jab (lp G p (fun (v, v1, data1) => ⟨[(0, .own 0), (3, .fn 23 []), (8, dV v), (9, dV v1)], [aX 0 56 data1], 48⟩) ?_)))
 rintro ⟨v, v1, data1⟩ r0 hb p
 rw [yhe] at p
 refine jac (rg G (cd p ?_ ?_)) <;> intro p
 ·refine jad (thN (jab ?_))
  obtain ⟨e4, h4, e5, h5, e6, h6, p⟩ := ob3 p
  obtain ⟨e7, h7, p⟩ := jae p
  refine ds G [(13, [0]), (15, [0])] (hD 6 h4 (hE 7 h4 (hD 10 h5 (hE 11 h5 (hD 12 h6 (hS 13 h6 e4 (hD 14 h7 (hS 15 h7 e5 h0)))))))) ?_
  exact rg G (rh G (ibN (wL G p)))
 ·have p := eD p hb
  refine jaf (thE (thE (ibE ?_)))
  cases p
  exact fN [] []
def yga : MS ((List Change) × Int × Int) (Bool × (List Change)) := ⟨⟨[.sl, .rd, .rd, .fn 23 []], fun x => [.sc undef, Enc.e x.2.1, Enc.e x.2.2, .agg []], fun x => [arO 56 x.1], 1, 1, fun _ => rfl, fun _ => rfl, rfl, (by
  rintro ⟨a0, a1, a2⟩ ⟨b0, b1, b2⟩ h hO
  have q0 : a0 = b0 := Enc.inj _ _ (congrArg (fun l => D.sl 5 (obL l 0)) hO)
  have q1 : a1 = b1 := qI 1 h
  have q2 : a2 = b2 := qI 2 h
  subst q0; subst q1; subst q2; rfl)⟩, fun x => yo9 x.1 x.2.1 x.2.2, fun y => dV y.1, fun _ => [], fun _ y => [arO 56 y.2]⟩
theorem yl8 : FnOK Tryz.prog tJ 85 yga.S := by
 refine fm tt yga [fo ybc] call85 func85 rfl results85 ntmps85 ?_
 rintro ⟨data, a, b⟩ y cx G (p : yo9 data a b = some y)
 obtain ⟨cmp, hf_cmp⟩ : ∃ q, (fun (z0 : Change) (z1 : Change) => zq13 z0 z1) = q := ⟨_, rfl⟩
 have p : ypa data a b cmp = some y := by rw [<- hf_cmp]; exact p
 unfold ypa at p
 refine rg G (rg G (jac (rg G (tF p (fun data8 => ⟨[(0, .own 0), (3, .fn 23 [])], [aX 0 56 data8], 48⟩) (fun v9 hr p => ?_) ?_))))
 ·refine jab (lp G p (fun (v, v1, data1) => ⟨[(0, .own 0), (1, dV a), (2, dV b), (3, .fn 23 []), (9, dV v), (10, dV v1)], [aX 0 56 data1], 48⟩) ?_)
  rintro ⟨v, v1, data1⟩ r0 hb p
  rw [yhp] at p
  refine jac (rg G (cd p ?_ ?_)) <;> intro p
  ·refine jad (thN (jF p (fun (v2, data2) => ⟨[(0, .own 0), (1, dV a), (2, dV b), (3, .fn 23 []), (9, dV v2), (10, dV v1)], [aX 0 56 data2], 48⟩) (fun v8 hr1 p => ?_) ?_))
   ·refine jab (jn p (fun v5 => ⟨[(0, .own 0), (1, dV a), (2, dV b), (3, .fn 23 []), (9, dV v5), (10, dV v1)], [aX 0 56 data1], 48⟩) (fun v5 p => ?_) ?_)
    ·refine jab (lp G p (fun v3 => ⟨[(0, .own 0), (1, dV a), (2, dV b), (3, .fn 23 []), (9, dV v3), (10, dV v1)], [aX 0 56 data1], 48⟩) ?_)
     rintro v3 r0 hb1 p
     rw [yhs] at p
     refine jac (jn p (fun v4 => ⟨[(0, .own 0), (1, dV a), (2, dV b), (3, .fn 23 []), (9, dV v3), (10, dV v1), (36, dV v4)], [aX 0 56 data1], 48⟩) (fun v4 p => ?_) ?_)
     ·rcases bf p with ⟨hb2, p⟩ | ⟨hb2, p⟩
      ·obtain ⟨e2, h3, e3, h4, r1, h5, p⟩ := ob3 p
       have h5 : zq13 e2 e3 = some r1 := by rw [<- hf_cmp] at h5; exact h5
       refine de G [(14, [])] (hO 3 (.b true) (hP hb2 (hD 7 h3 (hE 8 h3 (hD 12 h4 (hE 13 h4 (hC 14 (yar.c (_, _) h5) h0))))))) ?_
       exact wJ G p
      ·refine de G [(14, [])] (hO 3 (.b false) (hP hb2 h0)) ?_
       exact wJ G p
     rintro v4 p
     refine cd p ?_ ?_ <;> intro p
     ·exact jad (thN (jab (rh G (ibN (wL G p)))))
     ·exact jaf (thE (thE (ibE (wD G p hb1))))
    rintro v5 p
    refine jac (rg G (cd p ?_ ?_)) <;> intro p
    ·refine rg G ?_
     have p := eR p hr1
     have p := eL p hb hr
     cases p
     exact rt [] []
    ·refine jad (thN (jac (rg G (cd p ?_ ?_)))) <;> intro p
     ·refine rg G ?_
      have p := eR p hr1
      have p := eL p hb hr
      cases p
      exact rt [] []
     ·refine jad (thN ?_)
      obtain ⟨e12, h10, e13, h11, e14, h12, p⟩ := ob3 p
      obtain ⟨e15, h13, p⟩ := jae p
      refine ds G [(15, [0]), (17, [0])] (hD 8 h10 (hE 9 h10 (hD 12 h11 (hE 13 h11 (hD 14 h12 (hS 15 h12 e12 (hD 16 h13 (hS 17 h13 e13 h0)))))))) ?_
      refine jn p (fun data3 => ⟨[(0, .own 0), (1, dV a), (2, dV b), (3, .fn 23 []), (9, dV v5), (10, dV v1)], [aX 0 56 data3], 48⟩) (fun data3 p => ?_) ?_
      ·refine rg G (cd p ?_ ?_) <;> intro p
       ·refine rg G (tl p (fun data5 => ⟨[(0, .own 0), (1, dV a), (2, dV b), (3, .fn 23 []), (9, dV v5), (10, dV v1)], [aX 0 56 data5], 48⟩) (fun data5 p => ?_) ?_)
        ·refine jab (lp G p (fun (v6, data4) => ⟨[(0, .own 0), (1, dV a), (2, dV b), (3, .fn 23 []), (9, dV v5), (10, dV v1), (11, dV v6)], [aX 0 56 data4], 48⟩) ?_)
         rintro ⟨v6, data4⟩ r0 hb3 p
         rw [yhr] at p
         refine jac (rg G (cd p ?_ ?_)) <;> intro p
         ·refine jad (thN (jac (jab (jac ?_))))
          obtain ⟨e18, h17, e19, h18, r7, h19, p⟩ := ob3 p
          have h19 : zq13 e18 e19 = some r7 := by rw [<- hf_cmp] at h19; exact h19
          refine ds G [(10, [])] (hD 3 h17 (hE 4 h17 (hD 8 h18 (hE 9 h18 (hC 10 (yar.c (_, _) h19) h0))))) ?_
          refine cd p ?_ ?_ <;> intro p
          ·exact jaf (thE (ibX rfl (thE (thE (ibE (wD G p hb3))))))
          ·refine jad (thN ?_)
           obtain ⟨e24, h24, e25, h25, e26, h26, p⟩ := ob3 p
           obtain ⟨e27, h27, p⟩ := jae p
           refine de G [(15, [0]), (17, [0])] (hD 8 h24 (hE 9 h24 (hD 12 h25 (hE 13 h25 (hD 14 h26 (hS 15 h26 e24 (hD 16 h27 (hS 17 h27 e25 h0)))))))) ?_
           exact ibN (thN (rh G (wL G p)))
         ·exact jaf (thE (thE (ibE (wD G p hb3))))
        rintro data5 p s hw
        exact wJp p (Wk.trans hw (Wk_J G.hL ⟨[(0, []), (1, []), (2, []), (3, []), (9, []), (10, [])], [(0, 0, [])], [], 48⟩ (by kernel_rfl)))
       ·exact jad (wJ G p)
      rintro data3 p
      refine rg G (cd p ?_ ?_) <;> intro p
      ·refine rg G (tl p (fun data7 => ⟨[(0, .own 0), (1, dV a), (2, dV b), (3, .fn 23 []), (9, dV v5), (10, dV v1)], [aX 0 56 data7], 48⟩) (fun data7 p => ?_) ?_)
       ·refine jab (lp G p (fun (v7, data6) => ⟨[(0, .own 0), (1, dV a), (2, dV b), (3, .fn 23 []), (9, dV v5), (10, dV v1), (12, dV v7)], [aX 0 56 data6], 48⟩) ?_)
        rintro ⟨v7, data6⟩ r0 hb4 p
        rw [yhq] at p
        refine jac (rg G (cd p ?_ ?_)) <;> intro p
        ·refine jad (thN (jac (jab (jac ?_))))
         obtain ⟨e30, h31, e31, h32, r9, h33, p⟩ := ob3 p
         have h33 : zq13 e30 e31 = some r9 := by rw [<- hf_cmp] at h33; exact h33
         refine ds G [(10, [])] (hD 3 h31 (hE 4 h31 (hD 8 h32 (hE 9 h32 (hC 10 (yar.c (_, _) h33) h0))))) ?_
         refine cd p ?_ ?_ <;> intro p
         ·exact jaf (thE (ibX rfl (thE (thE (ibE (wD G p hb4))))))
         ·refine jad (thN ?_)
          obtain ⟨e36, h38, e37, h39, e38, h40, p⟩ := ob3 p
          obtain ⟨e39, h41, p⟩ := jae p
          refine de G [(15, [0]), (17, [0])] (hD 8 h38 (hE 9 h38 (hD 12 h39 (hE 13 h39 (hD 14 h40 (hS 15 h40 e36 (hD 16 h41 (hS 17 h41 e37 h0)))))))) ?_
          exact ibN (thN (rh G (wL G p)))
        ·exact jaf (thE (thE (ibE (wD G p hb4))))
       rintro data7 p s1 hw1
       exact ibN (wFp p (Wk.trans hw1 (Wk_J G.hL ⟨[(0, []), (1, []), (2, []), (3, []), (9, []), (10, [])], [(0, 0, [])], [], 48⟩ (by kernel_rfl))))
      ·exact jad (ibN (wF G p))
   rintro ⟨v2, data2⟩ p
   exact rh G (wL G p)
  ·exact jaf (thE (thE (ibE (wE G p hb))))
 rintro data8 p s2 hw2
 refine thN (jai hw2 ?_)
 refine rg G ?_
 cases p
 exact rt [] []
def yf8 : MS ((List Change) × Int × Int × Int) (Int × (List Change)) := ⟨⟨[.sl, .rd, .rd, .rd, .fn 23 []], fun x => [.sc undef, Enc.e x.2.1, Enc.e x.2.2.1, Enc.e x.2.2.2, .agg []], fun x => [arO 56 x.1], 1, 1, fun _ => rfl, fun _ => rfl, rfl, (by
  rintro ⟨a0, a1, a2, a3⟩ ⟨b0, b1, b2, b3⟩ h hO
  have q0 : a0 = b0 := Enc.inj _ _ (congrArg (fun l => D.sl 5 (obL l 0)) hO)
  have q1 : a1 = b1 := qI 1 h
  have q2 : a2 = b2 := qI 2 h
  have q3 : a3 = b3 := qI 3 h
  subst q0; subst q1; subst q2; subst q3; rfl)⟩, fun x => yo4 x.1 x.2.1 x.2.2.1 x.2.2.2, fun y => dV y.1, fun _ => [], fun _ y => [arO 56 y.2]⟩
theorem yl6 : FnOK Tryz.prog tJ 86 yf8.S := by
 refine fm tt yf8 [fo ybc] call86 func86 rfl results86 ntmps86 ?_
 rintro ⟨data, a, b, pivot⟩ y cx G (p : yo4 data a b pivot = some y)
 obtain ⟨cmp, hf_cmp⟩ : ∃ q, (fun (z0 : Change) (z1 : Change) => zq13 z0 z1) = q := ⟨_, rfl⟩
 have p : yo6 data a b pivot cmp = some y := by rw [<- hf_cmp]; exact p
 unfold yo6 at p
 refine rg G ?_
 obtain ⟨e4, h4, e5, h5, e6, h6, p⟩ := ob3 p
 obtain ⟨e7, h7, p⟩ := jae p
 refine ds G [(13, [0]), (15, [0])] (hD 6 h4 (hE 7 h4 (hD 10 h5 (hE 11 h5 (hD 12 h6 (hS 13 h6 e4 (hD 14 h7 (hS 15 h7 e5 h0)))))))) ?_
 refine rg G (jn p (fun (v8, data2) => ⟨[(0, .own 0), (4, .fn 23 []), (11, dV v8)], [aX 0 56 data2], 48⟩) (fun vv p => ?_) ?_)
 ·refine jab (lp G p (fun (v, v1, data1) => ⟨[(0, .own 0), (1, dV a), (4, .fn 23 []), (11, dV v), (12, dV v1)], [aX 0 56 data1], 48⟩) ?_)
  rintro ⟨v, v1, data1⟩ r0 hb p
  rw [yhh] at p
  refine jab (jn p (fun v4 => ⟨[(0, .own 0), (1, dV a), (4, .fn 23 []), (11, dV v4), (12, dV v1)], [aX 0 56 data1], 48⟩) (fun v4 p => ?_) ?_)
  ·refine jab (lp G p (fun v2 => ⟨[(0, .own 0), (1, dV a), (4, .fn 23 []), (11, dV v2), (12, dV v1)], [aX 0 56 data1], 48⟩) ?_)
   rintro v2 r0 hb1 p
   rw [yhj] at p
   refine jac (jn p (fun v3 => ⟨[(0, .own 0), (1, dV a), (4, .fn 23 []), (11, dV v2), (12, dV v1), (47, dV v3)], [aX 0 56 data1], 48⟩) (fun v3 p => ?_) ?_)
   ·rcases bf p with ⟨hb2, p⟩ | ⟨hb2, p⟩
    ·obtain ⟨e10, h11, e11, h12, r1, h13, p⟩ := ob3 p
     have h13 : zq13 e10 e11 = some r1 := by rw [<- hf_cmp] at h13; exact h13
     refine de G [(13, [])] (hO 3 (.b true) (hP hb2 (hD 7 h11 (hE 8 h11 (hD 11 h12 (hE 12 h12 (hC 13 (yar.c (_, _) h13) h0))))))) ?_
     exact wJ G p
    ·refine de G [(13, [])] (hO 3 (.b false) (hP hb2 h0)) ?_
     exact wJ G p
   rintro v3 p
   refine cd p ?_ ?_ <;> intro p
   ·exact jad (thN (jab (rh G (ibN (wL G p)))))
   ·exact jaf (thE (thE (ibE (wD G p hb1))))
  rintro v4 p
  refine jn p (fun v7 => ⟨[(0, .own 0), (1, dV a), (4, .fn 23 []), (11, dV v4), (12, dV v7)], [aX 0 56 data1], 48⟩) (fun v7 p => ?_) ?_
  ·refine jab (lp G p (fun v5 => ⟨[(0, .own 0), (1, dV a), (4, .fn 23 []), (11, dV v4), (12, dV v5)], [aX 0 56 data1], 48⟩) ?_)
   rintro v5 r0 hb3 p
   rw [yhi] at p
   refine jac (jn p (fun v6 => ⟨[(0, .own 0), (1, dV a), (4, .fn 23 []), (11, dV v4), (12, dV v5), (65, dV v6)], [aX 0 56 data1], 48⟩) (fun v6 p => ?_) ?_)
   ·rcases bf p with ⟨hb4, p⟩ | ⟨hb4, p⟩
    ·obtain ⟨e14, h17, e15, h18, r3, h19, p⟩ := ob3 p
     have h19 : zq13 e14 e15 = some r3 := by rw [<- hf_cmp] at h19; exact h19
     refine de G [(13, [])] (hO 3 (.b true) (hP hb4 (hD 7 h17 (hE 8 h17 (hD 11 h18 (hE 12 h18 (hC 13 (yar.c (_, _) h19) h0))))))) ?_
     exact wJ G p
    ·refine de G [(13, [])] (hO 3 (.b false) (hP hb4 h0)) ?_
     exact wJ G p
   rintro v6 p
   refine cd p ?_ ?_ <;> intro p
   ·exact jad (thN (jab (rh G (ibN (wL G p)))))
   ·exact jaf (thE (thE (ibE (wD G p hb3))))
  rintro v7 p
  refine jac (rg G (cd p ?_ ?_)) <;> intro p
  ·exact jaf (thE (ibX rfl (thE (ibE (wD G p hb)))))
  ·refine jad (thN ?_)
   obtain ⟨e20, h24, e21, h25, e22, h26, p⟩ := ob3 p
   obtain ⟨e23, h27, p⟩ := jae p
   refine ds G [(13, [0]), (15, [0])] (hD 6 h24 (hE 7 h24 (hD 10 h25 (hE 11 h25 (hD 12 h26 (hS 13 h26 e20 (hD 14 h27 (hS 15 h27 e21 h0)))))))) ?_
   exact rg G (rh G (ibN (wL G p)))
 rintro ⟨v8, data2⟩ p
 refine rg G ?_
 cases p
 exact rt [] []
end
end Go.Proofs.YtdocbkbpjdjlpaaGreatDoor
