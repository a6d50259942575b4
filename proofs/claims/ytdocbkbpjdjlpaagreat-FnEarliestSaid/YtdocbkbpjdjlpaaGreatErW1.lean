/- Each function computes what its model says. Made by program (dec.py). -/
import Derived.Test.YtdocbkbpjdjlpaaGreatTy
import Derived.Test.YtdocbkbpjdjlpaaGreatAbC
import Derived.Test.YtdocbkbpjdjlpaaGreatErM
namespace Go.Proofs.YtdocbkbpjdjlpaaGreat
open Go Go.Ab Tryz
set_option maxRecDepth 100000
set_option maxHeartbeats 4000000
set_option linter.unusedVariables false
set_option linter.unusedSimpArgs false
noncomputable section
theorem tt : TT Tryz.prog ty := ⟨by kernel_rfl, ty_ok⟩
abbrev tJ : Inv := .none
def yhd : MS ((List UInt8)) Bool := ⟨.r, ylb, fun y => dV y, fun _ => [], fun _ _ => []⟩
theorem yme : FnOK Tryz.prog tJ 5 yhd.S := by
 refine fm tt yhd [] call5 func5 rfl results5 ntmps5 ?_
 rintro code y cx G (Z : ylb code = some y)
 unfold ylb at Z
 refine rg G (rs G (hN 1 code h0) ?_)
 cases Z
 exact rt [] []
def yim : MS l1Cur (Int × l1Cur) := ⟨.b 59, zq49, fun y => dV y.1, fun _ => [], fun _ y => [bxO 59 y.2]⟩
theorem yov : FnOK Tryz.prog tJ 107 yim.S := by
 refine fm tt yim [] call107 func107 rfl results107 ntmps107 ?_
 rintro c y cx G (Z : zq49 c = some y)
 unfold zq49 at Z
 refine rg G (rg G (jn Z (fun v => ⟨[(0, .ref 0 0), (3, dV v)], [bX 0 59 [dV c.code_, dV c.at_, kV .u64 c.seed_.v]], 48⟩) (fun v Z => ?_) ?_))
 ·refine ds G [] (hN 8 c.code_ h0) ?_
  refine cd Z ?_ ?_ <;> intro Z
  ·obtain ⟨e1, h1, Z⟩ := jad Z
   refine de G [] (hD 8 h1 h0) ?_
   exact wJ G Z
  ·exact jae (wJ G Z)
 rintro v Z
 refine rg G (rg G (jac (ds G [] (hN 8 c.code_ h0) ?_)))
 refine cd Z ?_ ?_ <;> intro Z
 ·refine rg G ?_
  cases Z
  exact rt [] []
 ·refine jae (thN ?_)
  obtain ⟨u, h2, Z⟩ := jad Z
  refine rs G (hK h2 h0) ?_
  cases Z
  exact rt [] []
def yij : MS (l1Cur × Int) (Int × l1Cur) := ⟨.x (.b 59) .r, fun x => zq53 x.1 x.2, fun y => dV y.1, fun _ => [], fun _ y => [bxO 59 y.2]⟩
theorem ya0 {c n y} (Z : zq53 c n = some y) : yij.C (c, n) y := yij.c (c, n) Z
theorem ybe : FnOK Tryz.prog tJ 59 yij.S := by
 refine fm tt yij [fo yov] call59 func59 rfl results59 ntmps59 ?_
 rintro ⟨c, n⟩ y cx G (Z : zq53 c n = some y)
 unfold zq53 at Z
 refine rg G (jac (rg G (cd Z ?_ ?_))) <;> intro Z
 ·refine rg G ?_
  cases Z
  exact rt [] []
 ·refine jae (thN ?_)
  obtain ⟨r, h, Z⟩ := jad Z
  refine rs G (hC 1 (yim.c _ h) h0) ?_
  refine jn Z (fun (v, v1, v2, v3) => ⟨[(0, .ref 0 0), (1, dV n), (5, dV v)], [bX 0 59 [dV v1, dV v2, kV .u64 v3]], 48⟩) (fun vv Z => ?_) ?_
  ·refine rg G (cd Z ?_ ?_) <;> intro Z
   ·obtain ⟨r1, h1, Z⟩ := jad Z
    refine re G (hC 3 (yim.c _ h1) h0) ?_
    exact wJ G Z
   ·exact jae (wJ G Z)
  rintro ⟨v, v1, v2, v3⟩ Z
  obtain ⟨u, h2, Z⟩ := jad Z
  refine rs G (hK h2 h0) ?_
  cases Z
  exact rt [] []
def yik : MS (l1Cur × Int) (Bool × l1Cur) := ⟨.x (.b 59) .r, fun x => zq52 x.1 x.2, fun y => dV y.1, fun _ => [], fun _ y => [bxO 59 y.2]⟩
theorem yf0 {c n y} (Z : zq52 c n = some y) : yik.C (c, n) y := yik.c (c, n) Z
theorem ydp : FnOK Tryz.prog tJ 26 yik.S := by
 refine fm tt yik [fo ybe] call26 func26 rfl results26 ntmps26 ?_
 rintro ⟨c, n⟩ y cx G (Z : zq52 c n = some y)
 unfold zq52 at Z
 refine rg G ?_
 obtain ⟨r, h, Z⟩ := jad Z
 refine rs G (hC 2 (ya0 h) h0) ?_
 cases Z
 exact rt [] []
def yb6 (rec_ : Int -> Option (ByteArray)) : MS Int ByteArray := ⟨.r, rec_, fun y => dV y, fun _ => [], fun _ _ => []⟩
def yif : MS Int ByteArray := yb6 zq60
theorem ykf {rec_ : Int -> Option (ByteArray)} {n y} (Z : rec_ n = some y) : (yb6 rec_).C n y := (yb6 rec_).c n Z
theorem yl9 {rec_ : Int -> Option (ByteArray)} (hrec : FnOK Tryz.prog tJ 104 (yb6 rec_).S) : FnOK Tryz.prog tJ 104 (yb6 (ydo rec_)).S := by
 refine fm tt (yb6 (ydo rec_)) [fo hrec] call104 func104 rfl results104 ntmps104 ?_
 rintro n y cx G (Z : ydo rec_ n = some y)
 unfold ydo at Z
 refine rg G (jac (rg G (cd Z ?_ ?_))) <;> intro Z
 ·obtain ⟨r, h, u, h1, Z⟩ := ob2 Z
  refine rs G (hC 2 (ykf h) (hP (jp1 (jdv h1)) h0)) ?_
  cases Z
  exact rt [] []
 ·refine jae (thN (jac (rg G (cd Z ?_ ?_)))) <;> intro Z
  ·obtain ⟨u1, h2, Z⟩ := jad Z
   refine rs G (hK h2 h0) ?_
   cases Z
   exact rt [] []
  ·refine jae (thN ?_)
   obtain ⟨u7, h9, r2, h10, u8, h11, Z⟩ := ob3 Z
   obtain ⟨u9, h12, u10, h13, u11, h14, Z⟩ := ob3 Z
   refine ds G [] (hK h9 (hC 2 (ykf h10) (hK h11 (hK h12 (hK h13 (hP (jp1 (jdv h14)) h0)))))) ?_
   cases Z
   exact rt [] []
theorem yid : ∀ k, FnOK Tryz.prog tJ 104 (yb6 (yie k)).S
 | 0 => ⟨fun args w => call104 args w, fun vs w F ds obs κ hp => by obtain ⟨x, y, _, _, h⟩ := hp; cases h⟩
 | k + 1 => yl9 (yid k)
theorem ygs : FnOK Tryz.prog tJ 104 yif.S := yid 4294967296
def yca : MS (Line × Int) Int := ⟨.x .r .r, fun x => zq72 x.1 x.2, fun y => dV y, fun _ => [], fun _ _ => []⟩
theorem ydl : FnOK Tryz.prog tJ 81 yca.S := by
 refine fm tt yca [] call81 func81 rfl results81 ntmps81 ?_
 rintro ⟨x, stop⟩ y cx G (Z : zq72 x stop = some y)
 unfold zq72 at Z
 refine rg G (jac (rg G (tF Z (fun _ => ⟨[], [], 32⟩) (fun v1 hr Z => ?_) ?_)))
 ·refine jab (lp G Z (fun v => ⟨[(1, dV stop), (2, .ref 16 0), (5, dV v)], [bX 16 108 [dV x.Name, dV x.Stops, dV x.Runs]], 48⟩) ?_)
  rintro v r0 hb Z
  rw [yev] at Z
  refine jac (rs G (hN 3 x.Stops h0) ?_)
  refine cd Z ?_ ?_ <;> intro Z
  ·refine jae (thN (jac (jab ?_)))
   obtain ⟨e, h, Z⟩ := jad Z
   refine rs G (hD 3 h h0) ?_
   refine cd Z ?_ ?_ <;> intro Z
   ·refine rg G ?_
    have Z := eL Z hb hr
    cases Z
    exact rt [] []
   ·exact jae (ibN (thN (rh G (wL G Z))))
  ·exact jaf (thE (thE (ibE (wE G Z hb))))
 rintro ⟨⟩ Z s hw
 refine thN (jai hw ?_)
 refine rg G ?_
 cases Z
 exact rt [] []
def ykq : MS (l1Cur × ByteArray × Int) (Line × l1Cur) := ⟨.x (.b 59) (.x .r .r), fun x => zq45 x.1 x.2.1 x.2.2, fun y => .aggv [dV y.1.Name, .own 0, .own 1], fun y => [arO 3 y.1.Stops, arO 3 y.1.Runs], fun _ y => [bxO 59 y.2]⟩
theorem yox : FnOK Tryz.prog tJ 103 ykq.S := by
 refine fm tt ykq [fo ybe, fo ydl] call103 func103 rfl results103 ntmps103 ?_
 rintro ⟨c, name, stops⟩ y cx G (Z : zq45 c name stops = some y)
 unfold zq45 at Z
 refine rg G (rg G ?_)
 obtain ⟨r, h, Z⟩ := jad Z
 refine rs G (hC 2 (ya0 h) h0) ?_
 refine jac ?_
 obtain ⟨r1, h1, Z⟩ := jad Z
 refine rs G (hC 1 (ya0 h1) h0) ?_
 refine tl Z (fun (v7, v8, v9, v10) => ⟨[(0, .ref 0 0), (2, dV stops), (6, .ref 32 0), (7, .ref 48 0)], [bX 0 59 [dV v7, dV v8, kV .u64 v9], bX 32 108 [dV ByteArray.empty, .dat (.sc (.slice none 0 0)), .dat (.sc (.slice none 0 0))], bX 48 108 [dV name, .own 64, .dat (.sc (.slice none 0 0))], aX 64 3 v10], 96⟩) (fun vv1 Z => ?_) ?_
 ·refine jab (lpP Z (fun (v, v1, v2, v3, v4, v5) => ⟨[(0, .ref 0 0), (2, dV stops), (6, .ref 32 0), (7, .ref 48 0), (8, dV v), (9, dV v1)], [bX 0 59 [dV v2, dV v3, kV .u64 v4], bX 32 108 [dV ByteArray.empty, .dat (.sc (.slice none 0 0)), .dat (.sc (.slice none 0 0))], bX 48 108 [dV name, .own 64, .dat (.sc (.slice none 0 0))], aX 64 3 v5], 96⟩) (Wk_J G.hL ⟨[(0, []), (2, []), (6, []), (7, []), (8, []), (9, [])], [(0, 0, []), (32, 16, []), (48, 64, [.k, .o 64])], [(64, 3, 1, [])], 96⟩ (by kernel_rfl)) ?_)
  rintro ⟨v, v1, v2, v3, v4, v5⟩ r0 hb Z
  rw [ye6] at Z
  refine jac (rg G (cd Z ?_ ?_)) <;> intro Z
  ·refine jae (thN (jac (jab (jn Z (fun v6 => ⟨[(0, .ref 0 0), (2, dV stops), (6, .ref 32 0), (7, .ref 48 0), (8, dV v), (9, dV v1)], [bX 0 59 [dV v2, dV v3, kV .u64 v4], bX 32 108 [dV ByteArray.empty, .dat (.sc (.slice none 0 0)), .dat (.sc (.slice none 0 0))], bX 48 108 [dV name, .own 64, .dat (.sc (.slice none 0 0))], aX 64 3 v6], 96⟩) (fun v6 Z => ?_) ?_))))
   ·obtain ⟨r2, h2, Z⟩ := jad Z
    refine rs G (hC 2 (yca.c (_, _) h2) h0) ?_
    refine cd Z ?_ ?_ <;> intro Z
    ·obtain ⟨u, h3, Z⟩ := jad Z
     refine re G (hA 4 8 h3 h0) ?_
     exact wJ G Z
    ·exact jae (wJ G Z)
   rintro v6 Z
   obtain ⟨r3, h4, u1, h5, Z⟩ := ob2 Z
   refine re G (hC 3 (ya0 h4) (hK h5 h0)) ?_
   exact ibN (thN (rh G (wL G Z)))
  ·exact jaf (thE (thE (ibE (wD G Z hb))))
 rintro ⟨v7, v8, v9, v10⟩ Z s hw
 refine thN (jai hw ?_)
 refine jn Z (fun v11 => ⟨[(0, .ref 0 0), (6, .ref 32 0), (7, .ref 48 0)], [bX 0 59 [dV v7, dV v8, kV .u64 v9], bX 32 108 [dV ByteArray.empty, .dat (.sc (.slice none 0 0)), .dat (.sc (.slice none 0 0))], bX 48 108 [dV name, .own 64, .dat (.sc (.slice none 0 0))], aX 64 3 v11], 96⟩) (fun v11 Z => ?_) ?_
 ·refine rs G (hN 2 v10 h0) ?_
  refine cd Z ?_ ?_ <;> intro Z
  ·obtain ⟨e1, h9, u4, h10, u5, h11, Z⟩ := ob3 Z
   refine de G [(10, [64, 304]), (12, [48, 320])] (hD 4 h9 (hE 5 h9 (hK h10 (hA 10 8 h11 h0)))) ?_
   exact wJ G Z
  ·exact jae (wJ G Z)
 rintro v11 Z
 refine jac (rg G (tl Z (fun (v17, v18, v19, v20) => ⟨[(0, .ref 0 0), (6, .ref 32 0), (7, .ref 48 0)], [bX 0 59 [dV v17, dV v18, kV .u64 v19], bX 32 108 [dV ByteArray.empty, .dat (.sc (.slice none 0 0)), .dat (.sc (.slice none 0 0))], bX 48 108 [dV name, .own 64, .own 80], aX 64 3 v11, aX 80 3 v20], 112⟩) (fun vv Z => ?_) ?_))
 ·refine jab (lpP Z (fun (v12, v13, v14, v15, v16) => ⟨[(0, .ref 0 0), (6, .ref 32 0), (7, .ref 48 0), (10, dV v12)], [bX 0 59 [dV v13, dV v14, kV .u64 v15], bX 32 108 [dV ByteArray.empty, .dat (.sc (.slice none 0 0)), .dat (.sc (.slice none 0 0))], bX 48 108 [dV name, .own 64, .own 80], aX 64 3 v11, aX 80 3 v16], 112⟩) (Wk_J G.hL ⟨[(0, []), (6, []), (7, []), (10, [])], [(0, 0, []), (32, 32, []), (48, 48, [.k, .k, .o 80]), (64, 64, [])], [(80, 3, 1, [])], 112⟩ (by kernel_rfl)) ?_)
  rintro ⟨v12, v13, v14, v15, v16⟩ r0 hb1 Z
  rw [ye5] at Z
  refine jac (rs G (hN 3 v11 h0) ?_)
  refine cd Z ?_ ?_ <;> intro Z
  ·refine jae (thN (jac (jab ?_)))
   obtain ⟨r5, h14, u7, h15, Z⟩ := ob2 Z
   refine de G [(3, [0]), (6, [80, 272]), (8, [48, 288])] (hC 3 (ya0 h14) (hA 6 8 h15 h0)) ?_
   exact ibN (thN (rh G (wL G Z)))
  ·exact jaf (thE (thE (ibE (wD G Z hb1))))
 rintro ⟨v17, v18, v19, v20⟩ Z s1 hw1
 refine thN (jai hw1 ?_)
 refine rg G ?_
 cases Z
 exact rt [64, 80] []
def yio : MS (l1Cur × ByteArray × Int) (Line × l1Cur) := ⟨.x (.b 59) (.x .r .r), fun x => zq46 x.1 x.2.1 x.2.2, fun y => dV y.1, fun _ => [], fun _ y => [bxO 59 y.2]⟩
theorem ykn : FnOK Tryz.prog tJ 103 yio.S := by
 refine fm tt yio [fo ybe, fo ydl] call103 func103 rfl results103 ntmps103 ?_
 rintro ⟨c, name, stops⟩ y cx G (Z : zq46 c name stops = some y)
 unfold zq46 at Z
 refine rg G (rg G ?_)
 obtain ⟨r, h, Z⟩ := jad Z
 refine rs G (hC 2 (ya0 h) h0) ?_
 refine jac ?_
 obtain ⟨r1, h1, Z⟩ := jad Z
 refine rs G (hC 1 (ya0 h1) h0) ?_
 refine tl Z (fun (v7, v8, v9, v10) => ⟨[(0, .ref 0 0), (2, dV stops), (6, .ref 32 0), (7, .ref 48 0)], [bX 0 59 [dV v7, dV v8, kV .u64 v9], bX 32 108 [dV ByteArray.empty, .dat (.sc (.slice none 0 0)), .dat (.sc (.slice none 0 0))], bX 48 108 [dV name, .own 64, .dat (.sc (.slice none 0 0))], aX 64 3 v10], 96⟩) (fun vv1 Z => ?_) ?_
 ·refine jab (lpP Z (fun (v, v1, v2, v3, v4, v5) => ⟨[(0, .ref 0 0), (2, dV stops), (6, .ref 32 0), (7, .ref 48 0), (8, dV v), (9, dV v1)], [bX 0 59 [dV v2, dV v3, kV .u64 v4], bX 32 108 [dV ByteArray.empty, .dat (.sc (.slice none 0 0)), .dat (.sc (.slice none 0 0))], bX 48 108 [dV name, .own 64, .dat (.sc (.slice none 0 0))], aX 64 3 v5], 96⟩) (Wk_J G.hL ⟨[(0, []), (2, []), (6, []), (7, []), (8, []), (9, [])], [(0, 0, []), (32, 16, []), (48, 64, [.k, .o 64])], [(64, 3, 1, [])], 96⟩ (by kernel_rfl)) ?_)
  rintro ⟨v, v1, v2, v3, v4, v5⟩ r0 hb Z
  rw [ykp] at Z
  refine jac (rg G (cd Z ?_ ?_)) <;> intro Z
  ·refine jae (thN (jac (jab (jn Z (fun v6 => ⟨[(0, .ref 0 0), (2, dV stops), (6, .ref 32 0), (7, .ref 48 0), (8, dV v), (9, dV v1)], [bX 0 59 [dV v2, dV v3, kV .u64 v4], bX 32 108 [dV ByteArray.empty, .dat (.sc (.slice none 0 0)), .dat (.sc (.slice none 0 0))], bX 48 108 [dV name, .own 64, .dat (.sc (.slice none 0 0))], aX 64 3 v6], 96⟩) (fun v6 Z => ?_) ?_))))
   ·obtain ⟨r2, h2, Z⟩ := jad Z
    refine rs G (hC 2 (yca.c (_, _) h2) h0) ?_
    refine cd Z ?_ ?_ <;> intro Z
    ·obtain ⟨u, h3, Z⟩ := jad Z
     refine re G (hA 4 8 h3 h0) ?_
     exact wJ G Z
    ·exact jae (wJ G Z)
   rintro v6 Z
   obtain ⟨r3, h4, u1, h5, Z⟩ := ob2 Z
   refine re G (hC 3 (ya0 h4) (hK h5 h0)) ?_
   exact ibN (thN (rh G (wL G Z)))
  ·exact jaf (thE (thE (ibE (wD G Z hb))))
 rintro ⟨v7, v8, v9, v10⟩ Z s hw
 refine thN (jai hw ?_)
 refine jn Z (fun v11 => ⟨[(0, .ref 0 0), (6, .ref 32 0), (7, .ref 48 0)], [bX 0 59 [dV v7, dV v8, kV .u64 v9], bX 32 108 [dV ByteArray.empty, .dat (.sc (.slice none 0 0)), .dat (.sc (.slice none 0 0))], bX 48 108 [dV name, .own 64, .dat (.sc (.slice none 0 0))], aX 64 3 v11], 96⟩) (fun v11 Z => ?_) ?_
 ·refine rs G (hN 2 v10 h0) ?_
  refine cd Z ?_ ?_ <;> intro Z
  ·obtain ⟨e1, h9, u4, h10, u5, h11, Z⟩ := ob3 Z
   refine de G [(10, [64, 304]), (12, [48, 320])] (hD 4 h9 (hE 5 h9 (hK h10 (hA 10 8 h11 h0)))) ?_
   exact wJ G Z
  ·exact jae (wJ G Z)
 rintro v11 Z
 refine jac (rg G (tl Z (fun (v17, v18, v19, v20) => ⟨[(0, .ref 0 0), (6, .ref 32 0), (7, .ref 48 0)], [bX 0 59 [dV v17, dV v18, kV .u64 v19], bX 32 108 [dV ByteArray.empty, .dat (.sc (.slice none 0 0)), .dat (.sc (.slice none 0 0))], bX 48 108 [dV name, .own 64, .own 80], aX 64 3 v11, aX 80 3 v20], 112⟩) (fun vv Z => ?_) ?_))
 ·refine jab (lpP Z (fun (v12, v13, v14, v15, v16) => ⟨[(0, .ref 0 0), (6, .ref 32 0), (7, .ref 48 0), (10, dV v12)], [bX 0 59 [dV v13, dV v14, kV .u64 v15], bX 32 108 [dV ByteArray.empty, .dat (.sc (.slice none 0 0)), .dat (.sc (.slice none 0 0))], bX 48 108 [dV name, .own 64, .own 80], aX 64 3 v11, aX 80 3 v16], 112⟩) (Wk_J G.hL ⟨[(0, []), (6, []), (7, []), (10, [])], [(0, 0, []), (32, 32, []), (48, 48, [.k, .k, .o 80]), (64, 64, [])], [(80, 3, 1, [])], 112⟩ (by kernel_rfl)) ?_)
  rintro ⟨v12, v13, v14, v15, v16⟩ r0 hb1 Z
  rw [yko] at Z
  refine jac (rs G (hN 3 v11 h0) ?_)
  refine cd Z ?_ ?_ <;> intro Z
  ·refine jae (thN (jac (jab ?_)))
   obtain ⟨r5, h14, u7, h15, Z⟩ := ob2 Z
   refine de G [(3, [0]), (6, [80, 272]), (8, [48, 288])] (hC 3 (ya0 h14) (hA 6 8 h15 h0)) ?_
   exact ibN (thN (rh G (wL G Z)))
  ·exact jaf (thE (thE (ibE (wD G Z hb1))))
 rintro ⟨v17, v18, v19, v20⟩ Z s1 hw1
 refine thN (jai hw1 ?_)
 refine rg G ?_
 cases Z
 exact rt [] []
def yia : MS ((List Int)) ((List Int)) := ⟨.r, zq64, fun y => dV y, fun _ => [], fun _ _ => []⟩
theorem yh9 {list y} (Z : zq64 list = some y) : yia.C list y := yia.c list Z
theorem ykd : FnOK Tryz.prog tJ 105 yia.S := by
 refine fm tt yia [] call105 func105 rfl results105 ntmps105 ?_
 rintro list y cx G (Z : zq64 list = some y)
 unfold zq64 at Z
 refine rg G (rg G (jac (rs G (hN 1 list h0) ?_)))
 refine tl Z (fun i1 => ⟨[(3, .own 16)], [aX 16 3 i1], 48⟩) (fun i1 Z => ?_) ?_
 ·refine jab (lp G Z (fun (v, i) => ⟨[(0, dV list), (3, .own 16), (4, dV v)], [aX 16 3 i], 48⟩) ?_)
  rintro ⟨v, i⟩ r0 hb Z
  rw [yke] at Z
  refine jac (rg G (cd Z ?_ ?_)) <;> intro Z
  ·refine jae (thN (jac (jab ?_)))
   obtain ⟨e, h, u, h1, Z⟩ := ob2 Z
   refine re G (hD 3 h (hA 6 8 h1 h0)) ?_
   exact ibN (thN (rh G (wL G Z)))
  ·exact jaf (thE (thE (ibE (wD G Z hb))))
 rintro i1 Z s hw
 refine thN (jai hw ?_)
 refine rg G ?_
 cases Z
 exact rt [] []
def yic : MS ((List Int)) ((List Int)) := ⟨.r, zq61, fun _ => .own 0, fun y => [arO 3 y], fun _ _ => []⟩
theorem ynm {l y} (Z : zq61 l = some y) : yic.C l y := yic.c l Z
theorem yoo : FnOK Tryz.prog tJ 143 yic.S := by
 refine fm tt yic [] call143 func143 rfl results143 ntmps143 ?_
 rintro l y cx G (Z : zq61 l = some y)
 unfold zq61 at Z
 refine rg G ?_
 obtain ⟨u, h, Z⟩ := jad Z
 refine rs G (hA 2 8 h h0) ?_
 cases Z
 exact rt [64] []
def yib : MS ((List Int)) ((List Int)) := ⟨.r, zq62, fun y => dV y, fun _ => [], fun _ _ => []⟩
theorem ynl {l y} (Z : zq62 l = some y) : yib.C l y := yib.c l Z
theorem yon : FnOK Tryz.prog tJ 143 yib.S := by
 refine fm tt yib [] call143 func143 rfl results143 ntmps143 ?_
 rintro l y cx G (Z : zq62 l = some y)
 unfold zq62 at Z
 refine rg G ?_
 obtain ⟨u, h, Z⟩ := jad Z
 refine rs G (hA 2 8 h h0) ?_
 cases Z
 exact rt [] []
def yj8 : MS Network Network := ⟨.r, zq70, fun _ => .aggv [.own 0, .own 1], fun y => [arO 9 y.Stops, arO 108 y.Lines], fun _ _ => []⟩
theorem yoi : FnOK Tryz.prog tJ 106 yj8.S := by
 refine fm tt yj8 [fo yon] call106 func106 rfl results106 ntmps106 ?_
 rintro n y cx G (Z : zq70 n = some y)
 unfold zq70 at Z
 refine rg G ?_
 obtain ⟨u, h, Z⟩ := jad Z
 refine rs G (hA 3 16 h h0) ?_
 refine jac (rg G (tl Z (fun v2 => ⟨[(2, .ref 16 0), (3, .ref 32 0)], [bX 16 27 [.dat (.sc (.slice none 0 0)), .dat (.sc (.slice none 0 0))], bX 32 27 [.own 48, .own 64], aX 48 9 (([] : List ByteArray) ++ n.Stops), aX 64 108 v2], 96⟩) (fun v2 Z => ?_) ?_))
 ·refine jab (lpP Z (fun (v, v1) => ⟨[(1, .ref 16 0), (2, .ref 32 0), (3, .ref 48 0), (4, dV v)], [bX 16 27 [dV n.Stops, dV n.Lines], bX 32 27 [.dat (.sc (.slice none 0 0)), .dat (.sc (.slice none 0 0))], bX 48 27 [.own 64, .own 80], aX 64 9 (([] : List ByteArray) ++ n.Stops), aX 80 108 v1], 112⟩) (Wk_J G.hL ⟨[(1, []), (2, []), (3, []), (4, [])], [(16, 16, []), (32, 32, []), (48, 128, [.k, .o 80]), (64, 96, [])], [(80, 108, 3, [])], 112⟩ (by kernel_rfl)) ?_)
  rintro ⟨v, v1⟩ r0 hb Z
  rw [yew] at Z
  refine jac (rs G (hN 3 n.Lines h0) ?_)
  refine cd Z ?_ ?_ <;> intro Z
  ·refine jae (thN (jac (jab ?_)))
   obtain ⟨e3, h7, e4, h8, r2, h9, Z⟩ := ob3 Z
   obtain ⟨e5, h10, r3, h11, u2, h12, Z⟩ := ob3 Z
   refine de G [(23, []), (24, [80, 560]), (26, [48, 576])] (hD 5 h7 (hD 11 h8 (hC 14 (ynl h9) (hD 18 h10 (hC 21 (ynl h11) (hA 24 64 h12 h0)))))) ?_
   exact ibN (thN (rh G (wL G Z)))
  ·exact jaf (thE (thE (ibE (wD G Z hb))))
 rintro v2 Z s hw
 refine thN (jai hw ?_)
 refine rg G ?_
 cases Z
 exact rt [48, 64] []
def yin : MS l1Cur (Network × l1Cur) := ⟨.b 59, zq47, fun _ => .aggv [.own 0, .own 1], fun y => [arO 9 y.1.Stops, arO 108 y.1.Lines], fun _ y => [bxO 59 y.2]⟩
theorem ykl : FnOK Tryz.prog tJ 58 yin.S := by
 refine fm tt yin [fo ybe, fo ygs, fo ykn, fo ydp, fo ykd, fo yoi] call58 func58 rfl results58 ntmps58 ?_
 rintro c y cx G (Z : zq47 c = some y)
 unfold zq47 at Z
 refine rg G ?_
 obtain ⟨r, h, Z⟩ := jad Z
 refine rs G (hC 1 (ya0 h) h0) ?_
 obtain ⟨u, h1, Z⟩ := jad Z
 refine rs G (hO 2 (.fz [96] [] []) (hU 2 h1 h0)) ?_
 refine jac ?_
 obtain ⟨r1, h2, Z⟩ := jad Z
 refine rs G (hC 1 (ya0 h2) h0) ?_
 refine tl Z (fun (v4, v5, v6, v7) => ⟨[(0, .ref 0 0), (2, .ref 32 0), (4, .ref 48 0)], [bX 0 59 [dV v4, dV v5, kV .u64 v6], bX 32 27 [.dat (.sc (.slice none 0 0)), .dat (.sc (.slice none 0 0))], bX 48 27 [dV ((([(str [112, 111, 114, 116]), (str [109, 105, 108, 108]), (str [112, 97, 114, 107]), (str [104, 97, 108, 108]), (str [100, 111, 99, 107]), (str [102, 97, 105, 114])] : List ByteArray).take (w64 (2 + r.1)).toNat).drop (0 : Int).toNat), .own 64], aX 64 108 v7], 96⟩) (fun vv1 Z => ?_) ?_
 ·refine jab (lpP Z (fun (x, v, v1, v2, v3) => ⟨[(0, .ref 0 0), (2, .ref 32 0), (3, dV (w64 (2 + r.1))), (4, .ref 48 0), (5, dV x)], [bX 0 59 [dV v, dV v1, kV .u64 v2], bX 32 27 [.dat (.sc (.slice none 0 0)), .dat (.sc (.slice none 0 0))], bX 48 27 [dV ((([(str [112, 111, 114, 116]), (str [109, 105, 108, 108]), (str [112, 97, 114, 107]), (str [104, 97, 108, 108]), (str [100, 111, 99, 107]), (str [102, 97, 105, 114])] : List ByteArray).take (w64 (2 + r.1)).toNat).drop (0 : Int).toNat), .own 64], aX 64 108 v3], 96⟩) (Wk_J G.hL ⟨[(0, []), (2, []), (3, []), (4, []), (5, [])], [(0, 0, []), (32, 16, []), (48, 160, [.k, .o 64])], [(64, 108, 3, [])], 96⟩ (by kernel_rfl)) ?_)
  rintro ⟨x, v, v1, v2, v3⟩ r0 hb Z
  rw [ykm] at Z
  refine jac (rg G (cd Z ?_ ?_)) <;> intro Z
  ·refine jae (thN (jac (jab ?_)))
   obtain ⟨r4, h7, u3, h8, r5, h9, Z⟩ := ob3 Z
   obtain ⟨u4, h10, Z⟩ := jad Z
   refine de G [(7, [0]), (8, []), (9, [64, 256]), (11, [48, 272])] (hC 4 (yif.c _ h7) (hP (jp1 (jdv h8)) (hC 7 (yio.c (_, _, _) h9) (hA 9 64 h10 h0)))) ?_
   exact ibN (thN (rh G (wL G Z)))
  ·exact jaf (thE (thE (ibE (wD G Z hb))))
 rintro ⟨v4, v5, v6, v7⟩ Z s hw
 refine thN (jai hw ?_)
 refine jn Z (fun (v8, v9, v10, v11) => ⟨[(0, .ref 0 0), (2, .ref 32 0), (4, .ref 48 0)], [bX 0 59 [dV v8, dV v9, kV .u64 v10], bX 32 27 [.dat (.sc (.slice none 0 0)), .dat (.sc (.slice none 0 0))], bX 48 27 [dV ((([(str [112, 111, 114, 116]), (str [109, 105, 108, 108]), (str [112, 97, 114, 107]), (str [104, 97, 108, 108]), (str [100, 111, 99, 107]), (str [102, 97, 105, 114])] : List ByteArray).take (w64 (2 + r.1)).toNat).drop (0 : Int).toNat), .own 64], aX 64 108 v11], 96⟩) (fun vv Z => ?_) ?_
 ·obtain ⟨r6, h11, Z⟩ := jad Z
  refine rs G (hC 1 (yf0 h11) h0) ?_
  refine cd Z ?_ ?_ <;> intro Z
  ·obtain ⟨e, h12, Z⟩ := jad Z
   refine rs G (hD 2 h12 (hE 3 h12 h0)) ?_
   obtain ⟨r9, h16, r10, h17, u6, h18, Z⟩ := ob3 Z
   refine de G [(9, []), (10, [64, 368]), (12, [48, 384])] (hC 4 (yh9 h16) (hC 7 (yh9 h17) (hA 10 64 h18 h0))) ?_
   exact wJ G Z
  ·exact jae (wJ G Z)
 rintro ⟨v8, v9, v10, v11⟩ Z
 obtain ⟨r11, h19, Z⟩ := jad Z
 refine rs G (hO 1 (.fz [64] [] []) (hC 1 (yj8.c _ h19) h0)) ?_
 cases Z
 exact rt [112, 113] []
def ykh : MS l1Cur (Timetable × l1Cur) := ⟨.b 59, zq56, fun _ => .aggv [.own 0, .own 1, .own 2], fun y => [arO 9 y.1.Network.Stops, arO 108 y.1.Network.Lines, arO 65 y.1.Trips], fun _ y => [bxO 59 y.2]⟩
theorem yor : FnOK Tryz.prog tJ 101 ykh.S := by
 refine fm tt ykh [fo ykl, fo ybe] call101 func101 rfl results101 ntmps101 ?_
 rintro c y cx G (Z : zq56 c = some y)
 unfold zq56 at Z
 refine rg G ?_
 obtain ⟨r, h, Z⟩ := jad Z
 refine rs G (hC 1 (yin.c _ h) h0) ?_
 refine rg G (jac ?_)
 obtain ⟨r1, h1, Z⟩ := jad Z
 refine rs G (hC 1 (ya0 h1) h0) ?_
 refine tl Z (fun (v5, v6, v7, v8) => ⟨[(0, .ref 0 0), (2, .ref 32 0), (3, .ref 48 0)], [bX 0 59 [dV v5, dV v6, kV .u64 v7], bX 32 30 [.dat (.sc (.slice none 0 0)), .dat (.sc (.slice none 0 0)), .dat (.sc (.slice none 0 0))], bX 48 30 [.own 64, .own 80, .own 96], aX 64 9 r.1.Stops, aX 80 108 r.1.Lines, aX 96 65 v8], 128⟩) (fun vv Z => ?_) ?_
 ·refine jab (lpP Z (fun (n, v, v1, v2, v3, v4) => ⟨[(0, .ref 0 0), (2, .ref 32 0), (3, .ref 48 0), (4, dV n), (5, dV v)], [bX 0 59 [dV v1, dV v2, kV .u64 v3], bX 32 30 [.dat (.sc (.slice none 0 0)), .dat (.sc (.slice none 0 0)), .dat (.sc (.slice none 0 0))], bX 48 30 [.own 64, .own 80, .own 96], aX 64 9 r.1.Stops, aX 80 108 r.1.Lines, aX 96 65 v4], 128⟩) (Wk_J G.hL ⟨[(0, []), (2, []), (3, []), (4, []), (5, [])], [(0, 0, []), (32, 16, []), (48, 80, [.k, .k, .o 96]), (64, 48, []), (80, 49, [])], [(96, 65, 3, [])], 128⟩ (by kernel_rfl)) ?_)
  rintro ⟨n, v, v1, v2, v3, v4⟩ r0 hb Z
  rw [ygv] at Z
  refine jac (rg G (cd Z ?_ ?_)) <;> intro Z
  ·refine jae (thN (jac (jab ?_)))
   obtain ⟨r2, h2, Z⟩ := jad Z
   refine rs G (hC 3 (ya0 h2) h0) ?_
   obtain ⟨r5, h6, r6, h7, u1, h8, Z⟩ := ob3 Z
   refine de G [(8, [0]), (10, [0]), (15, [96, 480]), (17, [48, 496])] (hN 7 r.1.Lines (hC 8 (ya0 h6) (hC 10 (ya0 h7) (hA 15 24 h8 h0)))) ?_
   exact ibN (thN (rh G (wL G Z)))
  ·exact jaf (thE (thE (ibE (wD G Z hb))))
 rintro ⟨v5, v6, v7, v8⟩ Z s hw
 refine thN (jai hw ?_)
 refine rg G ?_
 cases Z
 exact rt [64, 80, 96] []
def yeb : MS (l1Cur × (List Int)) (Int × l1Cur) := ⟨.x (.b 59) .r, fun x => zq40 x.1 x.2, fun y => dV y.1, fun _ => [], fun _ y => [bxO 59 y.2]⟩
theorem ygx : FnOK Tryz.prog tJ 61 yeb.S := by
 refine fm tt yeb [fo ybe] call61 func61 rfl results61 ntmps61 ?_
 rintro ⟨c, list⟩ y cx G (Z : zq40 c list = some y)
 unfold zq40 at Z
 refine rg G ?_
 obtain ⟨r, h, e, h1, Z⟩ := ob2 Z
 refine rs G (hN 3 list (hC 4 (ya0 h) (hD 5 h1 h0))) ?_
 cases Z
 exact rt [] []
def yil : MS (l1Cur × (List ByteArray)) (ByteArray × l1Cur) := ⟨.x (.b 59) (.s 9), fun x => zq51 x.1 x.2, fun y => dV y.1, fun _ => [], fun x y => [bxO 59 y.2, arO 9 x.2]⟩
theorem you : FnOK Tryz.prog tJ 142 yil.S := by
 refine fm tt yil [fo ybe] call142 func142 rfl results142 ntmps142 ?_
 rintro ⟨c, list⟩ y cx G (Z : zq51 c list = some y)
 unfold zq51 at Z
 refine rg G ?_
 obtain ⟨r, h, e, h1, Z⟩ := ob2 Z
 refine rs G (hN 3 list (hC 4 (ya0 h) (hD 5 h1 (hE 6 h1 h0)))) ?_
 cases Z
 exact rt [] []
def yj6 : MS Network Network := ⟨.r, zq71, fun _ => .aggv [.own 0, .own 1], fun y => [arO 9 y.Stops, taO 108 [none, some 3, some 3] y.Lines], fun _ _ => []⟩
theorem yoh : FnOK Tryz.prog tJ 106 yj6.S := by
 refine fm tt yj6 [fo yoo] call106 func106 rfl results106 ntmps106 ?_
 rintro n y cx G (Z : zq71 n = some y)
 unfold zq71 at Z
 refine rg G ?_
 obtain ⟨u, h, Z⟩ := jad Z
 refine rs G (hA 3 16 h h0) ?_
 refine jac (rg G (tl Z (fun v2 => ⟨[(2, .ref 16 0), (3, .ref 32 0)], [bX 16 27 [.dat (.sc (.slice none 0 0)), .dat (.sc (.slice none 0 0))], bX 32 27 [.own 48, .own 64], aX 48 9 (([] : List ByteArray) ++ n.Stops), tX 64 108 [none, some 3, some 3] v2 64 none], 96⟩) (fun v2 Z => ?_) ?_))
 ·refine jab (lpP Z (fun (v, v1) => ⟨[(1, .ref 16 0), (2, .ref 32 0), (3, .ref 48 0), (4, dV v)], [bX 16 27 [dV n.Stops, dV n.Lines], bX 32 27 [.dat (.sc (.slice none 0 0)), .dat (.sc (.slice none 0 0))], bX 48 27 [.own 64, .own 80], aX 64 9 (([] : List ByteArray) ++ n.Stops), tX 80 108 [none, some 3, some 3] v1 80 none], 112⟩) (Wk_J G.hL ⟨[(1, []), (2, []), (3, []), (4, [])], [(16, 16, []), (32, 32, []), (48, 128, [.k, .o 80]), (64, 96, [])], [(80, 108, 3, [none, some 3, some 3])], 112⟩ (by kernel_rfl)) ?_)
  rintro ⟨v, v1⟩ r0 hb Z
  rw [yj7] at Z
  refine jac (rs G (hN 3 n.Lines h0) ?_)
  refine cd Z ?_ ?_ <;> intro Z
  ·refine jae (thN (jac (jab ?_)))
   obtain ⟨e3, h7, e4, h8, r2, h9, Z⟩ := ob3 Z
   obtain ⟨e5, h10, r3, h11, u2, h12, Z⟩ := ob3 Z
   refine de G [(23, [416, 528]), (24, [80, 560]), (26, [48, 576])] (hD 5 h7 (hD 11 h8 (hC 14 (ynm h9) (hD 18 h10 (hC 21 (ynm h11) (hP (jb1 (l := [416, 528]) rfl) (hA 24 64 h12 h0))))))) ?_
   exact ibN (thN (rh G (wL G Z)))
  ·exact jaf (thE (thE (ibE (wD G Z hb))))
 rintro v2 Z s hw
 refine thN (jai hw ?_)
 refine rg G ?_
 cases Z
 exact rt [48, 64] []
def ykk : MS l1Cur (Network × l1Cur) := ⟨.b 59, zq48, fun _ => .aggv [.own 0, .own 1], fun y => [arO 9 y.1.Stops, taO 108 [none, some 3, some 3] y.1.Lines], fun _ y => [bxO 59 y.2]⟩
theorem yow : FnOK Tryz.prog tJ 58 ykk.S := by
 refine fm tt ykk [fo ybe, fo ygs, fo ykn, fo ydp, fo ykd, fo yoh] call58 func58 rfl results58 ntmps58 ?_
 rintro c y cx G (Z : zq48 c = some y)
 unfold zq48 at Z
 refine rg G ?_
 obtain ⟨r, h, Z⟩ := jad Z
 refine rs G (hC 1 (ya0 h) h0) ?_
 obtain ⟨u, h1, Z⟩ := jad Z
 refine rs G (hO 2 (.fz [96] [] []) (hU 2 h1 h0)) ?_
 refine jac ?_
 obtain ⟨r1, h2, Z⟩ := jad Z
 refine rs G (hC 1 (ya0 h2) h0) ?_
 refine tl Z (fun (v4, v5, v6, v7) => ⟨[(0, .ref 0 0), (2, .ref 32 0), (4, .ref 48 0)], [bX 0 59 [dV v4, dV v5, kV .u64 v6], bX 32 27 [.dat (.sc (.slice none 0 0)), .dat (.sc (.slice none 0 0))], bX 48 27 [dV ((([(str [112, 111, 114, 116]), (str [109, 105, 108, 108]), (str [112, 97, 114, 107]), (str [104, 97, 108, 108]), (str [100, 111, 99, 107]), (str [102, 97, 105, 114])] : List ByteArray).take (w64 (2 + r.1)).toNat).drop (0 : Int).toNat), .own 64], aX 64 108 v7], 96⟩) (fun vv1 Z => ?_) ?_
 ·refine jab (lpP Z (fun (x, v, v1, v2, v3) => ⟨[(0, .ref 0 0), (2, .ref 32 0), (3, dV (w64 (2 + r.1))), (4, .ref 48 0), (5, dV x)], [bX 0 59 [dV v, dV v1, kV .u64 v2], bX 32 27 [.dat (.sc (.slice none 0 0)), .dat (.sc (.slice none 0 0))], bX 48 27 [dV ((([(str [112, 111, 114, 116]), (str [109, 105, 108, 108]), (str [112, 97, 114, 107]), (str [104, 97, 108, 108]), (str [100, 111, 99, 107]), (str [102, 97, 105, 114])] : List ByteArray).take (w64 (2 + r.1)).toNat).drop (0 : Int).toNat), .own 64], aX 64 108 v3], 96⟩) (Wk_J G.hL ⟨[(0, []), (2, []), (3, []), (4, []), (5, [])], [(0, 0, []), (32, 16, []), (48, 160, [.k, .o 64])], [(64, 108, 3, [])], 96⟩ (by kernel_rfl)) ?_)
  rintro ⟨x, v, v1, v2, v3⟩ r0 hb Z
  rw [ye4] at Z
  refine jac (rg G (cd Z ?_ ?_)) <;> intro Z
  ·refine jae (thN (jac (jab ?_)))
   obtain ⟨r4, h7, u3, h8, r5, h9, Z⟩ := ob3 Z
   obtain ⟨u4, h10, Z⟩ := jad Z
   refine de G [(7, [0]), (8, []), (9, [64, 256]), (11, [48, 272])] (hC 4 (yif.c _ h7) (hP (jp1 (jdv h8)) (hC 7 (yio.c (_, _, _) h9) (hA 9 64 h10 h0)))) ?_
   exact ibN (thN (rh G (wL G Z)))
  ·exact jaf (thE (thE (ibE (wD G Z hb))))
 rintro ⟨v4, v5, v6, v7⟩ Z s hw
 refine thN (jai hw ?_)
 refine jn Z (fun (v8, v9, v10, v11) => ⟨[(0, .ref 0 0), (2, .ref 32 0), (4, .ref 48 0)], [bX 0 59 [dV v8, dV v9, kV .u64 v10], bX 32 27 [.dat (.sc (.slice none 0 0)), .dat (.sc (.slice none 0 0))], bX 48 27 [dV ((([(str [112, 111, 114, 116]), (str [109, 105, 108, 108]), (str [112, 97, 114, 107]), (str [104, 97, 108, 108]), (str [100, 111, 99, 107]), (str [102, 97, 105, 114])] : List ByteArray).take (w64 (2 + r.1)).toNat).drop (0 : Int).toNat), .own 64], aX 64 108 v11], 96⟩) (fun vv Z => ?_) ?_
 ·obtain ⟨r6, h11, Z⟩ := jad Z
  refine rs G (hC 1 (yf0 h11) h0) ?_
  refine cd Z ?_ ?_ <;> intro Z
  ·obtain ⟨e, h12, Z⟩ := jad Z
   refine rs G (hD 2 h12 (hE 3 h12 h0)) ?_
   obtain ⟨r9, h16, r10, h17, u6, h18, Z⟩ := ob3 Z
   refine de G [(9, []), (10, [64, 368]), (12, [48, 384])] (hC 4 (yh9 h16) (hC 7 (yh9 h17) (hA 10 64 h18 h0))) ?_
   exact wJ G Z
  ·exact jae (wJ G Z)
 rintro ⟨v8, v9, v10, v11⟩ Z
 obtain ⟨r11, h19, Z⟩ := jad Z
 refine rs G (hO 1 (.fz [64] [] []) (hC 1 (yj6.c _ h19) h0)) ?_
 cases Z
 exact rt [112, 113] []
def ykt : MS (l1Cur × (List Int)) (Int × l1Cur) := ⟨.x (.b 59) (.s 3), fun x => zq41 x.1 x.2, fun y => dV y.1, fun _ => [], fun x y => [bxO 59 y.2, arO 3 x.2]⟩
theorem yo1 : FnOK Tryz.prog tJ 61 ykt.S := by
 refine fm tt ykt [fo ybe] call61 func61 rfl results61 ntmps61 ?_
 rintro ⟨c, list⟩ y cx G (Z : zq41 c list = some y)
 unfold zq41 at Z
 refine rg G ?_
 obtain ⟨r, h, e, h1, Z⟩ := ob2 Z
 refine rs G (hN 3 list (hC 4 (ya0 h) (hD 5 h1 (hE 6 h1 h0)))) ?_
 cases Z
 exact rt [] []
def yks : MS l1Cur (Network × l1Cur) := ⟨.b 59, zq42, fun y => .aggv [.own 0, dV y.1.Lines], fun y => [arO 9 y.1.Stops], fun _ y => [bxO 59 y.2]⟩
theorem yo0 : FnOK Tryz.prog tJ 102 yks.S := by
 refine fm tt yks [fo yow, fo ybe, fo you, fo yo1, fo ygs, fo yox] call102 func102 rfl results102 ntmps102 ?_
 rintro c y cx G (Z : zq42 c = some y)
 unfold zq42 at Z
 refine rg G ?_
 obtain ⟨r, h, Z⟩ := jad Z
 refine rs G (hC 1 (ykk.c _ h) h0) ?_
 obtain ⟨r1, h1, Z⟩ := jad Z
 refine rs G (hN 3 r.1.Lines (hC 4 (ya0 h1) h0)) ?_
 obtain ⟨e, h2, Z⟩ := jad Z
 refine rs G (hD 3 h2 (hE 4 h2 h0)) ?_
 refine jF Z (fun (v, v1, v2, v3, v4, v5, v6) => ⟨[(0, .ref 0 0), (2, .ref 32 0), (3, .ref 48 0), (4, dV r1.1), (5, .ref 64 0)], [bX 0 59 [dV v, dV v1, kV .u64 v2], bX 32 27 [.dat (.sc (.slice none 0 0)), .dat (.sc (.slice none 0 0))], bX 48 27 [.own 80, .own 96], bX 64 108 [dV v3, .row 96 96 r1.1.toNat 1, .own 112], aX 80 9 v4, tX 96 108 [none, some 3, some 3] v5 96 (some (r1.1.toNat, 2)), aX 112 3 v6], 144⟩) (fun v17 hr Z => ?_) ?_
 ·obtain ⟨r2, h3, Z⟩ := jad Z
  refine rs G (hC 1 (ya0 h3) h0) ?_
  refine jab (rg G (cd Z ?_ ?_)) <;> intro Z
  ·obtain ⟨r4, h6, e2, h7, Z⟩ := ob2 Z
   refine de G [(4, [0, 416]), (6, [48])] (hC 4 (yil.c (_, _) h6) (hD 5 h7 (hS 6 h7 r4.1 h0))) ?_
   exact ibN (wFp Z (Wk.trans (Wk_S (.c 272 2) (Enc.e e) (.cons (jc4 (f := Enc.e) (l := r.1.Lines) (i := r1.1) h2) .nil) (by kernel_rfl)) (Wk_J G.hL ⟨[(0, []), (2, []), (3, []), (4, []), (5, [])], [(0, 0, []), (32, 16, []), (48, 64, []), (64, 272, []), (80, 48, []), (96, 49, []), (112, 480, [])], [], 144⟩ (by kernel_rfl))))
  ·refine rg G (cd Z ?_ ?_) <;> intro Z
   ·obtain ⟨r5, h8, Z⟩ := jad Z
    refine re G (hC 2 (yil.c (_, _) h8) h0) ?_
    exact ibN (wFp Z (Wk.trans (Wk_S (.c 272 2) (Enc.e e) (.cons (jc4 (f := Enc.e) (l := r.1.Lines) (i := r1.1) h2) .nil) (by kernel_rfl)) (Wk_J G.hL ⟨[(0, []), (2, []), (3, []), (4, []), (5, [])], [(0, 0, []), (32, 16, []), (48, 64, []), (64, 272, []), (80, 48, []), (96, 49, []), (112, 480, [])], [], 144⟩ (by kernel_rfl))))
   ·refine rg G (cd Z ?_ ?_) <;> intro Z
    ·obtain ⟨r8, h12, r9, h13, e4, h14, Z⟩ := ob3 Z
     refine de G [(6, [0]), (8, [0]), (11, [49])] (hO 5 (.dn (Enc.e e) (e.Stops.length : Int)) (hP (jc4 (f := Enc.e) h2) (hP (jr7 Enc.e e.Stops) (hC 6 (ya0 h12) (hC 8 (ya0 h13) (hE 10 h2 (hP (jtd (f := Enc.e) h14) (hO 11 (.sd2 (Enc.e e) (Enc.e e4) (List.map Enc.e (e.Stops.set r8.1.toNat (w64 (r9.1 - 1)))) (List.map Enc.e (r.1.Lines.set r1.1.toNat (⟨e.Name, (e.Stops.set r8.1.toNat (w64 (r9.1 - 1))), e.Runs⟩ : Line)))) (hP (jc4 (f := Enc.e) h2) (hP (jc4 (f := Enc.e) h14) (hP (joc Enc.e e.Stops r8.1.toNat (w64 (r9.1 - 1))) (hP (joc Enc.e r.1.Lines r1.1.toNat (⟨e.Name, (e.Stops.set r8.1.toNat (w64 (r9.1 - 1))), e.Runs⟩ : Line)) h0)))))))))))) ?_
     exact ibN (wFp Z (Wk.trans (Wk_S (.c 272 2) (Enc.e (⟨e.Name, (e.Stops.set r8.1.toNat (w64 (r9.1 - 1))), e.Runs⟩ : Line)) (.cons (jc4 (f := Enc.e) (l := (r.1.Lines.set r1.1.toNat (⟨e.Name, (e.Stops.set r8.1.toNat (w64 (r9.1 - 1))), e.Runs⟩ : Line))) (i := r1.1) (jpc (y := (⟨e.Name, (e.Stops.set r8.1.toNat (w64 (r9.1 - 1))), e.Runs⟩ : Line)) h2)) .nil) (by kernel_rfl)) (Wk_J G.hL ⟨[(0, []), (2, []), (3, []), (4, []), (5, [])], [(0, 0, []), (32, 16, []), (48, 64, []), (64, 272, []), (80, 48, []), (96, 49, []), (112, 624, [])], [], 144⟩ (by kernel_rfl))))
    ·refine rg G (cd Z ?_ ?_) <;> intro Z
     ·obtain ⟨r12, h18, r13, h19, e6, h20, Z⟩ := ob3 Z
      refine de G [(6, [0]), (9, [0, 592]), (11, [49])] (hO 5 (.dn (Enc.e e) (e.Runs.length : Int)) (hP (jc4 (f := Enc.e) h2) (hP (jr7 Enc.e e.Runs) (hC 6 (ya0 h18) (hC 9 (ykt.c (_, _) h19) (hE 10 h2 (hP (jtd (f := Enc.e) h20) (hO 11 (.sd2 (Enc.e e) (Enc.e e6) (List.map Enc.e (e.Runs.set r12.1.toNat r13.1)) (List.map Enc.e (r.1.Lines.set r1.1.toNat (⟨e.Name, e.Stops, (e.Runs.set r12.1.toNat r13.1)⟩ : Line)))) (hP (jc4 (f := Enc.e) h2) (hP (jc4 (f := Enc.e) h20) (hP (joc Enc.e e.Runs r12.1.toNat r13.1) (hP (joc Enc.e r.1.Lines r1.1.toNat (⟨e.Name, e.Stops, (e.Runs.set r12.1.toNat r13.1)⟩ : Line)) h0)))))))))))) ?_
      exact ibN (wFp Z (Wk.trans (Wk_S (.c 272 2) (Enc.e (⟨e.Name, e.Stops, (e.Runs.set r12.1.toNat r13.1)⟩ : Line)) (.cons (jc4 (f := Enc.e) (l := (r.1.Lines.set r1.1.toNat (⟨e.Name, e.Stops, (e.Runs.set r12.1.toNat r13.1)⟩ : Line))) (i := r1.1) (jpc (y := (⟨e.Name, e.Stops, (e.Runs.set r12.1.toNat r13.1)⟩ : Line)) h2)) .nil) (by kernel_rfl)) (Wk_J G.hL ⟨[(0, []), (2, []), (3, []), (4, []), (5, [])], [(0, 0, []), (32, 16, []), (48, 64, []), (64, 272, []), (80, 48, []), (96, 49, []), (112, 656, [])], [], 144⟩ (by kernel_rfl))))
     ·refine rg G (cd Z ?_ ?_) <;> intro Z
      ·obtain ⟨u, h21, Z⟩ := jad Z
       refine re G (hO 3 (.sd (Enc.e e) (List.map Enc.e (e.Runs ++ ([3] : List Int)))) (hP (jc4 (f := Enc.e) h2) (hP (jtn (f := Enc.e) (g := Enc.e) (l := e.Runs) (r := ([3] : List Int)) (b := 8) (jdv h21) rfl) (hP (jto Enc.e e.Runs ([3] : List Int)) h0)))) ?_
       exact ibN (wF G Z)
      ·refine rg G (cd Z ?_ ?_) <;> intro Z
       ·refine rg G (rg G ?_)
        have Z := eR Z hr
        cases Z
        exact rt [48] []
       ·refine rg G (cd Z ?_ ?_) <;> intro Z
        ·refine jac (rg G (tl Z (fun (v13, v14, v15, v16) => ⟨[(0, .ref 0 0), (2, .ref 32 0), (3, .ref 48 0)], [bX 0 59 [dV v13, dV v14, kV .u64 v15], bX 32 27 [.dat (.sc (.slice none 0 0)), .dat (.sc (.slice none 0 0))], bX 48 27 [.own 64, .own 80], aX 64 9 r.1.Stops, tX 80 108 [none, some 3, some 3] v16 80 none], 112⟩) (fun vv Z => ?_) ?_))
         ·refine jab (lp G Z (fun (v7, v8, v9, v10, v11) => ⟨[(0, .ref 0 0), (2, .ref 32 0), (3, .ref 48 0), (6, dV v7)], [bX 0 59 [dV v8, dV v9, kV .u64 v10], bX 32 27 [.dat (.sc (.slice none 0 0)), .dat (.sc (.slice none 0 0))], bX 48 27 [.own 64, .own 80], aX 64 9 r.1.Stops, tX 80 108 [none, some 3, some 3] v11 80 none], 112⟩) ?_)
          rintro ⟨v7, v8, v9, v10, v11⟩ r0 hb Z
          rw [ye7] at Z
          refine jac ?_
          obtain ⟨r16, h23, Z⟩ := jad Z
          refine jn Z (fun v12 => ⟨[(0, .ref 0 0), (2, .ref 32 0), (3, .ref 48 0), (6, dV v7), (85, dV v12)], [bX 0 59 [dV r16.2.code_, dV r16.2.at_, kV .u64 r16.2.seed_.v], bX 32 27 [.dat (.sc (.slice none 0 0)), .dat (.sc (.slice none 0 0))], bX 48 27 [.own 64, .own 80], aX 64 9 r.1.Stops, tX 80 108 [none, some 3, some 3] v11 80 none], 112⟩) (fun v12 Z => ?_) ?_
          ·rcases bf Z with ⟨hb1, Z⟩ | ⟨hb1, Z⟩
           ·refine de G [(4, [0])] (hN 2 v11 (hC 4 (ya0 h23) (hO 7 (.b true) (hP hb1 h0)))) ?_
            exact wJ G Z
           ·refine de G [(4, [0])] (hN 2 v11 (hC 4 (ya0 h23) (hO 7 (.b false) (hP hb1 h0)))) ?_
            exact wJ G Z
          rintro v12 Z
          refine cd Z ?_ ?_ <;> intro Z
          ·refine jae (thN (jac (jab ?_)))
           obtain ⟨r19, h28, u3, h29, r20, h30, Z⟩ := ob3 Z
           obtain ⟨u4, h31, Z⟩ := jad Z
           refine de G [(9, [0]), (10, [256, 257]), (11, [80, 272]), (13, [48, 288])] (hC 4 (yif.c _ h28) (hP (jp1 (jdv h29)) (hN 8 r.1.Stops (hC 9 (ykq.c (_, _, _) h30) (hP (jb1 (l := [256, 257]) rfl) (hA 11 64 h31 h0)))))) ?_
           exact ibN (thN (rh G (wL G Z)))
          ·exact jaf (thE (thE (ibE (wD G Z hb))))
         rintro ⟨v13, v14, v15, v16⟩ Z s hw
         refine thN (jai hw ?_)
         refine rg G ?_
         have Z := eR Z hr
         cases Z
         exact rt [64] []
        ·exact jae (ibN (wFp Z (Wk.trans (Wk_S (.c 272 2) (Enc.e e) (.cons (jc4 (f := Enc.e) (l := r.1.Lines) (i := r1.1) h2) .nil) (by kernel_rfl)) (Wk_J G.hL ⟨[(0, []), (2, []), (3, []), (4, []), (5, [])], [(0, 0, []), (32, 16, []), (48, 64, []), (64, 272, []), (80, 48, []), (96, 49, []), (112, 560, [])], [], 144⟩ (by kernel_rfl)))))
 rintro ⟨v, v1, v2, v3, v4, v5, v6⟩ Z
 obtain ⟨e9, h32, Z⟩ := jad Z
 refine rs G (hD 4 h32 (hS 5 h32 (⟨v3, e9.Stops, v6⟩ : Line) (hP (Eq.refl r1.1.toNat) (hP (Eq.refl r1.1.toNat) h0)))) ?_
 refine rg G ?_
 cases Z
 exact rt [80] []
def ykr : MS l1Cur (Timetable × l1Cur) := ⟨.b 59, zq43, fun y => .aggv [.own 0, dV y.1.Network.Lines, .own 1], fun y => [arO 9 y.1.Network.Stops, arO 65 y.1.Trips], fun _ y => [bxO 59 y.2]⟩
theorem yoz : FnOK Tryz.prog tJ 57 ykr.S := by
 refine fm tt ykr [fo yor, fo ybe, fo ygx, fo yo0] call57 func57 rfl results57 ntmps57 ?_
 rintro c y cx G (Z : zq43 c = some y)
 unfold zq43 at Z
 refine rg G ?_
 obtain ⟨r, h, Z⟩ := jad Z
 refine rs G (hC 1 (ykh.c _ h) h0) ?_
 refine jac (rs G (hN 2 r.1.Trips h0) ?_)
 refine cd Z ?_ ?_ <;> intro Z
 ·refine rg G ?_
  cases Z
  exact rt [48, 50] []
 ·refine jae (thN ?_)
  obtain ⟨r1, h1, Z⟩ := jad Z
  refine rs G (hN 3 r.1.Trips (hC 4 (ya0 h1) h0)) ?_
  obtain ⟨e, h2, Z⟩ := jad Z
  refine rs G (hD 3 h2 (hE 4 h2 h0)) ?_
  refine jF Z (fun (v, v1, v2, v3, v4, v5, v6, v7) => ⟨[(0, .ref 0 0), (2, .ref 32 0), (3, .ref 48 0), (4, dV r1.1), (5, .ref 64 0)], [bX 0 59 [dV v, dV v1, kV .u64 v2], bX 32 30 [.dat (.sc (.slice none 0 0)), .dat (.sc (.slice none 0 0)), .dat (.sc (.slice none 0 0))], bX 48 30 [.own 80, dV v3, .own 96], bX 64 65 [dV v4, dV v5, dV v6], aX 80 9 v7, aX 96 65 r.1.Trips], 128⟩) (fun v18 hr Z => ?_) ?_
  ·obtain ⟨r2, h3, Z⟩ := jad Z
   refine rs G (hC 1 (ya0 h3) h0) ?_
   refine jab (rg G (cd Z ?_ ?_)) <;> intro Z
   ·obtain ⟨r3, h4, Z⟩ := jad Z
    refine re G (hO 2 (.fz [448] [] []) (hC 2 (yeb.c (_, _) h4) h0)) ?_
    exact ibN (wF G Z)
   ·refine rg G (cd Z ?_ ?_) <;> intro Z
    ·obtain ⟨r4, h5, Z⟩ := jad Z
     refine re G (hC 1 (ya0 h5) h0) ?_
     exact ibN (wF G Z)
    ·refine rg G (cd Z ?_ ?_) <;> intro Z
     ·obtain ⟨r5, h6, Z⟩ := jad Z
      refine re G (hO 2 (.fz [512] [] []) (hC 2 (yeb.c (_, _) h6) h0)) ?_
      exact ibN (wF G Z)
     ·refine rg G (cd Z ?_ ?_) <;> intro Z
      ·obtain ⟨r6, h7, Z⟩ := jad Z
       refine re G (hC 1 (yks.c _ h7) h0) ?_
       exact ibN (wF G Z)
      ·refine rg G (cd Z ?_ ?_) <;> intro Z
       ·refine jac (rg G (tl Z (fun (v14, v15, v16, v17) => ⟨[(0, .ref 0 0), (2, .ref 32 0), (3, .ref 48 0)], [bX 0 59 [dV v14, dV v15, kV .u64 v16], bX 32 30 [.dat (.sc (.slice none 0 0)), .dat (.sc (.slice none 0 0)), .dat (.sc (.slice none 0 0))], bX 48 30 [.own 64, .own 80, .own 96], aX 64 9 r.1.Network.Stops, aX 80 108 r.1.Network.Lines, aX 96 65 v17], 128⟩) (fun vv Z => ?_) ?_))
        ·refine jab (lp G Z (fun (v8, v9, v10, v11, v12) => ⟨[(0, .ref 0 0), (2, .ref 32 0), (3, .ref 48 0), (6, dV v8)], [bX 0 59 [dV v9, dV v10, kV .u64 v11], bX 32 30 [.dat (.sc (.slice none 0 0)), .dat (.sc (.slice none 0 0)), .dat (.sc (.slice none 0 0))], bX 48 30 [.own 64, .own 80, .own 96], aX 64 9 r.1.Network.Stops, aX 80 108 r.1.Network.Lines, aX 96 65 v12], 128⟩) ?_)
         rintro ⟨v8, v9, v10, v11, v12⟩ r0 hb Z
         rw [ygw] at Z
         refine jac ?_
         obtain ⟨r8, h9, Z⟩ := jad Z
         refine jn Z (fun v13 => ⟨[(0, .ref 0 0), (2, .ref 32 0), (3, .ref 48 0), (6, dV v8), (61, dV v13)], [bX 0 59 [dV r8.2.code_, dV r8.2.at_, kV .u64 r8.2.seed_.v], bX 32 30 [.dat (.sc (.slice none 0 0)), .dat (.sc (.slice none 0 0)), .dat (.sc (.slice none 0 0))], bX 48 30 [.own 64, .own 80, .own 96], aX 64 9 r.1.Network.Stops, aX 80 108 r.1.Network.Lines, aX 96 65 v12], 128⟩) (fun v13 Z => ?_) ?_
         ·rcases bf Z with ⟨hb1, Z⟩ | ⟨hb1, Z⟩
          ·refine de G [(4, [0])] (hN 2 v12 (hC 4 (ya0 h9) (hO 7 (.b true) (hP hb1 h0)))) ?_
           exact wJ G Z
          ·refine de G [(4, [0])] (hN 2 v12 (hC 4 (ya0 h9) (hO 7 (.b false) (hP hb1 h0)))) ?_
           exact wJ G Z
         rintro v13 Z
         refine cd Z ?_ ?_ <;> intro Z
         ·refine jae (thN (jac (jab ?_)))
          obtain ⟨u, h10, Z⟩ := jad Z
          refine re G (hA 8 24 h10 h0) ?_
          exact ibN (thN (rh G (wL G Z)))
         ·exact jaf (thE (thE (ibE (wD G Z hb))))
        rintro ⟨v14, v15, v16, v17⟩ Z s hw
        refine thN (jai hw ?_)
        refine rg G ?_
        have Z := eR Z hr
        cases Z
        exact rt [64, 96] []
       ·exact jae (ibN (wF G Z))
  rintro ⟨v, v1, v2, v3, v4, v5, v6, v7⟩ Z
  obtain ⟨e2, h11, Z⟩ := jad Z
  refine rs G (hD 4 h11 (hS 5 h11 (⟨v4, v5, v6⟩ : Trip) h0)) ?_
  refine rg G ?_
  cases Z
  exact rt [80, 96] []
def yih : MS (Int × Int) Int := ⟨.x .r .r, fun x => zq59 x.1 x.2, fun y => dV y, fun _ => [], fun _ _ => []⟩
theorem yqg {a b y} (Z : zq59 a b = some y) : yih.C (a, b) y := yih.c (a, b) Z
theorem yop : FnOK Tryz.prog tJ 60 yih.S := by
 refine fm tt yih [] call60 func60 rfl results60 ntmps60 ?_
 rintro ⟨a, b⟩ y cx G (Z : zq59 a b = some y)
 unfold zq59 at Z
 refine rg G (jac (rg G (cd Z ?_ ?_))) <;> intro Z
 ·refine rg G ?_
  cases Z
  exact rt [] []
 ·refine jae (thN (rg G ?_))
  cases Z
  exact rt [] []
def ykg : MS l1Cur (Timetable × l1Cur) := ⟨.b 59, zq57, fun y => .aggv [.own 0, dV y.1.Network.Lines, .own 1], fun y => [arO 9 y.1.Network.Stops, arO 65 y.1.Trips], fun _ y => [bxO 59 y.2]⟩
theorem yoq : FnOK Tryz.prog tJ 24 ykg.S := by
 refine fm tt ykg [fo ydp, fo yoz, fo ykl, fo ybe, fo yop] call24 func24 rfl results24 ntmps24 ?_
 rintro c y cx G (Z : zq57 c = some y)
 unfold zq57 at Z
 refine rg G (jac ?_)
 obtain ⟨r, h, Z⟩ := jad Z
 refine rs G (hC 1 (yf0 h) h0) ?_
 refine cd Z ?_ ?_ <;> intro Z
 ·obtain ⟨r1, h1, Z⟩ := jad Z
  refine rs G (hC 1 (ykr.c _ h1) h0) ?_
  cases Z
  exact rt [80, 81] []
 ·refine jae (thN ?_)
  obtain ⟨r2, h2, Z⟩ := jad Z
  refine rs G (hC 1 (yin.c _ h2) h0) ?_
  refine jac ?_
  obtain ⟨r3, h3, Z⟩ := jad Z
  refine rs G (hC 1 (ya0 h3) h0) ?_
  refine tl Z (fun (v4, v5, v6, v7) => ⟨[(0, .ref 0 0), (2, .ref 32 0), (3, .ref 48 0)], [bX 0 59 [dV v4, dV v5, kV .u64 v6], bX 32 30 [.dat (.sc (.slice none 0 0)), .dat (.sc (.slice none 0 0)), .dat (.sc (.slice none 0 0))], bX 48 30 [.own 64, .own 80, .own 96], aX 64 9 r2.1.Stops, aX 80 108 r2.1.Lines, aX 96 65 v7], 128⟩) (fun vv Z => ?_) ?_
  ·refine jab (lpP Z (fun (i, v, v1, v2, v3) => ⟨[(0, .ref 0 0), (2, .ref 32 0), (3, .ref 48 0), (4, dV i)], [bX 0 59 [dV v, dV v1, kV .u64 v2], bX 32 30 [.dat (.sc (.slice none 0 0)), .dat (.sc (.slice none 0 0)), .dat (.sc (.slice none 0 0))], bX 48 30 [.own 64, .own 80, .own 96], aX 64 9 r2.1.Stops, aX 80 108 r2.1.Lines, aX 96 65 v3], 128⟩) (Wk_J G.hL ⟨[(0, []), (2, []), (3, []), (4, [])], [(0, 0, []), (32, 16, []), (48, 112, [.k, .k, .o 96]), (64, 80, []), (80, 81, [])], [(96, 65, 3, [])], 128⟩ (by kernel_rfl)) ?_)
   rintro ⟨i, v, v1, v2, v3⟩ r0 hb Z
   rw [ygu] at Z
   refine jac (rg G (cd Z ?_ ?_)) <;> intro Z
   ·refine jae (thN (jac (jab ?_)))
    obtain ⟨r7, h8, r8, h9, r9, h10, Z⟩ := ob3 Z
    obtain ⟨u1, h11, Z⟩ := jad Z
    refine de G [(11, [0]), (19, [0]), (21, [0]), (26, [96, 560]), (28, [48, 576])] (hN 4 v3 (hN 8 v3 (hC 11 (ya0 h8) (hN 18 r2.1.Lines (hC 19 (ya0 h9) (hC 21 (ya0 h10) (hA 26 24 h11 h0))))))) ?_
    exact ibN (thN (rh G (wL G Z)))
   ·exact jaf (thE (thE (ibE (wD G Z hb))))
  rintro ⟨v4, v5, v6, v7⟩ Z s hw
  refine thN (jai hw ?_)
  refine jac (rg G (tl Z (fun v9 => ⟨[(0, .ref 0 0), (2, .ref 32 0), (3, .ref 48 0)], [bX 0 59 [dV v4, dV v5, kV .u64 v6], bX 32 30 [.dat (.sc (.slice none 0 0)), .dat (.sc (.slice none 0 0)), .dat (.sc (.slice none 0 0))], bX 48 30 [.own 64, .own 80, .own 96], aX 64 9 r2.1.Stops, aX 80 108 r2.1.Lines, aX 96 65 v9], 128⟩) (fun v9 Z => ?_) ?_))
  ·refine jab (lp G Z (fun (x, v8) => ⟨[(0, .ref 0 0), (2, .ref 32 0), (3, .ref 48 0), (5, dV x)], [bX 0 59 [dV v4, dV v5, kV .u64 v6], bX 32 30 [.dat (.sc (.slice none 0 0)), .dat (.sc (.slice none 0 0)), .dat (.sc (.slice none 0 0))], bX 48 30 [.own 64, .own 80, .own 96], aX 64 9 r2.1.Stops, aX 80 108 r2.1.Lines, aX 96 65 v8], 128⟩) ?_)
   rintro ⟨x, v8⟩ r0 hb1 Z
   rw [ygt] at Z
   refine jac (rs G (hN 3 v8 h0) ?_)
   refine cd Z ?_ ?_ <;> intro Z
   ·refine jae (thN (jac (jab ?_)))
    obtain ⟨e, h12, Z⟩ := jad Z
    refine rs G (hD 3 h12 (hE 4 h12 h0)) ?_
    obtain ⟨e2, h15, r11, h16, Z⟩ := ob2 Z
    refine ds G [(12, [288])] (hD 6 h15 (hE 8 h15 (hC 10 (yqg h16) h0))) ?_
    obtain ⟨e3, h17, Z⟩ := jad Z
    refine re G (hD 4 h17 (hS 5 h17 (⟨r11, e.Line, e.Start⟩ : Trip) h0)) ?_
    exact ibN (thN (rh G (wL G Z)))
   ·exact jaf (thE (thE (ibE (wD G Z hb1))))
  rintro v9 Z s1 hw1
  refine thN (jai hw1 ?_)
  refine rg G ?_
  cases Z
  exact rt [64, 96] []
def yip : MS l1Cur (Int × l1Cur) := ⟨.b 59, zq44, fun y => dV y.1, fun _ => [], fun _ y => [bxO 59 y.2]⟩
theorem yoy : FnOK Tryz.prog tJ 84 yip.S := by
 refine fm tt yip [fo ygx] call84 func84 rfl results84 ntmps84 ?_
 rintro c y cx G (Z : zq44 c = some y)
 unfold zq44 at Z
 refine rg G ?_
 obtain ⟨r, h, Z⟩ := jad Z
 refine rs G (hO 2 (.fz [48] [] []) (hC 2 (yeb.c (_, _) h) h0)) ?_
 cases Z
 exact rt [] []
def yki : MS l1Cur (Int × l1Cur) := ⟨.b 59, zq55, fun y => dV y.1, fun _ => [], fun _ y => [bxO 59 y.2]⟩
theorem yos : FnOK Tryz.prog tJ 62 yki.S := by
 refine fm tt yki [fo ydp, fo ygx, fo ybe] call62 func62 rfl results62 ntmps62 ?_
 rintro c y cx G (Z : zq55 c = some y)
 unfold zq55 at Z
 refine rg G (jac ?_)
 obtain ⟨r, h, Z⟩ := jad Z
 refine rs G (hC 1 (yf0 h) h0) ?_
 refine cd Z ?_ ?_ <;> intro Z
 ·obtain ⟨r1, h1, Z⟩ := jad Z
  refine rs G (hO 2 (.fz [80] [] []) (hC 2 (yeb.c (_, _) h1) h0)) ?_
  cases Z
  exact rt [] []
 ·refine jae (thN ?_)
  obtain ⟨r2, h2, Z⟩ := jad Z
  refine rs G (hC 1 (ya0 h2) h0) ?_
  cases Z
  exact rt [] []
def ykj : MS l1Cur (Timetable × Int × Int × Int × Int × l1Cur) := ⟨.b 59, zq54, fun y => .tup [.aggv [.own 0, dV y.1.Network.Lines, .own 1], dV y.2.1, dV y.2.2.1, dV y.2.2.2.1, dV y.2.2.2.2.1], fun y => [arO 9 y.1.Network.Stops, arO 65 y.1.Trips], fun _ y => [bxO 59 y.2.2.2.2.2]⟩
theorem yot : FnOK Tryz.prog tJ 42 ykj.S := by
 refine fm tt ykj [fo yoq, fo ydp, fo yoy, fo ybe, fo yos] call42 func42 rfl results42 ntmps42 ?_
 rintro c y cx G (Z : zq54 c = some y)
 unfold zq54 at Z
 refine rg G ?_
 obtain ⟨r, h, Z⟩ := jad Z
 refine rs G (hC 1 (ykg.c _ h) h0) ?_
 refine rs G (hN 3 r.1.Network.Stops h0) ?_
 refine jac (jn Z (fun (v, v1, v2, v3) => ⟨[(0, .ref 0 0), (2, .ref 32 0), (7, .ref 48 0), (8, dV (r.1.Network.Stops.length : Int)), (21, dV v)], [bX 0 59 [dV v1, dV v2, kV .u64 v3], bX 32 30 [.dat (.sc (.slice none 0 0)), .dat (.sc (.slice none 0 0)), .dat (.sc (.slice none 0 0))], bX 48 30 [.own 64, dV r.1.Network.Lines, .own 80], aX 64 9 r.1.Network.Stops, aX 80 65 r.1.Trips], 112⟩) (fun vv Z => ?_) ?_)
 ·rcases bf Z with ⟨hb, Z⟩ | ⟨hb, Z⟩
  ·refine re G (hO 2 (.b true) (hP hb h0)) ?_
   exact wJ G Z
  ·obtain ⟨r1, h1, Z⟩ := jad Z
   refine re G (hO 2 (.b false) (hP hb (hC 4 (yf0 h1) h0))) ?_
   exact wJ G Z
 rintro ⟨v, v1, v2, v3⟩ Z
 refine cd Z ?_ ?_ <;> intro Z
 ·obtain ⟨r6, h6, r7, h7, r8, h8, Z⟩ := ob3 Z
  obtain ⟨r9, h9, Z⟩ := jad Z
  refine ds G [(2, [0]), (4, [0]), (7, [0]), (10, [0]), (11, [32, 64, 80])] (hC 2 (yip.c _ h6) (hC 4 (ya0 h7) (hC 7 (ya0 h8) (hC 10 (yki.c _ h9) h0)))) ?_
  cases Z
  exact rt [64, 80] []
 ·refine jae (thN ?_)
  obtain ⟨r10, h10, Z⟩ := jad Z
  refine rs G (hC 2 (ya0 h10) h0) ?_
  obtain ⟨r14, h15, r15, h16, u1, h17, Z⟩ := ob3 Z
  obtain ⟨r16, h18, Z⟩ := jad Z
  refine ds G [(2, [0]), (9, [0]), (14, [0]), (17, [32, 64, 80])] (hC 2 (yip.c _ h15) (hC 9 (ya0 h16) (hK h17 (hC 14 (ya0 h18) h0)))) ?_
  cases Z
  exact rt [64, 80] []
def ykv : MS ((List UInt8)) (Timetable × Int × Int × Int × Int) := ⟨.r, zq38, fun y => .tup [.aggv [.own 0, dV y.1.Network.Lines, .own 1], dV y.2.1, dV y.2.2.1, dV y.2.2.2.1, dV y.2.2.2.2], fun y => [arO 9 y.1.Network.Stops, arO 65 y.1.Trips], fun _ _ => []⟩
theorem yo4 : FnOK Tryz.prog tJ 15 ykv.S := by
 refine fm tt ykv [fo yot] call15 func15 rfl results15 ntmps15 ?_
 rintro code y cx G (Z : zq38 code = some y)
 unfold zq38 at Z
 refine rg G (rg G ?_)
 obtain ⟨r, h, Z⟩ := jad Z
 refine rs G (hC 1 (ykj.c _ h) h0) ?_
 cases Z
 exact rt [176, 177] []
def yir : MS (Int × Int × Int) Bool := ⟨.x .r (.x .r .r), fun x => zq35 x.1 x.2.1 x.2.2, fun y => dV y, fun _ => [], fun _ _ => []⟩
theorem ybk {n lo hi y} (Z : zq35 n lo hi = some y) : yir.C (n, lo, hi) y := yir.c (n, lo, hi) Z
theorem ydq : FnOK Tryz.prog tJ 92 yir.S := by
 refine fm tt yir [] call92 func92 rfl results92 ntmps92 ?_
 rintro ⟨n, lo, hi⟩ y cx G (Z : zq35 n lo hi = some y)
 unfold zq35 at Z
 refine rg G (jn Z (fun v => ⟨[(6, dV v)], [], 32⟩) (fun v Z => ?_) ?_)
 ·rcases bf Z with ⟨hb, Z⟩ | ⟨hb, Z⟩
  ·refine re G (hO 3 (.b true) (hP hb h0)) ?_
   exact wJ G Z
  ·refine re G (hO 3 (.b false) (hP hb h0)) ?_
   exact wJ G Z
 rintro v Z
 cases Z
 exact rt [] []
def yiu : MS ByteArray Bool := ⟨.r, zq24, fun y => dV y, fun _ => [], fun _ _ => []⟩
theorem ypd : FnOK Tryz.prog tJ 166 yiu.S := by
 refine fm tt yiu [] call166 func166 rfl results166 ntmps166 ?_
 rintro s y cx G (Z : zq24 s = some y)
 unfold zq24 at Z
 refine rg G (jac (jn Z (fun v => ⟨[(0, dV s), (12, dV v)], [], 32⟩) (fun v Z => ?_) ?_))
 ·rcases bf Z with ⟨hb, Z⟩ | ⟨hb, Z⟩
  ·refine re G (hO 3 (.b true) (hP hb h0)) ?_
   exact wJ G Z
  ·refine re G (hO 3 (.b false) (hP hb h0)) ?_
   exact wJ G Z
 rintro v Z
 refine cd Z ?_ ?_ <;> intro Z
 ·refine rg G ?_
  cases Z
  exact rt [] []
 ·refine jae (thN (jac (rg G (tF Z (fun _ => ⟨[], [], 32⟩) (fun v4 hr Z => ?_) ?_))))
  ·refine jab (lp G Z (fun v1 => ⟨[(0, dV s), (14, dV (s.size : Int)), (15, dV v1)], [], 32⟩) ?_)
   rintro v1 r0 hb1 Z
   rw [ydr] at Z
   refine rg G (jac (cd Z ?_ ?_)) <;> intro Z
   ·refine jae (thN (jac (jab (rg G ?_))))
    obtain ⟨u, h, Z⟩ := jad Z
    refine jn Z (fun v2 => ⟨[(0, dV s), (3, dV v1), (4, dV v2), (14, dV (s.size : Int)), (15, dV v1)], [], 32⟩) (fun v2 Z => ?_) ?_
    ·rcases bf Z with ⟨hb2, Z⟩ | ⟨hb2, Z⟩
     ·obtain ⟨u1, h1, Z⟩ := jad Z
      refine re G (hK h (hO 4 (.b true) (hP hb2 (hK h1 h0)))) ?_
      exact wJ G Z
     ·refine re G (hK h (hO 4 (.b false) (hP hb2 h0))) ?_
      exact wJ G Z
    rintro v2 Z
    refine jn Z (fun v3 => ⟨[(0, dV s), (14, dV (s.size : Int)), (15, dV v1), (45, dV v3)], [], 32⟩) (fun v3 Z => ?_) ?_
    ·rcases bf Z with ⟨hb3, Z⟩ | ⟨hb3, Z⟩
     ·rcases bf Z with ⟨hb4, Z⟩ | ⟨hb4, Z⟩
      ·refine re G (hO 2 (.b true) (hP hb3 (hO 5 (.b true) (hP hb4 h0)))) ?_
       exact wJ G Z
      ·obtain ⟨u2, h2, Z⟩ := jad Z
       rcases bf Z with ⟨hb5, Z⟩ | ⟨hb5, Z⟩
       ·refine re G (hO 2 (.b true) (hP hb3 (hO 5 (.b false) (hP hb4 (hK h2 (hO 11 (.b true) (hP hb5 h0))))))) ?_
        exact wJ G Z
       ·obtain ⟨u3, h3, Z⟩ := jad Z
        refine re G (hO 2 (.b true) (hP hb3 (hO 5 (.b false) (hP hb4 (hK h2 (hO 11 (.b false) (hP hb5 (hK h3 h0)))))))) ?_
        exact wJ G Z
     ·refine re G (hO 2 (.b false) (hP hb3 h0)) ?_
      exact wJ G Z
    rintro v3 Z
    refine cd Z ?_ ?_ <;> intro Z
    ·refine rg G ?_
     have Z := eL Z hb1 hr
     cases Z
     exact rt [] []
    ·exact jae (ibN (thN (rh G (wL G Z))))
   ·exact jaf (thE (thE (ibE (wE G Z hb1))))
  rintro ⟨⟩ Z s1 hw
  refine thN (jai hw ?_)
  refine rg G ?_
  cases Z
  exact rt [] []
def yjt : MS ((List ByteArray) × ByteArray) Int := ⟨.x .r .r, fun x => zq97 x.1 x.2, fun y => dV y, fun _ => [], fun _ _ => []⟩
theorem ynz : FnOK Tryz.prog tJ 167 yjt.S := by
 refine fm tt yjt [] call167 func167 rfl results167 ntmps167 ?_
 rintro ⟨s, v⟩ y cx G (Z : zq97 s v = some y)
 unfold zq97 at Z
 refine rg G (jac (rs G (hN 1 s h0) ?_))
 refine tF Z (fun _ => ⟨[], [], 32⟩) (fun v2 hr Z => ?_) ?_
 ·refine jab (lp G Z (fun v1 => ⟨[(0, dV s), (1, dV v), (7, dV (s.length : Int)), (8, dV v1)], [], 32⟩) ?_)
  rintro v1 r0 hb Z
  rw [yem] at Z
  refine rg G (jac (cd Z ?_ ?_)) <;> intro Z
  ·refine jae (thN (jac (jab (rg G ?_))))
   obtain ⟨e, h, Z⟩ := jad Z
   refine rs G (hD 3 h h0) ?_
   refine cd Z ?_ ?_ <;> intro Z
   ·refine rg G ?_
    have Z := eL Z hb hr
    cases Z
    exact rt [] []
   ·exact jae (ibN (thN (rh G (wL G Z))))
  ·exact jaf (thE (thE (ibE (wE G Z hb))))
 rintro ⟨⟩ Z s1 hw
 refine thN (jai hw ?_)
 refine rg G ?_
 cases Z
 exact rt [] []
def yf3 : MS ((List ByteArray)) Bool := ⟨.r, zq10, fun y => dV y, fun _ => [], fun _ _ => []⟩
theorem ypn : FnOK Tryz.prog tJ 133 yf3.S := by
 refine fm tt yf3 [fo ypd, fo ynz] call133 func133 rfl results133 ntmps133 ?_
 rintro names y cx G (Z : zq10 names = some y)
 unfold zq10 at Z
 refine rg G (jac (rs G (hN 1 names h0) ?_))
 refine tF Z (fun _ => ⟨[], [], 32⟩) (fun v2 hr Z => ?_) ?_
 ·refine jab (lp G Z (fun v => ⟨[(0, dV names), (5, dV names), (6, dV (names.length : Int)), (7, dV v)], [], 32⟩) ?_)
  rintro v r0 hb Z
  rw [yfn] at Z
  refine rg G (jac (cd Z ?_ ?_)) <;> intro Z
  ·refine jae (thN (jac (jab ?_)))
   obtain ⟨e, h, Z⟩ := jad Z
   refine rs G (hD 1 h h0) ?_
   obtain ⟨r, h1, Z⟩ := jad Z
   refine jn Z (fun v1 => ⟨[(0, dV names), (5, dV names), (6, dV (names.length : Int)), (7, dV v), (21, dV v1)], [], 32⟩) (fun v1 Z => ?_) ?_
   ·rcases bf Z with ⟨hb1, Z⟩ | ⟨hb1, Z⟩
    ·refine re G (hC 1 (yiu.c _ h1) (hO 3 (.b true) (hP hb1 h0))) ?_
     exact wJ G Z
    ·obtain ⟨r1, h2, Z⟩ := jad Z
     refine re G (hC 1 (yiu.c _ h1) (hO 3 (.b false) (hP hb1 (hC 6 (yjt.c (_, _) h2) h0)))) ?_
     exact wJ G Z
   rintro v1 Z
   refine cd Z ?_ ?_ <;> intro Z
   ·refine rg G ?_
    have Z := eL Z hb hr
    cases Z
    exact rt [] []
   ·exact jae (ibN (thN (rh G (wL G Z))))
  ·exact jaf (thE (thE (ibE (wE G Z hb))))
 rintro ⟨⟩ Z s hw
 refine thN (jai hw ?_)
 refine rg G ?_
 cases Z
 exact rt [] []
def yk0 : MS Network ((List ByteArray)) := ⟨.r, zq27, fun _ => .own 0, fun y => [arO 9 y], fun _ _ => []⟩
theorem ypb : FnOK Tryz.prog tJ 134 yk0.S := by
 refine fm tt yk0 [] call134 func134 rfl results134 ntmps134 ?_
 rintro n y cx G (Z : zq27 n = some y)
 unfold zq27 at Z
 refine rg G ?_
 obtain ⟨u, h, Z⟩ := jad Z
 refine rs G (hN 2 n.Lines (hO 3 (.l (List.map Enc.e (List.replicate (n.Lines.length : Int).toNat (ByteArray.empty : ByteArray)))) (hP (mk_p (b := 16) (jdv h) rfl) (hP (jng Enc.e (n.Lines.length : Int).toNat (ByteArray.empty : ByteArray)) h0)))) ?_
 refine jac (rs G (hN 2 n.Lines h0) ?_)
 refine tl Z (fun i1 => ⟨[(3, .own 16)], [aX 16 9 i1], 48⟩) (fun i1 Z => ?_) ?_
 ·refine jab (lp G Z (fun (v, i) => ⟨[(3, .own 16), (11, dV n.Lines), (12, dV (n.Lines.length : Int)), (13, dV v)], [aX 16 9 i], 48⟩) ?_)
  rintro ⟨v, i⟩ r0 hb Z
  rw [yfe] at Z
  refine rg G (jac (cd Z ?_ ?_)) <;> intro Z
  ·refine jae (thN (jac (jab ?_)))
   obtain ⟨e, h1, Z⟩ := jad Z
   refine rs G (hD 1 h1 h0) ?_
   obtain ⟨e1, h2, Z⟩ := jad Z
   refine re G (hD 4 h2 (hS 5 h2 e.Name h0)) ?_
   exact ibN (thN (rh G (wL G Z)))
  ·exact jaf (thE (thE (ibE (wD G Z hb))))
 rintro i1 Z s hw
 refine thN (jai hw ?_)
 refine rg G ?_
 cases Z
 exact rt [16] []
def ycr : MS (Network × Int) Bool := ⟨.x .r .r, fun x => zq25 x.1 x.2, fun y => dV y, fun _ => [], fun _ _ => []⟩
theorem yfh : FnOK Tryz.prog tJ 44 ycr.S := by
 refine fm tt ycr [] call44 func44 rfl results44 ntmps44 ?_
 rintro ⟨n, stop⟩ y cx G (Z : zq25 n stop = some y)
 unfold zq25 at Z
 refine rg G (jn Z (fun v => ⟨[(4, dV v)], [], 32⟩) (fun v Z => ?_) ?_)
 ·rcases bf Z with ⟨hb, Z⟩ | ⟨hb, Z⟩
  ·refine re G (hO 2 (.b true) (hP hb (hN 6 n.Stops h0))) ?_
   exact wJ G Z
  ·refine re G (hO 2 (.b false) (hP hb h0)) ?_
   exact wJ G Z
 rintro v Z
 cases Z
 exact rt [] []
def yea : MS ((List Int) × Int) Int := ⟨.x .r .r, fun x => zq96 x.1 x.2, fun y => dV y, fun _ => [], fun _ _ => []⟩
theorem ygj : FnOK Tryz.prog tJ 71 yea.S := by
 refine fm tt yea [] call71 func71 rfl results71 ntmps71 ?_
 rintro ⟨s, v⟩ y cx G (Z : zq96 s v = some y)
 unfold zq96 at Z
 refine rg G (jac (rs G (hN 1 s h0) ?_))
 refine tF Z (fun _ => ⟨[], [], 32⟩) (fun v2 hr Z => ?_) ?_
 ·refine jab (lp G Z (fun v1 => ⟨[(0, dV s), (1, dV v), (7, dV (s.length : Int)), (8, dV v1)], [], 32⟩) ?_)
  rintro v1 r0 hb Z
  rw [yen] at Z
  refine rg G (jac (cd Z ?_ ?_)) <;> intro Z
  ·refine jae (thN (jac (jab (rg G ?_))))
   obtain ⟨e, h, Z⟩ := jad Z
   refine rs G (hD 3 h h0) ?_
   refine cd Z ?_ ?_ <;> intro Z
   ·refine rg G ?_
    have Z := eL Z hb hr
    cases Z
    exact rt [] []
   ·exact jae (ibN (thN (rh G (wL G Z))))
  ·exact jaf (thE (thE (ibE (wE G Z hb))))
 rintro ⟨⟩ Z s1 hw
 refine thN (jai hw ?_)
 refine rg G ?_
 cases Z
 exact rt [] []
def yk1 : MS (Network × Line) Bool := ⟨.x .r .r, fun x => zq26 x.1 x.2, fun y => dV y, fun _ => [], fun _ _ => []⟩
theorem ypc : FnOK Tryz.prog tJ 135 yk1.S := by
 refine fm tt yk1 [fo ydq, fo yfh, fo ygj] call135 func135 rfl results135 ntmps135 ?_
 rintro ⟨n, l⟩ y cx G (Z : zq26 n l = some y)
 unfold zq26 at Z
 refine rg G (jac ?_)
 obtain ⟨r, h, Z⟩ := jad Z
 refine jn Z (fun v => ⟨[(2, .ref 16 0), (3, .ref 32 0), (23, dV v)], [bX 16 27 [dV n.Stops, dV n.Lines], bX 32 108 [dV l.Name, dV l.Stops, dV l.Runs]], 64⟩) (fun v Z => ?_) ?_
 ·rcases bf Z with ⟨hb, Z⟩ | ⟨hb, Z⟩
  ·refine re G (hN 2 l.Stops (hC 3 (ybk h) (hO 5 (.b true) (hP hb h0)))) ?_
   exact wJ G Z
  ·refine re G (hN 2 l.Stops (hC 3 (ybk h) (hO 5 (.b false) (hP hb (hN 8 l.Runs (hN 11 l.Stops h0)))))) ?_
   exact wJ G Z
 rintro v Z
 refine cd Z ?_ ?_ <;> intro Z
 ·refine rg G ?_
  cases Z
  exact rt [] []
 ·refine jae (thN (jac (rs G (hN 2 l.Stops h0) ?_)))
  refine tF Z (fun _ => ⟨[(3, .ref 16 0)], [bX 16 108 [dV l.Name, dV l.Stops, dV l.Runs]], 48⟩) (fun v5 hr Z => ?_) ?_
  ·refine jab (lp G Z (fun v1 => ⟨[(2, .ref 16 0), (3, .ref 32 0), (25, dV l.Stops), (26, dV (l.Stops.length : Int)), (27, dV v1)], [bX 16 27 [dV n.Stops, dV n.Lines], bX 32 108 [dV l.Name, dV l.Stops, dV l.Runs]], 64⟩) ?_)
   rintro v1 r0 hb1 Z
   rw [yfg] at Z
   refine rg G (jac (cd Z ?_ ?_)) <;> intro Z
   ·refine jae (thN (jac (jab ?_)))
    obtain ⟨e, h1, Z⟩ := jad Z
    refine rs G (hD 1 h1 h0) ?_
    obtain ⟨r1, h2, Z⟩ := jad Z
    refine jn Z (fun v2 => ⟨[(2, .ref 16 0), (3, .ref 32 0), (25, dV l.Stops), (26, dV (l.Stops.length : Int)), (27, dV v1), (43, dV v2)], [bX 16 27 [dV n.Stops, dV n.Lines], bX 32 108 [dV l.Name, dV l.Stops, dV l.Runs]], 64⟩) (fun v2 Z => ?_) ?_
    ·rcases bf Z with ⟨hb2, Z⟩ | ⟨hb2, Z⟩
     ·refine re G (hC 2 (ycr.c (_, _) h2) (hO 4 (.b true) (hP hb2 h0))) ?_
      exact wJ G Z
     ·obtain ⟨r2, h3, Z⟩ := jad Z
      refine re G (hC 2 (ycr.c (_, _) h2) (hO 4 (.b false) (hP hb2 (hC 8 (yea.c (_, _) h3) h0)))) ?_
      exact wJ G Z
    rintro v2 Z
    refine cd Z ?_ ?_ <;> intro Z
    ·refine rg G ?_
     have Z := eL Z hb1 hr
     cases Z
     exact rt [] []
    ·exact jae (ibN (thN (rh G (wL G Z))))
   ·exact jaf (thE (thE (ibE (wE G Z hb1))))
  rintro ⟨⟩ Z s hw
  refine thN (jai hw ?_)
  refine jac (rs G (hN 2 l.Runs h0) ?_)
  refine tF Z (fun _ => ⟨[], [], 32⟩) (fun v4 hr1 Z => ?_) ?_
  ·refine jab (lp G Z (fun v3 => ⟨[(46, dV l.Runs), (47, dV (l.Runs.length : Int)), (48, dV v3)], [], 32⟩) ?_)
   rintro v3 r0 hb3 Z
   rw [yff] at Z
   refine rg G (jac (cd Z ?_ ?_)) <;> intro Z
   ·refine jae (thN (jac (jab ?_)))
    obtain ⟨e2, h4, Z⟩ := jad Z
    refine rs G (hD 0 h4 h0) ?_
    obtain ⟨r4, h5, Z⟩ := jad Z
    refine rs G (hC 1 (ybk h5) h0) ?_
    refine cd Z ?_ ?_ <;> intro Z
    ·refine rg G ?_
     have Z := eL Z hb3 hr1
     cases Z
     exact rt [] []
    ·exact jae (ibN (thN (rh G (wL G Z))))
   ·exact jaf (thE (thE (ibE (wE G Z hb3))))
  rintro ⟨⟩ Z s1 hw1
  refine thN (jai hw1 ?_)
  refine rg G ?_
  cases Z
  exact rt [] []
def yma : MS Network Bool := ⟨.r, zq5, fun y => dV y, fun _ => [], fun _ _ => []⟩
theorem yqf : FnOK Tryz.prog tJ 90 yma.S := by
 refine fm tt yma [fo ydq, fo ypn, fo ypb, fo ypc] call90 func90 rfl results90 ntmps90 ?_
 rintro n y cx G (Z : zq5 n = some y)
 unfold zq5 at Z
 refine rg G (jac ?_)
 obtain ⟨r, h, Z⟩ := jad Z
 refine jn Z (fun v => ⟨[(1, .ref 16 0), (28, dV v)], [bX 16 27 [dV n.Stops, dV n.Lines]], 48⟩) (fun v Z => ?_) ?_
 ·rcases bf Z with ⟨hb, Z⟩ | ⟨hb, Z⟩
  ·refine re G (hN 2 n.Stops (hC 3 (ybk h) (hO 5 (.b true) (hP hb h0)))) ?_
   exact wJ G Z
  ·obtain ⟨r1, h1, Z⟩ := jad Z
   rcases bf Z with ⟨hb1, Z⟩ | ⟨hb1, Z⟩
   ·refine re G (hN 2 n.Stops (hC 3 (ybk h) (hO 5 (.b false) (hP hb (hN 8 n.Lines (hC 9 (ybk h1) (hO 12 (.b true) (hP hb1 h0)))))))) ?_
    exact wJ G Z
   ·obtain ⟨r2, h2, Z⟩ := jad Z
    rcases bf Z with ⟨hb2, Z⟩ | ⟨hb2, Z⟩
    ·refine re G (hN 2 n.Stops (hC 3 (ybk h) (hO 5 (.b false) (hP hb (hN 8 n.Lines (hC 9 (ybk h1) (hO 12 (.b false) (hP hb1 (hC 15 (yf3.c _ h2) (hO 18 (.b true) (hP hb2 h0))))))))))) ?_
     exact wJ G Z
    ·obtain ⟨r3, h3, r4, h4, Z⟩ := ob2 Z
     refine re G (hN 2 n.Stops (hC 3 (ybk h) (hO 5 (.b false) (hP hb (hN 8 n.Lines (hC 9 (ybk h1) (hO 12 (.b false) (hP hb1 (hC 15 (yf3.c _ h2) (hO 18 (.b false) (hP hb2 (hC 20 (yk0.c _ h3) (hC 21 (yf3.c _ h4) h0))))))))))))) ?_
     exact wJ G Z
 rintro v Z
 refine cd Z ?_ ?_ <;> intro Z
 ·refine rg G ?_
  cases Z
  exact rt [] []
 ·refine jae (thN (jac (rs G (hN 2 n.Lines h0) ?_)))
  refine tF Z (fun _ => ⟨[], [], 32⟩) (fun v2 hr Z => ?_) ?_
  ·refine jab (lp G Z (fun v1 => ⟨[(1, .ref 16 0), (30, dV n.Lines), (31, dV (n.Lines.length : Int)), (32, dV v1)], [bX 16 27 [dV n.Stops, dV n.Lines]], 48⟩) ?_)
   rintro v1 r0 hb3 Z
   rw [yig] at Z
   refine rg G (jac (cd Z ?_ ?_)) <;> intro Z
   ·refine jae (thN (jac (jab ?_)))
    obtain ⟨e, h5, Z⟩ := jad Z
    refine rs G (hD 0 h5 h0) ?_
    obtain ⟨r5, h6, Z⟩ := jad Z
    refine rs G (hC 2 (yk1.c (_, _) h6) h0) ?_
    refine cd Z ?_ ?_ <;> intro Z
    ·refine rg G ?_
     have Z := eL Z hb3 hr
     cases Z
     exact rt [] []
    ·exact jae (ibN (thN (rh G (wL G Z))))
   ·exact jaf (thE (thE (ibE (wE G Z hb3))))
  rintro ⟨⟩ Z s hw
  refine thN (jai hw ?_)
  refine rg G ?_
  cases Z
  exact rt [] []
def yiv : MS (Network × Int) Bool := ⟨.x .r .r, fun x => zq23 x.1 x.2, fun y => dV y, fun _ => [], fun _ _ => []⟩
theorem yk2 {n line y} (Z : zq23 n line = some y) : yiv.C (n, line) y := yiv.c (n, line) Z
theorem ype : FnOK Tryz.prog tJ 136 yiv.S := by
 refine fm tt yiv [] call136 func136 rfl results136 ntmps136 ?_
 rintro ⟨n, line⟩ y cx G (Z : zq23 n line = some y)
 unfold zq23 at Z
 refine rg G (jn Z (fun v => ⟨[(4, dV v)], [], 32⟩) (fun v Z => ?_) ?_)
 ·rcases bf Z with ⟨hb, Z⟩ | ⟨hb, Z⟩
  ·refine re G (hO 2 (.b true) (hP hb (hN 6 n.Lines h0))) ?_
   exact wJ G Z
  ·refine re G (hO 2 (.b false) (hP hb h0)) ?_
   exact wJ G Z
 rintro v Z
 cases Z
 exact rt [] []
def yl8 : MS Int Bool := ⟨.r, zq6, fun y => dV y, fun _ => [], fun _ _ => []⟩
theorem yka {t y} (Z : zq6 t = some y) : yl8.C t y := yl8.c t Z
theorem yj9 : FnOK Tryz.prog tJ 56 yl8.S := by
 refine fm tt yl8 [fo ydq] call56 func56 rfl results56 ntmps56 ?_
 rintro t y cx G (Z : zq6 t = some y)
 unfold zq6 at Z
 refine rg G ?_
 obtain ⟨r, h, Z⟩ := jad Z
 refine rs G (hC 1 (ybk h) h0) ?_
 cases Z
 exact rt [] []
def yit : MS ((List Int)) Int := ⟨.r, zq32, fun y => dV y, fun _ => [], fun _ _ => []⟩
theorem yqk {list y} (Z : zq32 list = some y) : yit.C list y := yit.c list Z
theorem yo8 : FnOK Tryz.prog tJ 168 yit.S := by
 refine fm tt yit [] call168 func168 rfl results168 ntmps168 ?_
 rintro list y cx G (Z : zq32 list = some y)
 unfold zq32 at Z
 refine rg G (rg G (jac (rs G (hN 1 list h0) ?_)))
 refine tl Z (fun v2 => ⟨[(3, dV v2)], [], 32⟩) (fun v2 Z => ?_) ?_
 ·refine jab (lp G Z (fun (v, v1) => ⟨[(3, dV v), (6, dV list), (7, dV (list.length : Int)), (8, dV v1)], [], 32⟩) ?_)
  rintro ⟨v, v1⟩ r0 hb Z
  rw [ye8] at Z
  refine rg G (jac (cd Z ?_ ?_)) <;> intro Z
  ·refine jae (thN (jac (jab ?_)))
   obtain ⟨e, h, Z⟩ := jad Z
   refine rs G (hD 0 h h0) ?_
   exact rh G (ibN (thN (rh G (wL G Z))))
  ·exact jaf (thE (thE (ibE (wD G Z hb))))
 rintro v2 Z s hw
 refine thN (jai hw ?_)
 refine rg G ?_
 cases Z
 exact rt [] []
def yk8 : MS (Timetable × Trip) Int := ⟨.x .r .r, fun x => zq15 x.1 x.2, fun y => dV y, fun _ => [], fun _ _ => []⟩
theorem ypj : FnOK Tryz.prog tJ 137 yk8.S := by
 refine fm tt yk8 [fo yo8] call137 func137 rfl results137 ntmps137 ?_
 rintro ⟨t, x⟩ y cx G (Z : zq15 t x = some y)
 unfold zq15 at Z
 refine rg G ?_
 obtain ⟨e1, h2, r1, h3, Z⟩ := ob2 Z
 refine ds G [] (hD 7 h2 (hC 10 (yqk h3) h0)) ?_
 cases Z
 exact rt [] []
def yla : MS Timetable Bool := ⟨.r, zq11, fun y => dV y, fun _ => [], fun _ _ => []⟩
theorem ypl : FnOK Tryz.prog tJ 91 yla.S := by
 refine fm tt yla [fo ype, fo yj9, fo ypj] call91 func91 rfl results91 ntmps91 ?_
 rintro t y cx G (Z : zq11 t = some y)
 unfold zq11 at Z
 refine rg G (jac (rs G (hN 2 t.Trips h0) ?_))
 refine cd Z ?_ ?_ <;> intro Z
 ·refine rg G ?_
  cases Z
  exact rt [] []
 ·refine jae (thN (rg G (jac (rs G (hN 2 t.Trips h0) ?_))))
  refine tF Z (fun _ => ⟨[], [], 32⟩) (fun v3 hr Z => ?_) ?_
  ·refine jab (lp G Z (fun (v, v1) => ⟨[(1, .ref 16 0), (3, dV v), (11, dV t.Trips), (12, dV (t.Trips.length : Int)), (13, dV v1)], [bX 16 30 [dV t.Network.Stops, dV t.Network.Lines, dV t.Trips]], 48⟩) ?_)
   rintro ⟨v, v1⟩ r0 hb Z
   rw [yha] at Z
   refine rg G (jac (cd Z ?_ ?_)) <;> intro Z
   ·refine jae (thN (jac (jab ?_)))
    obtain ⟨e, h, Z⟩ := jad Z
    refine rs G (hD 0 h h0) ?_
    refine jac (jn Z (fun v2 => ⟨[(1, .ref 16 0), (5, .ref 32 0), (11, dV t.Trips), (12, dV (t.Trips.length : Int)), (13, dV v1), (46, dV v2)], [bX 16 30 [dV t.Network.Stops, dV t.Network.Lines, dV t.Trips], bX 32 65 [dV e.Id, dV e.Line, dV e.Start]], 64⟩) (fun v2 Z => ?_) ?_)
    ·rcases bf Z with ⟨hb1, Z⟩ | ⟨hb1, Z⟩
     ·refine re G (hO 4 (.b true) (hP hb1 h0)) ?_
      exact wJ G Z
     ·rcases bf Z with ⟨hb2, Z⟩ | ⟨hb2, Z⟩
      ·refine re G (hO 4 (.b false) (hP hb1 (hO 9 (.b true) (hP hb2 h0)))) ?_
       exact wJ G Z
      ·obtain ⟨r, h1, Z⟩ := jad Z
       rcases bf Z with ⟨hb3, Z⟩ | ⟨hb3, Z⟩
       ·refine re G (hO 4 (.b false) (hP hb1 (hO 9 (.b false) (hP hb2 (hC 14 (yk2 h1) (hO 17 (.b true) (hP hb3 h0))))))) ?_
        exact wJ G Z
       ·obtain ⟨r1, h2, Z⟩ := jad Z
        rcases bf Z with ⟨hb4, Z⟩ | ⟨hb4, Z⟩
        ·refine re G (hO 4 (.b false) (hP hb1 (hO 9 (.b false) (hP hb2 (hC 14 (yk2 h1) (hO 17 (.b false) (hP hb3 (hC 20 (yka h2) (hO 23 (.b true) (hP hb4 h0)))))))))) ?_
         exact wJ G Z
        ·obtain ⟨r2, h3, r3, h4, Z⟩ := ob2 Z
         refine re G (hO 4 (.b false) (hP hb1 (hO 9 (.b false) (hP hb2 (hC 14 (yk2 h1) (hO 17 (.b false) (hP hb3 (hC 20 (yka h2) (hO 23 (.b false) (hP hb4 (hC 26 (yk8.c (_, _) h3) (hC 27 (yka h4) h0)))))))))))) ?_
         exact wJ G Z
    rintro v2 Z
    refine cd Z ?_ ?_ <;> intro Z
    ·refine rg G ?_
     have Z := eL Z hb hr
     cases Z
     exact rt [] []
    ·exact jae (thN (rh G (ibN (thN (rh G (wL G Z))))))
   ·exact jaf (thE (thE (ibE (wE G Z hb))))
  rintro ⟨⟩ Z s hw
  refine thN (jai hw ?_)
  refine rg G ?_
  cases Z
  exact rt [] []
def yet : MS Timetable Bool := ⟨.r, zq7, fun y => dV y, fun _ => [], fun _ _ => []⟩
theorem ynk : FnOK Tryz.prog tJ 49 yet.S := by
 refine fm tt yet [fo yqf, fo ypl] call49 func49 rfl results49 ntmps49 ?_
 rintro t y cx G (Z : zq7 t = some y)
 unfold zq7 at Z
 refine rg G ?_
 obtain ⟨r, h, Z⟩ := jad Z
 refine jn Z (fun v => ⟨[(2, dV v)], [], 32⟩) (fun v Z => ?_) ?_
 ·rcases bf Z with ⟨hb, Z⟩ | ⟨hb, Z⟩
  ·obtain ⟨r1, h1, Z⟩ := jad Z
   refine re G (hC 2 (yma.c _ h) (hO 3 (.b true) (hP hb (hC 5 (yla.c _ h1) h0)))) ?_
   exact wJ G Z
  ·refine re G (hC 2 (yma.c _ h) (hO 3 (.b false) (hP hb h0))) ?_
   exact wJ G Z
 rintro v Z
 cases Z
 exact rt [] []
def ydt : MS Int Bool := ⟨.r, zq19, fun y => dV y, fun _ => [], fun _ _ => []⟩
theorem yk5 : FnOK Tryz.prog tJ 50 ydt.S := by
 refine fm tt ydt [fo ydq] call50 func50 rfl results50 ntmps50 ?_
 rintro change y cx G (Z : zq19 change = some y)
 unfold zq19 at Z
 refine rg G ?_
 obtain ⟨r, h, Z⟩ := jad Z
 refine rs G (hC 1 (ybk h) h0) ?_
 cases Z
 exact rt [] []
def ycs : MS (Timetable × Int × Int × Int) Bool := ⟨.x .r (.x .r (.x .r .r)), fun x => zq20 x.1 x.2.1 x.2.2.1 x.2.2.2, fun y => dV y, fun _ => [], fun _ _ => []⟩
theorem yfi : FnOK Tryz.prog tJ 43 ycs.S := by
 refine fm tt ycs [fo ynk, fo yk5, fo yfh, fo yj9] call43 func43 rfl results43 ntmps43 ?_
 rintro ⟨t, change, from_, at_⟩ y cx G (Z : zq20 t change from_ at_ = some y)
 unfold zq20 at Z
 refine rg G ?_
 obtain ⟨r, h, Z⟩ := jad Z
 refine jn Z (fun v => ⟨[(8, dV v)], [], 32⟩) (fun v Z => ?_) ?_
 ·rcases bf Z with ⟨hb, Z⟩ | ⟨hb, Z⟩
  ·obtain ⟨r1, h1, Z⟩ := jad Z
   rcases bf Z with ⟨hb1, Z⟩ | ⟨hb1, Z⟩
   ·obtain ⟨r2, h2, Z⟩ := jad Z
    rcases bf Z with ⟨hb2, Z⟩ | ⟨hb2, Z⟩
    ·obtain ⟨r3, h3, Z⟩ := jad Z
     refine re G (hC 1 (yet.c _ h) (hO 2 (.b true) (hP hb (hC 4 (ydt.c _ h1) (hO 6 (.b true) (hP hb1 (hC 10 (ycr.c (_, _) h2) (hO 12 (.b true) (hP hb2 (hC 14 (yka h3) h0)))))))))) ?_
     exact wJ G Z
    ·refine re G (hC 1 (yet.c _ h) (hO 2 (.b true) (hP hb (hC 4 (ydt.c _ h1) (hO 6 (.b true) (hP hb1 (hC 10 (ycr.c (_, _) h2) (hO 12 (.b false) (hP hb2 h0))))))))) ?_
     exact wJ G Z
   ·refine re G (hC 1 (yet.c _ h) (hO 2 (.b true) (hP hb (hC 4 (ydt.c _ h1) (hO 6 (.b false) (hP hb1 h0)))))) ?_
    exact wJ G Z
  ·refine re G (hC 1 (yet.c _ h) (hO 2 (.b false) (hP hb h0))) ?_
   exact wJ G Z
 rintro v Z
 cases Z
 exact rt [] []
def ycq : MS (Timetable × Int × Int) ((List Int)) := ⟨.x .r (.x .r .r), fun x => zq29 x.1 x.2.1 x.2.2, fun _ => .own 0, fun y => [arO 3 y], fun _ _ => []⟩
theorem yfb : FnOK Tryz.prog tJ 55 ycq.S := by
 refine fm tt ycq [] call55 func55 rfl results55 ntmps55 ?_
 rintro ⟨t, stop, at_⟩ y cx G (Z : zq29 t stop at_ = some y)
 unfold zq29 at Z
 refine rg G ?_
 obtain ⟨u, h, Z⟩ := jad Z
 refine rs G (hN 3 t.Network.Stops (hO 4 (.l (List.map Enc.e (List.replicate (t.Network.Stops.length : Int).toNat (0 : Int)))) (hP (mk_p (b := 8) (jdv h) rfl) (hP (jng Enc.e (t.Network.Stops.length : Int).toNat (0 : Int)) h0)))) ?_
 refine jac (rs G (hN 1 (List.replicate (t.Network.Stops.length : Int).toNat (0 : Int)) h0) ?_)
 refine tl Z (fun v2 => ⟨[(1, dV stop), (2, dV at_), (7, .own 16)], [aX 16 3 v2], 48⟩) (fun v2 Z => ?_) ?_
 ·refine jab (lp G Z (fun (v, v1) => ⟨[(1, dV stop), (2, dV at_), (7, .own 16), (15, dV ((List.replicate (t.Network.Stops.length : Int).toNat (0 : Int)).length : Int)), (16, dV v)], [aX 16 3 v1], 48⟩) ?_)
  rintro ⟨v, v1⟩ r0 hb Z
  rw [yfc] at Z
  refine rg G (jac (cd Z ?_ ?_)) <;> intro Z
  ·refine jae (thN (jac (jab (rg G ?_))))
   obtain ⟨e, h1, Z⟩ := jad Z
   refine re G (hD 2 h1 (hS 3 h1 1073741824 h0)) ?_
   exact ibN (thN (rh G (wL G Z)))
  ·exact jaf (thE (thE (ibE (wD G Z hb))))
 rintro v2 Z s hw
 refine thN (jai hw ?_)
 obtain ⟨e1, h2, Z⟩ := jad Z
 refine rs G (hD 3 h2 (hS 4 h2 at_ h0)) ?_
 refine rg G ?_
 cases Z
 exact rt [16] []
def yec : MS (Timetable × Trip) Line := ⟨.x .r .r, fun x => zq28 x.1 x.2, fun y => dV y, fun _ => [], fun _ _ => []⟩
theorem yfd : FnOK Tryz.prog tJ 72 yec.S := by
 refine fm tt yec [] call72 func72 rfl results72 ntmps72 ?_
 rintro ⟨t, x⟩ y cx G (Z : zq28 t x = some y)
 unfold zq28 at Z
 refine rg G ?_
 obtain ⟨e, h, Z⟩ := jad Z
 refine rs G (hD 5 h h0) ?_
 cases Z
 exact rt [] []
def yf1 : MS (Timetable × Trip) ((List Int)) := ⟨.x .r .r, fun x => zq31 x.1 x.2, fun _ => .own 0, fun y => [arO 3 y], fun _ _ => []⟩
theorem ygy : FnOK Tryz.prog tJ 73 yf1.S := by
 refine fm tt yf1 [fo yfd] call73 func73 rfl results73 ntmps73 ?_
 rintro ⟨t, x⟩ y cx G (Z : zq31 t x = some y)
 unfold zq31 at Z
 refine rg G (rg G (jac ?_))
 obtain ⟨r, h, Z⟩ := jad Z
 refine rs G (hC 2 (yec.c (_, _) h) (hN 4 r.Runs h0)) ?_
 refine tl Z (fun r2 => ⟨[(5, .own 16)], [aX 16 3 r2], 48⟩) (fun r2 Z => ?_) ?_
 ·refine jab (lp G Z (fun (v, r1) => ⟨[(5, .own 16), (14, dV r.Runs), (15, dV (r.Runs.length : Int)), (16, dV v)], [aX 16 3 r1], 48⟩) ?_)
  rintro ⟨v, r1⟩ r0 hb Z
  rw [ygz] at Z
  refine rg G (jac (cd Z ?_ ?_)) <;> intro Z
  ·refine jae (thN (jac (jab ?_)))
   obtain ⟨e, h1, Z⟩ := jad Z
   refine rs G (hD 1 h1 h0) ?_
   obtain ⟨e1, h2, u, h3, Z⟩ := ob2 Z
   refine re G (hD 3 h2 (hE 4 h2 (hA 8 8 h3 h0))) ?_
   exact ibN (thN (rh G (wL G Z)))
  ·exact jaf (thE (thE (ibE (wD G Z hb))))
 rintro r2 Z s hw
 refine thN (jai hw ?_)
 refine rg G ?_
 cases Z
 exact rt [16] []
def ykz : MS (Timetable × (List Int)) ((List Int)) := ⟨.x .r .r, fun x => zq30 x.1 x.2, fun _ => .own 0, fun y => [arO 3 y], fun _ _ => []⟩
theorem yo9 : FnOK Tryz.prog tJ 100 ykz.S := by
 refine fm tt ykz [fo ygy, fo yfd] call100 func100 rfl results100 ntmps100 ?_
 rintro ⟨t, ready⟩ y cx G (Z : zq30 t ready = some y)
 unfold zq30 at Z
 refine rg G ?_
 obtain ⟨u, h, Z⟩ := jad Z
 refine rs G (hN 1 ready (hO 2 (.l (List.map Enc.e (List.replicate (ready.length : Int).toNat (0 : Int)))) (hP (mk_p (b := 8) (jdv h) rfl) (hP (jng Enc.e (ready.length : Int).toNat (0 : Int)) h0)))) ?_
 refine jac (rs G (hN 1 (List.replicate (ready.length : Int).toNat (0 : Int)) h0) ?_)
 refine tl Z (fun v2 => ⟨[(1, dV ready), (2, .ref 16 0), (5, .own 32)], [bX 16 30 [dV t.Network.Stops, dV t.Network.Lines, dV t.Trips], aX 32 3 v2], 64⟩) (fun v2 Z => ?_) ?_
 ·refine jab (lp G Z (fun (v, v1) => ⟨[(1, dV ready), (2, .ref 16 0), (5, .own 32), (17, dV ((List.replicate (ready.length : Int).toNat (0 : Int)).length : Int)), (18, dV v)], [bX 16 30 [dV t.Network.Stops, dV t.Network.Lines, dV t.Trips], aX 32 3 v1], 64⟩) ?_)
  rintro ⟨v, v1⟩ r0 hb Z
  rw [yfa] at Z
  refine rg G (jac (cd Z ?_ ?_)) <;> intro Z
  ·refine jae (thN (jac (jab (rg G ?_))))
   obtain ⟨e, h1, Z⟩ := jad Z
   refine re G (hD 2 h1 (hS 3 h1 1073741824 h0)) ?_
   exact ibN (thN (rh G (wL G Z)))
  ·exact jaf (thE (thE (ibE (wD G Z hb))))
 rintro v2 Z s hw
 refine thN (jai hw ?_)
 refine jac (rs G (hN 2 t.Trips h0) ?_)
 refine tl Z (fun v9 => ⟨[(5, .own 16)], [aX 16 3 v9], 48⟩) (fun v9 Z => ?_) ?_
 ·refine jab (lp G Z (fun (v3, v4) => ⟨[(1, dV ready), (2, .ref 16 0), (5, .own 32), (26, dV t.Trips), (27, dV (t.Trips.length : Int)), (28, dV v3)], [bX 16 30 [dV t.Network.Stops, dV t.Network.Lines, dV t.Trips], aX 32 3 v4], 64⟩) ?_)
  rintro ⟨v3, v4⟩ r0 hb1 Z
  rw [yg0] at Z
  refine rg G (jac (cd Z ?_ ?_)) <;> intro Z
  ·refine jae (thN (jac (jab ?_)))
   obtain ⟨e1, h2, Z⟩ := jad Z
   refine rs G (hD 0 h2 h0) ?_
   obtain ⟨r, h3, Z⟩ := jad Z
   refine rs G (hC 2 (yf1.c (_, _) h3) h0) ?_
   refine rg G ?_
   obtain ⟨r1, h4, Z⟩ := jad Z
   refine rs G (hC 2 (yec.c (_, _) h4) (hN 4 r1.Stops h0)) ?_
   refine tl Z (fun v8 => ⟨[(1, dV ready), (2, .ref 16 0), (5, .own 32), (26, dV t.Trips), (27, dV (t.Trips.length : Int)), (28, dV v3)], [bX 16 30 [dV t.Network.Stops, dV t.Network.Lines, dV t.Trips], aX 32 3 v8], 64⟩) (fun v8 Z => ?_) ?_
   ·refine jab (lp G Z (fun (s1, v5, v6) => ⟨[(1, dV ready), (2, .ref 16 0), (5, .own 32), (9, .own 48), (10, dV s1), (26, dV t.Trips), (27, dV (t.Trips.length : Int)), (28, dV v3), (38, dV r1.Stops), (39, dV (r1.Stops.length : Int)), (40, dV v5)], [bX 16 30 [dV t.Network.Stops, dV t.Network.Lines, dV t.Trips], aX 32 3 v6, aX 48 3 r], 80⟩) ?_)
    rintro ⟨s1, v5, v6⟩ r0 hb2 Z
    rw [ye9] at Z
    refine rg G (jac (cd Z ?_ ?_)) <;> intro Z
    ·refine jae (thN (jac (jab ?_)))
     obtain ⟨e2, h5, Z⟩ := jad Z
     refine rs G (hD 1 h5 h0) ?_
     refine jn Z (fun v7 => ⟨[(1, dV ready), (2, .ref 16 0), (5, .own 32), (9, .own 48), (10, dV s1), (11, dV v5), (12, dV e2), (26, dV t.Trips), (27, dV (t.Trips.length : Int)), (28, dV v3), (38, dV r1.Stops), (39, dV (r1.Stops.length : Int)), (40, dV v5)], [bX 16 30 [dV t.Network.Stops, dV t.Network.Lines, dV t.Trips], aX 32 3 v7, aX 48 3 r], 80⟩) (fun v7 Z => ?_) ?_
     ·refine rg G (cd Z ?_ ?_) <;> intro Z
      ·obtain ⟨e6, h9, e7, h10, e8, h11, Z⟩ := ob3 Z
       refine de G [(12, [32])] (hD 4 h9 (hE 5 h9 (hD 8 h10 (hE 9 h10 (hD 11 h11 (hS 12 h11 (if e7 < e6 then e7 else e6) h0)))))) ?_
       exact wJ G Z
      ·exact jae (wJ G Z)
     rintro v7 Z
     rcases bf Z with ⟨hb3, Z⟩ | ⟨hb3, Z⟩
     ·refine de G [] (hO 1 (.b true) (hP hb3 h0)) ?_
      exact ibN (thN (rh G (wL G Z)))
     ·obtain ⟨e11, h14, e12, h15, Z⟩ := ob2 Z
      refine de G [] (hO 1 (.b false) (hP hb3 (hD 4 h14 (hD 8 h15 (hE 9 h15 h0))))) ?_
      exact ibN (thN (rh G (wL G Z)))
    ·exact jaf (thE (thE (ibE (wD G Z hb2))))
   rintro v8 Z s2 hw1
   refine ibN (thN (jai hw1 ?_))
   exact rh G (wL G Z)
  ·exact jaf (thE (thE (ibE (wD G Z hb1))))
 rintro v9 Z s3 hw2
 refine thN (jai hw2 ?_)
 refine rg G ?_
 cases Z
 exact rt [16] []
def yiz : MS (Timetable × Int × (List Int) × Int) ((List Int)) := ⟨.x .r (.x .r (.x .r .r)), fun x => zq12 x.1 x.2.1 x.2.2.1 x.2.2.2, fun _ => .own 0, fun y => [arO 3 y], fun _ _ => []⟩
theorem yed {t change ready legs y} (Z : zq12 t change ready legs = some y) : yiz.C (t, change, ready, legs) y := yiz.c (t, change, ready, legs) Z
theorem yfj : FnOK Tryz.prog tJ 54 yiz.S := by
 refine fm tt yiz [fo yo9] call54 func54 rfl results54 ntmps54 ?_
 rintro ⟨t, change, ready, legs⟩ y cx G (Z : zq12 t change ready legs = some y)
 unfold zq12 at Z
 refine rg G ?_
 obtain ⟨u, h, Z⟩ := jad Z
 refine rs G (hN 1 ready (hO 2 (.l (List.map Enc.e (List.replicate (ready.length : Int).toNat (0 : Int)))) (hP (mk_p (b := 8) (jdv h) rfl) (hP (jng Enc.e (ready.length : Int).toNat (0 : Int)) h0)))) ?_
 refine jac (rs G (hN 1 (List.replicate (ready.length : Int).toNat (0 : Int)) h0) ?_)
 refine tl Z (fun a1 => ⟨[(1, dV change), (2, dV ready), (3, dV legs), (4, .ref 16 0), (9, .own 32)], [bX 16 30 [dV t.Network.Stops, dV t.Network.Lines, dV t.Trips], aX 32 3 a1], 64⟩) (fun a1 Z => ?_) ?_
 ·refine jab (lp G Z (fun (v, a) => ⟨[(1, dV change), (2, dV ready), (3, dV legs), (4, .ref 16 0), (9, .own 32), (18, dV ((List.replicate (ready.length : Int).toNat (0 : Int)).length : Int)), (19, dV v)], [bX 16 30 [dV t.Network.Stops, dV t.Network.Lines, dV t.Trips], aX 32 3 a], 64⟩) ?_)
  rintro ⟨v, a⟩ r0 hb Z
  rw [yfk] at Z
  refine rg G (jac (cd Z ?_ ?_)) <;> intro Z
  ·refine jae (thN (jac (jab (rg G ?_))))
   obtain ⟨e, h1, Z⟩ := jad Z
   refine re G (hD 2 h1 (hS 3 h1 1073741824 h0)) ?_
   exact ibN (thN (rh G (wL G Z)))
  ·exact jaf (thE (thE (ibE (wD G Z hb))))
 rintro a1 Z s hw
 refine thN (jai hw ?_)
 refine jac (rg G (tl Z (fun a6 => ⟨[(9, .own 16)], [aX 16 3 a6], 48⟩) (fun a6 Z => ?_) ?_))
 ·refine jab (lp G Z (fun (ready1, v1, a2) => ⟨[(1, dV change), (2, dV ready1), (4, .ref 16 0), (9, .own 32), (26, dV legs), (27, dV v1)], [bX 16 30 [dV t.Network.Stops, dV t.Network.Lines, dV t.Trips], aX 32 3 a2], 64⟩) ?_)
  rintro ⟨ready1, v1, a2⟩ r0 hb1 Z
  rw [yg8] at Z
  refine rg G (jac (cd Z ?_ ?_)) <;> intro Z
  ·refine jae (thN (jac (jab ?_)))
   obtain ⟨r, h2, Z⟩ := jad Z
   refine rs G (hC 2 (ykz.c (_, _) h2) h0) ?_
   obtain ⟨u1, h3, Z⟩ := jad Z
   refine rs G (hN 1 a2 (hO 2 (.l (List.map Enc.e (List.replicate (a2.length : Int).toNat (0 : Int)))) (hP (mk_p (b := 8) (jdv h3) rfl) (hP (jng Enc.e (a2.length : Int).toNat (0 : Int)) h0)))) ?_
   refine rs G (hN 1 r h0) ?_
   refine tl Z (fun (ready4, a5) => ⟨[(1, dV change), (2, .own 16), (4, .ref 32 0), (9, .own 48), (26, dV legs), (27, dV v1)], [aX 16 3 ready4, bX 32 30 [dV t.Network.Stops, dV t.Network.Lines, dV t.Trips], aX 48 3 a5], 80⟩) (fun vv1 Z => ?_) ?_
   ·refine jab (lp G Z (fun (v2, ready2, a3) => ⟨[(1, dV change), (2, .own 16), (4, .ref 32 0), (9, .own 48), (26, dV legs), (27, dV v1), (35, .own 64), (36, dV (r.length : Int)), (37, dV v2)], [aX 16 3 ready2, bX 32 30 [dV t.Network.Stops, dV t.Network.Lines, dV t.Trips], aX 48 3 a3, aX 64 3 r], 96⟩) ?_)
    rintro ⟨v2, ready2, a3⟩ r0 hb2 Z
    rw [yg9] at Z
    refine rg G (jac (cd Z ?_ ?_)) <;> intro Z
    ·refine jae (thN (jn Z (fun (ready3, a4) => ⟨[(1, dV change), (2, .own 16), (4, .ref 32 0), (9, .own 48), (26, dV legs), (27, dV v1), (35, .own 64), (36, dV (r.length : Int)), (37, dV v2)], [aX 16 3 ready3, bX 32 30 [dV t.Network.Stops, dV t.Network.Lines, dV t.Trips], aX 48 3 a4, aX 64 3 r], 96⟩) (fun vv Z => ?_) ?_))
     ·refine jab ?_
      obtain ⟨e1, h4, Z⟩ := jad Z
      refine rs G (hD 1 h4 (hE 2 h4 h0)) ?_
      obtain ⟨e2, h5, Z⟩ := jad Z
      refine rs G (hD 2 h5 (hS 3 h5 1073741824 h0)) ?_
      obtain ⟨e3, h6, Z⟩ := jad Z
      refine rs G (hD 3 h6 (hE 4 h6 h0)) ?_
      refine cd Z ?_ ?_ <;> intro Z
      ·obtain ⟨e4, h7, Z⟩ := jad Z
       refine rs G (hD 3 h7 (hS 4 h7 e1 h0)) ?_
       obtain ⟨e5, h8, Z⟩ := jad Z
       refine re G (hD 5 h8 (hS 6 h8 (w64 (e1 + change)) h0)) ?_
       exact ibN (wJ G Z)
      ·exact jae (ibN (wJ G Z))
     rintro ⟨ready3, a4⟩ Z
     exact rh G (wL G Z)
    ·exact jaf (thE (thE (ibE (wD G Z hb2))))
   rintro ⟨ready4, a5⟩ Z s1 hw1
   refine ibN (thN (jai hw1 ?_))
   exact rh G (wL G Z)
  ·exact jaf (thE (thE (ibE (wD G Z hb1))))
 rintro a6 Z s2 hw2
 refine thN (jai hw2 ?_)
 refine rg G ?_
 cases Z
 exact rt [16] []
def yix : MS (Timetable × Trip × Int × Int) (Leg × Bool) := ⟨.x .r (.x .r (.x .r .r)), fun x => zq16 x.1 x.2.1 x.2.2.1 x.2.2.2, fun y => .tup [dV y.1, dV y.2], fun _ => [], fun _ _ => []⟩
theorem ynn {t x from_ to_ y} (Z : zq16 t x from_ to_ = some y) : yix.C (t, x, from_, to_) y := yix.c (t, x, from_, to_) Z
theorem yk7 : FnOK Tryz.prog tJ 94 yix.S := by
 refine fm tt yix [fo yfd, fo ygj, fo ygy] call94 func94 rfl results94 ntmps94 ?_
 rintro ⟨t, x, from_, to_⟩ y cx G (Z : zq16 t x from_ to_ = some y)
 unfold zq16 at Z
 refine rg G ?_
 obtain ⟨r, h, Z⟩ := jad Z
 refine rs G (hC 2 (yec.c (_, _) h) h0) ?_
 obtain ⟨r1, h1, r2, h2, Z⟩ := ob2 Z
 refine rs G (hC 2 (yea.c (_, _) h1) (hC 5 (yea.c (_, _) h2) h0)) ?_
 refine jac (jn Z (fun v => ⟨[(2, dV from_), (3, dV to_), (4, .ref 16 0), (5, .ref 32 0), (8, .ref 48 0), (11, dV r1), (12, dV r2), (30, dV v)], [bX 16 30 [dV t.Network.Stops, dV t.Network.Lines, dV t.Trips], bX 32 65 [dV x.Id, dV x.Line, dV x.Start], bX 48 51 [kV .i64 0, kV .i64 0, kV .i64 0, kV .i64 0, kV .i64 0]], 80⟩) (fun v Z => ?_) ?_)
 ·rcases bf Z with ⟨hb, Z⟩ | ⟨hb, Z⟩
  ·refine re G (hO 2 (.b true) (hP hb h0)) ?_
   exact wJ G Z
  ·refine re G (hO 2 (.b false) (hP hb h0)) ?_
   exact wJ G Z
 rintro v Z
 refine cd Z ?_ ?_ <;> intro Z
 ·refine rg G ?_
  cases Z
  exact rt [] []
 ·refine jae (thN ?_)
  obtain ⟨r3, h3, Z⟩ := jad Z
  refine rs G (hC 2 (yf1.c (_, _) h3) h0) ?_
  obtain ⟨e2, h6, e3, h7, Z⟩ := ob2 Z
  refine ds G [(13, [48])] (hD 6 h6 (hE 7 h6 (hD 10 h7 (hE 11 h7 h0)))) ?_
  cases Z
  exact rt [] []
def yk6 : MS (Timetable × Int × Int × Int × Int × Int × Int) Leg := ⟨.x .r (.x .r (.x .r (.x .r (.x .r (.x .r .r))))), fun x => zq18 x.1 x.2.1 x.2.2.1 x.2.2.2.1 x.2.2.2.2.1 x.2.2.2.2.2.1 x.2.2.2.2.2.2, fun y => dV y, fun _ => [], fun _ _ => []⟩
theorem yph : FnOK Tryz.prog tJ 85 yk6.S := by
 refine fm tt yk6 [fo yk7, fo yfb, fo yfj] call85 func85 rfl results85 ntmps85 ?_
 rintro ⟨t, change, stop, to_, ready, by_, legs⟩ y cx G (Z : zq18 t change stop to_ ready by_ legs = some y)
 unfold zq18 at Z
 refine rg G (jac (rs G (hN 2 t.Trips h0) ?_))
 refine tF Z (fun _ => ⟨[(14, .ref 16 0)], [bX 16 51 [kV .i64 0, kV .i64 0, kV .i64 0, kV .i64 0, kV .i64 0]], 48⟩) (fun v7 hr Z => ?_) ?_
 ·refine jab (lp G Z (fun v => ⟨[(1, dV change), (2, dV stop), (3, dV to_), (4, dV ready), (5, dV by_), (6, dV legs), (7, .ref 16 0), (14, .ref 32 0), (21, dV t.Trips), (22, dV (t.Trips.length : Int)), (23, dV v)], [bX 16 30 [dV t.Network.Stops, dV t.Network.Lines, dV t.Trips], bX 32 51 [kV .i64 0, kV .i64 0, kV .i64 0, kV .i64 0, kV .i64 0]], 64⟩) ?_)
  rintro v r0 hb Z
  rw [yg2] at Z
  refine rg G (jac (cd Z ?_ ?_)) <;> intro Z
  ·refine jae (thN (jac (jab ?_)))
   obtain ⟨e, h, Z⟩ := jad Z
   refine rs G (hD 0 h h0) ?_
   refine rs G (hN 3 t.Network.Stops h0) ?_
   refine tF Z (fun _ => ⟨[(1, dV change), (2, dV stop), (3, dV to_), (4, dV ready), (5, dV by_), (6, dV legs), (7, .ref 16 0), (14, .ref 32 0), (21, dV t.Trips), (22, dV (t.Trips.length : Int)), (23, dV v)], [bX 16 30 [dV t.Network.Stops, dV t.Network.Lines, dV t.Trips], bX 32 51 [kV .i64 0, kV .i64 0, kV .i64 0, kV .i64 0, kV .i64 0]], 64⟩) (fun v6 hr1 Z => ?_) ?_
   ·refine jab (lp G Z (fun v1 => ⟨[(1, dV change), (2, dV stop), (3, dV to_), (4, dV ready), (5, dV by_), (6, dV legs), (7, .ref 16 0), (14, .ref 32 0), (16, .ref 48 0), (21, dV t.Trips), (22, dV (t.Trips.length : Int)), (23, dV v), (30, dV (t.Network.Stops.length : Int)), (31, dV v1)], [bX 16 30 [dV t.Network.Stops, dV t.Network.Lines, dV t.Trips], bX 32 51 [kV .i64 0, kV .i64 0, kV .i64 0, kV .i64 0, kV .i64 0], bX 48 65 [dV e.Id, dV e.Line, dV e.Start]], 80⟩) ?_)
    rintro v1 r0 hb1 Z
    rw [yg3] at Z
    refine rg G (jac (cd Z ?_ ?_)) <;> intro Z
    ·refine jae (thN (jF Z (fun _ => ⟨[(1, dV change), (2, dV stop), (3, dV to_), (4, dV ready), (5, dV by_), (6, dV legs), (7, .ref 16 0), (14, .ref 32 0), (16, .ref 48 0), (21, dV t.Trips), (22, dV (t.Trips.length : Int)), (23, dV v), (30, dV (t.Network.Stops.length : Int)), (31, dV v1)], [bX 16 30 [dV t.Network.Stops, dV t.Network.Lines, dV t.Trips], bX 32 51 [kV .i64 0, kV .i64 0, kV .i64 0, kV .i64 0, kV .i64 0], bX 48 65 [dV e.Id, dV e.Line, dV e.Start]], 80⟩) (fun v5 hr2 Z => ?_) ?_))
     ·refine jab (rg G ?_)
      obtain ⟨r, h1, Z⟩ := jad Z
      refine rs G (hC 4 (ynn h1) h0) ?_
      refine jac (jn Z (fun v2 => ⟨[(1, dV change), (2, dV stop), (3, dV to_), (4, dV ready), (5, dV by_), (6, dV legs), (7, .ref 16 0), (14, .ref 32 0), (16, .ref 48 0), (17, dV v1), (18, .ref 64 0), (21, dV t.Trips), (22, dV (t.Trips.length : Int)), (23, dV v), (30, dV (t.Network.Stops.length : Int)), (31, dV v1), (49, dV v2)], [bX 16 30 [dV t.Network.Stops, dV t.Network.Lines, dV t.Trips], bX 32 51 [kV .i64 0, kV .i64 0, kV .i64 0, kV .i64 0, kV .i64 0], bX 48 65 [dV e.Id, dV e.Line, dV e.Start], bX 64 51 [dV r.1.Trip, dV r.1.From, dV r.1.To, dV r.1.Depart, dV r.1.Arrive]], 96⟩) (fun v2 Z => ?_) ?_)
      ·rcases bf Z with ⟨hb2, Z⟩ | ⟨hb2, Z⟩
       ·refine re G (hO 2 (.b true) (hP hb2 h0)) ?_
        exact wJ G Z
       ·refine re G (hO 2 (.b false) (hP hb2 h0)) ?_
        exact wJ G Z
      rintro v2 Z
      refine cd Z ?_ ?_ <;> intro Z
      ·exact jaf (thE (ibE (wF G Z)))
      ·refine jae (thN (jab (jn Z (fun v3 => ⟨[(1, dV change), (2, dV stop), (3, dV to_), (4, dV ready), (5, dV by_), (6, dV legs), (7, .ref 16 0), (14, .ref 32 0), (16, .ref 48 0), (17, dV v1), (18, .ref 64 0), (21, dV t.Trips), (22, dV (t.Trips.length : Int)), (23, dV v), (30, dV (t.Network.Stops.length : Int)), (31, dV v1), (50, dV v3)], [bX 16 30 [dV t.Network.Stops, dV t.Network.Lines, dV t.Trips], bX 32 51 [kV .i64 0, kV .i64 0, kV .i64 0, kV .i64 0, kV .i64 0], bX 48 65 [dV e.Id, dV e.Line, dV e.Start], bX 64 51 [dV r.1.Trip, dV r.1.From, dV r.1.To, dV r.1.Depart, dV r.1.Arrive]], 96⟩) (fun v3 Z => ?_) ?_)))
       ·rcases bf Z with ⟨hb3, Z⟩ | ⟨hb3, Z⟩
        ·rcases bf Z with ⟨hb4, Z⟩ | ⟨hb4, Z⟩
         ·refine re G (hO 2 (.b true) (hP hb3 (hO 7 (.b true) (hP hb4 h0)))) ?_
          exact wJ G Z
         ·refine re G (hO 2 (.b true) (hP hb3 (hO 7 (.b false) (hP hb4 h0)))) ?_
          exact wJ G Z
        ·refine re G (hO 2 (.b false) (hP hb3 h0)) ?_
         exact wJ G Z
       rintro v3 Z
       refine cd Z ?_ ?_ <;> intro Z
       ·refine rg G ?_
        have Z := eR Z hr2
        have Z := eL Z hb1 hr1
        have Z := eL Z hb hr
        cases Z
        exact rt [] []
       ·refine jn Z (fun v4 => ⟨[(1, dV change), (2, dV stop), (3, dV to_), (4, dV ready), (5, dV by_), (6, dV legs), (7, .ref 16 0), (14, .ref 32 0), (16, .ref 48 0), (18, .ref 64 0), (21, dV t.Trips), (22, dV (t.Trips.length : Int)), (23, dV v), (30, dV (t.Network.Stops.length : Int)), (31, dV v1), (65, dV v4)], [bX 16 30 [dV t.Network.Stops, dV t.Network.Lines, dV t.Trips], bX 32 51 [kV .i64 0, kV .i64 0, kV .i64 0, kV .i64 0, kV .i64 0], bX 48 65 [dV e.Id, dV e.Line, dV e.Start], bX 64 51 [dV r.1.Trip, dV r.1.From, dV r.1.To, dV r.1.Depart, dV r.1.Arrive]], 96⟩) (fun v4 Z => ?_) ?_
        ·rcases bf Z with ⟨hb5, Z⟩ | ⟨hb5, Z⟩
         ·obtain ⟨r6, h5, r7, h6, e5, h7, Z⟩ := ob3 Z
          refine de G [] (hO 2 (.b true) (hP hb5 (hC 11 (ycq.c (_, _, _) h5) (hF 14 (yed h6) ⟨(jdf jec jb4), jb4⟩ (hD 16 h7 (hE 17 h7 h0)))))) ?_
          exact wJ G Z
         ·refine de G [] (hO 2 (.b false) (hP hb5 h0)) ?_
          exact wJ G Z
        rintro v4 Z
        refine cd Z ?_ ?_ <;> intro Z
        ·refine rg G ?_
         have Z := eR Z hr2
         have Z := eL Z hb1 hr1
         have Z := eL Z hb hr
         cases Z
         exact rt [] []
        ·exact jae (ibN (ibN (wF G Z)))
     rintro ⟨⟩ Z
     exact rh G (wL G Z)
    ·exact jaf (thE (thE (ibE (wE G Z hb1))))
   rintro ⟨⟩ Z s hw
   refine ibN (thN (jai hw ?_))
   exact rh G (wL G Z)
  ·exact jaf (thE (thE (ibE (wE G Z hb))))
 rintro ⟨⟩ Z s1 hw1
 refine thN (jai hw1 ?_)
 refine rg G ?_
 cases Z
 exact rt [] []
def yiw : MS (Timetable × Int × Int × Int × Int × Int) ((Nl Leg)) := ⟨.x .r (.x .r (.x .r (.x .r (.x .r .r)))), fun x => zq17 x.1 x.2.1 x.2.2.1 x.2.2.2.1 x.2.2.2.2.1 x.2.2.2.2.2, fun y => dV y, fun _ => [], fun _ _ => []⟩
theorem yqn {t change from_ to_ at_ most y} (Z : zq17 t change from_ to_ at_ most = some y) : yiw.C (t, change, from_, to_, at_, most) y := yiw.c (t, change, from_, to_, at_, most) Z
theorem ypi : FnOK Tryz.prog tJ 45 yiw.S := by
 refine fm tt yiw [fo yfb, fo yfj, fo yph] call45 func45 rfl results45 ntmps45 ?_
 rintro ⟨t, change, from_, to_, at_, most⟩ y cx G (Z : zq17 t change from_ to_ at_ most = some y)
 unfold zq17 at Z
 refine rg G ?_
 obtain ⟨r2, h3, r3, h4, e1, h5, Z⟩ := ob3 Z
 refine ds G [] (hC 5 (ycq.c (_, _, _) h3) (hF 7 (yed h4) ⟨(jdf jec jb4), jb4⟩ (hD 9 h5 (hE 10 h5 h0)))) ?_
 refine jac (rg G (cd Z ?_ ?_)) <;> intro Z
 ·refine rg G ?_
  cases Z
  exact rt [] []
 ·refine jae (thN (rg G (jn Z (fun v1 => ⟨[(1, dV change), (2, dV from_), (3, dV to_), (4, dV at_), (6, .ref 16 0), (13, dV e1), (14, dV v1)], [bX 16 30 [dV t.Network.Stops, dV t.Network.Lines, dV t.Trips]], 48⟩) (fun v1 Z => ?_) ?_)))
  ·refine jab (lp G Z (fun v => ⟨[(1, dV change), (2, dV from_), (3, dV to_), (4, dV at_), (6, .ref 16 0), (13, dV e1), (14, dV v)], [bX 16 30 [dV t.Network.Stops, dV t.Network.Lines, dV t.Trips]], 48⟩) ?_)
   rintro v r0 hb Z
   rw [yg5] at Z
   refine jac ?_
   obtain ⟨r6, h9, r7, h10, e3, h11, Z⟩ := ob3 Z
   refine ds G [] (hC 5 (ycq.c (_, _, _) h9) (hF 7 (yed h10) ⟨(jdf jec jb4), jb4⟩ (hD 9 h11 (hE 10 h11 h0)))) ?_
   refine cd Z ?_ ?_ <;> intro Z
   ·exact jae (thN (jab (rh G (ibN (wL G Z)))))
   ·exact jaf (thE (thE (ibE (wD G Z hb))))
  rintro v1 Z
  refine rg G (jac (rg G (tl Z (fun v6 => ⟨[(15, .own 16)], [aX 16 51 v6], 48⟩) (fun v6 Z => ?_) ?_)))
  ·refine jab (lpP Z (fun (v2, v3, v4, v5) => ⟨[(1, dV change), (3, dV to_), (6, .ref 16 0), (13, dV e1), (14, dV v2), (15, .own 32), (16, dV v3), (17, dV v4)], [bX 16 30 [dV t.Network.Stops, dV t.Network.Lines, dV t.Trips], aX 32 51 v5], 64⟩) (Wk_J G.hL ⟨[(1, []), (3, []), (6, []), (13, []), (14, []), (15, [.o 32]), (16, []), (17, [])], [(16, 16, [])], [(32, 51, 5, [])], 64⟩ (by kernel_rfl)) ?_)
   rintro ⟨v2, v3, v4, v5⟩ r0 hb1 Z
   rw [yg4] at Z
   refine jac (rg G (cd Z ?_ ?_)) <;> intro Z
   ·refine jae (thN (jac (jab ?_)))
    obtain ⟨r8, h12, Z⟩ := jad Z
    refine rs G (hC 7 (yk6.c (_, _, _, _, _, _, _) h12) h0) ?_
    obtain ⟨u, h13, Z⟩ := jad Z
    refine rs G (hA 3 40 h13 h0) ?_
    refine de G [] h0 ?_
    exact ibN (thN (rh G (wL G Z)))
   ·exact jaf (thE (thE (ibE (wD G Z hb1))))
  rintro v6 Z s hw
  refine thN (jai hw ?_)
  refine rg G ?_
  obtain ⟨u1, h14, Z⟩ := jad Z
  cases Z
  exact rtE [] [] (jt1 (jdv h14))
def yo2 : MS (Timetable × Int × Int × Int × Int) ((List Leg) × Bool) := ⟨.x .r (.x .r (.x .r (.x .r .r))), fun x => zq3 x.1 x.2.1 x.2.2.1 x.2.2.2.1 x.2.2.2.2, fun y => .tup [dV y.1, dV y.2], fun _ => [], fun _ _ => []⟩
theorem yqi : FnOK Tryz.prog tJ 16 yo2.S := by
 refine fm tt yo2 [fo yfi, fo yfh, fo ypi] call16 func16 rfl results16 ntmps16 ?_
 rintro ⟨t, change, from_, to_, at_⟩ y cx G (Z : zq3 t change from_ to_ at_ = some y)
 unfold zq3 at Z
 refine rg G (jac ?_)
 obtain ⟨r, h, Z⟩ := jad Z
 refine jn Z (fun v => ⟨[(1, dV change), (2, dV from_), (3, dV to_), (4, dV at_), (5, .ref 16 0), (30, dV v)], [bX 16 30 [dV t.Network.Stops, dV t.Network.Lines, dV t.Trips]], 48⟩) (fun v Z => ?_) ?_
 ·rcases bf Z with ⟨hb, Z⟩ | ⟨hb, Z⟩
  ·refine re G (hC 4 (ycs.c (_, _, _, _) h) (hO 6 (.b true) (hP hb h0))) ?_
   exact wJ G Z
  ·obtain ⟨r1, h1, Z⟩ := jad Z
   rcases bf Z with ⟨hb1, Z⟩ | ⟨hb1, Z⟩
   ·refine re G (hC 4 (ycs.c (_, _, _, _) h) (hO 6 (.b false) (hP hb (hC 10 (ycr.c (_, _) h1) (hO 13 (.b true) (hP hb1 h0)))))) ?_
    exact wJ G Z
   ·refine re G (hC 4 (ycs.c (_, _, _, _) h) (hO 6 (.b false) (hP hb (hC 10 (ycr.c (_, _) h1) (hO 13 (.b false) (hP hb1 h0)))))) ?_
    exact wJ G Z
 rintro v Z
 refine cd Z ?_ ?_ <;> intro Z
 ·refine rg G ?_
  cases Z
  exact rt [] [[.z 5]]
 ·refine jae (thN ?_)
  obtain ⟨r2, h2, Z⟩ := jad Z
  refine rs G (hC 5 (yqn h2) h0) ?_
  refine jn Z (fun (v1, v2) => ⟨[(10, dV v1), (11, dV v2)], [], 32⟩) (fun vv Z => ?_) ?_
  ·rcases jta Z with ⟨rfl, Z⟩ | ⟨a, l, rfl, Z⟩
   ·exact rh G (wJ G Z)
   ·exact rh G (wJ G Z)
  rintro ⟨v1, v2⟩ Z
  cases Z
  exact rt [] []
def yii : MS (Int × Int × Int) Bool := ⟨.x .r (.x .r .r), fun x => zq58 x.1 x.2.1 x.2.2, fun y => dV y, fun _ => [], fun _ _ => []⟩
theorem ya8 {x a b y} (Z : zq58 x a b = some y) : yii.C (x, a, b) y := yii.c (x, a, b) Z
theorem ybs : FnOK Tryz.prog tJ 87 yii.S := by
 refine fm tt yii [] call87 func87 rfl results87 ntmps87 ?_
 rintro ⟨x, a, b⟩ y cx G (Z : zq58 x a b = some y)
 unfold zq58 at Z
 refine rg G (jn Z (fun v => ⟨[(6, dV v)], [], 32⟩) (fun v Z => ?_) ?_)
 ·rcases bf Z with ⟨hb, Z⟩ | ⟨hb, Z⟩
  ·refine re G (hO 3 (.b true) (hP hb h0)) ?_
   exact wJ G Z
  ·refine re G (hO 3 (.b false) (hP hb h0)) ?_
   exact wJ G Z
 rintro v Z
 cases Z
 exact rt [] []
def ydm : MS ByteArray Bool := ⟨.r, zq69, fun y => dV y, fun _ => [], fun _ _ => []⟩
theorem ykb : FnOK Tryz.prog tJ 153 ydm.S := by
 refine fm tt ydm [fo ybs] call153 func153 rfl results153 ntmps153 ?_
 rintro s y cx G (Z : zq69 s = some y)
 unfold zq69 at Z
 refine rg G (jac ?_)
 obtain ⟨r, h, Z⟩ := jad Z
 refine jn Z (fun v => ⟨[(0, dV s), (17, dV v)], [], 32⟩) (fun v Z => ?_) ?_
 ·rcases bf Z with ⟨hb, Z⟩ | ⟨hb, Z⟩
  ·refine re G (hC 2 (ya8 h) (hO 4 (.b true) (hP hb h0))) ?_
   exact wJ G Z
  ·obtain ⟨u, h1, Z⟩ := jad Z
   rcases bf Z with ⟨hb1, Z⟩ | ⟨hb1, Z⟩
   ·refine re G (hC 2 (ya8 h) (hO 4 (.b false) (hP hb (hK h1 (hO 9 (.b true) (hP hb1 h0)))))) ?_
    exact wJ G Z
   ·obtain ⟨u1, h2, Z⟩ := jad Z
    refine re G (hC 2 (ya8 h) (hO 4 (.b false) (hP hb (hK h1 (hO 9 (.b false) (hP hb1 (hK h2 h0))))))) ?_
    exact wJ G Z
 rintro v Z
 refine cd Z ?_ ?_ <;> intro Z
 ·refine rg G ?_
  cases Z
  exact rt [] []
 ·refine jae (thN (jac (rg G (tF Z (fun _ => ⟨[], [], 32⟩) (fun v3 hr Z => ?_) ?_))))
  ·refine jab (lp G Z (fun v1 => ⟨[(0, dV s), (3, dV v1)], [], 32⟩) ?_)
   rintro v1 r0 hb2 Z
   rw [ydn] at Z
   refine jac (rg G (cd Z ?_ ?_)) <;> intro Z
   ·refine jae (thN (jac (jab ?_)))
    obtain ⟨u2, h3, Z⟩ := jad Z
    refine jn Z (fun v2 => ⟨[(0, dV s), (3, dV v1), (45, dV v2)], [], 32⟩) (fun v2 Z => ?_) ?_
    ·rcases bf Z with ⟨hb3, Z⟩ | ⟨hb3, Z⟩
     ·obtain ⟨u3, h4, Z⟩ := jad Z
      rcases bf Z with ⟨hb4, Z⟩ | ⟨hb4, Z⟩
      ·refine re G (hK h3 (hO 4 (.b true) (hP hb3 (hK h4 (hO 15 (.b true) (hP hb4 h0)))))) ?_
       exact wJ G Z
      ·obtain ⟨u4, h5, Z⟩ := jad Z
       refine re G (hK h3 (hO 4 (.b true) (hP hb3 (hK h4 (hO 15 (.b false) (hP hb4 (hK h5 h0))))))) ?_
       exact wJ G Z
     ·obtain ⟨u5, h6, Z⟩ := jad Z
      rcases bf Z with ⟨hb5, Z⟩ | ⟨hb5, Z⟩
      ·obtain ⟨u6, h7, Z⟩ := jad Z
       rcases bf Z with ⟨hb6, Z⟩ | ⟨hb6, Z⟩
       ·refine re G (hK h3 (hO 4 (.b false) (hP hb3 (hK h6 (hO 10 (.b true) (hP hb5 (hK h7 (hO 15 (.b true) (hP hb6 h0))))))))) ?_
        exact wJ G Z
       ·obtain ⟨u7, h8, Z⟩ := jad Z
        refine re G (hK h3 (hO 4 (.b false) (hP hb3 (hK h6 (hO 10 (.b true) (hP hb5 (hK h7 (hO 15 (.b false) (hP hb6 (hK h8 h0)))))))))) ?_
        exact wJ G Z
      ·refine re G (hK h3 (hO 4 (.b false) (hP hb3 (hK h6 (hO 10 (.b false) (hP hb5 h0)))))) ?_
       exact wJ G Z
    rintro v2 Z
    refine cd Z ?_ ?_ <;> intro Z
    ·refine rg G ?_
     have Z := eL Z hb2 hr
     cases Z
     exact rt [] []
    ·exact jae (ibN (thN (rh G (wL G Z))))
   ·exact jaf (thE (thE (ibE (wE G Z hb2))))
  rintro ⟨⟩ Z s1 hw
  refine thN (jai hw ?_)
  refine rg G ?_
  cases Z
  exact rt [] []
def ykc : MS ((List ByteArray) × ByteArray) Int := ⟨.x .r .r, fun x => zq65 x.1 x.2, fun y => dV y, fun _ => [], fun _ _ => []⟩
theorem yom : FnOK Tryz.prog tJ 154 ykc.S := by
 refine fm tt ykc [] call154 func154 rfl results154 ntmps154 ?_
 rintro ⟨list, name⟩ y cx G (Z : zq65 list name = some y)
 unfold zq65 at Z
 refine rg G (jac (rg G (tF Z (fun _ => ⟨[], [], 32⟩) (fun v1 hr Z => ?_) ?_)))
 ·refine jab (lp G Z (fun v => ⟨[(0, dV list), (1, dV name), (5, dV v)], [], 32⟩) ?_)
  rintro v r0 hb Z
  rw [ye2] at Z
  refine jac (rs G (hN 2 list h0) ?_)
  refine cd Z ?_ ?_ <;> intro Z
  ·refine jae (thN (jac (jab ?_)))
   obtain ⟨e, h, Z⟩ := jad Z
   refine rs G (hD 2 h h0) ?_
   refine cd Z ?_ ?_ <;> intro Z
   ·refine rg G ?_
    have Z := eL Z hb hr
    cases Z
    exact rt [] []
   ·exact jae (ibN (thN (rh G (wL G Z))))
  ·exact jaf (thE (thE (ibE (wE G Z hb))))
 rintro ⟨⟩ Z s hw
 refine thN (jai hw ?_)
 refine rg G ?_
 cases Z
 exact rt [] []
def yh7 : MS (Line × Int) Bool := ⟨.x .r .r, fun x => zq67 x.1 x.2, fun y => dV y, fun _ => [], fun _ _ => []⟩
theorem yok : FnOK Tryz.prog tJ 155 yh7.S := by
 refine fm tt yh7 [fo ykb, fo ybs, fo ydl] call155 func155 rfl results155 ntmps155 ?_
 rintro ⟨x, stops⟩ y cx G (Z : zq67 x stops = some y)
 unfold zq67 at Z
 refine rg G (jac ?_)
 obtain ⟨r, h, Z⟩ := jad Z
 refine jn Z (fun v => ⟨[(1, dV stops), (2, .ref 16 0), (27, dV v)], [bX 16 108 [dV x.Name, dV x.Stops, dV x.Runs]], 48⟩) (fun v Z => ?_) ?_
 ·rcases bf Z with ⟨hb, Z⟩ | ⟨hb, Z⟩
  ·refine re G (hC 2 (ydm.c _ h) (hO 4 (.b true) (hP hb h0))) ?_
   exact wJ G Z
  ·obtain ⟨r1, h1, Z⟩ := jad Z
   rcases bf Z with ⟨hb1, Z⟩ | ⟨hb1, Z⟩
   ·refine re G (hC 2 (ydm.c _ h) (hO 4 (.b false) (hP hb (hN 7 x.Stops (hC 8 (ya8 h1) (hO 11 (.b true) (hP hb1 h0))))))) ?_
    exact wJ G Z
   ·refine re G (hC 2 (ydm.c _ h) (hO 4 (.b false) (hP hb (hN 7 x.Stops (hC 8 (ya8 h1) (hO 11 (.b false) (hP hb1 (hN 14 x.Runs (hN 17 x.Stops h0))))))))) ?_
    exact wJ G Z
 rintro v Z
 refine cd Z ?_ ?_ <;> intro Z
 ·refine rg G ?_
  cases Z
  exact rt [] []
 ·refine jae (thN (jac (rg G (tF Z (fun _ => ⟨[(2, .ref 16 0)], [bX 16 108 [dV x.Name, dV x.Stops, dV x.Runs]], 48⟩) (fun v5 hr Z => ?_) ?_))))
  ·refine jab (lp G Z (fun v1 => ⟨[(1, dV stops), (2, .ref 16 0), (5, dV v1)], [bX 16 108 [dV x.Name, dV x.Stops, dV x.Runs]], 48⟩) ?_)
   rintro v1 r0 hb2 Z
   rw [yez] at Z
   refine jac (rs G (hN 3 x.Stops h0) ?_)
   refine cd Z ?_ ?_ <;> intro Z
   ·refine jae (thN (jac (jab ?_)))
    obtain ⟨e2, h6, r4, h7, Z⟩ := ob2 Z
    refine jn Z (fun v2 => ⟨[(1, dV stops), (2, .ref 16 0), (5, dV v1), (54, dV v2)], [bX 16 108 [dV x.Name, dV x.Stops, dV x.Runs]], 48⟩) (fun v2 Z => ?_) ?_
    ·rcases bf Z with ⟨hb3, Z⟩ | ⟨hb3, Z⟩
     ·refine de G [] (hD 3 h6 (hC 7 (ya8 h7) (hO 9 (.b true) (hP hb3 h0)))) ?_
      exact wJ G Z
     ·obtain ⟨e3, h8, r5, h9, Z⟩ := ob2 Z
      refine de G [] (hD 3 h6 (hC 7 (ya8 h7) (hO 9 (.b false) (hP hb3 (hD 14 h8 (hC 16 (yca.c (_, _) h9) h0)))))) ?_
      exact wJ G Z
    rintro v2 Z
    refine cd Z ?_ ?_ <;> intro Z
    ·refine rg G ?_
     have Z := eL Z hb2 hr
     cases Z
     exact rt [] []
    ·exact jae (ibN (thN (rh G (wL G Z))))
   ·exact jaf (thE (thE (ibE (wE G Z hb2))))
  rintro ⟨⟩ Z s hw
  refine thN (jai hw ?_)
  refine jac (rg G (tF Z (fun _ => ⟨[], [], 32⟩) (fun v4 hr1 Z => ?_) ?_))
  ·refine jab (lp G Z (fun v3 => ⟨[(2, .ref 16 0), (6, dV v3)], [bX 16 108 [dV x.Name, dV x.Stops, dV x.Runs]], 48⟩) ?_)
   rintro v3 r0 hb4 Z
   rw [yey] at Z
   refine jac (rs G (hN 3 x.Runs h0) ?_)
   refine cd Z ?_ ?_ <;> intro Z
   ·refine jae (thN (jac (jab ?_)))
    obtain ⟨e5, h10, r7, h11, Z⟩ := ob2 Z
    refine rs G (hD 3 h10 (hC 5 (ya8 h11) h0)) ?_
    refine cd Z ?_ ?_ <;> intro Z
    ·refine rg G ?_
     have Z := eL Z hb4 hr1
     cases Z
     exact rt [] []
    ·exact jae (ibN (thN (rh G (wL G Z))))
   ·exact jaf (thE (thE (ibE (wE G Z hb4))))
  rintro ⟨⟩ Z s1 hw1
  refine thN (jai hw1 ?_)
  refine rg G ?_
  cases Z
  exact rt [] []
def yh6 : MS (Network × ByteArray) Int := ⟨.x .r .r, fun x => zq68 x.1 x.2, fun y => dV y, fun _ => [], fun _ _ => []⟩
theorem yqe {n name y} (Z : zq68 n name = some y) : yh6.C (n, name) y := yh6.c (n, name) Z
theorem yoj : FnOK Tryz.prog tJ 156 yh6.S := by
 refine fm tt yh6 [] call156 func156 rfl results156 ntmps156 ?_
 rintro ⟨n, name⟩ y cx G (Z : zq68 n name = some y)
 unfold zq68 at Z
 refine rg G (jac (rg G (tF Z (fun _ => ⟨[], [], 32⟩) (fun v1 hr Z => ?_) ?_)))
 ·refine jab (lp G Z (fun v => ⟨[(1, dV name), (2, .ref 16 0), (5, dV v)], [bX 16 27 [dV n.Stops, dV n.Lines]], 48⟩) ?_)
  rintro v r0 hb Z
  rw [yex] at Z
  refine jac (rs G (hN 3 n.Lines h0) ?_)
  refine cd Z ?_ ?_ <;> intro Z
  ·refine jae (thN (jac (jab ?_)))
   obtain ⟨e, h, Z⟩ := jad Z
   refine rs G (hD 3 h h0) ?_
   refine cd Z ?_ ?_ <;> intro Z
   ·refine rg G ?_
    have Z := eL Z hb hr
    cases Z
    exact rt [] []
   ·exact jae (ibN (thN (rh G (wL G Z))))
  ·exact jaf (thE (thE (ibE (wE G Z hb))))
 rintro ⟨⟩ Z s hw
 refine thN (jai hw ?_)
 refine rg G ?_
 cases Z
 exact rt [] []
def yh8 : MS Network Bool := ⟨.r, zq66, fun y => dV y, fun _ => [], fun _ _ => []⟩
theorem yol : FnOK Tryz.prog tJ 125 yh8.S := by
 refine fm tt yh8 [fo ybs, fo ykb, fo yom, fo yok, fo yoj] call125 func125 rfl results125 ntmps125 ?_
 rintro n y cx G (Z : zq66 n = some y)
 unfold zq66 at Z
 refine rg G (jac ?_)
 obtain ⟨r, h, Z⟩ := jad Z
 refine jn Z (fun v => ⟨[(1, .ref 16 0), (16, dV v)], [bX 16 27 [dV n.Stops, dV n.Lines]], 48⟩) (fun v Z => ?_) ?_
 ·rcases bf Z with ⟨hb, Z⟩ | ⟨hb, Z⟩
  ·refine re G (hN 2 n.Stops (hC 3 (ya8 h) (hO 5 (.b true) (hP hb h0)))) ?_
   exact wJ G Z
  ·obtain ⟨r1, h1, Z⟩ := jad Z
   refine re G (hN 2 n.Stops (hC 3 (ya8 h) (hO 5 (.b false) (hP hb (hN 8 n.Lines (hC 9 (ya8 h1) h0)))))) ?_
   exact wJ G Z
 rintro v Z
 refine cd Z ?_ ?_ <;> intro Z
 ·refine rg G ?_
  cases Z
  exact rt [] []
 ·refine jae (thN (jac (rg G (tF Z (fun _ => ⟨[(1, .ref 16 0)], [bX 16 27 [dV n.Stops, dV n.Lines]], 48⟩) (fun v5 hr Z => ?_) ?_))))
  ·refine jab (lp G Z (fun i => ⟨[(1, .ref 16 0), (3, dV i)], [bX 16 27 [dV n.Stops, dV n.Lines]], 48⟩) ?_)
   rintro i r0 hb1 Z
   rw [ye1] at Z
   refine jac (rs G (hN 3 n.Stops h0) ?_)
   refine cd Z ?_ ?_ <;> intro Z
   ·refine jae (thN (jac (jab ?_)))
    obtain ⟨e2, h6, r4, h7, Z⟩ := ob2 Z
    refine jn Z (fun v1 => ⟨[(1, .ref 16 0), (3, dV i), (42, dV v1)], [bX 16 27 [dV n.Stops, dV n.Lines]], 48⟩) (fun v1 Z => ?_) ?_
    ·rcases bf Z with ⟨hb2, Z⟩ | ⟨hb2, Z⟩
     ·refine de G [] (hD 3 h6 (hC 5 (ydm.c _ h7) (hO 7 (.b true) (hP hb2 h0)))) ?_
      exact wJ G Z
     ·obtain ⟨e3, h8, r5, h9, Z⟩ := ob2 Z
      refine de G [] (hD 3 h6 (hC 5 (ydm.c _ h7) (hO 7 (.b false) (hP hb2 (hD 13 h8 (hC 15 (ykc.c (_, _) h9) h0)))))) ?_
      exact wJ G Z
    rintro v1 Z
    refine cd Z ?_ ?_ <;> intro Z
    ·refine rg G ?_
     have Z := eL Z hb1 hr
     cases Z
     exact rt [] []
    ·exact jae (ibN (thN (rh G (wL G Z))))
   ·exact jaf (thE (thE (ibE (wE G Z hb1))))
  rintro ⟨⟩ Z s hw
  refine thN (jai hw ?_)
  refine jac (rg G (tF Z (fun _ => ⟨[], [], 32⟩) (fun v4 hr1 Z => ?_) ?_))
  ·refine jab (lp G Z (fun v2 => ⟨[(1, .ref 16 0), (4, dV v2)], [bX 16 27 [dV n.Stops, dV n.Lines]], 48⟩) ?_)
   rintro v2 r0 hb3 Z
   rw [ye0] at Z
   refine jac (rs G (hN 3 n.Lines h0) ?_)
   refine cd Z ?_ ?_ <;> intro Z
   ·refine jae (thN (jac (jab ?_)))
    obtain ⟨e7, h14, r9, h15, Z⟩ := ob2 Z
    refine jn Z (fun v3 => ⟨[(1, .ref 16 0), (4, dV v2), (71, dV v3)], [bX 16 27 [dV n.Stops, dV n.Lines]], 48⟩) (fun v3 Z => ?_) ?_
    ·rcases bf Z with ⟨hb4, Z⟩ | ⟨hb4, Z⟩
     ·refine de G [] (hD 3 h14 (hN 7 n.Stops (hC 8 (yh7.c (_, _) h15) (hO 10 (.b true) (hP hb4 h0))))) ?_
      exact wJ G Z
     ·obtain ⟨e8, h16, r10, h17, Z⟩ := ob2 Z
      refine de G [] (hD 3 h14 (hN 7 n.Stops (hC 8 (yh7.c (_, _) h15) (hO 10 (.b false) (hP hb4 (hD 15 h16 (hC 18 (yqe h17) h0))))))) ?_
      exact wJ G Z
    rintro v3 Z
    refine cd Z ?_ ?_ <;> intro Z
    ·refine rg G ?_
     have Z := eL Z hb3 hr1
     cases Z
     exact rt [] []
    ·exact jae (ibN (thN (rh G (wL G Z))))
   ·exact jaf (thE (thE (ibE (wE G Z hb3))))
  rintro ⟨⟩ Z s1 hw1
  refine thN (jai hw1 ?_)
  refine rg G ?_
  cases Z
  exact rt [] []
def yh4 : MS Int Bool := ⟨.r, zq74, fun y => dV y, fun _ => [], fun _ _ => []⟩
theorem ycp {t y} (Z : zq74 t = some y) : yh4.C t y := yh4.c t Z
theorem yj5 : FnOK Tryz.prog tJ 126 yh4.S := by
 refine fm tt yh4 [fo ybs] call126 func126 rfl results126 ntmps126 ?_
 rintro t y cx G (Z : zq74 t = some y)
 unfold zq74 at Z
 refine rg G ?_
 obtain ⟨r, h, Z⟩ := jad Z
 refine rs G (hC 1 (ya8 h) h0) ?_
 cases Z
 exact rt [] []
def yco : MS (Timetable × Int) Line := ⟨.x .r .r, fun x => zq78 x.1 x.2, fun y => dV y, fun _ => [], fun _ _ => []⟩
theorem yeu : FnOK Tryz.prog tJ 82 yco.S := by
 refine fm tt yco [] call82 func82 rfl results82 ntmps82 ?_
 rintro ⟨t, i⟩ y cx G (Z : zq78 t i = some y)
 unfold zq78 at Z
 refine rg G ?_
 obtain ⟨e2, h2, e3, h3, Z⟩ := ob2 Z
 refine ds G [(11, [32])] (hD 6 h2 (hD 9 h3 h0)) ?_
 cases Z
 exact rt [] []
def ydj : MS (Timetable × Int) ((List Int)) := ⟨.x .r .r, fun x => zq79 x.1 x.2, fun y => dV y, fun _ => [], fun _ _ => []⟩
theorem ydi : FnOK Tryz.prog tJ 131 ydj.S := by
 refine fm tt ydj [fo yeu] call131 func131 rfl results131 ntmps131 ?_
 rintro ⟨t, i⟩ y cx G (Z : zq79 t i = some y)
 unfold zq79 at Z
 refine rg G ?_
 obtain ⟨r, h, Z⟩ := jad Z
 refine rs G (hC 2 (yco.c (_, _) h) h0) ?_
 cases Z
 exact rt [] []
def yh5 : MS (Line × Int × Int) Int := ⟨.x .r (.x .r .r), fun x => zq73 x.1 x.2.1 x.2.2, fun y => dV y, fun _ => [], fun _ _ => []⟩
theorem yqd {x from_ to_ y} (Z : zq73 x from_ to_ = some y) : yh5.C (x, from_, to_) y := yh5.c (x, from_, to_) Z
theorem yog : FnOK Tryz.prog tJ 129 yh5.S := by
 refine fm tt yh5 [] call129 func129 rfl results129 ntmps129 ?_
 rintro ⟨x, from_, to_⟩ y cx G (Z : zq73 x from_ to_ = some y)
 unfold zq73 at Z
 refine rg G (rg G (jac (rg G (tl Z (fun v2 => ⟨[(7, dV v2)], [], 32⟩) (fun v2 Z => ?_) ?_))))
 ·refine jab (lp G Z (fun (v, v1) => ⟨[(2, dV to_), (3, .ref 16 0), (7, dV v), (8, dV v1)], [bX 16 108 [dV x.Name, dV x.Stops, dV x.Runs]], 48⟩) ?_)
  rintro ⟨v, v1⟩ r0 hb Z
  rw [ygr] at Z
  refine jac (rg G (cd Z ?_ ?_)) <;> intro Z
  ·refine jae (thN (jac (jab ?_)))
   obtain ⟨e, h, Z⟩ := jad Z
   refine re G (hD 4 h h0) ?_
   exact ibN (thN (rh G (wL G Z)))
  ·exact jaf (thE (thE (ibE (wD G Z hb))))
 rintro v2 Z s hw
 refine thN (jai hw ?_)
 refine rg G ?_
 cases Z
 exact rt [] []
def yb3 : MS (Timetable × Int × Int) Int := ⟨.x .r (.x .r .r), fun x => zq75 x.1 x.2.1 x.2.2, fun y => dV y, fun _ => [], fun _ _ => []⟩
theorem ydk : FnOK Tryz.prog tJ 83 yb3.S := by
 refine fm tt yb3 [fo yeu, fo yog] call83 func83 rfl results83 ntmps83 ?_
 rintro ⟨t, i, k⟩ y cx G (Z : zq75 t i k = some y)
 unfold zq75 at Z
 refine rg G ?_
 obtain ⟨e1, h3, r2, h4, r3, h5, Z⟩ := ob3 Z
 refine ds G [] (hD 3 h3 (hC 8 (yco.c (_, _) h4) (hC 10 (yqd h5) h0))) ?_
 cases Z
 exact rt [] []
def yfz : MS (Timetable × Int) Int := ⟨.x .r .r, fun x => zq76 x.1 x.2, fun y => dV y, fun _ => [], fun _ _ => []⟩
theorem yof : FnOK Tryz.prog tJ 127 yfz.S := by
 refine fm tt yfz [fo ydi, fo ydk] call127 func127 rfl results127 ntmps127 ?_
 rintro ⟨t, i⟩ y cx G (Z : zq76 t i = some y)
 unfold zq76 at Z
 refine rg G ?_
 obtain ⟨r2, h2, r3, h3, Z⟩ := ob2 Z
 refine ds G [] (hC 4 (ydj.c (_, _) h2) (hN 5 r2 (hC 7 (yb3.c (_, _, _) h3) h0))) ?_
 cases Z
 exact rt [] []
def yh3 : MS Timetable Bool := ⟨.r, zq77, fun y => dV y, fun _ => [], fun _ _ => []⟩
theorem yoe : FnOK Tryz.prog tJ 70 yh3.S := by
 refine fm tt yh3 [fo yol, fo ybs, fo yj5, fo yof] call70 func70 rfl results70 ntmps70 ?_
 rintro t y cx G (Z : zq77 t = some y)
 unfold zq77 at Z
 refine rg G (jac ?_)
 obtain ⟨r, h, Z⟩ := jad Z
 refine jn Z (fun v => ⟨[(1, .ref 16 0), (14, dV v)], [bX 16 30 [dV t.Network.Stops, dV t.Network.Lines, dV t.Trips]], 48⟩) (fun v Z => ?_) ?_
 ·rcases bf Z with ⟨hb, Z⟩ | ⟨hb, Z⟩
  ·refine re G (hC 2 (yh8.c _ h) (hO 4 (.b true) (hP hb h0))) ?_
   exact wJ G Z
  ·refine re G (hC 2 (yh8.c _ h) (hO 4 (.b false) (hP hb (hN 7 t.Trips h0)))) ?_
   exact wJ G Z
 rintro v Z
 refine cd Z ?_ ?_ <;> intro Z
 ·refine rg G ?_
  cases Z
  exact rt [] []
 ·refine jae (thN (jac (rg G (tF Z (fun _ => ⟨[], [], 32⟩) (fun v2 hr Z => ?_) ?_))))
  ·refine jab (lp G Z (fun x => ⟨[(1, .ref 16 0), (3, dV x)], [bX 16 30 [dV t.Network.Stops, dV t.Network.Lines, dV t.Trips]], 48⟩) ?_)
   rintro x r0 hb1 Z
   rw [ygq] at Z
   refine jac (rs G (hN 3 t.Trips h0) ?_)
   refine cd Z ?_ ?_ <;> intro Z
   ·refine jae (thN (jac (jab ?_)))
    obtain ⟨e, h1, Z⟩ := jad Z
    refine rs G (hD 3 h1 h0) ?_
    obtain ⟨r6, h8, Z⟩ := jad Z
    refine jn Z (fun v1 => ⟨[(1, .ref 16 0), (3, dV x), (70, dV v1)], [bX 16 30 [dV t.Network.Stops, dV t.Network.Lines, dV t.Trips]], 48⟩) (fun v1 Z => ?_) ?_
    ·rcases bf Z with ⟨hb2, Z⟩ | ⟨hb2, Z⟩
     ·refine de G [] (hC 2 (ya8 h8) (hO 4 (.b true) (hP hb2 h0))) ?_
      exact wJ G Z
     ·obtain ⟨r7, h9, Z⟩ := jad Z
      rcases bf Z with ⟨hb3, Z⟩ | ⟨hb3, Z⟩
      ·refine de G [] (hC 2 (ya8 h8) (hO 4 (.b false) (hP hb2 (hN 10 t.Network.Lines (hC 12 (ya8 h9) (hO 15 (.b true) (hP hb3 h0))))))) ?_
       exact wJ G Z
      ·obtain ⟨r8, h10, Z⟩ := jad Z
       rcases bf Z with ⟨hb4, Z⟩ | ⟨hb4, Z⟩
       ·refine de G [] (hC 2 (ya8 h8) (hO 4 (.b false) (hP hb2 (hN 10 t.Network.Lines (hC 12 (ya8 h9) (hO 15 (.b false) (hP hb3 (hC 18 (ycp h10) (hO 21 (.b true) (hP hb4 h0)))))))))) ?_
        exact wJ G Z
       ·obtain ⟨r9, h11, r10, h12, Z⟩ := ob2 Z
        rcases bf Z with ⟨hb5, Z⟩ | ⟨hb5, Z⟩
        ·refine de G [] (hC 2 (ya8 h8) (hO 4 (.b false) (hP hb2 (hN 10 t.Network.Lines (hC 12 (ya8 h9) (hO 15 (.b false) (hP hb3 (hC 18 (ycp h10) (hO 21 (.b false) (hP hb4 (hC 24 (yfz.c (_, _) h11) (hC 25 (ycp h12) (hO 28 (.b true) (hP hb5 h0)))))))))))))) ?_
         exact wJ G Z
        ·rcases bf Z with ⟨hb6, Z⟩ | ⟨hb6, Z⟩
         ·obtain ⟨e2, h13, Z⟩ := jad Z
          refine de G [] (hC 2 (ya8 h8) (hO 4 (.b false) (hP hb2 (hN 10 t.Network.Lines (hC 12 (ya8 h9) (hO 15 (.b false) (hP hb3 (hC 18 (ycp h10) (hO 21 (.b false) (hP hb4 (hC 24 (yfz.c (_, _) h11) (hC 25 (ycp h12) (hO 28 (.b false) (hP hb5 (hO 31 (.b true) (hP hb6 (hD 36 h13 h0))))))))))))))))) ?_
          exact wJ G Z
         ·refine de G [] (hC 2 (ya8 h8) (hO 4 (.b false) (hP hb2 (hN 10 t.Network.Lines (hC 12 (ya8 h9) (hO 15 (.b false) (hP hb3 (hC 18 (ycp h10) (hO 21 (.b false) (hP hb4 (hC 24 (yfz.c (_, _) h11) (hC 25 (ycp h12) (hO 28 (.b false) (hP hb5 (hO 31 (.b false) (hP hb6 h0)))))))))))))))) ?_
          exact wJ G Z
    rintro v1 Z
    refine cd Z ?_ ?_ <;> intro Z
    ·refine rg G ?_
     have Z := eL Z hb1 hr
     cases Z
     exact rt [] []
    ·exact jae (ibN (thN (rh G (wL G Z))))
   ·exact jaf (thE (thE (ibE (wE G Z hb1))))
  rintro ⟨⟩ Z s hw
  refine thN (jai hw ?_)
  refine rg G ?_
  cases Z
  exact rt [] []
def yfy : MS (Timetable × Int) Bool := ⟨.x .r .r, fun x => zq81 x.1 x.2, fun y => dV y, fun _ => [], fun _ _ => []⟩
theorem yoc : FnOK Tryz.prog tJ 130 yfy.S := by
 refine fm tt yfy [fo yoe, fo ybs] call130 func130 rfl results130 ntmps130 ?_
 rintro ⟨t, change⟩ y cx G (Z : zq81 t change = some y)
 unfold zq81 at Z
 refine rg G ?_
 obtain ⟨r, h, Z⟩ := jad Z
 refine jn Z (fun v => ⟨[(4, dV v)], [], 32⟩) (fun v Z => ?_) ?_
 ·rcases bf Z with ⟨hb, Z⟩ | ⟨hb, Z⟩
  ·obtain ⟨r1, h1, Z⟩ := jad Z
   refine re G (hC 1 (yh3.c _ h) (hO 2 (.b true) (hP hb (hC 4 (ya8 h1) h0)))) ?_
   exact wJ G Z
  ·refine re G (hC 1 (yh3.c _ h) (hO 2 (.b false) (hP hb h0))) ?_
   exact wJ G Z
 rintro v Z
 cases Z
 exact rt [] []
def yfx : MS (Timetable × Int × Int × Int) Bool := ⟨.x .r (.x .r (.x .r .r)), fun x => zq84 x.1 x.2.1 x.2.2.1 x.2.2.2, fun y => dV y, fun _ => [], fun _ _ => []⟩
theorem yn9 : FnOK Tryz.prog tJ 86 yfx.S := by
 refine fm tt yfx [fo yoc, fo ybs, fo yj5] call86 func86 rfl results86 ntmps86 ?_
 rintro ⟨t, change, from_, at_⟩ y cx G (Z : zq84 t change from_ at_ = some y)
 unfold zq84 at Z
 refine rg G ?_
 obtain ⟨r, h, Z⟩ := jad Z
 refine jn Z (fun v => ⟨[(8, dV v)], [], 32⟩) (fun v Z => ?_) ?_
 ·rcases bf Z with ⟨hb, Z⟩ | ⟨hb, Z⟩
  ·obtain ⟨r1, h1, Z⟩ := jad Z
   rcases bf Z with ⟨hb1, Z⟩ | ⟨hb1, Z⟩
   ·obtain ⟨r2, h2, Z⟩ := jad Z
    refine re G (hC 2 (yfy.c (_, _) h) (hO 3 (.b true) (hP hb (hN 8 t.Network.Stops (hC 10 (ya8 h1) (hO 12 (.b true) (hP hb1 (hC 14 (ycp h2) h0)))))))) ?_
    exact wJ G Z
   ·refine re G (hC 2 (yfy.c (_, _) h) (hO 3 (.b true) (hP hb (hN 8 t.Network.Stops (hC 10 (ya8 h1) (hO 12 (.b false) (hP hb1 h0))))))) ?_
    exact wJ G Z
  ·refine re G (hC 2 (yfy.c (_, _) h) (hO 3 (.b false) (hP hb h0))) ?_
   exact wJ G Z
 rintro v Z
 cases Z
 exact rt [] []
def yj1 : MS (Timetable × Int × Int × Int × Int) Bool := ⟨.x .r (.x .r (.x .r (.x .r .r))), fun x => zq86 x.1 x.2.1 x.2.2.1 x.2.2.2.1 x.2.2.2.2, fun y => dV y, fun _ => [], fun _ _ => []⟩
theorem yn8 : FnOK Tryz.prog tJ 46 yj1.S := by
 refine fm tt yj1 [fo yn9, fo ybs] call46 func46 rfl results46 ntmps46 ?_
 rintro ⟨t, change, from_, to_, at_⟩ y cx G (Z : zq86 t change from_ to_ at_ = some y)
 unfold zq86 at Z
 refine rg G ?_
 obtain ⟨r, h, Z⟩ := jad Z
 refine jn Z (fun v => ⟨[(10, dV v)], [], 32⟩) (fun v Z => ?_) ?_
 ·rcases bf Z with ⟨hb, Z⟩ | ⟨hb, Z⟩
  ·obtain ⟨r1, h1, Z⟩ := jad Z
   rcases bf Z with ⟨hb1, Z⟩ | ⟨hb1, Z⟩
   ·refine re G (hC 4 (yfx.c (_, _, _, _) h) (hO 5 (.b true) (hP hb (hN 10 t.Network.Stops (hC 12 (ya8 h1) (hO 14 (.b true) (hP hb1 h0))))))) ?_
    exact wJ G Z
   ·refine re G (hC 4 (yfx.c (_, _, _, _) h) (hO 5 (.b true) (hP hb (hN 10 t.Network.Stops (hC 12 (ya8 h1) (hO 14 (.b false) (hP hb1 h0))))))) ?_
    exact wJ G Z
  ·refine re G (hC 4 (yfx.c (_, _, _, _) h) (hO 5 (.b false) (hP hb h0))) ?_
   exact wJ G Z
 rintro v Z
 cases Z
 exact rt [] []
def yh2 : MS (Timetable × Int × Int × Int × Int) ((List Int)) := ⟨.x .r (.x .r (.x .r (.x .r .r))), fun x => zq80 x.1 x.2.1 x.2.2.1 x.2.2.2.1 x.2.2.2.2, fun _ => .own 0, fun y => [arO 3 y], fun _ _ => []⟩
theorem ynj {t change from_ at_ legs y} (Z : zq80 t change from_ at_ legs = some y) : yh2.C (t, change, from_, at_, legs) y := yh2.c (t, change, from_, at_, legs) Z
theorem yod : FnOK Tryz.prog tJ 88 yh2.S := by
 refine fm tt yh2 [fo ydi, fo ydk] call88 func88 rfl results88 ntmps88 ?_
 rintro ⟨t, change, from_, at_, legs⟩ y cx G (Z : zq80 t change from_ at_ legs = some y)
 unfold zq80 at Z
 refine rg G ?_
 obtain ⟨u, h, Z⟩ := jad Z
 refine rs G (hN 3 t.Network.Stops (hO 4 (.l (List.map Enc.e (List.replicate (t.Network.Stops.length : Int).toNat (0 : Int)))) (hP (mk_p (b := 8) (jdv h) rfl) (hP (jng Enc.e (t.Network.Stops.length : Int).toNat (0 : Int)) h0)))) ?_
 refine jac (rg G (tl Z (fun i1 => ⟨[(1, dV change), (2, dV from_), (3, dV at_), (4, dV legs), (5, .ref 16 0), (11, .own 32)], [bX 16 30 [dV t.Network.Stops, dV t.Network.Lines, dV t.Trips], aX 32 3 i1], 64⟩) (fun i1 Z => ?_) ?_))
 ·refine jab (lp G Z (fun (on_, i) => ⟨[(1, dV change), (2, dV from_), (3, dV at_), (4, dV legs), (5, .ref 16 0), (11, .own 32), (12, dV on_)], [bX 16 30 [dV t.Network.Stops, dV t.Network.Lines, dV t.Trips], aX 32 3 i], 64⟩) ?_)
  rintro ⟨on_, i⟩ r0 hb Z
  rw [yer] at Z
  refine jac (rs G (hN 2 i h0) ?_)
  refine cd Z ?_ ?_ <;> intro Z
  ·refine jae (thN (jac (jab ?_)))
   obtain ⟨e, h1, Z⟩ := jad Z
   refine re G (hD 2 h1 (hS 3 h1 (-1) h0)) ?_
   exact ibN (thN (rh G (wL G Z)))
  ·exact jaf (thE (thE (ibE (wD G Z hb))))
 rintro i1 Z s hw
 refine thN (jai hw ?_)
 obtain ⟨e1, h2, Z⟩ := jad Z
 refine rs G (hD 3 h2 (hS 4 h2 at_ h0)) ?_
 refine jac (rg G (tl Z (fun i3 => ⟨[(11, .own 16)], [aX 16 3 i3], 48⟩) (fun i3 Z => ?_) ?_))
 ·refine jab (lp G Z (fun (stops, i2) => ⟨[(1, dV change), (2, dV from_), (3, dV at_), (4, dV legs), (5, .ref 16 0), (11, .own 32), (13, dV stops)], [bX 16 30 [dV t.Network.Stops, dV t.Network.Lines, dV t.Trips], aX 32 3 i2], 64⟩) ?_)
  rintro ⟨stops, i2⟩ r0 hb1 Z
  rw [ygo] at Z
  refine jac (rg G (cd Z ?_ ?_)) <;> intro Z
  ·refine jae (thN (jac (jab ?_)))
   obtain ⟨u1, h3, Z⟩ := jad Z
   refine rs G (hA 2 8 h3 h0) ?_
   refine rg G (jn Z (fun s1 => ⟨[(1, dV change), (2, dV from_), (3, dV at_), (4, dV legs), (5, .ref 16 0), (11, .own 32), (13, dV stops), (14, .own 48), (15, dV s1)], [bX 16 30 [dV t.Network.Stops, dV t.Network.Lines, dV t.Trips], aX 32 3 i2, aX 48 3 (([] : List Int) ++ i2)], 80⟩) (fun s1 Z => ?_) ?_)
   ·refine rg G (cd Z ?_ ?_) <;> intro Z
    ·exact rh G (wJ G Z)
    ·exact jae (wJ G Z)
   rintro s1 Z
   refine jac (rg G (tl Z (fun k4 => ⟨[(1, dV change), (2, dV from_), (3, dV at_), (4, dV legs), (5, .ref 16 0), (13, dV stops), (14, .own 32)], [bX 16 30 [dV t.Network.Stops, dV t.Network.Lines, dV t.Trips], aX 32 3 k4], 64⟩) (fun k4 Z => ?_) ?_))
   ·refine jab (lp G Z (fun (time, k) => ⟨[(1, dV change), (2, dV from_), (3, dV at_), (4, dV legs), (5, .ref 16 0), (11, .own 32), (13, dV stops), (14, .own 48), (15, dV s1), (16, dV time)], [bX 16 30 [dV t.Network.Stops, dV t.Network.Lines, dV t.Trips], aX 32 3 i2, aX 48 3 k], 80⟩) ?_)
    rintro ⟨time, k⟩ r0 hb2 Z
    rw [ygp] at Z
    refine jac (rs G (hN 3 t.Trips h0) ?_)
    refine cd Z ?_ ?_ <;> intro Z
    ·refine jae (thN (jac (jab (rg G ?_))))
     obtain ⟨r, h4, Z⟩ := jad Z
     refine rs G (hC 2 (ydj.c (_, _) h4) h0) ?_
     refine rg G (tl Z (fun k3 => ⟨[(1, dV change), (2, dV from_), (3, dV at_), (4, dV legs), (5, .ref 16 0), (11, .own 32), (13, dV stops), (14, .own 48), (15, dV s1), (16, dV time)], [bX 16 30 [dV t.Network.Stops, dV t.Network.Lines, dV t.Trips], aX 32 3 i2, aX 48 3 k3], 80⟩) (fun k3 Z => ?_) ?_)
     ·refine jab (lp G Z (fun (ready, v, k1) => ⟨[(1, dV change), (2, dV from_), (3, dV at_), (4, dV legs), (5, .ref 16 0), (11, .own 32), (13, dV stops), (14, .own 48), (15, dV s1), (16, dV time), (17, dV ready), (18, dV r), (19, dV v)], [bX 16 30 [dV t.Network.Stops, dV t.Network.Lines, dV t.Trips], aX 32 3 i2, aX 48 3 k1], 80⟩) ?_)
      rintro ⟨ready, v, k1⟩ r0 hb3 Z
      rw [yeq] at Z
      refine jac (rs G (hN 2 r h0) ?_)
      refine cd Z ?_ ?_ <;> intro Z
      ·refine jae (thN (jac (jab ?_)))
       obtain ⟨e3, h7, r2, h8, Z⟩ := ob2 Z
       refine ds G [] (hD 2 h7 (hC 7 (yb3.c (_, _, _) h8) h0)) ?_
       refine jn Z (fun k2 => ⟨[(1, dV change), (2, dV from_), (3, dV at_), (4, dV legs), (5, .ref 16 0), (11, .own 32), (13, dV stops), (14, .own 48), (15, dV s1), (16, dV time), (17, dV ready), (18, dV r), (19, dV v), (20, dV e3), (21, dV r2)], [bX 16 30 [dV t.Network.Stops, dV t.Network.Lines, dV t.Trips], aX 32 3 i2, aX 48 3 k2], 80⟩) (fun k2 Z => ?_) ?_
       ·refine jn Z (fun v1 => ⟨[(1, dV change), (2, dV from_), (3, dV at_), (4, dV legs), (5, .ref 16 0), (11, .own 32), (13, dV stops), (14, .own 48), (15, dV s1), (16, dV time), (17, dV ready), (18, dV r), (19, dV v), (20, dV e3), (21, dV r2), (91, dV v1)], [bX 16 30 [dV t.Network.Stops, dV t.Network.Lines, dV t.Trips], aX 32 3 i2, aX 48 3 k1], 80⟩) (fun v1 Z => ?_) ?_
        ·rcases bf Z with ⟨hb4, Z⟩ | ⟨hb4, Z⟩
         ·obtain ⟨e4, h9, Z⟩ := jad Z
          rcases bf Z with ⟨hb5, Z⟩ | ⟨hb5, Z⟩
          ·refine re G (hO 1 (.b true) (hP hb4 (hD 4 h9 (hE 5 h9 (hO 7 (.b true) (hP hb5 h0)))))) ?_
           exact wJ G Z
          ·obtain ⟨e5, h10, Z⟩ := jad Z
           refine re G (hO 1 (.b true) (hP hb4 (hD 4 h9 (hE 5 h9 (hO 7 (.b false) (hP hb5 (hD 11 h10 (hE 12 h10 h0)))))))) ?_
           exact wJ G Z
         ·refine re G (hO 1 (.b false) (hP hb4 h0)) ?_
          exact wJ G Z
        rintro v1 Z
        refine cd Z ?_ ?_ <;> intro Z
        ·obtain ⟨e6, h11, Z⟩ := jad Z
         refine re G (hD 3 h11 (hS 4 h11 r2 h0)) ?_
         exact wJ G Z
        ·exact jae (wJ G Z)
       rintro k2 Z
       obtain ⟨e7, h12, Z⟩ := jad Z
       refine rs G (hD 2 h12 (hE 3 h12 h0)) ?_
       refine jn Z (fun v2 => ⟨[(1, dV change), (2, dV from_), (3, dV at_), (4, dV legs), (5, .ref 16 0), (11, .own 32), (13, dV stops), (14, .own 48), (15, dV s1), (16, dV time), (17, dV ready), (18, dV r), (19, dV v), (20, dV e3), (21, dV r2), (22, dV v2)], [bX 16 30 [dV t.Network.Stops, dV t.Network.Lines, dV t.Trips], aX 32 3 i2, aX 48 3 k2], 80⟩) (fun v2 Z => ?_) ?_
       ·refine rg G (cd Z ?_ ?_) <;> intro Z
        ·exact rh G (wJ G Z)
        ·exact jae (wJ G Z)
       rintro v2 Z
       rcases bf Z with ⟨hb6, Z⟩ | ⟨hb6, Z⟩
       ·refine re G (hO 1 (.b true) (hP hb6 h0)) ?_
        exact ibN (thN (rh G (wL G Z)))
       ·obtain ⟨e8, h13, Z⟩ := jad Z
        rcases bf Z with ⟨hb7, Z⟩ | ⟨hb7, Z⟩
        ·refine re G (hO 1 (.b false) (hP hb6 (hD 4 h13 (hE 5 h13 (hO 7 (.b true) (hP hb7 h0)))))) ?_
         exact ibN (thN (rh G (wL G Z)))
        ·refine re G (hO 1 (.b false) (hP hb6 (hD 4 h13 (hE 5 h13 (hO 7 (.b false) (hP hb7 h0)))))) ?_
         exact ibN (thN (rh G (wL G Z)))
      ·exact jaf (thE (thE (ibE (wD G Z hb3))))
     rintro k3 Z s2 hw1
     refine ibN (thN (jai hw1 ?_))
     exact rh G (wL G Z)
    ·exact jaf (thE (thE (ibE (wD G Z hb2))))
   rintro k4 Z s3 hw2
   refine thN (jai hw2 ?_)
   exact rh G (ibN (thN (rh G (wL G Z))))
  ·exact jaf (thE (thE (ibE (wD G Z hb1))))
 rintro i3 Z s4 hw3
 refine thN (jai hw3 ?_)
 refine rg G ?_
 cases Z
 exact rt [16] []
def yh1 : MS (Timetable × Int × Int × Int) Leg := ⟨.x .r (.x .r (.x .r .r)), fun x => zq85 x.1 x.2.1 x.2.2.1 x.2.2.2, fun y => dV y, fun _ => [], fun _ _ => []⟩
theorem yj2 : FnOK Tryz.prog tJ 165 yh1.S := by
 refine fm tt yh1 [fo ydi, fo ydk] call165 func165 rfl results165 ntmps165 ?_
 rintro ⟨t, i, a, b⟩ y cx G (Z : zq85 t i a b = some y)
 unfold zq85 at Z
 refine rg G ?_
 obtain ⟨r, h, Z⟩ := jad Z
 refine rs G (hC 2 (ydj.c (_, _) h) h0) ?_
 obtain ⟨e3, h6, e4, h7, e5, h8, Z⟩ := ob3 Z
 obtain ⟨r3, h9, r4, h10, Z⟩ := ob2 Z
 refine ds G [(23, [32])] (hD 3 h6 (hD 8 h7 (hD 12 h8 (hC 17 (yb3.c (_, _, _) h9) (hC 21 (yb3.c (_, _, _) h10) h0))))) ?_
 cases Z
 exact rt [] []
def yb5 (rec_ : l8Search -> (List Leg) -> Int -> Int -> Int -> Option ((List Leg))) : MS (l8Search × (List Leg) × Int × Int × Int) ((List Leg)) := ⟨.x (.b 155) (.x (.s 51) (.x .r (.x .r .r))), fun x => rec_ x.1 x.2.1 x.2.2.1 x.2.2.2.1 x.2.2.2.2, fun _ => .own 0, fun y => [arO 51 y], fun x _ => [bxO 155 x.1, arO 51 x.2.1]⟩
def yni : MS (l8Search × (List Leg) × Int × Int × Int) ((List Leg)) := yb5 zq88
theorem yn6 {rec_ : l8Search -> (List Leg) -> Int -> Int -> Int -> Option ((List Leg))} {x legs stop at_ more y} (Z : rec_ x legs stop at_ more = some y) : (yb5 rec_).C (x, legs, stop, at_, more) y := (yb5 rec_).c (x, legs, stop, at_, more) Z
theorem yl7 {rec_ : l8Search -> (List Leg) -> Int -> Int -> Int -> Option ((List Leg))} (hrec : FnOK Tryz.prog tJ 132 (yb5 rec_).S) : FnOK Tryz.prog tJ 132 (yb5 (ydh rec_)).S := by
 refine fm tt (yb5 (ydh rec_)) [fo hrec, fo yeu, fo ydl, fo ydk, fo ydi, fo yj2] call132 func132 rfl results132 ntmps132 ?_
 rintro ⟨x, legs, stop, at_, more⟩ y cx G (Z : ydh rec_ x legs stop at_ more = some y)
 unfold ydh at Z
 refine rg G (jac (rg G (tF Z (fun _ => ⟨[(0, .ref 0 0), (1, .own 1)], [bX 0 155 [dV x.t_.Network.Stops, dV x.t_.Network.Lines, dV x.t_.Trips, dV x.change_, dV x.to_, dV x.arrive_], aX 1 51 legs], 48⟩) (fun v7 hr Z => ?_) ?_)))
 ·refine jab (lp G Z (fun s => ⟨[(0, .ref 0 0), (1, .own 1), (2, dV stop), (3, dV at_), (4, dV more), (11, dV s)], [bX 0 155 [dV x.t_.Network.Stops, dV x.t_.Network.Lines, dV x.t_.Trips, dV x.change_, dV x.to_, dV x.arrive_], aX 1 51 legs], 48⟩) ?_)
  rintro s r0 hb Z
  rw [ygk] at Z
  refine jac (rs G (hN 6 x.t_.Trips h0) ?_)
  refine cd Z ?_ ?_ <;> intro Z
  ·refine jae (thN (jF Z (fun _ => ⟨[(0, .ref 0 0), (1, .own 1), (2, dV stop), (3, dV at_), (4, dV more), (11, dV s)], [bX 0 155 [dV x.t_.Network.Stops, dV x.t_.Network.Lines, dV x.t_.Trips, dV x.change_, dV x.to_, dV x.arrive_], aX 1 51 legs], 48⟩) (fun v6 hr1 Z => ?_) ?_))
   ·refine jab (rg G (jac (rg G (tl Z (fun b1 => ⟨[(0, .ref 0 0), (1, .own 1), (2, dV stop), (3, dV at_), (4, dV more), (11, dV s), (12, dV b1)], [bX 0 155 [dV x.t_.Network.Stops, dV x.t_.Network.Lines, dV x.t_.Trips, dV x.change_, dV x.to_, dV x.arrive_], aX 1 51 legs], 48⟩) (fun b1 Z => ?_) ?_))))
    ·refine jab (lp G Z (fun (b, leg) => ⟨[(0, .ref 0 0), (1, .own 1), (2, dV stop), (3, dV at_), (4, dV more), (11, dV s), (12, dV b), (13, dV leg)], [bX 0 155 [dV x.t_.Network.Stops, dV x.t_.Network.Lines, dV x.t_.Trips, dV x.change_, dV x.to_, dV x.arrive_], aX 1 51 legs], 48⟩) ?_)
     rintro ⟨b, leg⟩ r0 hb1 Z
     rw [ygm] at Z
     refine jac (rs G (hN 2 legs h0) ?_)
     refine cd Z ?_ ?_ <;> intro Z
     ·refine jae (thN (jac (jab ?_)))
      rcases bf Z with ⟨hb2, Z⟩ | ⟨hb2, Z⟩
      ·refine de G [] (hO 1 (.b true) (hP hb2 h0)) ?_
       exact ibN (thN (rh G (wL G Z)))
      ·obtain ⟨e2, h2, e3, h3, Z⟩ := ob2 Z
       refine de G [] (hO 1 (.b false) (hP hb2 (hD 4 h2 (hE 6 h2 (hD 13 h3 h0))))) ?_
       exact ibN (thN (rh G (wL G Z)))
     ·exact jaf (thE (thE (ibE (wD G Z hb1))))
    rintro b1 Z s1 hw
    refine thN (jai hw ?_)
    obtain ⟨r, h4, r1, h5, Z⟩ := ob2 Z
    refine rs G (hC 5 (yco.c (_, _) h4) (hC 7 (yca.c (_, _) h5) h0)) ?_
    refine jac (jn Z (fun v => ⟨[(0, .ref 0 0), (1, .own 1), (2, dV stop), (3, dV at_), (4, dV more), (11, dV s), (14, dV r1), (78, dV v)], [bX 0 155 [dV x.t_.Network.Stops, dV x.t_.Network.Lines, dV x.t_.Trips, dV x.change_, dV x.to_, dV x.arrive_], aX 1 51 legs], 48⟩) (fun v Z => ?_) ?_)
    ·rcases bf Z with ⟨hb3, Z⟩ | ⟨hb3, Z⟩
     ·refine re G (hO 1 (.b true) (hP hb3 h0)) ?_
      exact wJ G Z
     ·rcases bf Z with ⟨hb4, Z⟩ | ⟨hb4, Z⟩
      ·refine re G (hO 1 (.b false) (hP hb3 (hO 5 (.b true) (hP hb4 h0)))) ?_
       exact wJ G Z
      ·obtain ⟨r2, h6, Z⟩ := jad Z
       refine re G (hO 1 (.b false) (hP hb3 (hO 5 (.b false) (hP hb4 (hC 12 (yb3.c (_, _, _) h6) h0))))) ?_
       exact wJ G Z
    rintro v Z
    refine cd Z ?_ ?_ <;> intro Z
    ·exact jaf (thE (ibE (wF G Z)))
    ·refine jae (thN ?_)
     obtain ⟨r3, h7, Z⟩ := jad Z
     refine rs G (hC 5 (ydj.c (_, _) h7) h0) ?_
     refine rg G (tF Z (fun _ => ⟨[(0, .ref 0 0), (1, .own 1), (2, dV stop), (3, dV at_), (4, dV more), (11, dV s)], [bX 0 155 [dV x.t_.Network.Stops, dV x.t_.Network.Lines, dV x.t_.Trips, dV x.change_, dV x.to_, dV x.arrive_], aX 1 51 legs], 48⟩) (fun v5 hr3 Z => ?_) ?_)
     ·refine jab (lp G Z (fun v1 => ⟨[(0, .ref 0 0), (1, .own 1), (2, dV stop), (3, dV at_), (4, dV more), (11, dV s), (14, dV r1), (15, dV r3), (16, dV v1)], [bX 0 155 [dV x.t_.Network.Stops, dV x.t_.Network.Lines, dV x.t_.Trips, dV x.change_, dV x.to_, dV x.arrive_], aX 1 51 legs], 48⟩) ?_)
      rintro v1 r0 hb5 Z
      rw [ygl] at Z
      refine jac (rs G (hN 7 x.t_.Network.Stops h0) ?_)
      refine cd Z ?_ ?_ <;> intro Z
      ·refine jae (thN (jF Z (fun _ => ⟨[(0, .ref 0 0), (1, .own 1), (2, dV stop), (3, dV at_), (4, dV more), (11, dV s), (14, dV r1), (15, dV r3), (16, dV v1)], [bX 0 155 [dV x.t_.Network.Stops, dV x.t_.Network.Lines, dV x.t_.Trips, dV x.change_, dV x.to_, dV x.arrive_], aX 1 51 legs], 48⟩) (fun v4 hr4 Z => ?_) ?_))
       ·refine jab ?_
        obtain ⟨r4, h8, r5, h9, Z⟩ := ob2 Z
        refine rs G (hC 5 (yco.c (_, _) h8) (hC 7 (yca.c (_, _) h9) h0)) ?_
        refine jac (jn Z (fun v2 => ⟨[(0, .ref 0 0), (1, .own 1), (2, dV stop), (3, dV at_), (4, dV more), (11, dV s), (14, dV r1), (15, dV r3), (16, dV v1), (17, dV r5), (126, dV v2)], [bX 0 155 [dV x.t_.Network.Stops, dV x.t_.Network.Lines, dV x.t_.Trips, dV x.change_, dV x.to_, dV x.arrive_], aX 1 51 legs], 48⟩) (fun v2 Z => ?_) ?_)
        ·rcases bf Z with ⟨hb6, Z⟩ | ⟨hb6, Z⟩
         ·refine de G [] (hO 3 (.b true) (hP hb6 h0)) ?_
          exact wJ G Z
         ·rcases bf Z with ⟨hb7, Z⟩ | ⟨hb7, Z⟩
          ·refine de G [] (hO 3 (.b false) (hP hb6 (hN 6 r3 (hO 9 (.b true) (hP hb7 h0))))) ?_
           exact wJ G Z
          ·obtain ⟨r7, h11, Z⟩ := jad Z
           refine de G [] (hO 3 (.b false) (hP hb6 (hN 6 r3 (hO 9 (.b false) (hP hb7 (hC 16 (yb3.c (_, _, _) h11) h0)))))) ?_
           exact wJ G Z
        rintro v2 Z
        refine cd Z ?_ ?_ <;> intro Z
        ·exact jaf (thE (ibE (wF G Z)))
        ·refine jae (thN ?_)
         obtain ⟨r8, h12, Z⟩ := jad Z
         refine rs G (hC 7 (yh1.c (_, _, _, _) h12) h0) ?_
         obtain ⟨u2, h15, u3, h16, Z⟩ := ob2 Z
         refine ds G [(2, [1, 208]), (5, [240, 272])] (hA 2 40 h15 (hA 5 40 h16 h0)) ?_
         refine jac (rg G (cd Z ?_ ?_)) <;> intro Z
         ·refine jac (jn Z (fun v3 => ⟨[(0, .ref 0 0), (1, .own 1), (2, dV stop), (3, dV at_), (4, dV more), (11, dV s), (14, dV r1), (15, dV r3), (16, dV v1), (19, .own 32), (157, dV v3)], [bX 0 155 [dV x.t_.Network.Stops, dV x.t_.Network.Lines, dV x.t_.Trips, dV x.change_, dV x.to_, dV x.arrive_], aX 1 51 legs, aX 32 51 ((([] : List Leg) ++ legs) ++ ([r8] : List Leg))], 64⟩) (fun v3 Z => ?_) ?_)
          ·rcases bf Z with ⟨hb8, Z⟩ | ⟨hb8, Z⟩
           ·refine de G [] (hO 6 (.b true) (hP hb8 h0)) ?_
            exact wJ G Z
           ·refine de G [] (hO 6 (.b false) (hP hb8 h0)) ?_
            exact wJ G Z
          rintro v3 Z
          refine cd Z ?_ ?_ <;> intro Z
          ·refine rg G ?_
           have Z := eR Z hr4
           have Z := eL Z hb5 hr3
           have Z := eR Z hr1
           have Z := eL Z hb hr
           cases Z
           exact rt [32] []
          ·exact jae (thN (jaf (thE (ibE (wF G Z)))))
         ·refine jae (thN ?_)
          obtain ⟨r14, h18, Z⟩ := jad Z
          refine ds G [(12, [0, 288])] (hC 12 (yn6 h18) h0) ?_
          refine rs G (hN 1 r14 h0) ?_
          refine cd Z ?_ ?_ <;> intro Z
          ·refine rg G ?_
           have Z := eR Z hr4
           have Z := eL Z hb5 hr3
           have Z := eR Z hr1
           have Z := eL Z hb hr
           cases Z
           exact rt [544] []
          ·exact jae (ibN (wF G Z))
       rintro ⟨⟩ Z
       exact rh G (wL G Z)
      ·exact jaf (thE (thE (ibE (wE G Z hb5))))
     rintro ⟨⟩ Z s2 hw1
     exact ibN (wFp Z (Wk.trans hw1 (Wk_J G.hL ⟨[(0, []), (1, []), (2, []), (3, []), (4, []), (11, [])], [(0, 0, []), (1, 1, [])], [], 48⟩ (by kernel_rfl))))
   rintro ⟨⟩ Z
   exact rh G (wL G Z)
  ·exact jaf (thE (thE (ibE (wE G Z hb))))
 rintro ⟨⟩ Z s3 hw2
 refine thN (jai hw2 ?_)
 refine rg G ?_
 cases Z
 exact rt [48] []
theorem yh0 : ∀ k, FnOK Tryz.prog tJ 132 (yb5 (yb9 k)).S
 | 0 => ⟨fun args w => call132 args w, fun vs w F ds obs κ hp => by obtain ⟨x, y, _, _, h⟩ := hp; cases h⟩
 | k + 1 => yl7 (yh0 k)
theorem yn5 : FnOK Tryz.prog tJ 132 yni.S := yh0 4294967296
def yjx : MS (l8Search × (List Leg) × Int × Int × Int) ((List Leg)) := ⟨.x (.b 155) (.x .r (.x .r (.x .r .r))), fun x => zq87 x.1 x.2.1 x.2.2.1 x.2.2.2.1 x.2.2.2.2, fun _ => .own 0, fun y => [arO 51 y], fun x _ => [bxO 155 x.1]⟩
theorem yn7 : FnOK Tryz.prog tJ 132 yjx.S := by
 refine fm tt yjx [fo yeu, fo ydl, fo ydk, fo ydi, fo yj2, fo yn5] call132 func132 rfl results132 ntmps132 ?_
 rintro ⟨x, legs, stop, at_, more⟩ y cx G (Z : zq87 x legs stop at_ more = some y)
 unfold zq87 at Z
 refine rg G (jac (rg G (tF Z (fun _ => ⟨[(0, .ref 0 0)], [bX 0 155 [dV x.t_.Network.Stops, dV x.t_.Network.Lines, dV x.t_.Trips, dV x.change_, dV x.to_, dV x.arrive_]], 48⟩) (fun v7 hr Z => ?_) ?_)))
 ·refine jab (lp G Z (fun s => ⟨[(0, .ref 0 0), (1, dV legs), (2, dV stop), (3, dV at_), (4, dV more), (11, dV s)], [bX 0 155 [dV x.t_.Network.Stops, dV x.t_.Network.Lines, dV x.t_.Trips, dV x.change_, dV x.to_, dV x.arrive_]], 48⟩) ?_)
  rintro s r0 hb Z
  rw [yjy] at Z
  refine jac (rs G (hN 6 x.t_.Trips h0) ?_)
  refine cd Z ?_ ?_ <;> intro Z
  ·refine jae (thN (jF Z (fun _ => ⟨[(0, .ref 0 0), (1, dV legs), (2, dV stop), (3, dV at_), (4, dV more), (11, dV s)], [bX 0 155 [dV x.t_.Network.Stops, dV x.t_.Network.Lines, dV x.t_.Trips, dV x.change_, dV x.to_, dV x.arrive_]], 48⟩) (fun v6 hr1 Z => ?_) ?_))
   ·refine jab (rg G (jac (rg G (tl Z (fun b1 => ⟨[(0, .ref 0 0), (1, dV legs), (2, dV stop), (3, dV at_), (4, dV more), (11, dV s), (12, dV b1)], [bX 0 155 [dV x.t_.Network.Stops, dV x.t_.Network.Lines, dV x.t_.Trips, dV x.change_, dV x.to_, dV x.arrive_]], 48⟩) (fun b1 Z => ?_) ?_))))
    ·refine jab (lp G Z (fun (b, leg) => ⟨[(0, .ref 0 0), (1, dV legs), (2, dV stop), (3, dV at_), (4, dV more), (11, dV s), (12, dV b), (13, dV leg)], [bX 0 155 [dV x.t_.Network.Stops, dV x.t_.Network.Lines, dV x.t_.Trips, dV x.change_, dV x.to_, dV x.arrive_]], 48⟩) ?_)
     rintro ⟨b, leg⟩ r0 hb1 Z
     rw [yj0] at Z
     refine jac (rs G (hN 2 legs h0) ?_)
     refine cd Z ?_ ?_ <;> intro Z
     ·refine jae (thN (jac (jab ?_)))
      rcases bf Z with ⟨hb2, Z⟩ | ⟨hb2, Z⟩
      ·refine de G [] (hO 1 (.b true) (hP hb2 h0)) ?_
       exact ibN (thN (rh G (wL G Z)))
      ·obtain ⟨e2, h2, e3, h3, Z⟩ := ob2 Z
       refine de G [] (hO 1 (.b false) (hP hb2 (hD 4 h2 (hD 13 h3 h0)))) ?_
       exact ibN (thN (rh G (wL G Z)))
     ·exact jaf (thE (thE (ibE (wD G Z hb1))))
    rintro b1 Z s1 hw
    refine thN (jai hw ?_)
    obtain ⟨r, h4, r1, h5, Z⟩ := ob2 Z
    refine rs G (hC 5 (yco.c (_, _) h4) (hC 7 (yca.c (_, _) h5) h0)) ?_
    refine jac (jn Z (fun v => ⟨[(0, .ref 0 0), (1, dV legs), (2, dV stop), (3, dV at_), (4, dV more), (11, dV s), (14, dV r1), (78, dV v)], [bX 0 155 [dV x.t_.Network.Stops, dV x.t_.Network.Lines, dV x.t_.Trips, dV x.change_, dV x.to_, dV x.arrive_]], 48⟩) (fun v Z => ?_) ?_)
    ·rcases bf Z with ⟨hb3, Z⟩ | ⟨hb3, Z⟩
     ·refine re G (hO 1 (.b true) (hP hb3 h0)) ?_
      exact wJ G Z
     ·rcases bf Z with ⟨hb4, Z⟩ | ⟨hb4, Z⟩
      ·refine re G (hO 1 (.b false) (hP hb3 (hO 5 (.b true) (hP hb4 h0)))) ?_
       exact wJ G Z
      ·obtain ⟨r2, h6, Z⟩ := jad Z
       refine re G (hO 1 (.b false) (hP hb3 (hO 5 (.b false) (hP hb4 (hC 12 (yb3.c (_, _, _) h6) h0))))) ?_
       exact wJ G Z
    rintro v Z
    refine cd Z ?_ ?_ <;> intro Z
    ·exact jaf (thE (ibE (wF G Z)))
    ·refine jae (thN ?_)
     obtain ⟨r3, h7, Z⟩ := jad Z
     refine rs G (hC 5 (ydj.c (_, _) h7) h0) ?_
     refine rg G (tF Z (fun _ => ⟨[(0, .ref 0 0), (1, dV legs), (2, dV stop), (3, dV at_), (4, dV more), (11, dV s)], [bX 0 155 [dV x.t_.Network.Stops, dV x.t_.Network.Lines, dV x.t_.Trips, dV x.change_, dV x.to_, dV x.arrive_]], 48⟩) (fun v5 hr3 Z => ?_) ?_)
     ·refine jab (lp G Z (fun v1 => ⟨[(0, .ref 0 0), (1, dV legs), (2, dV stop), (3, dV at_), (4, dV more), (11, dV s), (14, dV r1), (15, dV r3), (16, dV v1)], [bX 0 155 [dV x.t_.Network.Stops, dV x.t_.Network.Lines, dV x.t_.Trips, dV x.change_, dV x.to_, dV x.arrive_]], 48⟩) ?_)
      rintro v1 r0 hb5 Z
      rw [yjz] at Z
      refine jac (rs G (hN 7 x.t_.Network.Stops h0) ?_)
      refine cd Z ?_ ?_ <;> intro Z
      ·refine jae (thN (jF Z (fun _ => ⟨[(0, .ref 0 0), (1, dV legs), (2, dV stop), (3, dV at_), (4, dV more), (11, dV s), (14, dV r1), (15, dV r3), (16, dV v1)], [bX 0 155 [dV x.t_.Network.Stops, dV x.t_.Network.Lines, dV x.t_.Trips, dV x.change_, dV x.to_, dV x.arrive_]], 48⟩) (fun v4 hr4 Z => ?_) ?_))
       ·refine jab ?_
        obtain ⟨r4, h8, r5, h9, Z⟩ := ob2 Z
        refine rs G (hC 5 (yco.c (_, _) h8) (hC 7 (yca.c (_, _) h9) h0)) ?_
        refine jac (jn Z (fun v2 => ⟨[(0, .ref 0 0), (1, dV legs), (2, dV stop), (3, dV at_), (4, dV more), (11, dV s), (14, dV r1), (15, dV r3), (16, dV v1), (17, dV r5), (126, dV v2)], [bX 0 155 [dV x.t_.Network.Stops, dV x.t_.Network.Lines, dV x.t_.Trips, dV x.change_, dV x.to_, dV x.arrive_]], 48⟩) (fun v2 Z => ?_) ?_)
        ·rcases bf Z with ⟨hb6, Z⟩ | ⟨hb6, Z⟩
         ·refine de G [] (hO 3 (.b true) (hP hb6 h0)) ?_
          exact wJ G Z
         ·rcases bf Z with ⟨hb7, Z⟩ | ⟨hb7, Z⟩
          ·refine de G [] (hO 3 (.b false) (hP hb6 (hN 6 r3 (hO 9 (.b true) (hP hb7 h0))))) ?_
           exact wJ G Z
          ·obtain ⟨r7, h11, Z⟩ := jad Z
           refine de G [] (hO 3 (.b false) (hP hb6 (hN 6 r3 (hO 9 (.b false) (hP hb7 (hC 16 (yb3.c (_, _, _) h11) h0)))))) ?_
           exact wJ G Z
        rintro v2 Z
        refine cd Z ?_ ?_ <;> intro Z
        ·exact jaf (thE (ibE (wF G Z)))
        ·refine jae (thN ?_)
         obtain ⟨r8, h12, Z⟩ := jad Z
         refine rs G (hC 7 (yh1.c (_, _, _, _) h12) h0) ?_
         obtain ⟨u2, h15, u3, h16, Z⟩ := ob2 Z
         refine ds G [(2, [208]), (5, [240, 272])] (hA 2 40 h15 (hA 5 40 h16 h0)) ?_
         refine jac (rg G (cd Z ?_ ?_)) <;> intro Z
         ·refine jac (jn Z (fun v3 => ⟨[(0, .ref 0 0), (1, dV legs), (2, dV stop), (3, dV at_), (4, dV more), (11, dV s), (14, dV r1), (15, dV r3), (16, dV v1), (19, .own 32), (157, dV v3)], [bX 0 155 [dV x.t_.Network.Stops, dV x.t_.Network.Lines, dV x.t_.Trips, dV x.change_, dV x.to_, dV x.arrive_], aX 32 51 ((([] : List Leg) ++ legs) ++ ([r8] : List Leg))], 64⟩) (fun v3 Z => ?_) ?_)
          ·rcases bf Z with ⟨hb8, Z⟩ | ⟨hb8, Z⟩
           ·refine de G [] (hO 6 (.b true) (hP hb8 h0)) ?_
            exact wJ G Z
           ·refine de G [] (hO 6 (.b false) (hP hb8 h0)) ?_
            exact wJ G Z
          rintro v3 Z
          refine cd Z ?_ ?_ <;> intro Z
          ·refine rg G ?_
           have Z := eR Z hr4
           have Z := eL Z hb5 hr3
           have Z := eR Z hr1
           have Z := eL Z hb hr
           cases Z
           exact rt [32] []
          ·exact jae (thN (jaf (thE (ibE (wF G Z)))))
         ·refine jae (thN ?_)
          obtain ⟨r14, h18, Z⟩ := jad Z
          refine ds G [(12, [0, 288])] (hC 12 (yni.c (_, _, _, _, _) h18) h0) ?_
          refine rs G (hN 1 r14 h0) ?_
          refine cd Z ?_ ?_ <;> intro Z
          ·refine rg G ?_
           have Z := eR Z hr4
           have Z := eL Z hb5 hr3
           have Z := eR Z hr1
           have Z := eL Z hb hr
           cases Z
           exact rt [544] []
          ·exact jae (ibN (wF G Z))
       rintro ⟨⟩ Z
       exact rh G (wL G Z)
      ·exact jaf (thE (thE (ibE (wE G Z hb5))))
     rintro ⟨⟩ Z s2 hw1
     exact ibN (wFp Z (Wk.trans hw1 (Wk_J G.hL ⟨[(0, []), (1, []), (2, []), (3, []), (4, []), (11, [])], [(0, 0, [])], [], 48⟩ (by kernel_rfl))))
   rintro ⟨⟩ Z
   exact rh G (wL G Z)
  ·exact jaf (thE (thE (ibE (wE G Z hb))))
 rintro ⟨⟩ Z s3 hw2
 refine thN (jai hw2 ?_)
 refine rg G ?_
 cases Z
 exact rt [48] []
def yj3 : MS (Timetable × Int × Int × Int × Int × Int × Int) ((List Leg)) := ⟨.x .r (.x .r (.x .r (.x .r (.x .r (.x .r .r))))), fun x => zq83 x.1 x.2.1 x.2.2.1 x.2.2.2.1 x.2.2.2.2.1 x.2.2.2.2.2.1 x.2.2.2.2.2.2, fun _ => .own 0, fun y => [arO 51 y], fun _ _ => []⟩
theorem yoa : FnOK Tryz.prog tJ 89 yj3.S := by
 refine fm tt yj3 [fo yn7] call89 func89 rfl results89 ntmps89 ?_
 rintro ⟨t, change, from_, to_, at_, arrive, legs⟩ y cx G (Z : zq83 t change from_ to_ at_ arrive legs = some y)
 unfold zq83 at Z
 refine rg G (rg G ?_)
 obtain ⟨r, h, Z⟩ := jad Z
 refine rs G (hO 5 (.fz [176] [] []) (hC 5 (yjx.c (_, _, _, _, _) h) h0)) ?_
 cases Z
 exact rt [240] []
def yj4 : MS (Timetable × Int × Int × Int × Int) ((List Leg)) := ⟨.x .r (.x .r (.x .r (.x .r .r))), fun x => zq82 x.1 x.2.1 x.2.2.1 x.2.2.2.1 x.2.2.2.2, fun _ => .own 0, fun y => [arO 51 y], fun _ _ => []⟩
theorem yob : FnOK Tryz.prog tJ 47 yj4.S := by
 refine fm tt yj4 [fo yod, fo yoa] call47 func47 rfl results47 ntmps47 ?_
 rintro ⟨t, change, from_, to_, at_⟩ y cx G (Z : zq82 t change from_ to_ at_ = some y)
 unfold zq82 at Z
 refine rg G ?_
 obtain ⟨r, h, e, h1, Z⟩ := ob2 Z
 refine rs G (hC 4 (ynj h) (hD 6 h1 (hE 7 h1 h0))) ?_
 refine jac (rg G (cd Z ?_ ?_)) <;> intro Z
 ·refine rg G ?_
  cases Z
  exact rt [224] []
 ·refine jae (thN (jac (rg G (tF Z (fun _ => ⟨[], [], 32⟩) (fun v1 hr Z => ?_) ?_))))
  ·refine jab (lp G Z (fun v => ⟨[(1, dV change), (2, dV from_), (3, dV to_), (4, dV at_), (5, .ref 16 0), (11, dV e), (12, dV v)], [bX 16 30 [dV t.Network.Stops, dV t.Network.Lines, dV t.Trips]], 48⟩) ?_)
   rintro v r0 hb Z
   rw [ygn] at Z
   refine jac (rg G (cd Z ?_ ?_)) <;> intro Z
   ·refine jae (thN (jac (jab ?_)))
    obtain ⟨r1, h2, e1, h3, Z⟩ := ob2 Z
    refine rs G (hC 5 (ynj h2) (hD 7 h3 (hE 8 h3 h0))) ?_
    refine cd Z ?_ ?_ <;> intro Z
    ·obtain ⟨r2, h4, Z⟩ := jad Z
     refine rs G (hC 7 (yj3.c (_, _, _, _, _, _, _) h4) h0) ?_
     have Z := eL Z hb hr
     cases Z
     exact rt [368] []
    ·exact jae (ibN (thN (rh G (wL G Z))))
   ·exact jaf (thE (thE (ibE (wE G Z hb))))
  rintro ⟨⟩ Z s hw
  refine thN (jai hw ?_)
  refine rg G ?_
  cases Z
  exact rt [32] []
def yku : MS (Timetable × Int × Int × Int × Int) ((List Leg) × Bool) := ⟨.x .r (.x .r (.x .r (.x .r .r))), fun x => zq39 x.1 x.2.1 x.2.2.1 x.2.2.2.1 x.2.2.2.2, fun y => .tup [.own 0, dV y.2], fun y => [arO 51 y.1], fun _ _ => []⟩
theorem yo3 : FnOK Tryz.prog tJ 17 yku.S := by
 refine fm tt yku [fo yn8, fo yob] call17 func17 rfl results17 ntmps17 ?_
 rintro ⟨t, change, from_, to_, at_⟩ y cx G (Z : zq39 t change from_ to_ at_ = some y)
 unfold zq39 at Z
 refine rg G (jac ?_)
 obtain ⟨r, h, Z⟩ := jad Z
 refine rs G (hC 5 (yj1.c (_, _, _, _, _) h) h0) ?_
 refine cd Z ?_ ?_ <;> intro Z
 ·refine rg G ?_
  cases Z
  exact rt [176] []
 ·refine jae (thN ?_)
  obtain ⟨r1, h1, Z⟩ := jad Z
  refine rs G (hC 5 (yj4.c (_, _, _, _, _) h1) h0) ?_
  refine rs G (hN 2 r1 h0) ?_
  cases Z
  exact rt [256] []
def yhb : MS ((List Leg) × (List Leg)) Bool := ⟨.x .r .r, fun x => yja x.1 x.2, fun y => dV y, fun _ => [], fun _ _ => []⟩
theorem ymc : FnOK Tryz.prog tJ 18 yhb.S := by
 refine fm tt yhb [] call18 func18 rfl results18 ntmps18 ?_
 rintro ⟨a, b⟩ y cx G (Z : yja a b = some y)
 unfold yja at Z
 refine rg G (jac (rs G (hN 1 a (hN 3 b h0)) ?_))
 refine cd Z ?_ ?_ <;> intro Z
 ·refine rg G ?_
  cases Z
  exact rt [] []
 ·refine jae (thN (jac (rg G (tF Z (fun _ => ⟨[], [], 32⟩) (fun v1 hr Z => ?_) ?_))))
  ·refine jab (lp G Z (fun v => ⟨[(0, dV a), (1, dV b), (5, dV v)], [], 32⟩) ?_)
   rintro v r0 hb Z
   rw [yfl] at Z
   refine jac (rs G (hN 2 a h0) ?_)
   refine cd Z ?_ ?_ <;> intro Z
   ·refine jae (thN (jac (jab ?_)))
    obtain ⟨e2, h2, e3, h3, Z⟩ := ob2 Z
    refine ds G [] (hD 2 h2 (hD 6 h3 h0)) ?_
    refine cd Z ?_ ?_ <;> intro Z
    ·refine rg G ?_
     have Z := eL Z hb hr
     cases Z
     exact rt [] []
    ·exact jae (ibN (thN (rh G (wL G Z))))
   ·exact jaf (thE (thE (ibE (wE G Z hb))))
  rintro ⟨⟩ Z s hw
  refine thN (jai hw ?_)
  refine rg G ?_
  cases Z
  exact rt [] []
def yiy : MS (Timetable × Int × Int × Int) ((List Int)) := ⟨.x .r (.x .r (.x .r .r)), fun x => zq14 x.1 x.2.1 x.2.2.1 x.2.2.2, fun _ => .own 0, fun y => [arO 3 y], fun _ _ => []⟩
theorem yk9 : FnOK Tryz.prog tJ 48 yiy.S := by
 refine fm tt yiy [fo yfb, fo yfj] call48 func48 rfl results48 ntmps48 ?_
 rintro ⟨t, change, from_, at_⟩ y cx G (Z : zq14 t change from_ at_ = some y)
 unfold zq14 at Z
 refine rg G ?_
 obtain ⟨r2, h2, r3, h3, Z⟩ := ob2 Z
 refine ds G [] (hC 5 (ycq.c (_, _, _) h2) (hF 6 (yed h3) ⟨(jdf jec jb4), jb4⟩ h0)) ?_
 refine jac (rs G (hN 1 r3 h0) ?_)
 refine tl Z (fun v3 => ⟨[(2, dV from_), (3, dV at_), (9, .own 16)], [aX 16 3 v3], 48⟩) (fun v3 Z => ?_) ?_
 ·refine jab (lp G Z (fun (v, v1) => ⟨[(2, dV from_), (3, dV at_), (9, .own 16), (19, .own 16), (20, dV (r3.length : Int)), (21, dV v)], [aX 16 3 v1], 48⟩) ?_)
  rintro ⟨v, v1⟩ r0 hb Z
  rw [yg6] at Z
  refine rg G (jac (cd Z ?_ ?_)) <;> intro Z
  ·refine jae (thN (jn Z (fun v2 => ⟨[(2, dV from_), (3, dV at_), (9, .own 16), (19, .own 16), (20, dV (r3.length : Int)), (21, dV v)], [aX 16 3 v2], 48⟩) (fun v2 Z => ?_) ?_))
   ·refine jab ?_
    obtain ⟨e, h4, Z⟩ := jad Z
    refine rs G (hD 1 h4 (hE 2 h4 h0)) ?_
    refine rg G (cd Z ?_ ?_) <;> intro Z
    ·obtain ⟨e1, h5, Z⟩ := jad Z
     refine re G (hD 2 h5 (hS 3 h5 (-1) h0)) ?_
     exact ibN (wJ G Z)
    ·exact jae (ibN (wJ G Z))
   rintro v2 Z
   exact rh G (wL G Z)
  ·exact jaf (thE (thE (ibE (wD G Z hb))))
 rintro v3 Z s hw
 refine thN (jai hw ?_)
 obtain ⟨e2, h6, Z⟩ := jad Z
 refine rs G (hD 3 h6 (hS 4 h6 at_ h0)) ?_
 refine rg G ?_
 cases Z
 exact rt [16] []
def ypa : MS (Timetable × Int × Int × Int) ((List Int) × Bool) := ⟨.x .r (.x .r (.x .r .r)), fun x => zq2 x.1 x.2.1 x.2.2.1 x.2.2.2, fun y => .tup [dV y.1, dV y.2], fun _ => [], fun _ _ => []⟩
theorem yql : FnOK Tryz.prog tJ 19 ypa.S := by
 refine fm tt ypa [fo yfi, fo yk9] call19 func19 rfl results19 ntmps19 ?_
 rintro ⟨t, change, from_, at_⟩ y cx G (Z : zq2 t change from_ at_ = some y)
 unfold zq2 at Z
 refine rg G (jac ?_)
 obtain ⟨r, h, Z⟩ := jad Z
 refine rs G (hC 4 (ycs.c (_, _, _, _) h) h0) ?_
 refine cd Z ?_ ?_ <;> intro Z
 ·refine rg G ?_
  cases Z
  exact rt [] [[.z 1]]
 ·refine jae (thN ?_)
  obtain ⟨r1, h1, Z⟩ := jad Z
  refine rs G (hC 4 (yiy.c (_, _, _, _) h1) h0) ?_
  cases Z
  exact rt [] []
def yky : MS (Trip × Int) Bool := ⟨.x .r (.b 3), fun x => zq34 x.1 x.2, fun y => dV y, fun _ => [], fun x _ => [bxO 3 x.2]⟩
theorem yo6 : FnOK Tryz.prog tJ 139 yky.S := by
 refine fm tt yky [] call139 func139 rfl results139 ntmps139 ?_
 rintro ⟨x, c1⟩ y cx G (Z : zq34 x c1 = some y)
 unfold zq34 at Z
 refine rg G (rg G ?_)
 cases Z
 exact rt [] []
def yju : MS ((List Trip) × Int) Int := ⟨⟨[.rd, .fn 139 [.bx]], fun x => [Enc.e x.1, .agg [.sc undef]], fun x => [bxO 3 x.2], 1, 1, fun _ => rfl, fun _ => rfl, rfl, (by
  rintro ⟨a0, a1⟩ ⟨b0, b1⟩ h hO
  have q0 : a0 = b0 := qI 0 h
  have q1 : a1 = b1 := Enc.inj _ _ (congrArg (fun l => (obD l 0).getD 0 (.sc undef)) hO)
  subst q0; subst q1; rfl)⟩, fun x => zq95 x.1 x.2, fun y => dV y, fun _ => [], fun x _ => [bxO 3 x.2]⟩
theorem yn0 : FnOK Tryz.prog tJ 138 yju.S := by
 refine fm tt yju [fo yo6] call138 func138 rfl results138 ntmps138 ?_
 rintro ⟨s, c1⟩ y cx G (Z : zq95 s c1 = some y)
 obtain ⟨f, hf_f⟩ : ∃ q, (fun (z0 : Trip) => zq34 z0 c1) = q := ⟨_, rfl⟩
 have Z : zq94 s f = some y := by rw [<- hf_f]; exact Z
 unfold zq94 at Z
 refine rg G (jac (rs G (hN 1 s h0) ?_))
 refine tF Z (fun _ => ⟨[(1, .fn 139 [.ref 0 0])], [bX 0 3 [dV c1]], 48⟩) (fun v1 hr Z => ?_) ?_
 ·refine jab (lp G Z (fun v => ⟨[(0, dV s), (1, .fn 139 [.ref 0 0]), (7, dV (s.length : Int)), (8, dV v)], [bX 0 3 [dV c1]], 48⟩) ?_)
  rintro v r0 hb Z
  rw [yeo] at Z
  refine rg G (jac (cd Z ?_ ?_)) <;> intro Z
  ·refine jae (thN (jac (jab (rg G ?_))))
   obtain ⟨e, h, r, h1, Z⟩ := ob2 Z
   have h1 : zq34 e c1 = some r := by rw [<- hf_f] at h1; exact h1
   refine rs G (hD 3 h (hC 5 (yky.c (_, _) h1) h0)) ?_
   refine cd Z ?_ ?_ <;> intro Z
   ·refine rg G ?_
    have Z := eL Z hb hr
    cases Z
    exact rt [] []
   ·exact jae (ibN (thN (rh G (wL G Z))))
  ·exact jaf (thE (thE (ibE (wE G Z hb))))
 rintro ⟨⟩ Z s1 hw
 refine thN (jai hw ?_)
 refine rg G ?_
 cases Z
 exact rt [] []
def yis : MS (Timetable × Int) Int := ⟨.x .r .r, fun x => zq33 x.1 x.2, fun y => dV y, fun _ => [], fun _ _ => []⟩
theorem yqj {t id y} (Z : zq33 t id = some y) : yis.C (t, id) y := yis.c (t, id) Z
theorem yo7 : FnOK Tryz.prog tJ 93 yis.S := by
 refine fm tt yis [fo yn0] call93 func93 rfl results93 ntmps93 ?_
 rintro ⟨t, id⟩ y cx G (Z : zq33 t id = some y)
 unfold zq33 at Z
 refine rg G ?_
 obtain ⟨r, h, Z⟩ := jad Z
 refine rs G (hC 3 (yju.c (_, _) h) h0) ?_
 cases Z
 exact rt [] []
def yk3 : MS (Leg × Leg) Bool := ⟨.x .r (.b 51), fun x => zq22 x.1 x.2, fun y => dV y, fun _ => [], fun x _ => [bxO 51 x.2]⟩
theorem ypf : FnOK Tryz.prog tJ 96 yk3.S := by
 refine fm tt yk3 [] call96 func96 rfl results96 ntmps96 ?_
 rintro ⟨b, c1⟩ y cx G (Z : zq22 b c1 = some y)
 unfold zq22 at Z
 refine rg G (rg G ?_)
 cases Z
 exact rt [] []
def yjv : MS ((List Leg) × Leg) Int := ⟨⟨[.rd, .fn 96 [.bx]], fun x => [Enc.e x.1, .agg [.sc undef]], fun x => [bxO 51 x.2], 1, 1, fun _ => rfl, fun _ => rfl, rfl, (by
  rintro ⟨a0, a1⟩ ⟨b0, b1⟩ h hO
  have q0 : a0 = b0 := qI 0 h
  have q1 : a1 = b1 := Enc.inj _ _ (congrArg (fun l => D.agg (obD l 0)) hO)
  subst q0; subst q1; rfl)⟩, fun x => zq93 x.1 x.2, fun y => dV y, fun _ => [], fun x _ => [bxO 51 x.2]⟩
theorem yn1 : FnOK Tryz.prog tJ 140 yjv.S := by
 refine fm tt yjv [fo ypf] call140 func140 rfl results140 ntmps140 ?_
 rintro ⟨s, c1⟩ y cx G (Z : zq93 s c1 = some y)
 obtain ⟨f, hf_f⟩ : ∃ q, (fun (z0 : Leg) => zq22 z0 c1) = q := ⟨_, rfl⟩
 have Z : zq92 s f = some y := by rw [<- hf_f]; exact Z
 unfold zq92 at Z
 refine rg G (jac (rs G (hN 1 s h0) ?_))
 refine tF Z (fun _ => ⟨[(1, .fn 96 [.ref 0 0])], [bX 0 51 [dV c1.Trip, dV c1.From, dV c1.To, dV c1.Depart, dV c1.Arrive]], 48⟩) (fun v1 hr Z => ?_) ?_
 ·refine jab (lp G Z (fun v => ⟨[(0, dV s), (1, .fn 96 [.ref 0 0]), (7, dV (s.length : Int)), (8, dV v)], [bX 0 51 [dV c1.Trip, dV c1.From, dV c1.To, dV c1.Depart, dV c1.Arrive]], 48⟩) ?_)
  rintro v r0 hb Z
  rw [yep] at Z
  refine rg G (jac (cd Z ?_ ?_)) <;> intro Z
  ·refine jae (thN (jac (jab (rg G ?_))))
   obtain ⟨e, h, r, h1, Z⟩ := ob2 Z
   have h1 : zq22 e c1 = some r := by rw [<- hf_f] at h1; exact h1
   refine rs G (hD 3 h (hC 5 (yk3.c (_, _) h1) h0)) ?_
   refine cd Z ?_ ?_ <;> intro Z
   ·refine rg G ?_
    have Z := eL Z hb hr
    cases Z
    exact rt [] []
   ·exact jae (ibN (thN (rh G (wL G Z))))
  ·exact jaf (thE (thE (ibE (wE G Z hb))))
 rintro ⟨⟩ Z s1 hw
 refine thN (jai hw ?_)
 refine rg G ?_
 cases Z
 exact rt [] []
def yjw : MS ((List Leg) × Leg) Bool := ⟨⟨[.rd, .fn 96 [.bx]], fun x => [Enc.e x.1, .agg [.sc undef]], fun x => [bxO 51 x.2], 1, 1, fun _ => rfl, fun _ => rfl, rfl, (by
  rintro ⟨a0, a1⟩ ⟨b0, b1⟩ h hO
  have q0 : a0 = b0 := qI 0 h
  have q1 : a1 = b1 := Enc.inj _ _ (congrArg (fun l => D.agg (obD l 0)) hO)
  subst q0; subst q1; rfl)⟩, fun x => zq91 x.1 x.2, fun y => dV y, fun _ => [], fun x _ => [bxO 51 x.2]⟩
theorem yn2 : FnOK Tryz.prog tJ 95 yjw.S := by
 refine fm tt yjw [fo yn1] call95 func95 rfl results95 ntmps95 ?_
 rintro ⟨s, c1⟩ y cx G (Z : zq91 s c1 = some y)
 obtain ⟨f, hf_f⟩ : ∃ q, (fun (z0 : Leg) => zq22 z0 c1) = q := ⟨_, rfl⟩
 have Z : zq90 s f = some y := by rw [<- hf_f]; exact Z
 unfold zq90 at Z
 refine rg G ?_
 obtain ⟨r, h, Z⟩ := jad Z
 have h : zq93 s c1 = some r := by rw [<- hf_f] at h; exact h
 refine rs G (hC 2 (yjv.c (_, _) h) h0) ?_
 cases Z
 exact rt [] []
end
end Go.Proofs.YtdocbkbpjdjlpaaGreat
