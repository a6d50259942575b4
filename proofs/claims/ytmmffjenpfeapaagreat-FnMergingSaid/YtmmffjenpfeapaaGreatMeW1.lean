/- Each function computes what its model says. Made by program (dec.py). -/
import Derived.Test.YtmmffjenpfeapaaGreatTy
import Derived.Test.YtmmffjenpfeapaaGreatAbC
import Derived.Test.YtmmffjenpfeapaaGreatMeM
namespace Go.Proofs.YtmmffjenpfeapaaGreat
open Go Go.Ab Tryz
set_option maxRecDepth 100000
set_option maxHeartbeats 4000000
set_option linter.unusedVariables false
set_option linter.unusedSimpArgs false
noncomputable section
abbrev nS : AV := .dat (.sc (.slice none 0 0))
abbrev mR {α β : Type} [Enc α] [Enc β] (m : α -> Option β) : MS α β := ⟨.r, m, fun y => dV y, fun _ => [], fun _ _ => []⟩
abbrev mS {α γ β : Type} [Enc α] [Enc γ] [Enc β] (m : α -> γ -> Option β) : MS (α × γ) β := ⟨.x .r .r, fun x => m x.1 x.2, fun y => dV y, fun _ => [], fun _ _ => []⟩
theorem tt : TT Tryz.prog ty := ⟨by kernel_rfl, ty_ok⟩
abbrev tJ : Inv := .none
def yfd : MS (List UInt8) Bool := mR ykw
theorem ymi : FnOK Tryz.prog tJ 6 yfd.S := by
 refine fm tt yfd [] call6 func6 rfl results6 ntmps6 ?_
 rintro code y cx G (p : ykw code = some y)
 unfold ykw at p
 refine rg G (rs G (hN 1 code h0) ?_)
 cases p
 exact rt [] []
def yg4 : MS l1Cur (Int × l1Cur) := ⟨.b 68, zq52, fun y => dV y.1, fun _ => [], fun _ y => [bxO 68 y.2]⟩
theorem ypf : FnOK Tryz.prog tJ 127 yg4.S := by
 refine fm tt yg4 [] call127 func127 rfl results127 ntmps127 ?_
 rintro c y cx G (p : zq52 c = some y)
 unfold zq52 at p
 refine rg G (rg G (jn p (fun v => ⟨[(0, .ref 0 0), (3, dV v)], [bX 0 68 [dV c.code_, dV c.at_, kV .u64 c.seed_.v]], 48⟩) (fun v p => ?_) ?_))
 ·refine ds G [] (hN 8 c.code_ h0) ?_
  refine cd p ?_ ?_ <;> intro p
  ·obtain ⟨d, a, p⟩ := jae p
   refine de G [] (hD 8 a h0) ?_
   exact wJ G p
  ·exact jad (wJ G p)
 rintro v p
 refine rg G (rg G (jab (ds G [] (hN 8 c.code_ h0) ?_)))
 refine cd p ?_ ?_ <;> intro p
 ·refine rg G ?_
  cases p
  exact rt [] []
 ·refine jad (thN ?_)
  obtain ⟨u, b, p⟩ := jae p
  refine rs G (hK b h0) ?_
  cases p
  exact rt [] []
def yg1 : MS (l1Cur × Int) (Int × l1Cur) := ⟨.x (.b 68) .r, fun x => zq56 x.1 x.2, fun y => dV y.1, fun _ => [], fun _ y => [bxO 68 y.2]⟩
theorem yaa {c n y} (p : zq56 c n = some y) : yg1.C (c, n) y := yg1.c (c, n) p
theorem yaf : FnOK Tryz.prog tJ 63 yg1.S := by
 refine fm tt yg1 [fo ypf] call63 func63 rfl results63 ntmps63 ?_
 rintro ⟨c, n⟩ y cx G (p : zq56 c n = some y)
 unfold zq56 at p
 refine rg G (jab (rg G (cd p ?_ ?_))) <;> intro p
 ·refine rg G ?_
  cases p
  exact rt [] []
 ·refine jad (thN ?_)
  obtain ⟨r, h, p⟩ := jae p
  refine rs G (hC 1 (yg4.c _ h) h0) ?_
  refine jn p (fun (v, a, b, d) => ⟨[(0, .ref 0 0), (1, dV n), (5, dV v)], [bX 0 68 [dV a, dV b, kV .u64 d]], 48⟩) (fun vv p => ?_) ?_
  ·refine rg G (cd p ?_ ?_) <;> intro p
   ·obtain ⟨g, e, p⟩ := jae p
    refine re G (hC 3 (yg4.c _ e) h0) ?_
    exact wJ G p
   ·exact jad (wJ G p)
  rintro ⟨v, a, b, d⟩ p
  obtain ⟨u, f, p⟩ := jae p
  refine rs G (hK f h0) ?_
  cases p
  exact rt [] []
def yg2 : MS (l1Cur × Int) (Bool × l1Cur) := ⟨.x (.b 68) .r, fun x => zq55 x.1 x.2, fun y => dV y.1, fun _ => [], fun _ y => [bxO 68 y.2]⟩
theorem ybg {c n y} (p : zq55 c n = some y) : yg2.C (c, n) y := yg2.c (c, n) p
theorem ya7 : FnOK Tryz.prog tJ 29 yg2.S := by
 refine fm tt yg2 [fo yaf] call29 func29 rfl results29 ntmps29 ?_
 rintro ⟨c, n⟩ y cx G (p : zq55 c n = some y)
 unfold zq55 at p
 refine rg G ?_
 obtain ⟨r, h, p⟩ := jae p
 refine rs G (hC 2 (yaa h) h0) ?_
 cases p
 exact rt [] []
def yav (rec_ : Int -> Option (ByteArray)) : MS Int ByteArray := mR rec_
def ygy : MS Int ByteArray := yav zq62
theorem yjy {rec_ : Int -> Option (ByteArray)} {n y} (p : rec_ n = some y) : (yav rec_).C n y := (yav rec_).c n p
theorem yme {rec_ : Int -> Option (ByteArray)} (hrec : FnOK Tryz.prog tJ 124 (yav rec_).S) : FnOK Tryz.prog tJ 124 (yav (ybw rec_)).S := by
 refine fm tt (yav (ybw rec_)) [fo hrec] call124 func124 rfl results124 ntmps124 ?_
 rintro n y cx G (p : ybw rec_ n = some y)
 unfold ybw at p
 refine rg G (jab (rg G (cd p ?_ ?_))) <;> intro p
 ·obtain ⟨r, h, u, f, p⟩ := ob2 p
  refine rs G (hC 2 (yjy h) (hP (jqw (jgs f)) h0)) ?_
  cases p
  exact rt [] []
 ·refine jad (thN (jab (rg G (cd p ?_ ?_)))) <;> intro p
  ·obtain ⟨l, g, p⟩ := jae p
   refine rs G (hK g h0) ?_
   cases p
   exact rt [] []
  ·refine jad (thN ?_)
   obtain ⟨m, i, o, a, q, b, p⟩ := ob3 p
   obtain ⟨s, c, j, d, k, e, p⟩ := ob3 p
   refine ds G [] (hK i (hC 2 (yjy a) (hK b (hK c (hK d (hP (jqw (jgs e)) h0)))))) ?_
   cases p
   exact rt [] []
theorem ygw : ∀ k, FnOK Tryz.prog tJ 124 (yav (ygx k)).S
 | 0 => ⟨fun args w => call124 args w, fun vs w F ds obs κ hp => by obtain ⟨x, y, _, _, h⟩ := hp; cases h⟩
 | k + 1 => yme (ygw k)
theorem yez : FnOK Tryz.prog tJ 124 ygy.S := ygw 4294967296
def yck : MS (Line × Int) Int := mS zq79
theorem ycr : FnOK Tryz.prog tJ 86 yck.S := by
 refine fm tt yck [] call86 func86 rfl results86 ntmps86 ?_
 rintro ⟨x, stop⟩ y cx G (p : zq79 x stop = some y)
 unfold zq79 at p
 refine rg G (jab (rg G (tF p (fun _ => ⟨[], [], 32⟩) (fun a hr p => ?_) ?_)))
 ·refine jaa (lp G p (fun v => ⟨[(1, dV stop), (2, .ref 16 0), (5, dV v)], [bX 16 118 [dV x.Name, dV x.Stops, dV x.Runs]], 48⟩) ?_)
  rintro v b hb p
  rw [ycs] at p
  refine jab (rs G (hN 3 x.Stops h0) ?_)
  refine cd p ?_ ?_ <;> intro p
  ·refine jad (thN (jab (jaa ?_)))
   obtain ⟨e, h, p⟩ := jae p
   refine rs G (hD 3 h h0) ?_
   refine cd p ?_ ?_ <;> intro p
   ·refine rg G ?_
    have p := eL p hb hr
    cases p
    exact rt [] []
   ·exact jad (ibN (thN (rh G (wL G p))))
  ·exact jag (thE (thE (ibE (wE G p hb))))
 rintro ⟨⟩ p s hw
 refine thN (jah hw ?_)
 refine rg G ?_
 cases p
 exact rt [] []
def yj8 : MS (l1Cur × ByteArray × Int) (Line × l1Cur) := ⟨.x (.b 68) (.x .r .r), fun x => zq48 x.1 x.2.1 x.2.2, fun y => .aggv [dV y.1.Name, .own 0, .own 1], fun y => [arO 3 y.1.Stops, arO 3 y.1.Runs], fun _ y => [bxO 68 y.2]⟩
theorem ypi : FnOK Tryz.prog tJ 123 yj8.S := by
 refine fm tt yj8 [fo yaf, fo ycr] call123 func123 rfl results123 ntmps123 ?_
 rintro ⟨c, name, stops⟩ y cx G (p : zq48 c name stops = some y)
 unfold zq48 at p
 refine rg G (rg G ?_)
 obtain ⟨r, h, p⟩ := jae p
 refine rs G (hC 2 (yaa h) h0) ?_
 refine jab ?_
 obtain ⟨X, O, p⟩ := jae p
 refine rs G (hC 1 (yaa O) h0) ?_
 refine tl p (fun (q, t, w, b) => ⟨[(0, .ref 0 0), (2, dV stops), (6, .ref 32 0), (7, .ref 48 0)], [bX 0 68 [dV q, dV t, kV .u64 w], bX 32 118 [dV ByteArray.empty, nS, nS], bX 48 118 [dV name, .own 64, nS], aX 64 3 b], 96⟩) (fun Q p => ?_) ?_
 ·refine jaa (lpP p (fun (v, x, z, A, B, M) => ⟨[(0, .ref 0 0), (2, dV stops), (6, .ref 32 0), (7, .ref 48 0), (8, dV v), (9, dV x)], [bX 0 68 [dV z, dV A, kV .u64 B], bX 32 118 [dV ByteArray.empty, nS, nS], bX 48 118 [dV name, .own 64, nS], aX 64 3 M], 96⟩) (Wk_J G.hL ⟨[(0, []), (2, []), (6, []), (7, []), (8, []), (9, [])], [(0, 0, []), (32, 16, []), (48, 64, [.k, .o 64])], [(64, 3, 1, [])], 96⟩ (by kernel_rfl)) ?_)
  rintro ⟨v, x, z, A, B, M⟩ R hb p
  rw [yc5] at p
  refine jab (rg G (cd p ?_ ?_)) <;> intro p
  ·refine jad (thN (jab (jaa (jn p (fun C => ⟨[(0, .ref 0 0), (2, dV stops), (6, .ref 32 0), (7, .ref 48 0), (8, dV v), (9, dV x)], [bX 0 68 [dV z, dV A, kV .u64 B], bX 32 118 [dV ByteArray.empty, nS, nS], bX 48 118 [dV name, .own 64, nS], aX 64 3 C], 96⟩) (fun C p => ?_) ?_))))
   ·obtain ⟨Y, T, p⟩ := jae p
    refine rs G (hC 2 (yck.c (_, _) T) h0) ?_
    refine cd p ?_ ?_ <;> intro p
    ·obtain ⟨u, U, p⟩ := jae p
     refine re G (hA 4 8 U h0) ?_
     exact wJ G p
    ·exact jad (wJ G p)
   rintro C p
   obtain ⟨Z, V, u1, W, p⟩ := ob2 p
   refine re G (hC 3 (yaa V) (hK W h0)) ?_
   exact ibN (thN (rh G (wL G p)))
  ·exact jag (thE (thE (ibE (wD G p hb))))
 rintro ⟨q, t, w, b⟩ p s hw
 refine thN (jah hw ?_)
 refine jn p (fun a => ⟨[(0, .ref 0 0), (6, .ref 32 0), (7, .ref 48 0)], [bX 0 68 [dV q, dV t, kV .u64 w], bX 32 118 [dV ByteArray.empty, nS, nS], bX 48 118 [dV name, .own 64, nS], aX 64 3 a], 96⟩) (fun a p => ?_) ?_
 ·refine rs G (hN 2 b h0) ?_
  refine cd p ?_ ?_ <;> intro p
  ·obtain ⟨e1, N, u4, D, u5, E, p⟩ := ob3 p
   refine de G [(10, [64, 304]), (12, [48, 320])] (hD 4 N (hE 5 N (hK D (hA 10 8 E h0)))) ?_
   exact wJ G p
  ·exact jad (wJ G p)
 rintro a p
 refine jab (rg G (tl p (fun (d, e, f, g) => ⟨[(0, .ref 0 0), (6, .ref 32 0), (7, .ref 48 0)], [bX 0 68 [dV d, dV e, kV .u64 f], bX 32 118 [dV ByteArray.empty, nS, nS], bX 48 118 [dV name, .own 64, .own 80], aX 64 3 a, aX 80 3 g], 112⟩) (fun vv p => ?_) ?_))
 ·refine jaa (lpP p (fun (i, j, l, m, n) => ⟨[(0, .ref 0 0), (6, .ref 32 0), (7, .ref 48 0), (10, dV i)], [bX 0 68 [dV j, dV l, kV .u64 m], bX 32 118 [dV ByteArray.empty, nS, nS], bX 48 118 [dV name, .own 64, .own 80], aX 64 3 a, aX 80 3 n], 112⟩) (Wk_J G.hL ⟨[(0, []), (6, []), (7, []), (10, [])], [(0, 0, []), (32, 32, []), (48, 48, [.k, .k, .o 80]), (64, 64, [])], [(80, 3, 1, [])], 112⟩ (by kernel_rfl)) ?_)
  rintro ⟨i, j, l, m, n⟩ R H p
  rw [yc4] at p
  refine jab (rs G (hN 3 a h0) ?_)
  refine cd p ?_ ?_ <;> intro p
  ·refine jad (thN (jab (jaa ?_)))
   obtain ⟨r5, I, u7, K, p⟩ := ob2 p
   refine de G [(3, [0]), (6, [80, 272]), (8, [48, 288])] (hC 3 (yaa I) (hA 6 8 K h0)) ?_
   exact ibN (thN (rh G (wL G p)))
  ·exact jag (thE (thE (ibE (wD G p H))))
 rintro ⟨d, e, f, g⟩ p s1 L
 refine thN (jah L ?_)
 refine rg G ?_
 cases p
 exact rt [64, 80] []
def yg6 : MS (l1Cur × ByteArray × Int) (Line × l1Cur) := ⟨.x (.b 68) (.x .r .r), fun x => zq49 x.1 x.2.1 x.2.2, fun y => dV y.1, fun _ => [], fun _ y => [bxO 68 y.2]⟩
theorem yj5 : FnOK Tryz.prog tJ 123 yg6.S := by
 refine fm tt yg6 [fo yaf, fo ycr] call123 func123 rfl results123 ntmps123 ?_
 rintro ⟨c, name, stops⟩ y cx G (p : zq49 c name stops = some y)
 unfold zq49 at p
 refine rg G (rg G ?_)
 obtain ⟨r, h, p⟩ := jae p
 refine rs G (hC 2 (yaa h) h0) ?_
 refine jab ?_
 obtain ⟨X, O, p⟩ := jae p
 refine rs G (hC 1 (yaa O) h0) ?_
 refine tl p (fun (q, t, w, b) => ⟨[(0, .ref 0 0), (2, dV stops), (6, .ref 32 0), (7, .ref 48 0)], [bX 0 68 [dV q, dV t, kV .u64 w], bX 32 118 [dV ByteArray.empty, nS, nS], bX 48 118 [dV name, .own 64, nS], aX 64 3 b], 96⟩) (fun Q p => ?_) ?_
 ·refine jaa (lpP p (fun (v, x, z, A, B, M) => ⟨[(0, .ref 0 0), (2, dV stops), (6, .ref 32 0), (7, .ref 48 0), (8, dV v), (9, dV x)], [bX 0 68 [dV z, dV A, kV .u64 B], bX 32 118 [dV ByteArray.empty, nS, nS], bX 48 118 [dV name, .own 64, nS], aX 64 3 M], 96⟩) (Wk_J G.hL ⟨[(0, []), (2, []), (6, []), (7, []), (8, []), (9, [])], [(0, 0, []), (32, 16, []), (48, 64, [.k, .o 64])], [(64, 3, 1, [])], 96⟩ (by kernel_rfl)) ?_)
  rintro ⟨v, x, z, A, B, M⟩ R hb p
  rw [yj7] at p
  refine jab (rg G (cd p ?_ ?_)) <;> intro p
  ·refine jad (thN (jab (jaa (jn p (fun C => ⟨[(0, .ref 0 0), (2, dV stops), (6, .ref 32 0), (7, .ref 48 0), (8, dV v), (9, dV x)], [bX 0 68 [dV z, dV A, kV .u64 B], bX 32 118 [dV ByteArray.empty, nS, nS], bX 48 118 [dV name, .own 64, nS], aX 64 3 C], 96⟩) (fun C p => ?_) ?_))))
   ·obtain ⟨Y, T, p⟩ := jae p
    refine rs G (hC 2 (yck.c (_, _) T) h0) ?_
    refine cd p ?_ ?_ <;> intro p
    ·obtain ⟨u, U, p⟩ := jae p
     refine re G (hA 4 8 U h0) ?_
     exact wJ G p
    ·exact jad (wJ G p)
   rintro C p
   obtain ⟨Z, V, u1, W, p⟩ := ob2 p
   refine re G (hC 3 (yaa V) (hK W h0)) ?_
   exact ibN (thN (rh G (wL G p)))
  ·exact jag (thE (thE (ibE (wD G p hb))))
 rintro ⟨q, t, w, b⟩ p s hw
 refine thN (jah hw ?_)
 refine jn p (fun a => ⟨[(0, .ref 0 0), (6, .ref 32 0), (7, .ref 48 0)], [bX 0 68 [dV q, dV t, kV .u64 w], bX 32 118 [dV ByteArray.empty, nS, nS], bX 48 118 [dV name, .own 64, nS], aX 64 3 a], 96⟩) (fun a p => ?_) ?_
 ·refine rs G (hN 2 b h0) ?_
  refine cd p ?_ ?_ <;> intro p
  ·obtain ⟨e1, N, u4, D, u5, E, p⟩ := ob3 p
   refine de G [(10, [64, 304]), (12, [48, 320])] (hD 4 N (hE 5 N (hK D (hA 10 8 E h0)))) ?_
   exact wJ G p
  ·exact jad (wJ G p)
 rintro a p
 refine jab (rg G (tl p (fun (d, e, f, g) => ⟨[(0, .ref 0 0), (6, .ref 32 0), (7, .ref 48 0)], [bX 0 68 [dV d, dV e, kV .u64 f], bX 32 118 [dV ByteArray.empty, nS, nS], bX 48 118 [dV name, .own 64, .own 80], aX 64 3 a, aX 80 3 g], 112⟩) (fun vv p => ?_) ?_))
 ·refine jaa (lpP p (fun (i, j, l, m, n) => ⟨[(0, .ref 0 0), (6, .ref 32 0), (7, .ref 48 0), (10, dV i)], [bX 0 68 [dV j, dV l, kV .u64 m], bX 32 118 [dV ByteArray.empty, nS, nS], bX 48 118 [dV name, .own 64, .own 80], aX 64 3 a, aX 80 3 n], 112⟩) (Wk_J G.hL ⟨[(0, []), (6, []), (7, []), (10, [])], [(0, 0, []), (32, 32, []), (48, 48, [.k, .k, .o 80]), (64, 64, [])], [(80, 3, 1, [])], 112⟩ (by kernel_rfl)) ?_)
  rintro ⟨i, j, l, m, n⟩ R H p
  rw [yj6] at p
  refine jab (rs G (hN 3 a h0) ?_)
  refine cd p ?_ ?_ <;> intro p
  ·refine jad (thN (jab (jaa ?_)))
   obtain ⟨r5, I, u7, K, p⟩ := ob2 p
   refine de G [(3, [0]), (6, [80, 272]), (8, [48, 288])] (hC 3 (yaa I) (hA 6 8 K h0)) ?_
   exact ibN (thN (rh G (wL G p)))
  ·exact jag (thE (thE (ibE (wD G p H))))
 rintro ⟨d, e, f, g⟩ p s1 L
 refine thN (jah L ?_)
 refine rg G ?_
 cases p
 exact rt [] []
def ygp : MS (List Int) (List Int) := mR zq71
theorem ygo {list y} (p : zq71 list = some y) : ygp.C list y := ygp.c list p
theorem yjt : FnOK Tryz.prog tJ 125 ygp.S := by
 refine fm tt ygp [] call125 func125 rfl results125 ntmps125 ?_
 rintro list y cx G (p : zq71 list = some y)
 unfold zq71 at p
 refine rg G (rg G (jab (rs G (hN 1 list h0) ?_)))
 refine tl p (fun a => ⟨[(3, .own 16)], [aX 16 3 a], 48⟩) (fun a p => ?_) ?_
 ·refine jaa (lp G p (fun (v, i) => ⟨[(0, dV list), (3, .own 16), (4, dV v)], [aX 16 3 i], 48⟩) ?_)
  rintro ⟨v, i⟩ c hb p
  rw [yju] at p
  refine jab (rg G (cd p ?_ ?_)) <;> intro p
  ·refine jad (thN (jab (jaa ?_)))
   obtain ⟨e, h, u, b, p⟩ := ob2 p
   refine re G (hD 3 h (hA 6 8 b h0)) ?_
   exact ibN (thN (rh G (wL G p)))
  ·exact jag (thE (thE (ibE (wD G p hb))))
 rintro a p s hw
 refine thN (jah hw ?_)
 refine rg G ?_
 cases p
 exact rt [] []
def ygv : MS (List Int) (List Int) := ⟨.r, zq63, fun _ => .own 0, fun y => [arO 3 y], fun _ _ => []⟩
theorem yoa {l y} (p : zq63 l = some y) : ygv.C l y := ygv.c l p
theorem yo9 : FnOK Tryz.prog tJ 106 ygv.S := by
 refine fm tt ygv [] call106 func106 rfl results106 ntmps106 ?_
 rintro l y cx G (p : zq63 l = some y)
 unfold zq63 at p
 refine rg G ?_
 obtain ⟨u, h, p⟩ := jae p
 refine rs G (hA 2 8 h h0) ?_
 cases p
 exact rt [64] []
def ygu : MS (List Int) (List Int) := mR zq64
theorem yn9 {l y} (p : zq64 l = some y) : ygu.C l y := ygu.c l p
theorem yo8 : FnOK Tryz.prog tJ 106 ygu.S := by
 refine fm tt ygu [] call106 func106 rfl results106 ntmps106 ?_
 rintro l y cx G (p : zq64 l = some y)
 unfold zq64 at p
 refine rg G ?_
 obtain ⟨u, h, p⟩ := jae p
 refine rs G (hA 2 8 h h0) ?_
 cases p
 exact rt [] []
def ygk : MS Network Network := ⟨.r, zq77, fun _ => .aggv [.own 0, .own 1], fun y => [arO 9 y.Stops, arO 118 y.Lines], fun _ _ => []⟩
theorem yjq : FnOK Tryz.prog tJ 126 ygk.S := by
 refine fm tt ygk [fo yo8] call126 func126 rfl results126 ntmps126 ?_
 rintro n y cx G (p : zq77 n = some y)
 unfold zq77 at p
 refine rg G ?_
 obtain ⟨u, h, p⟩ := jae p
 refine rs G (hA 3 16 h h0) ?_
 refine jab (rg G (tl p (fun a => ⟨[(2, .ref 16 0), (3, .ref 32 0)], [bX 16 27 [nS, nS], bX 32 27 [.own 48, .own 64], aX 48 9 (([] : List ByteArray) ++ n.Stops), aX 64 118 a], 96⟩) (fun a p => ?_) ?_))
 ·refine jaa (lpP p (fun (v, e) => ⟨[(1, .ref 16 0), (2, .ref 32 0), (3, .ref 48 0), (4, dV v)], [bX 16 27 [dV n.Stops, dV n.Lines], bX 32 27 [nS, nS], bX 48 27 [.own 64, .own 80], aX 64 9 (([] : List ByteArray) ++ n.Stops), aX 80 118 e], 112⟩) (Wk_J G.hL ⟨[(1, []), (2, []), (3, []), (4, [])], [(16, 16, []), (32, 32, []), (48, 128, [.k, .o 80]), (64, 96, [])], [(80, 118, 3, [])], 112⟩ (by kernel_rfl)) ?_)
  rintro ⟨v, e⟩ j hb p
  rw [yct] at p
  refine jab (rs G (hN 3 n.Lines h0) ?_)
  refine cd p ?_ ?_ <;> intro p
  ·refine jad (thN (jab (jaa ?_)))
   obtain ⟨l, f, m, g, q, i, p⟩ := ob3 p
   obtain ⟨r, b, t, c, w, d, p⟩ := ob3 p
   refine de G [(23, []), (24, [80, 560]), (26, [48, 576])] (hD 5 f (hD 11 g (hC 14 (yn9 i) (hD 18 b (hC 21 (yn9 c) (hA 24 64 d h0)))))) ?_
   exact ibN (thN (rh G (wL G p)))
  ·exact jag (thE (thE (ibE (wD G p hb))))
 rintro a p s hw
 refine thN (jah hw ?_)
 refine rg G ?_
 cases p
 exact rt [48, 64] []
def yg5 : MS l1Cur (Network × l1Cur) := ⟨.b 68, zq50, fun _ => .aggv [.own 0, .own 1], fun y => [arO 9 y.1.Stops, arO 118 y.1.Lines], fun _ y => [bxO 68 y.2]⟩
theorem yj3 : FnOK Tryz.prog tJ 62 yg5.S := by
 refine fm tt yg5 [fo yaf, fo yez, fo yj5, fo ya7, fo yjt, fo yjq] call62 func62 rfl results62 ntmps62 ?_
 rintro c y cx G (p : zq50 c = some y)
 unfold zq50 at p
 refine rg G ?_
 obtain ⟨r, h, p⟩ := jae p
 refine rs G (hC 1 (yaa h) h0) ?_
 obtain ⟨u, E, p⟩ := jae p
 refine rs G (hO 2 (.fz [96] [] []) (hU 2 E h0)) ?_
 refine jab ?_
 obtain ⟨Q, H, p⟩ := jae p
 refine rs G (hC 1 (yaa H) h0) ?_
 refine tl p (fun (n, q, t, w) => ⟨[(0, .ref 0 0), (2, .ref 32 0), (4, .ref 48 0)], [bX 0 68 [dV n, dV q, kV .u64 t], bX 32 27 [nS, nS], bX 48 27 [dV ((([(str [112, 111, 114, 116]), (str [109, 105, 108, 108]), (str [112, 97, 114, 107]), (str [104, 97, 108, 108]), (str [100, 111, 99, 107]), (str [102, 97, 105, 114])] : List ByteArray).take (w64 (2 + r.1)).toNat).drop (0 : Int).toNat), .own 64], aX 64 118 w], 96⟩) (fun I p => ?_) ?_
 ·refine jaa (lpP p (fun (x, v, z, A, B) => ⟨[(0, .ref 0 0), (2, .ref 32 0), (3, dV (w64 (2 + r.1))), (4, .ref 48 0), (5, dV x)], [bX 0 68 [dV v, dV z, kV .u64 A], bX 32 27 [nS, nS], bX 48 27 [dV ((([(str [112, 111, 114, 116]), (str [109, 105, 108, 108]), (str [112, 97, 114, 107]), (str [104, 97, 108, 108]), (str [100, 111, 99, 107]), (str [102, 97, 105, 114])] : List ByteArray).take (w64 (2 + r.1)).toNat).drop (0 : Int).toNat), .own 64], aX 64 118 B], 96⟩) (Wk_J G.hL ⟨[(0, []), (2, []), (3, []), (4, []), (5, [])], [(0, 0, []), (32, 16, []), (48, 160, [.k, .o 64])], [(64, 118, 3, [])], 96⟩ (by kernel_rfl)) ?_)
  rintro ⟨x, v, z, A, B⟩ R hb p
  rw [yj4] at p
  refine jab (rg G (cd p ?_ ?_)) <;> intro p
  ·refine jad (thN (jab (jaa ?_)))
   obtain ⟨T, K, U, L, V, M, p⟩ := ob3 p
   obtain ⟨W, f, p⟩ := jae p
   refine de G [(7, [0]), (8, []), (9, [64, 256]), (11, [48, 272])] (hC 4 (ygy.c _ K) (hP (jqw (jgs L)) (hC 7 (yg6.c (_, _, _) M) (hA 9 64 f h0)))) ?_
   exact ibN (thN (rh G (wL G p)))
  ·exact jag (thE (thE (ibE (wD G p hb))))
 rintro ⟨n, q, t, w⟩ p s hw
 refine thN (jah hw ?_)
 refine jn p (fun (C, D, a, b) => ⟨[(0, .ref 0 0), (2, .ref 32 0), (4, .ref 48 0)], [bX 0 68 [dV C, dV D, kV .u64 a], bX 32 27 [nS, nS], bX 48 27 [dV ((([(str [112, 111, 114, 116]), (str [109, 105, 108, 108]), (str [112, 97, 114, 107]), (str [104, 97, 108, 108]), (str [100, 111, 99, 107]), (str [102, 97, 105, 114])] : List ByteArray).take (w64 (2 + r.1)).toNat).drop (0 : Int).toNat), .own 64], aX 64 118 b], 96⟩) (fun vv p => ?_) ?_
 ·obtain ⟨X, g, p⟩ := jae p
  refine rs G (hC 1 (ybg g) h0) ?_
  refine cd p ?_ ?_ <;> intro p
  ·obtain ⟨e, d, p⟩ := jae p
   refine rs G (hD 2 d (hE 3 d h0)) ?_
   obtain ⟨Y, i, N, j, Z, l, p⟩ := ob3 p
   refine de G [(9, []), (10, [64, 368]), (12, [48, 384])] (hC 4 (ygo i) (hC 7 (ygo j) (hA 10 64 l h0))) ?_
   exact wJ G p
  ·exact jad (wJ G p)
 rintro ⟨C, D, a, b⟩ p
 obtain ⟨O, m, p⟩ := jae p
 refine rs G (hO 1 (.fz [64] [] []) (hC 1 (ygk.c _ m) h0)) ?_
 cases p
 exact rt [112, 113] []
def yj0 : MS l1Cur (Timetable × l1Cur) := ⟨.b 68, zq58, fun _ => .aggv [.own 0, .own 1, .own 2], fun y => [arO 9 y.1.Network.Stops, arO 118 y.1.Network.Lines, arO 74 y.1.Trips], fun _ y => [bxO 68 y.2]⟩
theorem ypc : FnOK Tryz.prog tJ 121 yj0.S := by
 refine fm tt yj0 [fo yj3, fo yaf] call121 func121 rfl results121 ntmps121 ?_
 rintro c y cx G (p : zq58 c = some y)
 unfold zq58 at p
 refine rg G ?_
 obtain ⟨r, h, p⟩ := jae p
 refine rs G (hC 1 (yg5.c _ h) h0) ?_
 refine rg G (jab ?_)
 obtain ⟨w, l, p⟩ := jae p
 refine rs G (hC 1 (yaa l) h0) ?_
 refine tl p (fun (a, b, d, e) => ⟨[(0, .ref 0 0), (2, .ref 32 0), (3, .ref 48 0)], [bX 0 68 [dV a, dV b, kV .u64 d], bX 32 30 [nS, nS, nS], bX 48 30 [.own 64, .own 80, .own 96], aX 64 9 r.1.Stops, aX 80 118 r.1.Lines, aX 96 74 e], 128⟩) (fun vv p => ?_) ?_
 ·refine jaa (lpP p (fun (n, v, f, g, i, j) => ⟨[(0, .ref 0 0), (2, .ref 32 0), (3, .ref 48 0), (4, dV n), (5, dV v)], [bX 0 68 [dV f, dV g, kV .u64 i], bX 32 30 [nS, nS, nS], bX 48 30 [.own 64, .own 80, .own 96], aX 64 9 r.1.Stops, aX 80 118 r.1.Lines, aX 96 74 j], 128⟩) (Wk_J G.hL ⟨[(0, []), (2, []), (3, []), (4, []), (5, [])], [(0, 0, []), (32, 16, []), (48, 80, [.k, .k, .o 96]), (64, 48, []), (80, 49, [])], [(96, 74, 3, [])], 128⟩ (by kernel_rfl)) ?_)
  rintro ⟨n, v, f, g, i, j⟩ x hb p
  rw [ye2] at p
  refine jab (rg G (cd p ?_ ?_)) <;> intro p
  ·refine jad (thN (jab (jaa ?_)))
   obtain ⟨z, m, p⟩ := jae p
   refine rs G (hC 3 (yaa m) h0) ?_
   obtain ⟨A, q, B, t, C, u, p⟩ := ob3 p
   refine de G [(8, [0]), (10, [0]), (15, [96, 480]), (17, [48, 496])] (hN 7 r.1.Lines (hC 8 (yaa q) (hC 10 (yaa t) (hA 15 24 u h0)))) ?_
   exact ibN (thN (rh G (wL G p)))
  ·exact jag (thE (thE (ibE (wD G p hb))))
 rintro ⟨a, b, d, e⟩ p s hw
 refine thN (jah hw ?_)
 refine rg G ?_
 cases p
 exact rt [64, 80, 96] []
def yd2 : MS (l1Cur × (List Int)) (Int × l1Cur) := ⟨.x (.b 68) .r, fun x => zq43 x.1 x.2, fun y => dV y.1, fun _ => [], fun _ y => [bxO 68 y.2]⟩
theorem ykc : FnOK Tryz.prog tJ 65 yd2.S := by
 refine fm tt yd2 [fo yaf] call65 func65 rfl results65 ntmps65 ?_
 rintro ⟨c, list⟩ y cx G (p : zq43 c list = some y)
 unfold zq43 at p
 refine rg G ?_
 obtain ⟨r, h, e, a, p⟩ := ob2 p
 refine rs G (hN 3 list (hC 4 (yaa h) (hD 5 a h0))) ?_
 cases p
 exact rt [] []
def yg3 : MS (l1Cur × (List ByteArray)) (ByteArray × l1Cur) := ⟨.x (.b 68) (.s 9), fun x => zq54 x.1 x.2, fun y => dV y.1, fun _ => [], fun x y => [bxO 68 y.2, arO 9 x.2]⟩
theorem ype : FnOK Tryz.prog tJ 188 yg3.S := by
 refine fm tt yg3 [fo yaf] call188 func188 rfl results188 ntmps188 ?_
 rintro ⟨c, list⟩ y cx G (p : zq54 c list = some y)
 unfold zq54 at p
 refine rg G ?_
 obtain ⟨r, h, e, a, p⟩ := ob2 p
 refine rs G (hN 3 list (hC 4 (yaa h) (hD 5 a (hE 6 a h0)))) ?_
 cases p
 exact rt [] []
def yjo : MS Network Network := ⟨.r, zq78, fun _ => .aggv [.own 0, .own 1], fun y => [arO 9 y.Stops, taO 118 [none, some 3, some 3] y.Lines], fun _ _ => []⟩
theorem yo1 : FnOK Tryz.prog tJ 126 yjo.S := by
 refine fm tt yjo [fo yo9] call126 func126 rfl results126 ntmps126 ?_
 rintro n y cx G (p : zq78 n = some y)
 unfold zq78 at p
 refine rg G ?_
 obtain ⟨u, h, p⟩ := jae p
 refine rs G (hA 3 16 h h0) ?_
 refine jab (rg G (tl p (fun a => ⟨[(2, .ref 16 0), (3, .ref 32 0)], [bX 16 27 [nS, nS], bX 32 27 [.own 48, .own 64], aX 48 9 (([] : List ByteArray) ++ n.Stops), tX 64 118 [none, some 3, some 3] a 64 none], 96⟩) (fun a p => ?_) ?_))
 ·refine jaa (lpP p (fun (v, e) => ⟨[(1, .ref 16 0), (2, .ref 32 0), (3, .ref 48 0), (4, dV v)], [bX 16 27 [dV n.Stops, dV n.Lines], bX 32 27 [nS, nS], bX 48 27 [.own 64, .own 80], aX 64 9 (([] : List ByteArray) ++ n.Stops), tX 80 118 [none, some 3, some 3] e 80 none], 112⟩) (Wk_J G.hL ⟨[(1, []), (2, []), (3, []), (4, [])], [(16, 16, []), (32, 32, []), (48, 128, [.k, .o 80]), (64, 96, [])], [(80, 118, 3, [none, some 3, some 3])], 112⟩ (by kernel_rfl)) ?_)
  rintro ⟨v, e⟩ j hb p
  rw [yjp] at p
  refine jab (rs G (hN 3 n.Lines h0) ?_)
  refine cd p ?_ ?_ <;> intro p
  ·refine jad (thN (jab (jaa ?_)))
   obtain ⟨m, f, q, g, r, i, p⟩ := ob3 p
   obtain ⟨t, b, w, c, x, d, p⟩ := ob3 p
   refine de G [(23, [416, 528]), (24, [80, 560]), (26, [48, 576])] (hD 5 f (hD 11 g (hC 14 (yoa i) (hD 18 b (hC 21 (yoa c) (hP (jb8 (l := [416, 528]) rfl) (hA 24 64 d h0))))))) ?_
   exact ibN (thN (rh G (wL G p)))
  ·exact jag (thE (thE (ibE (wD G p hb))))
 rintro a p s hw
 refine thN (jah hw ?_)
 refine rg G ?_
 cases p
 exact rt [48, 64] []
def yj2 : MS l1Cur (Network × l1Cur) := ⟨.b 68, zq51, fun _ => .aggv [.own 0, .own 1], fun y => [arO 9 y.1.Stops, taO 118 [none, some 3, some 3] y.1.Lines], fun _ y => [bxO 68 y.2]⟩
theorem ypg : FnOK Tryz.prog tJ 62 yj2.S := by
 refine fm tt yj2 [fo yaf, fo yez, fo yj5, fo ya7, fo yjt, fo yo1] call62 func62 rfl results62 ntmps62 ?_
 rintro c y cx G (p : zq51 c = some y)
 unfold zq51 at p
 refine rg G ?_
 obtain ⟨r, h, p⟩ := jae p
 refine rs G (hC 1 (yaa h) h0) ?_
 obtain ⟨u, E, p⟩ := jae p
 refine rs G (hO 2 (.fz [96] [] []) (hU 2 E h0)) ?_
 refine jab ?_
 obtain ⟨Q, H, p⟩ := jae p
 refine rs G (hC 1 (yaa H) h0) ?_
 refine tl p (fun (n, q, t, w) => ⟨[(0, .ref 0 0), (2, .ref 32 0), (4, .ref 48 0)], [bX 0 68 [dV n, dV q, kV .u64 t], bX 32 27 [nS, nS], bX 48 27 [dV ((([(str [112, 111, 114, 116]), (str [109, 105, 108, 108]), (str [112, 97, 114, 107]), (str [104, 97, 108, 108]), (str [100, 111, 99, 107]), (str [102, 97, 105, 114])] : List ByteArray).take (w64 (2 + r.1)).toNat).drop (0 : Int).toNat), .own 64], aX 64 118 w], 96⟩) (fun I p => ?_) ?_
 ·refine jaa (lpP p (fun (x, v, z, A, B) => ⟨[(0, .ref 0 0), (2, .ref 32 0), (3, dV (w64 (2 + r.1))), (4, .ref 48 0), (5, dV x)], [bX 0 68 [dV v, dV z, kV .u64 A], bX 32 27 [nS, nS], bX 48 27 [dV ((([(str [112, 111, 114, 116]), (str [109, 105, 108, 108]), (str [112, 97, 114, 107]), (str [104, 97, 108, 108]), (str [100, 111, 99, 107]), (str [102, 97, 105, 114])] : List ByteArray).take (w64 (2 + r.1)).toNat).drop (0 : Int).toNat), .own 64], aX 64 118 B], 96⟩) (Wk_J G.hL ⟨[(0, []), (2, []), (3, []), (4, []), (5, [])], [(0, 0, []), (32, 16, []), (48, 160, [.k, .o 64])], [(64, 118, 3, [])], 96⟩ (by kernel_rfl)) ?_)
  rintro ⟨x, v, z, A, B⟩ R hb p
  rw [yc3] at p
  refine jab (rg G (cd p ?_ ?_)) <;> intro p
  ·refine jad (thN (jab (jaa ?_)))
   obtain ⟨T, K, U, L, V, M, p⟩ := ob3 p
   obtain ⟨W, f, p⟩ := jae p
   refine de G [(7, [0]), (8, []), (9, [64, 256]), (11, [48, 272])] (hC 4 (ygy.c _ K) (hP (jqw (jgs L)) (hC 7 (yg6.c (_, _, _) M) (hA 9 64 f h0)))) ?_
   exact ibN (thN (rh G (wL G p)))
  ·exact jag (thE (thE (ibE (wD G p hb))))
 rintro ⟨n, q, t, w⟩ p s hw
 refine thN (jah hw ?_)
 refine jn p (fun (C, D, a, b) => ⟨[(0, .ref 0 0), (2, .ref 32 0), (4, .ref 48 0)], [bX 0 68 [dV C, dV D, kV .u64 a], bX 32 27 [nS, nS], bX 48 27 [dV ((([(str [112, 111, 114, 116]), (str [109, 105, 108, 108]), (str [112, 97, 114, 107]), (str [104, 97, 108, 108]), (str [100, 111, 99, 107]), (str [102, 97, 105, 114])] : List ByteArray).take (w64 (2 + r.1)).toNat).drop (0 : Int).toNat), .own 64], aX 64 118 b], 96⟩) (fun vv p => ?_) ?_
 ·obtain ⟨X, g, p⟩ := jae p
  refine rs G (hC 1 (ybg g) h0) ?_
  refine cd p ?_ ?_ <;> intro p
  ·obtain ⟨e, d, p⟩ := jae p
   refine rs G (hD 2 d (hE 3 d h0)) ?_
   obtain ⟨Y, i, N, j, Z, l, p⟩ := ob3 p
   refine de G [(9, []), (10, [64, 368]), (12, [48, 384])] (hC 4 (ygo i) (hC 7 (ygo j) (hA 10 64 l h0))) ?_
   exact wJ G p
  ·exact jad (wJ G p)
 rintro ⟨C, D, a, b⟩ p
 obtain ⟨O, m, p⟩ := jae p
 refine rs G (hO 1 (.fz [64] [] []) (hC 1 (yjo.c _ m) h0)) ?_
 cases p
 exact rt [112, 113] []
def yg8 : MS (l1Cur × (List Int)) (Int × l1Cur) := ⟨.x (.b 68) (.s 3), fun x => zq44 x.1 x.2, fun y => dV y.1, fun _ => [], fun x y => [bxO 68 y.2, arO 3 x.2]⟩
theorem ykb : FnOK Tryz.prog tJ 65 yg8.S := by
 refine fm tt yg8 [fo yaf] call65 func65 rfl results65 ntmps65 ?_
 rintro ⟨c, list⟩ y cx G (p : zq44 c list = some y)
 unfold zq44 at p
 refine rg G ?_
 obtain ⟨r, h, e, a, p⟩ := ob2 p
 refine rs G (hN 3 list (hC 4 (yaa h) (hD 5 a (hE 6 a h0)))) ?_
 cases p
 exact rt [] []
def yka : MS l1Cur (Network × l1Cur) := ⟨.b 68, zq45, fun y => .aggv [.own 0, dV y.1.Lines], fun y => [arO 9 y.1.Stops], fun _ y => [bxO 68 y.2]⟩
theorem ypl : FnOK Tryz.prog tJ 122 yka.S := by
 refine fm tt yka [fo ypg, fo yaf, fo ype, fo ykb, fo yez, fo ypi] call122 func122 rfl results122 ntmps122 ?_
 rintro c y cx G (p : zq45 c = some y)
 unfold zq45 at p
 refine rg G ?_
 obtain ⟨r, h, p⟩ := jae p
 refine rs G (hC 1 (yj2.c _ h) h0) ?_
 obtain ⟨a, h1, p⟩ := jae p
 refine rs G (hN 3 r.1.Lines (hC 4 (yaa h1) h0)) ?_
 obtain ⟨e, k, p⟩ := jae p
 refine rs G (hD 3 k (hE 4 k h0)) ?_
 refine jF p (fun (v, Y, Z, K, v4, v5, L) => ⟨[(0, .ref 0 0), (2, .ref 32 0), (3, .ref 48 0), (4, dV a.1), (5, .ref 64 0)], [bX 0 68 [dV v, dV Y, kV .u64 Z], bX 32 27 [nS, nS], bX 48 27 [.own 80, .own 96], bX 64 118 [dV K, .row 96 96 a.1.toNat 1, .own 112], aX 80 9 v4, tX 96 118 [none, some 3, some 3] v5 96 (some (a.1.toNat, 2)), aX 112 3 L], 144⟩) (fun v17 hr p => ?_) ?_
 ·obtain ⟨r2, h3, p⟩ := jae p
  refine rs G (hC 1 (yaa h3) h0) ?_
  refine jaa (rg G (cd p ?_ ?_)) <;> intro p
  ·obtain ⟨r4, h6, e2, h7, p⟩ := ob2 p
   refine de G [(4, [0, 416]), (6, [48])] (hC 4 (yg3.c (_, _) h6) (hD 5 h7 (hS 6 h7 r4.1 h0))) ?_
   exact ibN (wFp p (Wk.trans (Wk_S (.c 272 2) (Enc.e e) (.cons (jdf (f := Enc.e) (l := r.1.Lines) (i := a.1) k) .nil) (by kernel_rfl)) (Wk_J G.hL ⟨[(0, []), (2, []), (3, []), (4, []), (5, [])], [(0, 0, []), (32, 16, []), (48, 64, []), (64, 272, []), (80, 48, []), (96, 49, []), (112, 480, [])], [], 144⟩ (by kernel_rfl))))
  ·refine rg G (cd p ?_ ?_) <;> intro p
   ·obtain ⟨r5, h8, p⟩ := jae p
    refine re G (hC 2 (yg3.c (_, _) h8) h0) ?_
    exact ibN (wFp p (Wk.trans (Wk_S (.c 272 2) (Enc.e e) (.cons (jdf (f := Enc.e) (l := r.1.Lines) (i := a.1) k) .nil) (by kernel_rfl)) (Wk_J G.hL ⟨[(0, []), (2, []), (3, []), (4, []), (5, [])], [(0, 0, []), (32, 16, []), (48, 64, []), (64, 272, []), (80, 48, []), (96, 49, []), (112, 480, [])], [], 144⟩ (by kernel_rfl))))
   ·refine rg G (cd p ?_ ?_) <;> intro p
    ·obtain ⟨n, M, o, N, e4, x, p⟩ := ob3 p
     refine de G [(6, [0]), (8, [0]), (11, [49])] (hO 5 (.dn (Enc.e e) (e.Stops.length : Int)) (hP (jdf (f := Enc.e) k) (hP (js2 Enc.e e.Stops) (hC 6 (yaa M) (hC 8 (yaa N) (hE 10 k (hP (juc (f := Enc.e) x) (hO 11 (.sd2 (Enc.e e) (Enc.e e4) (List.map Enc.e (e.Stops.set n.1.toNat (w64 (o.1 - 1)))) (List.map Enc.e (r.1.Lines.set a.1.toNat (⟨e.Name, (e.Stops.set n.1.toNat (w64 (o.1 - 1))), e.Runs⟩ : Line)))) (hP (jdf (f := Enc.e) k) (hP (jdf (f := Enc.e) x) (hP (jo3 Enc.e e.Stops n.1.toNat (w64 (o.1 - 1))) (hP (jo3 Enc.e r.1.Lines a.1.toNat (⟨e.Name, (e.Stops.set n.1.toNat (w64 (o.1 - 1))), e.Runs⟩ : Line)) h0)))))))))))) ?_
     exact ibN (wFp p (Wk.trans (Wk_S (.c 272 2) (Enc.e (⟨e.Name, (e.Stops.set n.1.toNat (w64 (o.1 - 1))), e.Runs⟩ : Line)) (.cons (jdf (f := Enc.e) (l := (r.1.Lines.set a.1.toNat (⟨e.Name, (e.Stops.set n.1.toNat (w64 (o.1 - 1))), e.Runs⟩ : Line))) (i := a.1) (jp2 (y := (⟨e.Name, (e.Stops.set n.1.toNat (w64 (o.1 - 1))), e.Runs⟩ : Line)) k)) .nil) (by kernel_rfl)) (Wk_J G.hL ⟨[(0, []), (2, []), (3, []), (4, []), (5, [])], [(0, 0, []), (32, 16, []), (48, 64, []), (64, 272, []), (80, 48, []), (96, 49, []), (112, 624, [])], [], 144⟩ (by kernel_rfl))))
    ·refine rg G (cd p ?_ ?_) <;> intro p
     ·obtain ⟨d, O, j, Q, e6, z, p⟩ := ob3 p
      refine de G [(6, [0]), (9, [0, 592]), (11, [49])] (hO 5 (.dn (Enc.e e) (e.Runs.length : Int)) (hP (jdf (f := Enc.e) k) (hP (js2 Enc.e e.Runs) (hC 6 (yaa O) (hC 9 (yg8.c (_, _) Q) (hE 10 k (hP (juc (f := Enc.e) z) (hO 11 (.sd2 (Enc.e e) (Enc.e e6) (List.map Enc.e (e.Runs.set d.1.toNat j.1)) (List.map Enc.e (r.1.Lines.set a.1.toNat (⟨e.Name, e.Stops, (e.Runs.set d.1.toNat j.1)⟩ : Line)))) (hP (jdf (f := Enc.e) k) (hP (jdf (f := Enc.e) z) (hP (jo3 Enc.e e.Runs d.1.toNat j.1) (hP (jo3 Enc.e r.1.Lines a.1.toNat (⟨e.Name, e.Stops, (e.Runs.set d.1.toNat j.1)⟩ : Line)) h0)))))))))))) ?_
      exact ibN (wFp p (Wk.trans (Wk_S (.c 272 2) (Enc.e (⟨e.Name, e.Stops, (e.Runs.set d.1.toNat j.1)⟩ : Line)) (.cons (jdf (f := Enc.e) (l := (r.1.Lines.set a.1.toNat (⟨e.Name, e.Stops, (e.Runs.set d.1.toNat j.1)⟩ : Line))) (i := a.1) (jp2 (y := (⟨e.Name, e.Stops, (e.Runs.set d.1.toNat j.1)⟩ : Line)) k)) .nil) (by kernel_rfl)) (Wk_J G.hL ⟨[(0, []), (2, []), (3, []), (4, []), (5, [])], [(0, 0, []), (32, 16, []), (48, 64, []), (64, 272, []), (80, 48, []), (96, 49, []), (112, 656, [])], [], 144⟩ (by kernel_rfl))))
     ·refine rg G (cd p ?_ ?_) <;> intro p
      ·obtain ⟨u, R, p⟩ := jae p
       refine re G (hO 3 (.sd (Enc.e e) (List.map Enc.e (e.Runs ++ ([3] : List Int)))) (hP (jdf (f := Enc.e) k) (hP (jun (f := Enc.e) (g := Enc.e) (l := e.Runs) (r := ([3] : List Int)) (b := 8) (jgs R) rfl) (hP (juo Enc.e e.Runs ([3] : List Int)) h0)))) ?_
       exact ibN (wF G p)
      ·refine rg G (cd p ?_ ?_) <;> intro p
       ·refine rg G (rg G ?_)
        have p := eR p hr
        cases p
        exact rt [48] []
       ·refine rg G (cd p ?_ ?_) <;> intro p
        ·refine jab (rg G (tl p (fun (A, B, C, D) => ⟨[(0, .ref 0 0), (2, .ref 32 0), (3, .ref 48 0)], [bX 0 68 [dV A, dV B, kV .u64 C], bX 32 27 [nS, nS], bX 48 27 [.own 64, .own 80], aX 64 9 r.1.Stops, tX 80 118 [none, some 3, some 3] D 80 none], 112⟩) (fun vv p => ?_) ?_))
         ·refine jaa (lp G p (fun (T, v8, v9, E, m) => ⟨[(0, .ref 0 0), (2, .ref 32 0), (3, .ref 48 0), (6, dV T)], [bX 0 68 [dV v8, dV v9, kV .u64 E], bX 32 27 [nS, nS], bX 48 27 [.own 64, .own 80], aX 64 9 r.1.Stops, tX 80 118 [none, some 3, some 3] m 80 none], 112⟩) ?_)
          rintro ⟨T, v8, v9, E, m⟩ r0 hb p
          rw [yc6] at p
          refine jab ?_
          obtain ⟨q, H, p⟩ := jae p
          refine jn p (fun t => ⟨[(0, .ref 0 0), (2, .ref 32 0), (3, .ref 48 0), (6, dV T), (85, dV t)], [bX 0 68 [dV q.2.code_, dV q.2.at_, kV .u64 q.2.seed_.v], bX 32 27 [nS, nS], bX 48 27 [.own 64, .own 80], aX 64 9 r.1.Stops, tX 80 118 [none, some 3, some 3] m 80 none], 112⟩) (fun t p => ?_) ?_
          ·rcases bf p with ⟨w, p⟩ | ⟨w, p⟩
           ·refine de G [(4, [0])] (hN 2 m (hC 4 (yaa H) (hO 7 (.b true) (hP w h0)))) ?_
            exact wJ G p
           ·refine de G [(4, [0])] (hN 2 m (hC 4 (yaa H) (hO 7 (.b false) (hP w h0)))) ?_
            exact wJ G p
          rintro t p
          refine cd p ?_ ?_ <;> intro p
          ·refine jad (thN (jab (jaa ?_)))
           obtain ⟨r19, U, u3, V, r20, W, p⟩ := ob3 p
           obtain ⟨u4, X, p⟩ := jae p
           refine de G [(9, [0]), (10, [256, 257]), (11, [80, 272]), (13, [48, 288])] (hC 4 (ygy.c _ U) (hP (jqw (jgs V)) (hN 8 r.1.Stops (hC 9 (yj8.c (_, _, _) W) (hP (jb8 (l := [256, 257]) rfl) (hA 11 64 X h0)))))) ?_
           exact ibN (thN (rh G (wL G p)))
          ·exact jag (thE (thE (ibE (wD G p hb))))
         rintro ⟨A, B, C, D⟩ p s hw
         refine thN (jah hw ?_)
         refine rg G ?_
         have p := eR p hr
         cases p
         exact rt [64] []
        ·exact jad (ibN (wFp p (Wk.trans (Wk_S (.c 272 2) (Enc.e e) (.cons (jdf (f := Enc.e) (l := r.1.Lines) (i := a.1) k) .nil) (by kernel_rfl)) (Wk_J G.hL ⟨[(0, []), (2, []), (3, []), (4, []), (5, [])], [(0, 0, []), (32, 16, []), (48, 64, []), (64, 272, []), (80, 48, []), (96, 49, []), (112, 560, [])], [], 144⟩ (by kernel_rfl)))))
 rintro ⟨v, Y, Z, K, v4, v5, L⟩ p
 obtain ⟨e9, I, p⟩ := jae p
 refine rs G (hD 4 I (hS 5 I (⟨K, e9.Stops, L⟩ : Line) (hP (Eq.refl a.1.toNat) (hP (Eq.refl a.1.toNat) h0)))) ?_
 refine rg G ?_
 cases p
 exact rt [80] []
def yj9 : MS l1Cur (Timetable × l1Cur) := ⟨.b 68, zq46, fun y => .aggv [.own 0, dV y.1.Network.Lines, .own 1], fun y => [arO 9 y.1.Network.Stops, arO 74 y.1.Trips], fun _ y => [bxO 68 y.2]⟩
theorem ypk : FnOK Tryz.prog tJ 61 yj9.S := by
 refine fm tt yj9 [fo ypc, fo yaf, fo ykc, fo ypl] call61 func61 rfl results61 ntmps61 ?_
 rintro c y cx G (p : zq46 c = some y)
 unfold zq46 at p
 refine rg G ?_
 obtain ⟨r, h, p⟩ := jae p
 refine rs G (hC 1 (yj0.c _ h) h0) ?_
 refine jab (rs G (hN 2 r.1.Trips h0) ?_)
 refine cd p ?_ ?_ <;> intro p
 ·refine rg G ?_
  cases p
  exact rt [48, 50] []
 ·refine jad (thN ?_)
  obtain ⟨K, L, p⟩ := jae p
  refine rs G (hN 3 r.1.Trips (hC 4 (yaa L) h0)) ?_
  obtain ⟨e, A, p⟩ := jae p
  refine rs G (hD 3 A (hE 4 A h0)) ?_
  refine jF p (fun (v, B, C, D, o, q, t, E) => ⟨[(0, .ref 0 0), (2, .ref 32 0), (3, .ref 48 0), (4, dV K.1), (5, .ref 64 0)], [bX 0 68 [dV v, dV B, kV .u64 C], bX 32 30 [nS, nS, nS], bX 48 30 [.own 80, dV D, .own 96], bX 64 74 [dV o, dV q, dV t], aX 80 9 E, aX 96 74 r.1.Trips], 128⟩) (fun M hr p => ?_) ?_
  ·obtain ⟨U, N, p⟩ := jae p
   refine rs G (hC 1 (yaa N) h0) ?_
   refine jaa (rg G (cd p ?_ ?_)) <;> intro p
   ·obtain ⟨V, O, p⟩ := jae p
    refine re G (hO 2 (.fz [448] [] []) (hC 2 (yd2.c (_, _) O) h0)) ?_
    exact ibN (wF G p)
   ·refine rg G (cd p ?_ ?_) <;> intro p
    ·obtain ⟨W, Q, p⟩ := jae p
     refine re G (hC 1 (yaa Q) h0) ?_
     exact ibN (wF G p)
    ·refine rg G (cd p ?_ ?_) <;> intro p
     ·obtain ⟨X, R, p⟩ := jae p
      refine re G (hO 2 (.fz [512] [] []) (hC 2 (yd2.c (_, _) R) h0)) ?_
      exact ibN (wF G p)
     ·refine rg G (cd p ?_ ?_) <;> intro p
      ·obtain ⟨Y, T, p⟩ := jae p
       refine re G (hC 1 (yka.c _ T) h0) ?_
       exact ibN (wF G p)
      ·refine rg G (cd p ?_ ?_) <;> intro p
       ·refine jab (rg G (tl p (fun (g, i, j, k) => ⟨[(0, .ref 0 0), (2, .ref 32 0), (3, .ref 48 0)], [bX 0 68 [dV g, dV i, kV .u64 j], bX 32 30 [nS, nS, nS], bX 48 30 [.own 64, .own 80, .own 96], aX 64 9 r.1.Network.Stops, aX 80 118 r.1.Network.Lines, aX 96 74 k], 128⟩) (fun vv p => ?_) ?_))
        ·refine jaa (lp G p (fun (w, H, l, m, a) => ⟨[(0, .ref 0 0), (2, .ref 32 0), (3, .ref 48 0), (6, dV w)], [bX 0 68 [dV H, dV l, kV .u64 m], bX 32 30 [nS, nS, nS], bX 48 30 [.own 64, .own 80, .own 96], aX 64 9 r.1.Network.Stops, aX 80 118 r.1.Network.Lines, aX 96 74 a], 128⟩) ?_)
         rintro ⟨w, H, l, m, a⟩ Z hb p
         rw [ye4] at p
         refine jab ?_
         obtain ⟨x, I, p⟩ := jae p
         refine jn p (fun d => ⟨[(0, .ref 0 0), (2, .ref 32 0), (3, .ref 48 0), (6, dV w), (61, dV d)], [bX 0 68 [dV x.2.code_, dV x.2.at_, kV .u64 x.2.seed_.v], bX 32 30 [nS, nS, nS], bX 48 30 [.own 64, .own 80, .own 96], aX 64 9 r.1.Network.Stops, aX 80 118 r.1.Network.Lines, aX 96 74 a], 128⟩) (fun d p => ?_) ?_
         ·rcases bf p with ⟨f, p⟩ | ⟨f, p⟩
          ·refine de G [(4, [0])] (hN 2 a (hC 4 (yaa I) (hO 7 (.b true) (hP f h0)))) ?_
           exact wJ G p
          ·refine de G [(4, [0])] (hN 2 a (hC 4 (yaa I) (hO 7 (.b false) (hP f h0)))) ?_
           exact wJ G p
         rintro d p
         refine cd p ?_ ?_ <;> intro p
         ·refine jad (thN (jab (jaa ?_)))
          obtain ⟨u, z, p⟩ := jae p
          refine re G (hA 8 24 z h0) ?_
          exact ibN (thN (rh G (wL G p)))
         ·exact jag (thE (thE (ibE (wD G p hb))))
        rintro ⟨g, i, j, k⟩ p s hw
        refine thN (jah hw ?_)
        refine rg G ?_
        have p := eR p hr
        cases p
        exact rt [64, 96] []
       ·exact jad (ibN (wF G p))
  rintro ⟨v, B, C, D, o, q, t, E⟩ p
  obtain ⟨e2, n, p⟩ := jae p
  refine rs G (hD 4 n (hS 5 n (⟨o, q, t⟩ : Trip) h0)) ?_
  refine rg G ?_
  cases p
  exact rt [80, 96] []
def ygz : MS (Int × Int) Int := mS zq61
theorem yry {a b y} (p : zq61 a b = some y) : ygz.C (a, b) y := ygz.c (a, b) p
theorem ypa : FnOK Tryz.prog tJ 64 ygz.S := by
 refine fm tt ygz [] call64 func64 rfl results64 ntmps64 ?_
 rintro ⟨a, b⟩ y cx G (p : zq61 a b = some y)
 unfold zq61 at p
 refine rg G (jab (rg G (cd p ?_ ?_))) <;> intro p
 ·refine rg G ?_
  cases p
  exact rt [] []
 ·refine jad (thN (rg G ?_))
  cases p
  exact rt [] []
def yjz : MS l1Cur (Timetable × l1Cur) := ⟨.b 68, zq59, fun y => .aggv [.own 0, dV y.1.Network.Lines, .own 1], fun y => [arO 9 y.1.Network.Stops, arO 74 y.1.Trips], fun _ y => [bxO 68 y.2]⟩
theorem ypb : FnOK Tryz.prog tJ 27 yjz.S := by
 refine fm tt yjz [fo ya7, fo ypk, fo yj3, fo yaf, fo ypa] call27 func27 rfl results27 ntmps27 ?_
 rintro c y cx G (p : zq59 c = some y)
 unfold zq59 at p
 refine rg G (jab ?_)
 obtain ⟨r, h, p⟩ := jae p
 refine rs G (hC 1 (ybg h) h0) ?_
 refine cd p ?_ ?_ <;> intro p
 ·obtain ⟨O, H, p⟩ := jae p
  refine rs G (hC 1 (yj9.c _ H) h0) ?_
  cases p
  exact rt [80, 81] []
 ·refine jad (thN ?_)
  obtain ⟨a, I, p⟩ := jae p
  refine rs G (hC 1 (yg5.c _ I) h0) ?_
  refine jab ?_
  obtain ⟨Q, K, p⟩ := jae p
  refine rs G (hC 1 (yaa K) h0) ?_
  refine tl p (fun (g, j, l, C) => ⟨[(0, .ref 0 0), (2, .ref 32 0), (3, .ref 48 0)], [bX 0 68 [dV g, dV j, kV .u64 l], bX 32 30 [nS, nS, nS], bX 48 30 [.own 64, .own 80, .own 96], aX 64 9 a.1.Stops, aX 80 118 a.1.Lines, aX 96 74 C], 128⟩) (fun vv p => ?_) ?_
  ·refine jaa (lpP p (fun (i, v, D, E, m) => ⟨[(0, .ref 0 0), (2, .ref 32 0), (3, .ref 48 0), (4, dV i)], [bX 0 68 [dV v, dV D, kV .u64 E], bX 32 30 [nS, nS, nS], bX 48 30 [.own 64, .own 80, .own 96], aX 64 9 a.1.Stops, aX 80 118 a.1.Lines, aX 96 74 m], 128⟩) (Wk_J G.hL ⟨[(0, []), (2, []), (3, []), (4, [])], [(0, 0, []), (32, 16, []), (48, 112, [.k, .k, .o 96]), (64, 80, []), (80, 81, [])], [(96, 74, 3, [])], 128⟩ (by kernel_rfl)) ?_)
   rintro ⟨i, v, D, E, m⟩ L hb p
   rw [ye1] at p
   refine jab (rg G (cd p ?_ ?_)) <;> intro p
   ·refine jad (thN (jab (jaa ?_)))
    obtain ⟨R, M, T, N, U, n, p⟩ := ob3 p
    obtain ⟨V, q, p⟩ := jae p
    refine de G [(11, [0]), (19, [0]), (21, [0]), (26, [96, 560]), (28, [48, 576])] (hN 4 m (hN 8 m (hC 11 (yaa M) (hN 18 a.1.Lines (hC 19 (yaa N) (hC 21 (yaa n) (hA 26 24 q h0))))))) ?_
    exact ibN (thN (rh G (wL G p)))
   ·exact jag (thE (thE (ibE (wD G p hb))))
  rintro ⟨g, j, l, C⟩ p s hw
  refine thN (jah hw ?_)
  refine jab (rg G (tl p (fun t => ⟨[(0, .ref 0 0), (2, .ref 32 0), (3, .ref 48 0)], [bX 0 68 [dV g, dV j, kV .u64 l], bX 32 30 [nS, nS, nS], bX 48 30 [.own 64, .own 80, .own 96], aX 64 9 a.1.Stops, aX 80 118 a.1.Lines, aX 96 74 t], 128⟩) (fun t p => ?_) ?_))
  ·refine jaa (lp G p (fun (x, u) => ⟨[(0, .ref 0 0), (2, .ref 32 0), (3, .ref 48 0), (5, dV x)], [bX 0 68 [dV g, dV j, kV .u64 l], bX 32 30 [nS, nS, nS], bX 48 30 [.own 64, .own 80, .own 96], aX 64 9 a.1.Stops, aX 80 118 a.1.Lines, aX 96 74 u], 128⟩) ?_)
   rintro ⟨x, u⟩ L w p
   rw [ye0] at p
   refine jab (rs G (hN 3 u h0) ?_)
   refine cd p ?_ ?_ <;> intro p
   ·refine jad (thN (jab (jaa ?_)))
    obtain ⟨e, b, p⟩ := jae p
    refine rs G (hD 3 b (hE 4 b h0)) ?_
    obtain ⟨W, d, z, A, p⟩ := ob2 p
    refine ds G [(12, [288])] (hD 6 d (hE 8 d (hC 10 (yry A) h0))) ?_
    obtain ⟨X, f, p⟩ := jae p
    refine re G (hD 4 f (hS 5 f (⟨z, e.Line, e.Start⟩ : Trip) h0)) ?_
    exact ibN (thN (rh G (wL G p)))
   ·exact jag (thE (thE (ibE (wD G p w))))
  rintro t p Y B
  refine thN (jah B ?_)
  refine rg G ?_
  cases p
  exact rt [64, 96] []
def yj1 : MS l1Cur (Int × l1Cur) := ⟨.b 68, zq57, fun y => dV y.1, fun _ => [], fun _ y => [bxO 68 y.2]⟩
theorem ypd : FnOK Tryz.prog tJ 66 yj1.S := by
 refine fm tt yj1 [fo ya7, fo ykc, fo yaf] call66 func66 rfl results66 ntmps66 ?_
 rintro c y cx G (p : zq57 c = some y)
 unfold zq57 at p
 refine rg G (jab ?_)
 obtain ⟨r, h, p⟩ := jae p
 refine rs G (hC 1 (ybg h) h0) ?_
 refine cd p ?_ ?_ <;> intro p
 ·obtain ⟨d, a, p⟩ := jae p
  refine rs G (hO 2 (.fz [80] [] []) (hC 2 (yd2.c (_, _) a) h0)) ?_
  cases p
  exact rt [] []
 ·refine jad (thN ?_)
  obtain ⟨e, b, p⟩ := jae p
  refine rs G (hC 1 (yaa b) h0) ?_
  cases p
  exact rt [] []
def yg7 : MS (l1Cur × Timetable) ((List Change) × l1Cur) := ⟨.x (.b 68) .r, fun x => zq47 x.1 x.2, fun _ => .own 0, fun y => [arO 76 y.1], fun _ y => [bxO 68 y.2]⟩
theorem ypj : FnOK Tryz.prog tJ 28 yg7.S := by
 refine fm tt yg7 [fo yaf, fo ykb, fo ya7, fo ypd] call28 func28 rfl results28 ntmps28 ?_
 rintro ⟨c, t⟩ y cx G (p : zq47 c t = some y)
 unfold zq47 at p
 refine rg G (rg G (jab (rg G (tl p (fun (V, W, X, Y) => ⟨[(0, .ref 0 0), (5, .own 32)], [bX 0 68 [dV V, dV W, kV .u64 X], aX 32 76 Y], 64⟩) (fun vv5 p => ?_) ?_))))
 ·refine jaa (lp G p (fun (i, v, Z, v2, x) => ⟨[(0, .ref 0 0), (3, .ref 32 0), (5, .own 48), (6, dV i)], [bX 0 68 [dV v, dV Z, kV .u64 v2], bX 32 30 [dV t.Network.Stops, dV t.Network.Lines, dV t.Trips], aX 48 76 x], 80⟩) ?_)
  rintro ⟨i, v, Z, v2, x⟩ r0 hb p
  rw [ye3] at p
  refine jab (rs G (hN 3 t.Trips h0) ?_)
  refine cd p ?_ ?_ <;> intro p
  ·refine jad (thN (jn p (fun (v3, v4, v5, x1) => ⟨[(0, .ref 0 0), (3, .ref 32 0), (5, .own 48), (6, dV i)], [bX 0 68 [dV v3, dV v4, kV .u64 v5], bX 32 30 [dV t.Network.Stops, dV t.Network.Lines, dV t.Trips], aX 48 76 x1], 80⟩) (fun vv p => ?_) ?_))
   ·refine jaa ?_
    obtain ⟨e, h, p⟩ := jae p
    refine rs G (hD 3 h h0) ?_
    obtain ⟨r, h1, p⟩ := jae p
    refine rs G (hC 1 (yaa h1) h0) ?_
    refine jaa (rg G (cd p ?_ ?_)) <;> intro p
    ·obtain ⟨u, h2, p⟩ := jae p
     refine re G (hA 4 40 h2 h0) ?_
     exact ibN (ibN (wJ G p))
    ·refine jn p (fun L => ⟨[(0, .ref 0 0), (3, .ref 32 0), (5, .own 48), (6, dV i), (7, .ref 64 0), (32, dV L)], [bX 0 68 [dV r.2.code_, dV r.2.at_, kV .u64 r.2.seed_.v], bX 32 30 [dV t.Network.Stops, dV t.Network.Lines, dV t.Trips], aX 48 76 x, bX 64 74 [dV e.Id, dV e.Line, dV e.Start]], 96⟩) (fun L p => ?_) ?_
     ·refine rg G (cd p ?_ ?_) <;> intro p
      ·exact jad (wJ G p)
      ·exact rh G (wJ G p)
     rintro L p
     refine cd p ?_ ?_ <;> intro p
     ·obtain ⟨r2, h5, u2, h6, p⟩ := ob2 p
      refine de G [(6, [0, 176]), (10, [48, 240])] (hC 6 (yg8.c (_, _) h5) (hA 10 40 h6 h0)) ?_
      exact ibN (ibN (wJ G p))
     ·exact jad (ibN (ibN (wJ G p)))
   rintro ⟨v3, v4, v5, x1⟩ p
   exact rh G (wL G p)
  ·exact jag (thE (thE (ibE (wD G p hb))))
 rintro ⟨V, W, X, Y⟩ p s hw
 refine thN (jah hw ?_)
 refine jn p (fun (l, m, n, a) => ⟨[(0, .ref 0 0), (5, .own 32)], [bX 0 68 [dV l, dV m, kV .u64 n], aX 32 76 a], 64⟩) (fun vv4 p => ?_) ?_
 ·obtain ⟨r3, h7, p⟩ := jae p
  refine rs G (hC 1 (ybg h7) h0) ?_
  refine cd p ?_ ?_ <;> intro p
  ·obtain ⟨r4, h8, r5, h9, u3, M, p⟩ := ob3 p
   refine re G (hC 2 (yaa h8) (hC 5 (yaa h9) (hA 11 40 M h0))) ?_
   exact wJ G p
  ·exact jad (wJ G p)
 rintro ⟨l, m, n, a⟩ p
 refine jn p (fun (o, q, w, x4) => ⟨[(0, .ref 0 0), (5, .own 32)], [bX 0 68 [dV o, dV q, kV .u64 w], aX 32 76 x4], 64⟩) (fun vv3 p => ?_) ?_
 ·refine jn p (fun (z, A, B, C) => ⟨[(0, .ref 0 0), (5, .own 32), (66, dV z)], [bX 0 68 [dV A, dV B, kV .u64 C], aX 32 76 a], 64⟩) (fun vv2 p => ?_) ?_
  ·rcases bf p with ⟨d, p⟩ | ⟨d, p⟩
   ·obtain ⟨r6, N, p⟩ := jae p
    refine re G (hN 1 a (hO 3 (.b true) (hP d (hC 5 (ybg N) h0)))) ?_
    exact wJ G p
   ·refine re G (hN 1 a (hO 3 (.b false) (hP d h0))) ?_
    exact wJ G p
  rintro ⟨z, A, B, C⟩ p
  refine cd p ?_ ?_ <;> intro p
  ·obtain ⟨r7, O, p⟩ := jae p
   refine rs G (hN 2 a (hC 3 (yaa O) h0)) ?_
   obtain ⟨e1, D, p⟩ := jae p
   refine rs G (hD 2 D (hE 3 D h0)) ?_
   refine jn p (fun (E, H, I, f, g, j, k) => ⟨[(0, .ref 0 0), (5, .own 32), (8, dV r7.1), (9, .ref 48 0)], [bX 0 68 [dV E, dV H, kV .u64 I], aX 32 76 a, bX 48 76 [dV f, dV e1.Trip.Id, dV g, dV j, dV k]], 80⟩) (fun vv1 p => ?_) ?_
   ·obtain ⟨r8, Q, p⟩ := jae p
    refine rs G (hC 1 (yaa Q) h0) ?_
    refine jaa (rg G (cd p ?_ ?_)) <;> intro p
    ·obtain ⟨r9, R, p⟩ := jae p
     refine re G (hC 1 (yaa R) h0) ?_
     exact ibN (wJ G p)
    ·refine rg G (cd p ?_ ?_) <;> intro p
     ·exact rh G (ibN (wJ G p))
     ·refine rg G (cd p ?_ ?_) <;> intro p
      ·obtain ⟨r10, T, p⟩ := jae p
       refine re G (hC 1 (yj1.c _ T) h0) ?_
       exact ibN (wJ G p)
      ·obtain ⟨r11, U, p⟩ := jae p
       refine re G (hC 1 (yaa U) h0) ?_
       exact ibN (wJ G p)
   rintro ⟨E, H, I, f, g, j, k⟩ p
   obtain ⟨e2, K, p⟩ := jae p
   refine re G (hD 3 K (hS 4 K (⟨f, (⟨e1.Trip.Id, g, j⟩ : Trip), k⟩ : Change) h0)) ?_
   exact wJ G p
  ·exact jad (wJ G p)
 rintro ⟨o, q, w, x4⟩ p
 refine rg G ?_
 cases p
 exact rt [32] []
def ycl : MS ((List Change) × Int) Int := mS zq69
theorem yew : FnOK Tryz.prog tJ 30 ycl.S := by
 refine fm tt ycl [] call30 func30 rfl results30 ntmps30 ?_
 rintro ⟨list, id⟩ y cx G (p : zq69 list id = some y)
 unfold zq69 at p
 refine rg G (jab (rg G (tF p (fun _ => ⟨[], [], 32⟩) (fun a hr p => ?_) ?_)))
 ·refine jaa (lp G p (fun v => ⟨[(0, dV list), (1, dV id), (5, dV v)], [], 32⟩) ?_)
  rintro v b hb p
  rw [yc1] at p
  refine jab (rs G (hN 2 list h0) ?_)
  refine cd p ?_ ?_ <;> intro p
  ·refine jad (thN (jab (jaa ?_)))
   obtain ⟨e, h, p⟩ := jae p
   refine rs G (hD 2 h h0) ?_
   refine cd p ?_ ?_ <;> intro p
   ·refine rg G ?_
    have p := eL p hb hr
    cases p
    exact rt [] []
   ·exact jad (ibN (thN (rh G (wL G p))))
  ·exact jag (thE (thE (ibE (wE G p hb))))
 rintro ⟨⟩ p s hw
 refine thN (jah hw ?_)
 refine rg G ?_
 cases p
 exact rt [] []
def yke : MS (List UInt8) (Timetable × (List Change) × (List Change)) := ⟨.r, zq40, fun y => .tup [dV y.1, .own 0, .own 1], fun y => [arO 76 y.2.1, arO 76 y.2.2], fun _ _ => []⟩
theorem ypn : FnOK Tryz.prog tJ 7 yke.S := by
 refine fm tt yke [fo ypb, fo ypj, fo ya7, fo yew] call7 func7 rfl results7 ntmps7 ?_
 rintro code y cx G (p : zq40 code = some y)
 unfold zq40 at p
 refine rg G (rg G ?_)
 obtain ⟨r, h, p⟩ := jae p
 refine rs G (hC 1 (yjz.c _ h) h0) ?_
 obtain ⟨d, A, p⟩ := jae p
 refine rs G (hO 2 (.fz [144, 145] [] []) (hC 2 (yg7.c (_, _) A) h0)) ?_
 obtain ⟨g, B, p⟩ := jae p
 refine rs G (hC 2 (yg7.c (_, _) B) h0) ?_
 refine jn p (fun all => ⟨[(2, .ref 16 0), (6, .ref 32 0), (7, .own 48), (8, .own 64)], [bX 16 30 [nS, nS, nS], bX 32 30 [dV r.1.Network.Stops, dV r.1.Network.Lines, dV r.1.Trips], aX 48 76 d.1, aX 64 76 all], 96⟩) (fun all p => ?_) ?_
 ·obtain ⟨I, C, p⟩ := jae p
  refine rs G (hC 1 (ybg C) h0) ?_
  refine cd p ?_ ?_ <;> intro p
  ·refine rg G (rg G (rg G (tl p (fun all3 => ⟨[(2, .ref 16 0), (6, .ref 32 0), (7, .own 48), (8, .own 64)], [bX 16 30 [nS, nS, nS], bX 32 30 [dV r.1.Network.Stops, dV r.1.Network.Lines, dV r.1.Trips], aX 48 76 d.1, aX 64 76 all3], 96⟩) (fun all3 p => ?_) ?_)))
   ·refine jaa (lp G p (fun (v, j, k, l, all1) => ⟨[(2, .ref 16 0), (5, .ref 32 0), (6, .ref 48 0), (7, .own 64), (8, .own 80), (9, .own 96), (10, dV v)], [bX 16 30 [nS, nS, nS], bX 32 68 [dV j, dV k, kV .u64 l], bX 48 30 [dV r.1.Network.Stops, dV r.1.Network.Lines, dV r.1.Trips], aX 64 76 d.1, aX 80 76 all1, aX 96 76 g.1], 128⟩) ?_)
    rintro ⟨v, j, k, l, all1⟩ K hb p
    rw [yc7] at p
    refine jab (rs G (hN 2 g.1 h0) ?_)
    refine cd p ?_ ?_ <;> intro p
    ·refine jad (thN (jn p (fun (m, n, o, all2) => ⟨[(2, .ref 16 0), (5, .ref 32 0), (6, .ref 48 0), (7, .own 64), (8, .own 80), (9, .own 96), (10, dV v)], [bX 16 30 [nS, nS, nS], bX 32 68 [dV m, dV n, kV .u64 o], bX 48 30 [dV r.1.Network.Stops, dV r.1.Network.Lines, dV r.1.Trips], aX 64 76 d.1, aX 80 76 all2, aX 96 76 g.1], 128⟩) (fun D p => ?_) ?_))
     ·refine jaa ?_
      obtain ⟨e, i, L, q, p⟩ := ob2 p
      refine jn p (fun (t, w, x, f) => ⟨[(2, .ref 16 0), (5, .ref 32 0), (6, .ref 48 0), (7, .own 64), (8, .own 80), (9, .own 96), (10, dV v), (44, dV t)], [bX 16 30 [nS, nS, nS], bX 32 68 [dV w, dV x, kV .u64 f], bX 48 30 [dV r.1.Network.Stops, dV r.1.Network.Lines, dV r.1.Trips], aX 64 76 d.1, aX 80 76 all1, aX 96 76 g.1], 128⟩) (fun vv p => ?_) ?_
      ·rcases bf p with ⟨a, p⟩ | ⟨a, p⟩
       ·refine re G (hD 3 i (hE 6 i (hC 7 (ycl.c (_, _) q) (hO 9 (.b true) (hP a h0))))) ?_
        exact wJ G p
       ·obtain ⟨M, E, p⟩ := jae p
        refine re G (hD 3 i (hE 6 i (hC 7 (ycl.c (_, _) q) (hO 9 (.b false) (hP a (hC 11 (ybg E) h0)))))) ?_
        exact wJ G p
      rintro ⟨t, w, x, f⟩ p
      refine cd p ?_ ?_ <;> intro p
      ·obtain ⟨N, z, u, H, p⟩ := ob2 p
       refine re G (hD 3 z (hE 4 z (hA 6 40 H h0))) ?_
       exact ibN (wJ G p)
      ·exact jad (ibN (wJ G p))
     rintro ⟨m, n, o, all2⟩ p
     exact rh G (wL G p)
    ·exact jag (thE (thE (ibE (wD G p hb))))
   rintro all3 p s hw
   exact wJp p (Wk.trans hw (Wk_J G.hL ⟨[(2, []), (6, []), (7, []), (8, [])], [(16, 16, []), (32, 32, []), (48, 48, []), (64, 64, [])], [], 96⟩ (by kernel_rfl)))
  ·exact jad (wJ G p)
 rintro all p
 refine rg G ?_
 cases p
 exact rt [48, 64] []
def yg9 : MS (Int × Int × Int) Bool := ⟨.x .r (.x .r .r), fun x => zq34 x.1 x.2.1 x.2.2, fun y => dV y, fun _ => [], fun _ _ => []⟩
theorem yat {n lo hi y} (p : zq34 n lo hi = some y) : yg9.C (n, lo, hi) y := yg9.c (n, lo, hi) p
theorem ye7 : FnOK Tryz.prog tJ 157 yg9.S := by
 refine fm tt yg9 [] call157 func157 rfl results157 ntmps157 ?_
 rintro ⟨n, lo, hi⟩ y cx G (p : zq34 n lo hi = some y)
 unfold zq34 at p
 refine rg G (jn p (fun v => ⟨[(6, dV v)], [], 32⟩) (fun v p => ?_) ?_)
 ·rcases bf p with ⟨hb, p⟩ | ⟨hb, p⟩
  ·refine re G (hO 3 (.b true) (hP hb h0)) ?_
   exact wJ G p
  ·refine re G (hO 3 (.b false) (hP hb h0)) ?_
   exact wJ G p
 rintro v p
 cases p
 exact rt [] []
def yhd : MS ByteArray Bool := mR zq24
theorem yp2 : FnOK Tryz.prog tJ 224 yhd.S := by
 refine fm tt yhd [] call224 func224 rfl results224 ntmps224 ?_
 rintro s y cx G (p : zq24 s = some y)
 unfold zq24 at p
 refine rg G (jab (jn p (fun v => ⟨[(0, dV s), (12, dV v)], [], 32⟩) (fun v p => ?_) ?_))
 ·rcases bf p with ⟨hb, p⟩ | ⟨hb, p⟩
  ·refine re G (hO 3 (.b true) (hP hb h0)) ?_
   exact wJ G p
  ·refine re G (hO 3 (.b false) (hP hb h0)) ?_
   exact wJ G p
 rintro v p
 refine cd p ?_ ?_ <;> intro p
 ·refine rg G ?_
  cases p
  exact rt [] []
 ·refine jad (thN (jab (rg G (tF p (fun _ => ⟨[], [], 32⟩) (fun n hr p => ?_) ?_))))
  ·refine jaa (lp G p (fun f => ⟨[(0, dV s), (14, dV (s.size : Int)), (15, dV f)], [], 32⟩) ?_)
   rintro f o g p
   rw [yb1] at p
   refine rg G (jab (cd p ?_ ?_)) <;> intro p
   ·refine jad (thN (jab (jaa (rg G ?_))))
    obtain ⟨u, h, p⟩ := jae p
    refine jn p (fun i => ⟨[(0, dV s), (3, dV f), (4, dV i), (14, dV (s.size : Int)), (15, dV f)], [], 32⟩) (fun i p => ?_) ?_
    ·rcases bf p with ⟨d, p⟩ | ⟨d, p⟩
     ·obtain ⟨q, l, p⟩ := jae p
      refine re G (hK h (hO 4 (.b true) (hP d (hK l h0)))) ?_
      exact wJ G p
     ·refine re G (hK h (hO 4 (.b false) (hP d h0))) ?_
      exact wJ G p
    rintro i p
    refine jn p (fun j => ⟨[(0, dV s), (14, dV (s.size : Int)), (15, dV f), (45, dV j)], [], 32⟩) (fun j p => ?_) ?_
    ·rcases bf p with ⟨a, p⟩ | ⟨a, p⟩
     ·rcases bf p with ⟨c, p⟩ | ⟨c, p⟩
      ·refine re G (hO 2 (.b true) (hP a (hO 5 (.b true) (hP c h0)))) ?_
       exact wJ G p
      ·obtain ⟨r, k, p⟩ := jae p
       rcases bf p with ⟨e, p⟩ | ⟨e, p⟩
       ·refine re G (hO 2 (.b true) (hP a (hO 5 (.b false) (hP c (hK k (hO 11 (.b true) (hP e h0))))))) ?_
        exact wJ G p
       ·obtain ⟨t, m, p⟩ := jae p
        refine re G (hO 2 (.b true) (hP a (hO 5 (.b false) (hP c (hK k (hO 11 (.b false) (hP e (hK m h0)))))))) ?_
        exact wJ G p
     ·refine re G (hO 2 (.b false) (hP a h0)) ?_
      exact wJ G p
    rintro j p
    refine cd p ?_ ?_ <;> intro p
    ·refine rg G ?_
     have p := eL p g hr
     cases p
     exact rt [] []
    ·exact jad (ibN (thN (rh G (wL G p))))
   ·exact jag (thE (thE (ibE (wE G p g))))
  rintro ⟨⟩ p w hw
  refine thN (jah hw ?_)
  refine rg G ?_
  cases p
  exact rt [] []
def yf1 : MS ((List ByteArray) × ByteArray) Int := mS yi3
theorem yng : FnOK Tryz.prog tJ 225 yf1.S := by
 refine fm tt yf1 [] call225 func225 rfl results225 ntmps225 ?_
 rintro ⟨s, v⟩ y cx G (p : yi3 s v = some y)
 unfold yi3 at p
 refine rg G (jab (rs G (hN 1 s h0) ?_))
 refine tF p (fun _ => ⟨[], [], 32⟩) (fun b hr p => ?_) ?_
 ·refine jaa (lp G p (fun a => ⟨[(0, dV s), (1, dV v), (7, dV (s.length : Int)), (8, dV a)], [], 32⟩) ?_)
  rintro a c hb p
  rw [ybm] at p
  refine rg G (jab (cd p ?_ ?_)) <;> intro p
  ·refine jad (thN (jab (jaa (rg G ?_))))
   obtain ⟨e, h, p⟩ := jae p
   refine rs G (hD 3 h h0) ?_
   refine cd p ?_ ?_ <;> intro p
   ·refine rg G ?_
    have p := eL p hb hr
    cases p
    exact rt [] []
   ·exact jad (ibN (thN (rh G (wL G p))))
  ·exact jag (thE (thE (ibE (wE G p hb))))
 rintro ⟨⟩ p d hw
 refine thN (jah hw ?_)
 refine rg G ?_
 cases p
 exact rt [] []
def yd7 : MS (List ByteArray) Bool := mR zq11
theorem yq1 : FnOK Tryz.prog tJ 189 yd7.S := by
 refine fm tt yd7 [fo yp2, fo yng] call189 func189 rfl results189 ntmps189 ?_
 rintro names y cx G (p : zq11 names = some y)
 unfold zq11 at p
 refine rg G (jab (rs G (hN 1 names h0) ?_))
 refine tF p (fun _ => ⟨[], [], 32⟩) (fun i hr p => ?_) ?_
 ·refine jaa (lp G p (fun v => ⟨[(0, dV names), (5, dV names), (6, dV (names.length : Int)), (7, dV v)], [], 32⟩) ?_)
  rintro v j hb p
  rw [ydn] at p
  refine rg G (jab (cd p ?_ ?_)) <;> intro p
  ·refine jad (thN (jab (jaa ?_)))
   obtain ⟨e, h, p⟩ := jae p
   refine rs G (hD 1 h h0) ?_
   obtain ⟨r, f, p⟩ := jae p
   refine jn p (fun d => ⟨[(0, dV names), (5, dV names), (6, dV (names.length : Int)), (7, dV v), (21, dV d)], [], 32⟩) (fun d p => ?_) ?_
   ·rcases bf p with ⟨a, p⟩ | ⟨a, p⟩
    ·refine re G (hC 1 (yhd.c _ f) (hO 3 (.b true) (hP a h0))) ?_
     exact wJ G p
    ·obtain ⟨k, g, p⟩ := jae p
     refine re G (hC 1 (yhd.c _ f) (hO 3 (.b false) (hP a (hC 6 (yf1.c (_, _) g) h0)))) ?_
     exact wJ G p
   rintro d p
   refine cd p ?_ ?_ <;> intro p
   ·refine rg G ?_
    have p := eL p hb hr
    cases p
    exact rt [] []
   ·exact jad (ibN (thN (rh G (wL G p))))
  ·exact jag (thE (thE (ibE (wE G p hb))))
 rintro ⟨⟩ p s hw
 refine thN (jah hw ?_)
 refine rg G ?_
 cases p
 exact rt [] []
def yko : MS Network (List ByteArray) := ⟨.r, zq27, fun _ => .own 0, fun y => [arO 9 y], fun _ _ => []⟩
theorem ypz : FnOK Tryz.prog tJ 190 yko.S := by
 refine fm tt yko [] call190 func190 rfl results190 ntmps190 ?_
 rintro n y cx G (p : zq27 n = some y)
 unfold zq27 at p
 refine rg G ?_
 obtain ⟨u, h, p⟩ := jae p
 refine rs G (hN 2 n.Lines (hO 3 (.l (List.map Enc.e (List.replicate (n.Lines.length : Int).toNat (ByteArray.empty : ByteArray)))) (hP (mk_p (b := 16) (jgs h) rfl) (hP (jt3 Enc.e (n.Lines.length : Int).toNat (ByteArray.empty : ByteArray)) h0)))) ?_
 refine jab (rs G (hN 2 n.Lines h0) ?_)
 refine tl p (fun a => ⟨[(3, .own 16)], [aX 16 9 a], 48⟩) (fun a p => ?_) ?_
 ·refine jaa (lp G p (fun (v, i) => ⟨[(3, .own 16), (11, dV n.Lines), (12, dV (n.Lines.length : Int)), (13, dV v)], [aX 16 9 i], 48⟩) ?_)
  rintro ⟨v, i⟩ f hb p
  rw [yda] at p
  refine rg G (jab (cd p ?_ ?_)) <;> intro p
  ·refine jad (thN (jab (jaa ?_)))
   obtain ⟨e, d, p⟩ := jae p
   refine rs G (hD 1 d h0) ?_
   obtain ⟨g, c, p⟩ := jae p
   refine re G (hD 4 c (hS 5 c e.Name h0)) ?_
   exact ibN (thN (rh G (wL G p)))
  ·exact jag (thE (thE (ibE (wD G p hb))))
 rintro a p s hw
 refine thN (jah hw ?_)
 refine rg G ?_
 cases p
 exact rt [16] []
def yhc : MS (Network × Int) Bool := mS zq25
theorem yp1 : FnOK Tryz.prog tJ 226 yhc.S := by
 refine fm tt yhc [] call226 func226 rfl results226 ntmps226 ?_
 rintro ⟨n, stop⟩ y cx G (p : zq25 n stop = some y)
 unfold zq25 at p
 refine rg G (jn p (fun v => ⟨[(4, dV v)], [], 32⟩) (fun v p => ?_) ?_)
 ·rcases bf p with ⟨hb, p⟩ | ⟨hb, p⟩
  ·refine re G (hO 2 (.b true) (hP hb (hN 6 n.Stops h0))) ?_
   exact wJ G p
  ·refine re G (hO 2 (.b false) (hP hb h0)) ?_
   exact wJ G p
 rintro v p
 cases p
 exact rt [] []
def ydo : MS ((List Int) × Int) Int := mS yf2
theorem yis : FnOK Tryz.prog tJ 76 ydo.S := by
 refine fm tt ydo [] call76 func76 rfl results76 ntmps76 ?_
 rintro ⟨s, v⟩ y cx G (p : yf2 s v = some y)
 unfold yf2 at p
 refine rg G (jab (rs G (hN 1 s h0) ?_))
 refine tF p (fun _ => ⟨[], [], 32⟩) (fun b hr p => ?_) ?_
 ·refine jaa (lp G p (fun a => ⟨[(0, dV s), (1, dV v), (7, dV (s.length : Int)), (8, dV a)], [], 32⟩) ?_)
  rintro a c hb p
  rw [ybn] at p
  refine rg G (jab (cd p ?_ ?_)) <;> intro p
  ·refine jad (thN (jab (jaa (rg G ?_))))
   obtain ⟨e, h, p⟩ := jae p
   refine rs G (hD 3 h h0) ?_
   refine cd p ?_ ?_ <;> intro p
   ·refine rg G ?_
    have p := eL p hb hr
    cases p
    exact rt [] []
   ·exact jad (ibN (thN (rh G (wL G p))))
  ·exact jag (thE (thE (ibE (wE G p hb))))
 rintro ⟨⟩ p d hw
 refine thN (jah hw ?_)
 refine rg G ?_
 cases p
 exact rt [] []
def ykp : MS (Network × Line) Bool := mS zq26
theorem yp0 : FnOK Tryz.prog tJ 191 ykp.S := by
 refine fm tt ykp [fo ye7, fo yp1, fo yis] call191 func191 rfl results191 ntmps191 ?_
 rintro ⟨n, l⟩ y cx G (p : zq26 n l = some y)
 unfold zq26 at p
 refine rg G (jab ?_)
 obtain ⟨r, h, p⟩ := jae p
 refine jn p (fun v => ⟨[(2, .ref 16 0), (3, .ref 32 0), (23, dV v)], [bX 16 27 [dV n.Stops, dV n.Lines], bX 32 118 [dV l.Name, dV l.Stops, dV l.Runs]], 64⟩) (fun v p => ?_) ?_
 ·rcases bf p with ⟨hb, p⟩ | ⟨hb, p⟩
  ·refine re G (hN 2 l.Stops (hC 3 (yat h) (hO 5 (.b true) (hP hb h0)))) ?_
   exact wJ G p
  ·refine re G (hN 2 l.Stops (hC 3 (yat h) (hO 5 (.b false) (hP hb (hN 8 l.Runs (hN 11 l.Stops h0)))))) ?_
   exact wJ G p
 rintro v p
 refine cd p ?_ ?_ <;> intro p
 ·refine rg G ?_
  cases p
  exact rt [] []
 ·refine jad (thN (jab (rs G (hN 2 l.Stops h0) ?_)))
  refine tF p (fun _ => ⟨[(3, .ref 16 0)], [bX 16 118 [dV l.Name, dV l.Stops, dV l.Runs]], 48⟩) (fun z hr p => ?_) ?_
  ·refine jaa (lp G p (fun g => ⟨[(2, .ref 16 0), (3, .ref 32 0), (25, dV l.Stops), (26, dV (l.Stops.length : Int)), (27, dV g)], [bX 16 27 [dV n.Stops, dV n.Lines], bX 32 118 [dV l.Name, dV l.Stops, dV l.Runs]], 64⟩) ?_)
   rintro g q d p
   rw [ydc] at p
   refine rg G (jab (cd p ?_ ?_)) <;> intro p
   ·refine jad (thN (jab (jaa ?_)))
    obtain ⟨e, t, p⟩ := jae p
    refine rs G (hD 1 t h0) ?_
    obtain ⟨A, m, p⟩ := jae p
    refine jn p (fun i => ⟨[(2, .ref 16 0), (3, .ref 32 0), (25, dV l.Stops), (26, dV (l.Stops.length : Int)), (27, dV g), (43, dV i)], [bX 16 27 [dV n.Stops, dV n.Lines], bX 32 118 [dV l.Name, dV l.Stops, dV l.Runs]], 64⟩) (fun i p => ?_) ?_
    ·rcases bf p with ⟨a, p⟩ | ⟨a, p⟩
     ·refine re G (hC 2 (yhc.c (_, _) m) (hO 4 (.b true) (hP a h0))) ?_
      exact wJ G p
     ·obtain ⟨B, u, p⟩ := jae p
      refine re G (hC 2 (yhc.c (_, _) m) (hO 4 (.b false) (hP a (hC 8 (ydo.c (_, _) u) h0)))) ?_
      exact wJ G p
    rintro i p
    refine cd p ?_ ?_ <;> intro p
    ·refine rg G ?_
     have p := eL p d hr
     cases p
     exact rt [] []
    ·exact jad (ibN (thN (rh G (wL G p))))
   ·exact jag (thE (thE (ibE (wE G p d))))
  rintro ⟨⟩ p s hw
  refine thN (jah hw ?_)
  refine jab (rs G (hN 2 l.Runs h0) ?_)
  refine tF p (fun _ => ⟨[], [], 32⟩) (fun C j p => ?_) ?_
  ·refine jaa (lp G p (fun o => ⟨[(46, dV l.Runs), (47, dV (l.Runs.length : Int)), (48, dV o)], [], 32⟩) ?_)
   rintro o q f p
   rw [ydb] at p
   refine rg G (jab (cd p ?_ ?_)) <;> intro p
   ·refine jad (thN (jab (jaa ?_)))
    obtain ⟨D, w, p⟩ := jae p
    refine rs G (hD 0 w h0) ?_
    obtain ⟨E, x, p⟩ := jae p
    refine rs G (hC 1 (yat x) h0) ?_
    refine cd p ?_ ?_ <;> intro p
    ·refine rg G ?_
     have p := eL p f j
     cases p
     exact rt [] []
    ·exact jad (ibN (thN (rh G (wL G p))))
   ·exact jag (thE (thE (ibE (wE G p f))))
  rintro ⟨⟩ p H k
  refine thN (jah k ?_)
  refine rg G ?_
  cases p
  exact rt [] []
def ymd : MS Network Bool := mR zq6
theorem yrx : FnOK Tryz.prog tJ 128 ymd.S := by
 refine fm tt ymd [fo ye7, fo yq1, fo ypz, fo yp0] call128 func128 rfl results128 ntmps128 ?_
 rintro n y cx G (p : zq6 n = some y)
 unfold zq6 at p
 refine rg G (jab ?_)
 obtain ⟨r, h, p⟩ := jae p
 refine jn p (fun v => ⟨[(1, .ref 16 0), (28, dV v)], [bX 16 27 [dV n.Stops, dV n.Lines]], 48⟩) (fun v p => ?_) ?_
 ·rcases bf p with ⟨hb, p⟩ | ⟨hb, p⟩
  ·refine re G (hN 2 n.Stops (hC 3 (yat h) (hO 5 (.b true) (hP hb h0)))) ?_
   exact wJ G p
  ·obtain ⟨q, g, p⟩ := jae p
   rcases bf p with ⟨a, p⟩ | ⟨a, p⟩
   ·refine re G (hN 2 n.Stops (hC 3 (yat h) (hO 5 (.b false) (hP hb (hN 8 n.Lines (hC 9 (yat g) (hO 12 (.b true) (hP a h0)))))))) ?_
    exact wJ G p
   ·obtain ⟨t, i, p⟩ := jae p
    rcases bf p with ⟨d, p⟩ | ⟨d, p⟩
    ·refine re G (hN 2 n.Stops (hC 3 (yat h) (hO 5 (.b false) (hP hb (hN 8 n.Lines (hC 9 (yat g) (hO 12 (.b false) (hP a (hC 15 (yd7.c _ i) (hO 18 (.b true) (hP d h0))))))))))) ?_
     exact wJ G p
    ·obtain ⟨u, k, w, l, p⟩ := ob2 p
     refine re G (hN 2 n.Stops (hC 3 (yat h) (hO 5 (.b false) (hP hb (hN 8 n.Lines (hC 9 (yat g) (hO 12 (.b false) (hP a (hC 15 (yd7.c _ i) (hO 18 (.b false) (hP d (hC 20 (yko.c _ k) (hC 21 (yd7.c _ l) h0))))))))))))) ?_
     exact wJ G p
 rintro v p
 refine cd p ?_ ?_ <;> intro p
 ·refine rg G ?_
  cases p
  exact rt [] []
 ·refine jad (thN (jab (rs G (hN 2 n.Lines h0) ?_)))
  refine tF p (fun _ => ⟨[], [], 32⟩) (fun x hr p => ?_) ?_
  ·refine jaa (lp G p (fun j => ⟨[(1, .ref 16 0), (30, dV n.Lines), (31, dV (n.Lines.length : Int)), (32, dV j)], [bX 16 27 [dV n.Stops, dV n.Lines]], 48⟩) ?_)
   rintro j z f p
   rw [ygq] at p
   refine rg G (jab (cd p ?_ ?_)) <;> intro p
   ·refine jad (thN (jab (jaa ?_)))
    obtain ⟨e, m, p⟩ := jae p
    refine rs G (hD 0 m h0) ?_
    obtain ⟨A, o, p⟩ := jae p
    refine rs G (hC 2 (ykp.c (_, _) o) h0) ?_
    refine cd p ?_ ?_ <;> intro p
    ·refine rg G ?_
     have p := eL p f hr
     cases p
     exact rt [] []
    ·exact jad (ibN (thN (rh G (wL G p))))
   ·exact jag (thE (thE (ibE (wE G p f))))
  rintro ⟨⟩ p s hw
  refine thN (jah hw ?_)
  refine rg G ?_
  cases p
  exact rt [] []
def yhe : MS (Network × Int) Bool := mS zq23
theorem ykq {n line y} (p : zq23 n line = some y) : yhe.C (n, line) y := yhe.c (n, line) p
theorem yp3 : FnOK Tryz.prog tJ 192 yhe.S := by
 refine fm tt yhe [] call192 func192 rfl results192 ntmps192 ?_
 rintro ⟨n, line⟩ y cx G (p : zq23 n line = some y)
 unfold zq23 at p
 refine rg G (jn p (fun v => ⟨[(4, dV v)], [], 32⟩) (fun v p => ?_) ?_)
 ·rcases bf p with ⟨hb, p⟩ | ⟨hb, p⟩
  ·refine re G (hO 2 (.b true) (hP hb (hN 6 n.Lines h0))) ?_
   exact wJ G p
  ·refine re G (hO 2 (.b false) (hP hb h0)) ?_
   exact wJ G p
 rintro v p
 cases p
 exact rt [] []
def ymc : MS Int Bool := mR zq7
theorem yo0 {t y} (p : zq7 t = some y) : ymc.C t y := ymc.c t p
theorem yrv : FnOK Tryz.prog tJ 193 ymc.S := by
 refine fm tt ymc [fo ye7] call193 func193 rfl results193 ntmps193 ?_
 rintro t y cx G (p : zq7 t = some y)
 unfold zq7 at p
 refine rg G ?_
 obtain ⟨r, h, p⟩ := jae p
 refine rs G (hC 1 (yat h) h0) ?_
 cases p
 exact rt [] []
def yha : MS (List Int) Int := mR zq30
theorem yr1 {list y} (p : zq30 list = some y) : yha.C list y := yha.c list p
theorem ypw : FnOK Tryz.prog tJ 178 yha.S := by
 refine fm tt yha [] call178 func178 rfl results178 ntmps178 ?_
 rintro list y cx G (p : zq30 list = some y)
 unfold zq30 at p
 refine rg G (rg G (jab (rs G (hN 1 list h0) ?_)))
 refine tl p (fun a => ⟨[(3, dV a)], [], 32⟩) (fun a p => ?_) ?_
 ·refine jaa (lp G p (fun (v, b) => ⟨[(3, dV v), (6, dV list), (7, dV (list.length : Int)), (8, dV b)], [], 32⟩) ?_)
  rintro ⟨v, b⟩ c hb p
  rw [yc9] at p
  refine rg G (jab (cd p ?_ ?_)) <;> intro p
  ·refine jad (thN (jab (jaa ?_)))
   obtain ⟨e, h, p⟩ := jae p
   refine rs G (hD 0 h h0) ?_
   exact rh G (ibN (thN (rh G (wL G p))))
  ·exact jag (thE (thE (ibE (wD G p hb))))
 rintro a p s hw
 refine thN (jah hw ?_)
 refine rg G ?_
 cases p
 exact rt [] []
def ykr : MS (Timetable × Trip) Int := mS zq22
theorem yp4 : FnOK Tryz.prog tJ 112 ykr.S := by
 refine fm tt ykr [fo ypw] call112 func112 rfl results112 ntmps112 ?_
 rintro ⟨t, x⟩ y cx G (p : zq22 t x = some y)
 unfold zq22 at p
 refine rg G ?_
 obtain ⟨c, a, d, b, p⟩ := ob2 p
 refine ds G [] (hD 7 a (hC 10 (yr1 b) h0)) ?_
 cases p
 exact rt [] []
def yk7 : MS Timetable Bool := mR zq12
theorem yqs : FnOK Tryz.prog tJ 129 yk7.S := by
 refine fm tt yk7 [fo yp3, fo yrv, fo yp4] call129 func129 rfl results129 ntmps129 ?_
 rintro t y cx G (p : zq12 t = some y)
 unfold zq12 at p
 refine rg G (jab (rs G (hN 2 t.Trips h0) ?_))
 refine cd p ?_ ?_ <;> intro p
 ·refine rg G ?_
  cases p
  exact rt [] []
 ·refine jad (thN (rg G (jab (rs G (hN 2 t.Trips h0) ?_))))
  refine tF p (fun _ => ⟨[], [], 32⟩) (fun o hr p => ?_) ?_
  ·refine jaa (lp G p (fun (v, i) => ⟨[(1, .ref 16 0), (3, dV v), (11, dV t.Trips), (12, dV (t.Trips.length : Int)), (13, dV i)], [bX 16 30 [dV t.Network.Stops, dV t.Network.Lines, dV t.Trips]], 48⟩) ?_)
   rintro ⟨v, i⟩ q hb p
   rw [yfo] at p
   refine rg G (jab (cd p ?_ ?_)) <;> intro p
   ·refine jad (thN (jab (jaa ?_)))
    obtain ⟨e, h, p⟩ := jae p
    refine rs G (hD 0 h h0) ?_
    refine jab (jn p (fun j => ⟨[(1, .ref 16 0), (5, .ref 32 0), (11, dV t.Trips), (12, dV (t.Trips.length : Int)), (13, dV i), (46, dV j)], [bX 16 30 [dV t.Network.Stops, dV t.Network.Lines, dV t.Trips], bX 32 74 [dV e.Id, dV e.Line, dV e.Start]], 64⟩) (fun j p => ?_) ?_)
    ·rcases bf p with ⟨a, p⟩ | ⟨a, p⟩
     ·refine re G (hO 4 (.b true) (hP a h0)) ?_
      exact wJ G p
     ·rcases bf p with ⟨d, p⟩ | ⟨d, p⟩
      ·refine re G (hO 4 (.b false) (hP a (hO 9 (.b true) (hP d h0)))) ?_
       exact wJ G p
      ·obtain ⟨r, k, p⟩ := jae p
       rcases bf p with ⟨f, p⟩ | ⟨f, p⟩
       ·refine re G (hO 4 (.b false) (hP a (hO 9 (.b false) (hP d (hC 14 (ykq k) (hO 17 (.b true) (hP f h0))))))) ?_
        exact wJ G p
       ·obtain ⟨u, l, p⟩ := jae p
        rcases bf p with ⟨g, p⟩ | ⟨g, p⟩
        ·refine re G (hO 4 (.b false) (hP a (hO 9 (.b false) (hP d (hC 14 (ykq k) (hO 17 (.b false) (hP f (hC 20 (yo0 l) (hO 23 (.b true) (hP g h0)))))))))) ?_
         exact wJ G p
        ·obtain ⟨w, m, x, n, p⟩ := ob2 p
         refine re G (hO 4 (.b false) (hP a (hO 9 (.b false) (hP d (hC 14 (ykq k) (hO 17 (.b false) (hP f (hC 20 (yo0 l) (hO 23 (.b false) (hP g (hC 26 (ykr.c (_, _) m) (hC 27 (yo0 n) h0)))))))))))) ?_
         exact wJ G p
    rintro j p
    refine cd p ?_ ?_ <;> intro p
    ·refine rg G ?_
     have p := eL p hb hr
     cases p
     exact rt [] []
    ·exact jad (thN (rh G (ibN (thN (rh G (wL G p))))))
   ·exact jag (thE (thE (ibE (wE G p hb))))
  rintro ⟨⟩ p s hw
  refine thN (jah hw ?_)
  refine rg G ?_
  cases p
  exact rt [] []
def yjj : MS Timetable Bool := mR zq8
theorem yji : FnOK Tryz.prog tJ 67 yjj.S := by
 refine fm tt yjj [fo yrx, fo yqs] call67 func67 rfl results67 ntmps67 ?_
 rintro t y cx G (p : zq8 t = some y)
 unfold zq8 at p
 refine rg G ?_
 obtain ⟨r, h, p⟩ := jae p
 refine jn p (fun v => ⟨[(2, dV v)], [], 32⟩) (fun v p => ?_) ?_
 ·rcases bf p with ⟨hb, p⟩ | ⟨hb, p⟩
  ·obtain ⟨d, a, p⟩ := jae p
   refine re G (hC 2 (ymd.c _ h) (hO 3 (.b true) (hP hb (hC 5 (yk7.c _ a) h0)))) ?_
   exact wJ G p
  ·refine re G (hC 2 (ymd.c _ h) (hO 3 (.b false) (hP hb h0))) ?_
   exact wJ G p
 rintro v p
 cases p
 exact rt [] []
def yjf : MS (List ByteArray) (List ByteArray) := ⟨.r, zq93, fun _ => .own 0, fun y => [arO 9 y], fun _ _ => []⟩
theorem yoq : FnOK Tryz.prog tJ 227 yjf.S := by
 refine fm tt yjf [] call227 func227 rfl results227 ntmps227 ?_
 rintro s y cx G (p : zq93 s = some y)
 unfold zq93 at p
 obtain ⟨u, h, p⟩ := jae p
 cases p
 refine rg G (jab (jic G.t.ty G.ok 1 (ds := List.map Enc.e s) (es := 1) [] .nil (by kernel_rfl) (by rfl) (by rfl) (by kernel_rfl) ?_))
 intro b hb
 refine jli b (by kernel_rfl) (fun hc => ?_) (fun hc => ?_)
 ·have hl : s = [] := by
   cases s with
   | nil => rfl
   | cons a r => have := hb (by simp); rw [hc] at this; cases this
  subst hl
  refine rg G (jah (Wk_J (x' := ⟨[(2, .own 16)], [(16, some (.arr 9 1 []))], 32⟩) G.hL ⟨[(2, [.o 16])], [], [(16, 9, 1, [])], 32⟩ (by kernel_rfl)) ?_)
  exact rt [16] []
 ·refine sN (rs G (hA 2 16 h h0) ?_)
  exact rt [96] []
def ygf : MS (List Int) (List Int) := ⟨.r, zq92, fun _ => .own 0, fun y => [arO 3 y], fun _ _ => []⟩
theorem yor : FnOK Tryz.prog tJ 115 ygf.S := by
 refine fm tt ygf [] call115 func115 rfl results115 ntmps115 ?_
 rintro s y cx G (p : zq92 s = some y)
 unfold zq92 at p
 obtain ⟨u, h, p⟩ := jae p
 cases p
 refine rg G (jab (jic G.t.ty G.ok 1 (ds := List.map Enc.e s) (es := 1) [] .nil (by kernel_rfl) (by rfl) (by rfl) (by kernel_rfl) ?_))
 intro b hb
 refine jli b (by kernel_rfl) (fun hc => ?_) (fun hc => ?_)
 ·have hl : s = [] := by
   cases s with
   | nil => rfl
   | cons a r => have := hb (by simp); rw [hc] at this; cases this
  subst hl
  refine rg G (jah (Wk_J (x' := ⟨[(2, .own 16)], [(16, some (.arr 3 1 []))], 32⟩) G.hL ⟨[(2, [.o 16])], [], [(16, 3, 1, [])], 32⟩ (by kernel_rfl)) ?_)
  exact rt [16] []
 ·refine sN (rs G (hA 2 8 h h0) ?_)
  exact rt [96] []
def ykt : MS Line Line := ⟨.r, zq19, fun y => .aggv [dV y.Name, .own 0, .own 1], fun y => [arO 3 y.Stops, arO 3 y.Runs], fun _ _ => []⟩
theorem yp6 : FnOK Tryz.prog tJ 228 ykt.S := by
 refine fm tt ykt [fo yor] call228 func228 rfl results228 ntmps228 ?_
 rintro l y cx G (p : zq19 l = some y)
 unfold zq19 at p
 refine rg G ?_
 obtain ⟨d, a, e, b, p⟩ := ob2 p
 refine ds G [(9, [32, 112, 160])] (hC 4 (ygf.c _ a) (hC 7 (ygf.c _ b) h0)) ?_
 cases p
 exact rt [112, 160] []
def yks : MS Network Network := ⟨.r, zq20, fun _ => .aggv [.own 0, .own 1], fun y => [arO 9 y.Stops, taO 118 [none, some 3, some 3] y.Lines], fun _ _ => []⟩
theorem yp5 : FnOK Tryz.prog tJ 194 yks.S := by
 refine fm tt yks [fo yoq, fo yp6] call194 func194 rfl results194 ntmps194 ?_
 rintro n y cx G (p : zq20 n = some y)
 unfold zq20 at p
 refine rg G ?_
 obtain ⟨d, h, o, i, p⟩ := ob2 p
 refine ds G [(9, [80, 144, 176])] (hC 2 (yjf.c _ h) (hN 5 n.Lines (hO 6 (.l (List.map Enc.e (List.replicate (n.Lines.length : Int).toNat ((⟨ByteArray.empty, ([] : List Int), ([] : List Int)⟩ : Line) : Line)))) (hP (mk_p (b := 64) (jgs i) rfl) (hP (jt3 Enc.e (n.Lines.length : Int).toNat ((⟨ByteArray.empty, ([] : List Int), ([] : List Int)⟩ : Line) : Line)) h0))))) ?_
 refine jab (rs G (hN 2 n.Lines h0) ?_)
 refine tl p (fun a => ⟨[(2, .ref 16 0), (3, .ref 32 0)], [bX 16 27 [nS, nS], bX 32 27 [.own 48, .own 64], aX 48 9 d, tX 64 118 [none, some 3, some 3] a 64 none], 96⟩) (fun a p => ?_) ?_
 ·refine jaa (lp G p (fun (v, f) => ⟨[(2, .ref 16 0), (3, .ref 32 0), (15, dV n.Lines), (16, dV (n.Lines.length : Int)), (17, dV v)], [bX 16 27 [nS, nS], bX 32 27 [.own 48, .own 64], aX 48 9 d, tX 64 118 [none, some 3, some 3] f 64 none], 96⟩) ?_)
  rintro ⟨v, f⟩ q hb p
  rw [ydd] at p
  refine rg G (jab (cd p ?_ ?_)) <;> intro p
  ·refine jad (thN (jab (jaa ?_)))
   obtain ⟨e, j, p⟩ := jae p
   refine rs G (hD 1 j h0) ?_
   obtain ⟨k, m, r, g, p⟩ := ob2 p
   refine de G [(6, [64, 272, 273])] (hC 4 (ykt.c _ m) (hD 5 g (hS 6 g k h0))) ?_
   exact ibN (thN (rh G (wL G p)))
  ·exact jag (thE (thE (ibE (wD G p hb))))
 rintro a p s hw
 refine thN (jah hw ?_)
 refine rg G ?_
 cases p
 exact rt [48, 64] []
def yjg : MS (List Trip) (List Trip) := ⟨.r, zq91, fun _ => .own 0, fun y => [arO 74 y], fun _ _ => []⟩
theorem yos : FnOK Tryz.prog tJ 195 yjg.S := by
 refine fm tt yjg [] call195 func195 rfl results195 ntmps195 ?_
 rintro s y cx G (p : zq91 s = some y)
 unfold zq91 at p
 obtain ⟨u, h, p⟩ := jae p
 cases p
 refine rg G (jab (jic G.t.ty G.ok 1 (ds := List.map Enc.e s) (es := 3) [] .nil (by kernel_rfl) (by rfl) (by rfl) (by kernel_rfl) ?_))
 intro b hb
 refine jli b (by kernel_rfl) (fun hc => ?_) (fun hc => ?_)
 ·have hl : s = [] := by
   cases s with
   | nil => rfl
   | cons a r => have := hb (by simp); rw [hc] at this; cases this
  subst hl
  refine rg G (jah (Wk_J (x' := ⟨[(2, .own 16)], [(16, some (.arr 74 3 []))], 32⟩) G.hL ⟨[(2, [.o 16])], [], [(16, 74, 3, [])], 32⟩ (by kernel_rfl)) ?_)
  exact rt [16] []
 ·refine sN (rs G (hA 2 24 h h0) ?_)
  exact rt [96] []
def yd4 : MS Timetable Timetable := ⟨.r, zq21, fun _ => .aggv [.own 0, .own 1, .own 2], fun y => [arO 9 y.Network.Stops, taO 118 [none, some 3, some 3] y.Network.Lines, arO 74 y.Trips], fun _ _ => []⟩
theorem ye9 : FnOK Tryz.prog tJ 130 yd4.S := by
 refine fm tt yd4 [fo yp5, fo yos] call130 func130 rfl results130 ntmps130 ?_
 rintro t y cx G (p : zq21 t = some y)
 unfold zq21 at p
 refine rg G ?_
 obtain ⟨d, a, e, b, p⟩ := ob2 p
 refine ds G [(7, [32, 80, 81, 128])] (hC 2 (yks.c _ a) (hC 5 (yjg.c _ b) h0)) ?_
 cases p
 exact rt [80, 81, 128] []
def ydp : MS ((List Trip) × Trip) Int := mS yd8
theorem yrc {s v y} (p : yd8 s v = some y) : ydp.C (s, v) y := ydp.c (s, v) p
theorem ynh : FnOK Tryz.prog tJ 131 ydp.S := by
 refine fm tt ydp [] call131 func131 rfl results131 ntmps131 ?_
 rintro ⟨s, v⟩ y cx G (p : yd8 s v = some y)
 unfold yd8 at p
 refine rg G (jab (rs G (hN 1 s h0) ?_))
 refine tF p (fun _ => ⟨[], [], 32⟩) (fun c hr p => ?_) ?_
 ·refine jaa (lp G p (fun a => ⟨[(0, dV s), (3, .ref 16 0), (7, dV (s.length : Int)), (8, dV a)], [bX 16 74 [dV v.Id, dV v.Line, dV v.Start]], 48⟩) ?_)
  rintro a d hb p
  rw [ybo] at p
  refine rg G (jab (cd p ?_ ?_)) <;> intro p
  ·refine jad (thN (jab (jaa (rg G ?_))))
   obtain ⟨e, b, p⟩ := jae p
   refine ds G [] (hD 3 b h0) ?_
   refine cd p ?_ ?_ <;> intro p
   ·refine rg G ?_
    have p := eL p hb hr
    cases p
    exact rt [] []
   ·exact jad (ibN (thN (rh G (wL G p))))
  ·exact jag (thE (thE (ibE (wE G p hb))))
 rintro ⟨⟩ p f hw
 refine thN (jah hw ?_)
 refine rg G ?_
 cases p
 exact rt [] []
def ykk : MS (Trip × Int) Bool := ⟨.x .r (.b 3), fun x => zq32 x.1 x.2, fun y => dV y, fun _ => [], fun x _ => [bxO 3 x.2]⟩
theorem ypu : FnOK Tryz.prog tJ 175 ykk.S := by
 refine fm tt ykk [] call175 func175 rfl results175 ntmps175 ?_
 rintro ⟨x, c1⟩ y cx G (p : zq32 x c1 = some y)
 unfold zq32 at p
 refine rg G (rg G ?_)
 cases p
 exact rt [] []
def yf3 : MS ((List Trip) × Int) Int := ⟨⟨[.rd, .fn 175 [.bx]], fun x => [Enc.e x.1, .agg [.sc undef]], fun x => [bxO 3 x.2], 1, 1, fun _ => rfl, fun _ => rfl, rfl, (by
  rintro ⟨a0, a1⟩ ⟨b0, b1⟩ h hO
  have q0 : a0 = b0 := qI 0 h
  have q1 : a1 = b1 := Enc.inj _ _ (congrArg (fun l => (obD l 0).getD 0 (.sc undef)) hO)
  subst q0; subst q1; rfl)⟩, fun x => ynj x.1 x.2, fun y => dV y, fun _ => [], fun x _ => [bxO 3 x.2]⟩
theorem yni : FnOK Tryz.prog tJ 174 yf3.S := by
 refine fm tt yf3 [fo ypu] call174 func174 rfl results174 ntmps174 ?_
 rintro ⟨s, c1⟩ y cx G (p : ynj s c1 = some y)
 obtain ⟨f, hf_f⟩ : ∃ q, (fun (z0 : Trip) => zq32 z0 c1) = q := ⟨_, rfl⟩
 have p : ynk s f = some y := by rw [<- hf_f]; exact p
 unfold ynk at p
 refine rg G (jab (rs G (hN 1 s h0) ?_))
 refine tF p (fun _ => ⟨[(1, .fn 175 [.ref 0 0])], [bX 0 3 [dV c1]], 48⟩) (fun b hr p => ?_) ?_
 ·refine jaa (lp G p (fun v => ⟨[(0, dV s), (1, .fn 175 [.ref 0 0]), (7, dV (s.length : Int)), (8, dV v)], [bX 0 3 [dV c1]], 48⟩) ?_)
  rintro v d hb p
  rw [ybp] at p
  refine rg G (jab (cd p ?_ ?_)) <;> intro p
  ·refine jad (thN (jab (jaa (rg G ?_))))
   obtain ⟨e, h, r, a, p⟩ := ob2 p
   have a : zq32 e c1 = some r := by rw [<- hf_f] at a; exact a
   refine rs G (hD 3 h (hC 5 (ykk.c (_, _) a) h0)) ?_
   refine cd p ?_ ?_ <;> intro p
   ·refine rg G ?_
    have p := eL p hb hr
    cases p
    exact rt [] []
   ·exact jad (ibN (thN (rh G (wL G p))))
  ·exact jag (thE (thE (ibE (wE G p hb))))
 rintro ⟨⟩ p g hw
 refine thN (jah hw ?_)
 refine rg G ?_
 cases p
 exact rt [] []
def ykl : MS (Timetable × Int) Int := mS zq31
theorem ypv : FnOK Tryz.prog tJ 109 ykl.S := by
 refine fm tt ykl [fo yni] call109 func109 rfl results109 ntmps109 ?_
 rintro ⟨t, id⟩ y cx G (p : zq31 t id = some y)
 unfold zq31 at p
 refine rg G ?_
 obtain ⟨r, h, p⟩ := jae p
 refine rs G (hC 3 (yf3.c (_, _) h) h0) ?_
 cases p
 exact rt [] []
def ylb : MS ((List Trip) × Int × (List Trip)) ((List Trip)) := ⟨.x (.m 74) (.x .r (.m 74)), fun x => yrb x.1 x.2.1 x.2.2, fun _ => .own 0, fun y => [arO 74 y], fun _ _ => []⟩
def yla : Go.Shelf.Ren := ⟨fun x => bif Nat.beq x 29 then 229 else bif Nat.beq x 30 then 230 else x, fun x => bif Nat.beq x 24 then 28 else bif Nat.beq x 9 then 74 else bif Nat.beq x 3 then 3 else bif Nat.beq x 4 then 4 else x, fun x => x⟩
theorem yra : Tryz.f196 = { Go.Proofs.Body2.n22 yla with name := "slices.Insert[[]loop.example/g00900/impl.Trip,loop.example/g00900/impl.Trip]", targs := #[28, 74] } := by kernel_rfl
theorem ynf : FnOK Tryz.prog tJ 196 ylb.S := ju2 (α := Trip) (x := tyE74) tt yla call196 (func196.trans (congrArg some yra)) (by kernel_rfl) (by kernel_rfl) (by kernel_rfl) (by kernel_rfl) (by kernel_rfl) func229 (by kernel_rfl) (by kernel_rfl) (by kernel_rfl) (by kernel_rfl)
def ykj : MS (Timetable × Trip) Timetable := ⟨.x .r .r, fun x => zq33 x.1 x.2, fun _ => .aggv [.own 0, .own 1, .own 2], fun y => [arO 9 y.Network.Stops, taO 118 [none, some 3, some 3] y.Network.Lines, arO 74 y.Trips], fun _ _ => []⟩
theorem ypt : FnOK Tryz.prog tJ 132 ykj.S := by
 refine fm tt ykj [fo ye9, fo ynf] call132 func132 rfl results132 ntmps132 ?_
 rintro ⟨t, x⟩ y cx G (p : zq33 t x = some y)
 unfold zq33 at p
 refine rg G (rg G (jn p (fun d => ⟨[(2, .ref 16 0), (3, .ref 32 0), (4, .ref 48 0), (5, dV d)], [bX 16 30 [dV t.Network.Stops, dV t.Network.Lines, dV t.Trips], bX 32 74 [dV x.Id, dV x.Line, dV x.Start], bX 48 30 [nS, nS, nS]], 80⟩) (fun d p => ?_) ?_))
 ·refine jaa (lp G p (fun v => ⟨[(2, .ref 16 0), (3, .ref 32 0), (4, .ref 48 0), (5, dV v)], [bX 16 30 [dV t.Network.Stops, dV t.Network.Lines, dV t.Trips], bX 32 74 [dV x.Id, dV x.Line, dV x.Start], bX 48 30 [nS, nS, nS]], 80⟩) ?_)
  rintro v i hb p
  rw [yaw] at p
  refine jab (jn p (fun e => ⟨[(2, .ref 16 0), (3, .ref 32 0), (4, .ref 48 0), (5, dV v), (22, dV e)], [bX 16 30 [dV t.Network.Stops, dV t.Network.Lines, dV t.Trips], bX 32 74 [dV x.Id, dV x.Line, dV x.Start], bX 48 30 [nS, nS, nS]], 80⟩) (fun e p => ?_) ?_)
  ·rcases bf p with ⟨a, p⟩ | ⟨a, p⟩
   ·obtain ⟨j, f, p⟩ := jae p
    refine de G [] (hN 3 t.Trips (hO 5 (.b true) (hP a (hD 9 f h0)))) ?_
    exact wJ G p
   ·refine de G [] (hN 3 t.Trips (hO 5 (.b false) (hP a h0))) ?_
    exact wJ G p
  rintro e p
  refine cd p ?_ ?_ <;> intro p
  ·exact jad (thN (jaa (rh G (ibN (wL G p)))))
  ·exact jag (thE (thE (ibE (wD G p hb))))
 rintro d p
 obtain ⟨r, g, p⟩ := jae p
 refine rs G (hC 1 (yd4.c _ g) h0) ?_
 obtain ⟨k, h, p⟩ := jae p
 refine rs G (hC 5 (ylb.c (_, _, _) h) h0) ?_
 refine rg G ?_
 cases p
 exact rt [96, 97, 224] []
def yn6 : MS ((List Trip) × Int × Int) ((List Trip)) := ⟨.x (.m 74) (.x .r .r), fun x => zq99 x.1 x.2.1 x.2.2, fun _ => .own 0, fun y => [arO 74 y], fun _ _ => []⟩
def yn5 : Go.Shelf.Ren := ⟨fun x => x, fun x => bif Nat.beq x 24 then 28 else bif Nat.beq x 9 then 74 else bif Nat.beq x 3 then 3 else bif Nat.beq x 4 then 4 else x, fun x => x⟩
theorem yrs : Tryz.f197 = { Go.Proofs.Body2.n24 yn5 with name := "slices.Delete[[]loop.example/g00900/impl.Trip,loop.example/g00900/impl.Trip]", targs := #[28, 74] } := by kernel_rfl
theorem yol : FnOK Tryz.prog tJ 197 yn6.S := ju4 (α := Trip) (x := tyE74) tt yn5 call197 (func197.trans (congrArg some yrs)) (by kernel_rfl) (by kernel_rfl) (by kernel_rfl) (by kernel_rfl) (by kernel_rfl)
def yki : MS (Timetable × Int) Timetable := ⟨.x .r .r, fun x => zq35 x.1 x.2, fun _ => .aggv [.own 0, .own 1, .own 2], fun y => [arO 9 y.Network.Stops, taO 118 [none, some 3, some 3] y.Network.Lines, arO 74 y.Trips], fun _ _ => []⟩
theorem yps : FnOK Tryz.prog tJ 133 yki.S := by
 refine fm tt yki [fo ye9, fo yol] call133 func133 rfl results133 ntmps133 ?_
 rintro ⟨t, i⟩ y cx G (p : zq35 t i = some y)
 unfold zq35 at p
 refine rg G ?_
 obtain ⟨r, h, p⟩ := jae p
 refine rs G (hC 1 (yd4.c _ h) h0) ?_
 obtain ⟨b, a, p⟩ := jae p
 refine rs G (hC 5 (yn6.c (_, _, _) a) h0) ?_
 refine rg G ?_
 cases p
 exact rt [64, 65, 192] []
def yky : MS Timetable (Timetable × Bool) := ⟨.r, zq15, fun y => .tup [dV y.1, dV y.2], fun _ => [], fun _ _ => []⟩
theorem yp8 : FnOK Tryz.prog tJ 134 yky.S := by
 refine fm tt yky [fo yji] call134 func134 rfl results134 ntmps134 ?_
 rintro t y cx G (p : zq15 t = some y)
 unfold zq15 at p
 refine rg G (jab ?_)
 obtain ⟨r, h, p⟩ := jae p
 refine rs G (hC 1 (yjj.c _ h) h0) ?_
 refine cd p ?_ ?_ <;> intro p
 ·refine rg G ?_
  cases p
  exact rt [] [[.z 1, .z 3, .z 3]]
 ·refine jad (thN (rg G ?_))
  cases p
  exact rt [] []
def yir : MS (Timetable × (List Change)) (Timetable × Bool) := ⟨.x .r .r, fun x => zq10 x.1 x.2, fun y => .tup [dV y.1, dV y.2], fun _ => [], fun _ _ => []⟩
theorem yk9 : FnOK Tryz.prog tJ 68 yir.S := by
 refine fm tt yir [fo ye9, fo ynh, fo ypv, fo ypt, fo yps, fo yp8] call68 func68 rfl results68 ntmps68 ?_
 rintro ⟨t, list⟩ y cx G (p : zq10 t list = some y)
 unfold zq10 at p
 refine rg G (jab (rs G (hN 1 list h0) ?_))
 refine cd p ?_ ?_ <;> intro p
 ·refine rg G ?_
  cases p
  exact rt [] [[.z 1, .z 3, .z 3]]
 ·refine jad (thN ?_)
  obtain ⟨r, h, p⟩ := jae p
  refine rs G (hC 1 (yd4.c _ h) h0) ?_
  refine rg G (jab (rs G (hN 1 list h0) ?_))
  refine tF p (fun (k, l, m) => ⟨[(4, .ref 16 0), (6, .ref 32 0)], [bX 16 30 [nS, nS, nS], bX 32 30 [.own 48, .own 64, .own 80], aX 48 9 k, tX 64 118 [none, some 3, some 3] l 64 none, aX 80 74 m], 112⟩) (fun K hr p => ?_) ?_
  ·refine jaa (lp G p (fun (c, v, n, o, q) => ⟨[(4, .ref 16 0), (6, .ref 32 0), (7, dV c), (17, dV list), (18, dV (list.length : Int)), (19, dV v)], [bX 16 30 [nS, nS, nS], bX 32 30 [.own 48, .own 64, .own 80], aX 48 9 n, tX 64 118 [none, some 3, some 3] o 64 none, aX 80 74 q], 112⟩) ?_)
   rintro ⟨c, v, n, o, q⟩ U hb p
   rw [yau] at p
   refine rg G (jab (cd p ?_ ?_)) <;> intro p
   ·refine jad (thN (jF p (fun (c1, C, D, E) => ⟨[(4, .ref 16 0), (6, .ref 32 0), (7, dV c1), (17, dV list), (18, dV (list.length : Int)), (19, dV v)], [bX 16 30 [nS, nS, nS], bX 32 30 [.own 48, .own 64, .own 80], aX 48 9 C, tX 64 118 [none, some 3, some 3] D 64 none, aX 80 74 E], 112⟩) (fun L u p => ?_) ?_))
    ·refine jaa ?_
     obtain ⟨e, M, p⟩ := jae p
     refine rs G (hD 0 M h0) ?_
     refine jab (rg G (cd p ?_ ?_)) <;> intro p
     ·refine rg G ?_
      have p := eR p u
      have p := eL p hb hr
      cases p
      exact rt [] [[.z 1, .z 3, .z 3]]
     ·refine jad (thN (rg G ?_))
      obtain ⟨w, N, p⟩ := jae p
      refine rs G (hC 4 (yrc N) h0) ?_
      refine jaa (jn p (fun x => ⟨[(4, .ref 16 0), (6, .ref 32 0), (7, dV e.Trip.Id), (9, .ref 48 0), (10, dV w), (17, dV list), (18, dV (list.length : Int)), (19, dV v), (38, dV x)], [bX 16 30 [nS, nS, nS], bX 32 30 [.own 64, .own 80, .own 96], bX 48 76 [dV e.Kind, dV e.Trip.Id, dV e.Trip.Line, dV e.Trip.Start, dV e.To], aX 64 9 n, tX 80 118 [none, some 3, some 3] o 80 none, aX 96 74 q], 128⟩) (fun x p => ?_) ?_)
      ·rcases bf p with ⟨a, p⟩ | ⟨a, p⟩
       ·rcases bf p with ⟨g, p⟩ | ⟨g, p⟩
        ·obtain ⟨V, O, p⟩ := jae p
         refine re G (hO 3 (.b true) (hP a (hO 8 (.b true) (hP g (hC 13 (ykl.c (_, _) O) h0))))) ?_
         exact wJ G p
        ·refine re G (hO 3 (.b true) (hP a (hO 8 (.b false) (hP g h0)))) ?_
         exact wJ G p
       ·refine re G (hO 3 (.b false) (hP a h0)) ?_
        exact wJ G p
      rintro x p
      refine cd p ?_ ?_ <;> intro p
      ·obtain ⟨W, Q, p⟩ := jae p
       refine re G (hO 3 (.fz [64, 80, 96] [] []) (hC 3 (ykj.c (_, _) Q) h0)) ?_
       exact ibN (ibN (wF G p))
      ·refine jn p (fun A => ⟨[(4, .ref 16 0), (6, .ref 32 0), (7, dV e.Trip.Id), (9, .ref 48 0), (10, dV w), (17, dV list), (18, dV (list.length : Int)), (19, dV v), (59, dV A)], [bX 16 30 [nS, nS, nS], bX 32 30 [.own 64, .own 80, .own 96], bX 48 76 [dV e.Kind, dV e.Trip.Id, dV e.Trip.Line, dV e.Trip.Start, dV e.To], aX 64 9 n, tX 80 118 [none, some 3, some 3] o 80 none, aX 96 74 q], 128⟩) (fun A p => ?_) ?_
       ·rcases bf p with ⟨d, p⟩ | ⟨d, p⟩
        ·rcases bf p with ⟨i, p⟩ | ⟨i, p⟩
         ·refine re G (hO 3 (.b true) (hP d (hO 8 (.b true) (hP i h0)))) ?_
          exact wJ G p
         ·refine re G (hO 3 (.b true) (hP d (hO 8 (.b false) (hP i h0)))) ?_
          exact wJ G p
        ·refine re G (hO 3 (.b false) (hP d h0)) ?_
         exact wJ G p
       rintro A p
       refine cd p ?_ ?_ <;> intro p
       ·obtain ⟨X, R, p⟩ := jae p
        refine re G (hO 2 (.fz [64, 80, 96] [] []) (hC 2 (yki.c (_, _) R) h0)) ?_
        exact ibN (ibN (wF G p))
       ·refine jn p (fun B => ⟨[(4, .ref 16 0), (6, .ref 32 0), (7, dV e.Trip.Id), (9, .ref 48 0), (10, dV w), (17, dV list), (18, dV (list.length : Int)), (19, dV v), (75, dV B)], [bX 16 30 [nS, nS, nS], bX 32 30 [.own 64, .own 80, .own 96], bX 48 76 [dV e.Kind, dV e.Trip.Id, dV e.Trip.Line, dV e.Trip.Start, dV e.To], aX 64 9 n, tX 80 118 [none, some 3, some 3] o 80 none, aX 96 74 q], 128⟩) (fun B p => ?_) ?_
        ·rcases bf p with ⟨f, p⟩ | ⟨f, p⟩
         ·rcases bf p with ⟨j, p⟩ | ⟨j, p⟩
          ·refine re G (hO 3 (.b true) (hP f (hO 11 (.b true) (hP j h0)))) ?_
           exact wJ G p
          ·refine re G (hO 3 (.b true) (hP f (hO 11 (.b false) (hP j h0)))) ?_
           exact wJ G p
         ·refine re G (hO 3 (.b false) (hP f h0)) ?_
          exact wJ G p
        rintro B p
        refine cd p ?_ ?_ <;> intro p
        ·obtain ⟨H, I, p⟩ := jae p
         refine re G (hD 5 I (hS 7 I (⟨H.Id, H.Line, e.To⟩ : Trip) h0)) ?_
         exact ibN (ibN (wF G p))
        ·refine rg G ?_
         have p := eR p u
         have p := eL p hb hr
         cases p
         exact rt [] [[.z 1, .z 3, .z 3]]
    rintro ⟨c1, C, D, E⟩ p
    exact rh G (wL G p)
   ·exact jag (thE (thE (ibE (wE G p hb))))
  rintro ⟨k, l, m⟩ p s hw
  refine thN (jah hw ?_)
  obtain ⟨Y, T, p⟩ := jae p
  refine rs G (hO 1 (.fz [48, 64, 80] [] []) (hC 1 (yky.c _ T) h0)) ?_
  cases p
  exact rt [] []
def yby : MS (Timetable × (List Change)) Bool := mS zq5
theorem yob : FnOK Tryz.prog tJ 31 yby.S := by
 refine fm tt yby [fo yji, fo yk9] call31 func31 rfl results31 ntmps31 ?_
 rintro ⟨t, list⟩ y cx G (p : zq5 t list = some y)
 unfold zq5 at p
 refine rg G (jab ?_)
 obtain ⟨r, h, p⟩ := jae p
 refine rs G (hC 1 (yjj.c _ h) h0) ?_
 refine cd p ?_ ?_ <;> intro p
 ·refine rg G ?_
  cases p
  exact rt [] []
 ·refine jad (thN ?_)
  obtain ⟨b, a, p⟩ := jae p
  refine rs G (hC 2 (yir.c (_, _) a) h0) ?_
  refine rg G ?_
  cases p
  exact rt [] []
def yku : MS (Change × Change) Bool := ⟨.x .r (.b 76), fun x => zq18 x.1 x.2, fun y => dV y, fun _ => [], fun x _ => [bxO 76 x.2]⟩
theorem yp7 : FnOK Tryz.prog tJ 70 yku.S := by
 refine fm tt yku [] call70 func70 rfl results70 ntmps70 ?_
 rintro ⟨d, c1⟩ y cx G (p : zq18 d c1 = some y)
 unfold zq18 at p
 refine rg G (jn p (fun v => ⟨[(1, .ref 0 0), (3, dV v)], [bX 0 76 [dV c1.Kind, dV c1.Trip.Id, dV c1.Trip.Line, dV c1.Trip.Start, dV c1.To]], 48⟩) (fun v p => ?_) ?_)
 ·rcases bf p with ⟨hb, p⟩ | ⟨hb, p⟩
  ·refine re G (hO 7 (.b true) (hP hb h0)) ?_
   exact wJ G p
  ·refine re G (hO 7 (.b false) (hP hb h0)) ?_
   exact wJ G p
 rintro v p
 cases p
 exact rt [] []
def yf4 : MS ((List Change) × Change) Int := ⟨⟨[.rd, .fn 70 [.bx]], fun x => [Enc.e x.1, .agg [.sc undef]], fun x => [bxO 76 x.2], 1, 1, fun _ => rfl, fun _ => rfl, rfl, (by
  rintro ⟨a0, a1⟩ ⟨b0, b1⟩ h hO
  have q0 : a0 = b0 := qI 0 h
  have q1 : a1 = b1 := Enc.inj _ _ (congrArg (fun l => D.agg (obD l 0)) hO)
  subst q0; subst q1; rfl)⟩, fun x => yrd x.1 x.2, fun y => dV y, fun _ => [], fun x _ => [bxO 76 x.2]⟩
theorem ynl : FnOK Tryz.prog tJ 135 yf4.S := by
 refine fm tt yf4 [fo yp7] call135 func135 rfl results135 ntmps135 ?_
 rintro ⟨s, c1⟩ y cx G (p : yrd s c1 = some y)
 obtain ⟨f, hf_f⟩ : ∃ q, (fun (z0 : Change) => zq18 z0 c1) = q := ⟨_, rfl⟩
 have p : ylc s f = some y := by rw [<- hf_f]; exact p
 unfold ylc at p
 refine rg G (jab (rs G (hN 1 s h0) ?_))
 refine tF p (fun _ => ⟨[(1, .fn 70 [.ref 0 0])], [bX 0 76 [dV c1.Kind, dV c1.Trip.Id, dV c1.Trip.Line, dV c1.Trip.Start, dV c1.To]], 48⟩) (fun b hr p => ?_) ?_
 ·refine jaa (lp G p (fun v => ⟨[(0, dV s), (1, .fn 70 [.ref 0 0]), (7, dV (s.length : Int)), (8, dV v)], [bX 0 76 [dV c1.Kind, dV c1.Trip.Id, dV c1.Trip.Line, dV c1.Trip.Start, dV c1.To]], 48⟩) ?_)
  rintro v d hb p
  rw [ybq] at p
  refine rg G (jab (cd p ?_ ?_)) <;> intro p
  ·refine jad (thN (jab (jaa (rg G ?_))))
   obtain ⟨e, h, r, a, p⟩ := ob2 p
   have a : zq18 e c1 = some r := by rw [<- hf_f] at a; exact a
   refine rs G (hD 3 h (hC 5 (yku.c (_, _) a) h0)) ?_
   refine cd p ?_ ?_ <;> intro p
   ·refine rg G ?_
    have p := eL p hb hr
    cases p
    exact rt [] []
   ·exact jad (ibN (thN (rh G (wL G p))))
  ·exact jag (thE (thE (ibE (wE G p hb))))
 rintro ⟨⟩ p g hw
 refine thN (jah hw ?_)
 refine rg G ?_
 cases p
 exact rt [] []
def yjc : MS ((List Change) × Change) Bool := ⟨⟨[.rd, .fn 70 [.bx]], fun x => [Enc.e x.1, .agg [.sc undef]], fun x => [bxO 76 x.2], 1, 1, fun _ => rfl, fun _ => rfl, rfl, (by
  rintro ⟨a0, a1⟩ ⟨b0, b1⟩ h hO
  have q0 : a0 = b0 := qI 0 h
  have q1 : a1 = b1 := Enc.inj _ _ (congrArg (fun l => D.agg (obD l 0)) hO)
  subst q0; subst q1; rfl)⟩, fun x => zq98 x.1 x.2, fun y => dV y, fun _ => [], fun x _ => [bxO 76 x.2]⟩
theorem yom : FnOK Tryz.prog tJ 69 yjc.S := by
 refine fm tt yjc [fo ynl] call69 func69 rfl results69 ntmps69 ?_
 rintro ⟨s, c1⟩ y cx G (p : zq98 s c1 = some y)
 obtain ⟨f, hf_f⟩ : ∃ q, (fun (z0 : Change) => zq18 z0 c1) = q := ⟨_, rfl⟩
 have p : zq97 s f = some y := by rw [<- hf_f]; exact p
 unfold zq97 at p
 refine rg G ?_
 obtain ⟨r, h, p⟩ := jae p
 have h : yrd s c1 = some r := by rw [<- hf_f] at h; exact h
 refine rs G (hC 2 (yf4.c (_, _) h) h0) ?_
 cases p
 exact rt [] []
def yhf : MS ((List Change) × (List Change)) ((List Int)) := ⟨.x .r .r, fun x => zq17 x.1 x.2, fun _ => .own 0, fun y => [arO 3 y], fun _ _ => []⟩
theorem ykv : FnOK Tryz.prog tJ 32 yhf.S := by
 refine fm tt yhf [fo yom] call32 func32 rfl results32 ntmps32 ?_
 rintro ⟨x, y_⟩ y cx G (p : zq17 x y_ = some y)
 unfold zq17 at p
 refine rg G (rg G (jab (rs G (hN 1 x h0) ?_)))
 refine tl p (fun c2 => ⟨[(5, .own 16)], [aX 16 3 c2], 48⟩) (fun c2 p => ?_) ?_
 ·refine jaa (lpP p (fun (v, c) => ⟨[(1, dV y_), (5, .own 16), (8, dV x), (9, dV (x.length : Int)), (10, dV v)], [aX 16 3 c], 48⟩) (Wk_J G.hL ⟨[(1, []), (5, [.o 16]), (8, []), (9, []), (10, [])], [], [(16, 3, 1, [])], 48⟩ (by kernel_rfl)) ?_)
  rintro ⟨v, c⟩ d hb p
  rw [yfa] at p
  refine rg G (jab (cd p ?_ ?_)) <;> intro p
  ·refine jad (thN (jn p (fun c1 => ⟨[(1, dV y_), (5, .own 16), (8, dV x), (9, dV (x.length : Int)), (10, dV v)], [aX 16 3 c1], 48⟩) (fun c1 p => ?_) ?_))
   ·refine jaa ?_
    obtain ⟨e, h, p⟩ := jae p
    refine rs G (hD 0 h h0) ?_
    obtain ⟨r, a, p⟩ := jae p
    refine rs G (hC 2 (yjc.c (_, _) a) h0) ?_
    refine cd p ?_ ?_ <;> intro p
    ·obtain ⟨u, b, p⟩ := jae p
     refine re G (hA 5 8 b h0) ?_
     exact ibN (wJ G p)
    ·exact jad (ibN (wJ G p))
   rintro c1 p
   exact rh G (wL G p)
  ·exact jag (thE (thE (ibE (wD G p hb))))
 rintro c2 p s hw
 refine thN (jah hw ?_)
 refine rg G ?_
 cases p
 exact rt [16] []
def yle : MS Int (List Change) := ⟨.zi, yrf, fun _ => .own 0, fun y => [arO 76 y], fun _ _ => []⟩
def yld : Go.Shelf.Ren := ⟨fun x => bif Nat.beq x 4 then 71 else x, fun x => bif Nat.beq x 22 then 31 else bif Nat.beq x 25 then 76 else bif Nat.beq x 3 then 3 else bif Nat.beq x 4 then 4 else bif Nat.beq x 9 then 9 else bif Nat.beq x 20 then 20 else x, fun x => x⟩
theorem yre : Tryz.f71 = { Go.Proofs.Body8.n4 yld with name := "slices.Grow[[]loop.example/g00900/impl.Change,loop.example/g00900/impl.Change]" } := by kernel_rfl
theorem ynm : FnOK Tryz.prog tJ 71 yle.S := juf (α := Change) (x := tyE76) tt yld (nm := "slices.Grow[[]loop.example/g00900/impl.Change,loop.example/g00900/impl.Change]") (by rfl) call71 (func71.trans (congrArg some yre)) (b0 := 0) (e0 := false) (b20 := 16) (e20 := false) ⟨Tryz.underlying0, Tryz.t0, Tryz.type0, rfl, rfl, rfl, fun h => by cases h⟩ ⟨Tryz.underlying20, Tryz.t20, Tryz.type20, rfl, rfl, rfl, fun h => by cases h⟩ (by kernel_rfl) (by kernel_rfl) (by kernel_rfl) (by kernel_rfl) (by kernel_rfl) (by kernel_rfl)
def yjd : MS ((List (List Change))) ((List Change)) := ⟨.r, zq96, fun _ => .own 0, fun y => [arO 76 y], fun _ _ => []⟩
theorem yon : FnOK Tryz.prog tJ 33 yjd.S := by
 refine fm tt yjd [fo ynm] call33 func33 rfl results33 ntmps33 ?_
 rintro slices y cx G (p : zq96 slices = some y)
 unfold zq96 at p
 refine rg G (rg G (jab (rs G (hN 1 slices h0) ?_)))
 refine tl p (fun a => ⟨[(0, dV slices), (3, dV a)], [], 32⟩) (fun a p => ?_) ?_
 ·refine jaa (lp G p (fun (v, g) => ⟨[(0, dV slices), (3, dV v), (9, dV slices), (10, dV (slices.length : Int)), (11, dV g)], [], 32⟩) ?_)
  rintro ⟨v, g⟩ k hb p
  rw [yaq] at p
  refine rg G (jab (cd p ?_ ?_)) <;> intro p
  ·refine jad (thN (jab (jaa ?_)))
   obtain ⟨e, h, p⟩ := jae p
   refine rs G (hD 0 h h0) ?_
   refine rs G (hN 2 e h0) ?_
   refine rg G (cd p ?_ ?_) <;> intro p
   ·cases p
   ·exact jad (ibN (thN (rh G (wL G p))))
  ·exact jag (thE (thE (ibE (wD G p hb))))
 rintro a p s hw
 refine thN (jah hw ?_)
 obtain ⟨r, l, p⟩ := jae p
 refine rs G (hC 1 (yle.c _ l) h0) ?_
 refine jab (rs G (hN 1 slices h0) ?_)
 refine tl p (fun b => ⟨[(6, .own 16)], [aX 16 76 b], 48⟩) (fun b p => ?_) ?_
 ·refine jaa (lp G p (fun (i, j) => ⟨[(6, .own 16), (25, dV slices), (26, dV (slices.length : Int)), (27, dV i)], [aX 16 76 j], 48⟩) ?_)
  rintro ⟨i, j⟩ k d p
  rw [yap] at p
  refine rg G (jab (cd p ?_ ?_)) <;> intro p
  ·refine jad (thN (jab (jaa ?_)))
   obtain ⟨o, m, p⟩ := jae p
   refine rs G (hD 0 m h0) ?_
   obtain ⟨u, n, p⟩ := jae p
   refine re G (hA 2 40 n h0) ?_
   exact ibN (thN (rh G (wL G p)))
  ·exact jag (thE (thE (ibE (wD G p d))))
 rintro b p q f
 refine thN (jah f ?_)
 refine rg G ?_
 cases p
 exact rt [16] []
def ymf : MS Int Bool := mR zq1
theorem yr3 : FnOK Tryz.prog tJ 146 ymf.S := by
 refine fm tt ymf [] call146 func146 rfl results146 ntmps146 ?_
 rintro x y cx G (p : zq1 x = some y)
 unfold zq1 at p
 refine rg G (rg G ?_)
 cases p
 exact rt [] []
def yno : MS (Int × Int) Int := mS zq0
theorem yoc : FnOK Tryz.prog tJ 74 yno.S := by
 refine fm tt yno [fo yr3] call74 func74 rfl results74 ntmps74 ?_
 rintro ⟨x, y_⟩ y cx G (p : zq0 x y_ = some y)
 unfold zq0 at p
 refine rg G ?_
 obtain ⟨r, h, p⟩ := jae p
 refine rs G (hC 1 (ymf.c _ h) h0) ?_
 obtain ⟨b, a, p⟩ := jae p
 refine rs G (hC 1 (ymf.c _ a) h0) ?_
 refine jab (rg G (cd p ?_ ?_)) <;> intro p
 ·refine jab (rg G (cd p ?_ ?_)) <;> intro p
  ·refine rg G ?_
   cases p
   exact rt [] []
  ·refine jad (thN (rg G ?_))
   cases p
   exact rt [] []
 ·refine jad (thN (jab (rg G (cd p ?_ ?_)))) <;> intro p
  ·refine rg G ?_
   cases p
   exact rt [] []
  ·refine jad (thN (jab (rg G (cd p ?_ ?_)))) <;> intro p
   ·refine rg G ?_
    cases p
    exact rt [] []
   ·refine jad (thN (jab (rg G (cd p ?_ ?_)))) <;> intro p
    ·refine rg G ?_
     cases p
     exact rt [] []
    ·refine jad (thN (rg G ?_))
     cases p
     exact rt [] []
def yah : MS (Change × Change) Int := mS zq16
theorem yax : FnOK Tryz.prog tJ 35 yah.S := by
 refine fm tt yah [fo yoc] call35 func35 rfl results35 ntmps35 ?_
 rintro ⟨a, b⟩ y cx G (p : zq16 a b = some y)
 unfold zq16 at p
 refine rg G ?_
 obtain ⟨r, h, p⟩ := jae p
 refine rs G (hC 6 (yno.c (_, _) h) h0) ?_
 cases p
 exact rt [] []
def ykh : MS (IK .u64) Int := mR zq37
theorem ypr : FnOK Tryz.prog tJ 145 ykh.S := by
 refine fm tt ykh [] call145 func145 rfl results145 ntmps145 ?_
 rintro x y cx G (p : zq37 x = some y)
 unfold zq37 at p
 refine rg G (jn p (fun (a, v) => ⟨[(0, kV .u64 a), (2, dV v)], [], 32⟩) (fun f p => ?_) ?_)
 ·refine rg G (cd p ?_ ?_) <;> intro p
  ·obtain ⟨u, h, p⟩ := jae p
   refine rs G (hK h h0) ?_
   exact rh G (wJ G p)
  ·exact jad (wJ G p)
 rintro ⟨a, v⟩ p
 refine jn p (fun (b, c) => ⟨[(0, kV .u64 b), (2, dV c)], [], 32⟩) (fun g p => ?_) ?_
 ·refine rg G (cd p ?_ ?_) <;> intro p
  ·obtain ⟨l, i, p⟩ := jae p
   refine rs G (hK i h0) ?_
   exact rh G (wJ G p)
  ·exact jad (wJ G p)
 rintro ⟨b, c⟩ p
 refine jn p (fun (d, e) => ⟨[(0, kV .u64 d), (2, dV e)], [], 32⟩) (fun vv p => ?_) ?_
 ·refine rg G (cd p ?_ ?_) <;> intro p
  ·obtain ⟨m, j, p⟩ := jae p
   refine rs G (hK j h0) ?_
   exact rh G (wJ G p)
  ·exact jad (wJ G p)
 rintro ⟨d, e⟩ p
 obtain ⟨n, k, p⟩ := jae p
 refine rs G (hK k h0) ?_
 cases p
 exact rt [] []
def yd3 : MS (IK .u64) Int := mR zq36
theorem ye6 : FnOK Tryz.prog tJ 73 yd3.S := by
 refine fm tt yd3 [fo ypr] call73 func73 rfl results73 ntmps73 ?_
 rintro x y cx G (p : zq36 x = some y)
 unfold zq36 at p
 refine rg G (jab (cF (jad (thN ?_))))
 obtain ⟨r, h, p⟩ := jae p
 refine rs G (hC 1 (ykh.c _ h) h0) ?_
 cases p
 exact rt [] []
def yfq : MS ((List Change) × Int × Int) ((List Change)) := ⟨⟨[.sl, .rd, .rd, .fn 35 []], fun x => [.sc undef, Enc.e x.2.1, Enc.e x.2.2, .agg []], fun x => [arO 76 x.1], 1, 1, fun _ => rfl, fun _ => rfl, rfl, (by
  rintro ⟨a0, a1, a2⟩ ⟨b0, b1, b2⟩ h hO
  have q0 : a0 = b0 := Enc.inj _ _ (congrArg (fun l => D.sl 5 (obL l 0)) hO)
  have q1 : a1 = b1 := qI 1 h
  have q2 : a2 = b2 := qI 2 h
  subst q0; subst q1; subst q2; rfl)⟩, fun x => yqv x.1 x.2.1 x.2.2, fun _ => .tup [], fun _ => [], fun _ y => [arO 76 y]⟩
theorem ym6 : FnOK Tryz.prog tJ 136 yfq.S := by
 refine fm tt yfq [fo yax] call136 func136 rfl results136 ntmps136 ?_
 rintro ⟨data, a, b⟩ y cx G (p : yqv data a b = some y)
 obtain ⟨cmp, hf_cmp⟩ : ∃ q, (fun (z0 : Change) (z1 : Change) => zq16 z0 z1) = q := ⟨_, rfl⟩
 have p : yqw data a b cmp = some y := by rw [<- hf_cmp]; exact p
 unfold yqw at p
 refine rg G (jaa (lp G p (fun (v, f) => ⟨[(0, .own 0), (1, dV a), (2, dV b), (3, .fn 35 []), (8, dV v)], [aX 0 76 f], 48⟩) ?_))
 rintro ⟨v, f⟩ u hb p
 rw [yij] at p
 refine jab (rg G (cd p ?_ ?_)) <;> intro p
 ·refine jad (thN (jab (jaa (rg G (tl p (fun d => ⟨[(0, .own 0), (1, dV a), (2, dV b), (3, .fn 35 []), (8, dV v)], [aX 0 76 d], 48⟩) (fun d p => ?_) ?_)))))
  ·refine jaa (lp G p (fun (m, e) => ⟨[(0, .own 0), (1, dV a), (2, dV b), (3, .fn 35 []), (8, dV v), (9, dV m)], [aX 0 76 e], 48⟩) ?_)
   rintro ⟨m, e⟩ u n p
   rw [yik] at p
   refine jab (jn p (fun o => ⟨[(0, .own 0), (1, dV a), (2, dV b), (3, .fn 35 []), (8, dV v), (9, dV m), (34, dV o)], [aX 0 76 e], 48⟩) (fun o p => ?_) ?_)
   ·rcases bf p with ⟨g, p⟩ | ⟨g, p⟩
    ·obtain ⟨w, r, x, t, z, l, p⟩ := ob3 p
     have l : zq16 w x = some z := by rw [<- hf_cmp] at l; exact l
     refine de G [(14, [])] (hO 3 (.b true) (hP g (hD 7 r (hE 8 r (hD 12 t (hE 13 t (hC 14 (yah.c (_, _) l) h0))))))) ?_
     exact wJ G p
    ·refine de G [(14, [])] (hO 3 (.b false) (hP g h0)) ?_
     exact wJ G p
   rintro o p
   refine cd p ?_ ?_ <;> intro p
   ·refine jad (thN (jab (jaa ?_)))
    obtain ⟨A, h, B, i, C, j, p⟩ := ob3 p
    obtain ⟨D, k, p⟩ := jae p
    refine de G [(15, [0]), (17, [0])] (hD 8 h (hE 9 h (hD 12 i (hE 13 i (hD 14 j (hS 15 j A (hD 16 k (hS 17 k B h0)))))))) ?_
    exact ibN (thN (rh G (wL G p)))
   ·exact jag (thE (thE (ibE (wD G p n))))
  rintro d p s hw
  refine ibN (thN (jah hw ?_))
  exact rh G (wL G p)
 ·have p := eD p hb
  refine jag (thE (thE (ibE ?_)))
  cases p
  exact fN [] []
def ydi : MS ((List Change) × Int × Int × Int) ((List Change)) := ⟨⟨[.sl, .rd, .rd, .rd, .fn 35 []], fun x => [.sc undef, Enc.e x.2.1, Enc.e x.2.2.1, Enc.e x.2.2.2, .agg []], fun x => [arO 76 x.1], 1, 1, fun _ => rfl, fun _ => rfl, rfl, (by
  rintro ⟨a0, a1, a2, a3⟩ ⟨b0, b1, b2, b3⟩ h hO
  have q0 : a0 = b0 := Enc.inj _ _ (congrArg (fun l => D.sl 5 (obL l 0)) hO)
  have q1 : a1 = b1 := qI 1 h
  have q2 : a2 = b2 := qI 2 h
  have q3 : a3 = b3 := qI 3 h
  subst q0; subst q1; subst q2; subst q3; rfl)⟩, fun x => ymm x.1 x.2.1 x.2.2.1 x.2.2.2, fun _ => .tup [], fun _ => [], fun _ y => [arO 76 y]⟩
theorem yml : FnOK Tryz.prog tJ 198 ydi.S := by
 refine fm tt ydi [fo yax] call198 func198 rfl results198 ntmps198 ?_
 rintro ⟨data, lo, hi, first⟩ y cx G (p : ymm data lo hi first = some y)
 obtain ⟨cmp, hf_cmp⟩ : ∃ q, (fun (z0 : Change) (z1 : Change) => zq16 z0 z1) = q := ⟨_, rfl⟩
 have p : ykz data lo hi first cmp = some y := by rw [<- hf_cmp]; exact p
 unfold ykz at p
 refine rg G (jaa (lp G p (fun (v, a) => ⟨[(0, .own 0), (2, dV hi), (3, dV first), (4, .fn 35 []), (10, dV v)], [aX 0 76 a], 48⟩) ?_))
 rintro ⟨v, a⟩ E hb p
 rw [yhi] at p
 refine jaa (rg G (jab (rg G (cd p ?_ ?_)))) <;> intro p
 ·have p := eD p hb
  refine jag (thE (ibX rfl (thE (ibE ?_))))
  cases p
  exact fN [] []
 ·refine jad (thN (jn p (fun l => ⟨[(0, .own 0), (2, dV hi), (3, dV first), (4, .fn 35 []), (10, dV v), (11, dV l)], [aX 0 76 a], 48⟩) (fun l p => ?_) ?_))
  ·refine jn p (fun m => ⟨[(0, .own 0), (2, dV hi), (3, dV first), (4, .fn 35 []), (10, dV v), (11, dV (w64 ((w64 (2 * v)) + 1))), (40, dV m)], [aX 0 76 a], 48⟩) (fun m p => ?_) ?_
   ·rcases bf p with ⟨e, p⟩ | ⟨e, p⟩
    ·obtain ⟨u, r, w, s, x, k, p⟩ := ob3 p
     have k : zq16 u w = some x := by rw [<- hf_cmp] at k; exact k
     refine de G [(19, [])] (hO 4 (.b true) (hP e (hD 10 r (hE 11 r (hD 17 s (hE 18 s (hC 19 (yah.c (_, _) k) h0))))))) ?_
     exact wJ G p
    ·refine de G [(19, [])] (hO 4 (.b false) (hP e h0)) ?_
     exact wJ G p
   rintro m p
   refine cd p ?_ ?_ <;> intro p
   ·exact rh G (wJ G p)
   ·exact jad (wJ G p)
  rintro l p
  refine jab ?_
  obtain ⟨z, t, A, f, B, d, p⟩ := ob3 p
  have d : zq16 z A = some B := by rw [<- hf_cmp] at d; exact d
  refine ds G [(13, [])] (hD 5 t (hE 6 t (hD 11 f (hE 12 f (hC 13 (yah.c (_, _) d) h0))))) ?_
  refine cd p ?_ ?_ <;> intro p
  ·have p := eD p hb
   cases p
   exact rt [] []
  ·refine jad (thN ?_)
   obtain ⟨n, g, o, h, C, i, p⟩ := ob3 p
   obtain ⟨D, j, p⟩ := jae p
   refine ds G [(21, [0]), (23, [0])] (hD 12 g (hE 13 g (hD 18 h (hE 19 h (hD 20 i (hS 21 i n (hD 22 j (hS 23 j o h0)))))))) ?_
   exact rh G (ibN (wL G p))
def yfs : MS ((List Change) × Int × Int) ((List Change)) := ⟨⟨[.sl, .rd, .rd, .fn 35 []], fun x => [.sc undef, Enc.e x.2.1, Enc.e x.2.2, .agg []], fun x => [arO 76 x.1], 1, 1, fun _ => rfl, fun _ => rfl, rfl, (by
  rintro ⟨a0, a1, a2⟩ ⟨b0, b1, b2⟩ h hO
  have q0 : a0 = b0 := Enc.inj _ _ (congrArg (fun l => D.sl 5 (obL l 0)) hO)
  have q1 : a1 = b1 := qI 1 h
  have q2 : a2 = b2 := qI 2 h
  subst q0; subst q1; subst q2; rfl)⟩, fun x => yqz x.1 x.2.1 x.2.2, fun _ => .tup [], fun _ => [], fun _ y => [arO 76 y]⟩
theorem ym8 : FnOK Tryz.prog tJ 137 yfs.S := by
 refine fm tt yfs [fo yml] call137 func137 rfl results137 ntmps137 ?_
 rintro ⟨data, a, b⟩ y cx G (p : yqz data a b = some y)
 obtain ⟨cmp, hf_cmp⟩ : ∃ q, (fun (z0 : Change) (z1 : Change) => zq16 z0 z1) = q := ⟨_, rfl⟩
 have p : yq0 data a b cmp = some y := by rw [<- hf_cmp]; exact p
 unfold yq0 at p
 refine rg G (rg G (rg G (jab ?_)))
 obtain ⟨u, h, p⟩ := jae p
 refine rs G (hK h h0) ?_
 refine tl p (fun d => ⟨[(0, .own 0), (3, .fn 35 []), (8, dV a), (9, kV .i64 0), (10, dV (w64 (b - a)))], [aX 0 76 d], 48⟩) (fun d p => ?_) ?_
 ·refine jaa (lp G p (fun (v, e) => ⟨[(0, .own 0), (3, .fn 35 []), (8, dV a), (9, kV .i64 0), (10, dV (w64 (b - a))), (11, dV v)], [aX 0 76 e], 48⟩) ?_)
  rintro ⟨v, e⟩ x hb p
  rw [yio] at p
  refine jab (rg G (cd p ?_ ?_)) <;> intro p
  ·refine jad (thN (jab (jaa ?_)))
   obtain ⟨r, i, p⟩ := jae p
   have i : ymm e v (w64 (b - a)) a = some r := by rw [<- hf_cmp] at i; exact i
   refine re G (hC 5 (ydi.c (_, _, _, _) i) h0) ?_
   exact ibN (thN (rh G (wL G p)))
  ·exact jag (thE (thE (ibE (wD G p hb))))
 rintro d p s hw
 refine thN (jah hw ?_)
 refine rg G (jaa (lp G p (fun (j, f) => ⟨[(0, .own 0), (3, .fn 35 []), (8, dV a), (9, kV .i64 0), (12, dV j)], [aX 0 76 f], 48⟩) ?_))
 rintro ⟨j, f⟩ x k p
 rw [yin] at p
 refine jab (rg G (cd p ?_ ?_)) <;> intro p
 ·refine jad (thN (jab (jaa ?_)))
  obtain ⟨l, m, n, o, A, t, p⟩ := ob3 p
  obtain ⟨B, w, p⟩ := jae p
  refine ds G [(17, [0]), (19, [0])] (hD 10 m (hE 11 m (hD 14 o (hE 15 o (hD 16 t (hS 17 t l (hD 18 w (hS 19 w n h0)))))))) ?_
  obtain ⟨z, g, p⟩ := jae p
  have g : ymm ((f.set a.toNat l).set (w64 (a + j)).toNat n) 0 j a = some z := by rw [<- hf_cmp] at g; exact g
  refine re G (hC 5 (ydi.c (_, _, _, _) g) h0) ?_
  exact ibN (thN (rh G (wL G p)))
 ·have p := eD p k
  refine jag (thE (thE (ibE ?_)))
  cases p
  exact fN [] []
def yb5 : MS ((List Change) × Int × Int × Int) (Int × Int × Int) := ⟨⟨[.rd, .rd, .rd, .bx, .fn 35 []], fun x => [Enc.e x.1, Enc.e x.2.1, Enc.e x.2.2.1, .sc undef, .agg []], fun x => [bxO 3 x.2.2.2], 1, 1, fun _ => rfl, fun _ => rfl, rfl, (by
  rintro ⟨a0, a1, a2, a3⟩ ⟨b0, b1, b2, b3⟩ h hO
  have q0 : a0 = b0 := qI 0 h
  have q1 : a1 = b1 := qI 1 h
  have q2 : a2 = b2 := qI 2 h
  have q3 : a3 = b3 := Enc.inj _ _ (congrArg (fun l => (obD l 0).getD 0 (.sc undef)) hO)
  subst q0; subst q1; subst q2; subst q3; rfl)⟩, fun x => yk3 x.1 x.2.1 x.2.2.1 x.2.2.2, fun y => .tup [dV y.1, dV y.2.1], fun _ => [], fun _ y => [bxO 3 y.2.2]⟩
theorem ym0 : FnOK Tryz.prog tJ 231 yb5.S := by
 refine fm tt yb5 [fo yax] call231 func231 rfl results231 ntmps231 ?_
 rintro ⟨data, a, b, swaps⟩ y cx G (p : yk3 data a b swaps = some y)
 obtain ⟨cmp, hf_cmp⟩ : ∃ q, (fun (z0 : Change) (z1 : Change) => zq16 z0 z1) = q := ⟨_, rfl⟩
 have p : yi0 data a b swaps cmp = some y := by rw [<- hf_cmp]; exact p
 unfold yi0 at p
 refine rg G (jab ?_)
 obtain ⟨e, f, g, h, i, d, p⟩ := ob3 p
 have d : zq16 e g = some i := by rw [<- hf_cmp] at d; exact d
 refine ds G [(9, [])] (hD 3 f (hD 7 h (hC 9 (yah.c (_, _) d) h0))) ?_
 refine cd p ?_ ?_ <;> intro p
 ·refine rg G (rg G ?_)
  cases p
  exact rt [] []
 ·refine jad (thN (rg G ?_))
  cases p
  exact rt [] []
def ydm : MS ((List Change) × Int × Int × Int × Int) (Int × Int) := ⟨⟨[.rd, .rd, .rd, .rd, .bx, .fn 35 []], fun x => [Enc.e x.1, Enc.e x.2.1, Enc.e x.2.2.1, Enc.e x.2.2.2.1, .sc undef, .agg []], fun x => [bxO 3 x.2.2.2.2], 1, 1, fun _ => rfl, fun _ => rfl, rfl, (by
  rintro ⟨a0, a1, a2, a3, a4⟩ ⟨b0, b1, b2, b3, b4⟩ h hO
  have q0 : a0 = b0 := qI 0 h
  have q1 : a1 = b1 := qI 1 h
  have q2 : a2 = b2 := qI 2 h
  have q3 : a3 = b3 := qI 3 h
  have q4 : a4 = b4 := Enc.inj _ _ (congrArg (fun l => (obD l 0).getD 0 (.sc undef)) hO)
  subst q0; subst q1; subst q2; subst q3; subst q4; rfl)⟩, fun x => ym2 x.1 x.2.1 x.2.2.1 x.2.2.2.1 x.2.2.2.2, fun y => dV y.1, fun _ => [], fun _ y => [bxO 3 y.2]⟩
theorem yig : FnOK Tryz.prog tJ 202 ydm.S := by
 refine fm tt ydm [fo ym0] call202 func202 rfl results202 ntmps202 ?_
 rintro ⟨data, a, b, c, swaps⟩ y cx G (p : ym2 data a b c swaps = some y)
 obtain ⟨cmp, hf_cmp⟩ : ∃ q, (fun (z0 : Change) (z1 : Change) => zq16 z0 z1) = q := ⟨_, rfl⟩
 have p : yk5 data a b c swaps cmp = some y := by rw [<- hf_cmp]; exact p
 unfold yk5 at p
 refine rg G ?_
 obtain ⟨r, h, p⟩ := jae p
 have h : yk3 data a b swaps = some r := by rw [<- hf_cmp] at h; exact h
 refine rs G (hC 5 (yb5.c (_, _, _, _) h) h0) ?_
 obtain ⟨f, d, p⟩ := jae p
 have d : yk3 data r.2.1 c r.2.2 = some f := by rw [<- hf_cmp] at d; exact d
 refine rs G (hC 5 (yb5.c (_, _, _, _) d) h0) ?_
 obtain ⟨g, e, p⟩ := jae p
 have e : yk3 data r.1 f.1 f.2.2 = some g := by rw [<- hf_cmp] at e; exact e
 refine rs G (hC 5 (yb5.c (_, _, _, _) e) h0) ?_
 refine rg G ?_
 cases p
 exact rt [] []
def yb7 : MS ((List Change) × Int × Int) (Int × Int) := ⟨⟨[.rd, .rd, .bx, .fn 35 []], fun x => [Enc.e x.1, Enc.e x.2.1, .sc undef, .agg []], fun x => [bxO 3 x.2.2], 1, 1, fun _ => rfl, fun _ => rfl, rfl, (by
  rintro ⟨a0, a1, a2⟩ ⟨b0, b1, b2⟩ h hO
  have q0 : a0 = b0 := qI 0 h
  have q1 : a1 = b1 := qI 1 h
  have q2 : a2 = b2 := Enc.inj _ _ (congrArg (fun l => (obD l 0).getD 0 (.sc undef)) hO)
  subst q0; subst q1; subst q2; rfl)⟩, fun x => yk8 x.1 x.2.1 x.2.2, fun y => dV y.1, fun _ => [], fun _ y => [bxO 3 y.2]⟩
theorem ym4 : FnOK Tryz.prog tJ 201 yb7.S := by
 refine fm tt yb7 [fo yig] call201 func201 rfl results201 ntmps201 ?_
 rintro ⟨data, a, swaps⟩ y cx G (p : yk8 data a swaps = some y)
 obtain ⟨cmp, hf_cmp⟩ : ∃ q, (fun (z0 : Change) (z1 : Change) => zq16 z0 z1) = q := ⟨_, rfl⟩
 have p : yi2 data a swaps cmp = some y := by rw [<- hf_cmp]; exact p
 unfold yi2 at p
 refine rg G ?_
 obtain ⟨r, h, p⟩ := jae p
 have h : ym2 data (w64 (a - 1)) a (w64 (a + 1)) swaps = some r := by rw [<- hf_cmp] at h; exact h
 refine rs G (hC 8 (ydm.c (_, _, _, _, _) h) h0) ?_
 cases p
 exact rt [] []
def yfu : MS ((List Change) × Int × Int) (Int × Int) := ⟨⟨[.rd, .rd, .rd, .fn 35 []], fun x => [Enc.e x.1, Enc.e x.2.1, Enc.e x.2.2, .agg []], fun x => [], 0, 0, fun _ => rfl, fun _ => rfl, rfl, (by
  rintro ⟨a0, a1, a2⟩ ⟨b0, b1, b2⟩ h hO
  have q0 : a0 = b0 := qI 0 h
  have q1 : a1 = b1 := qI 1 h
  have q2 : a2 = b2 := qI 2 h
  subst q0; subst q1; subst q2; rfl)⟩, fun x => yq4 x.1 x.2.1 x.2.2, fun y => .tup [dV y.1, dV y.2], fun _ => [], fun _ _ => []⟩
theorem yna : FnOK Tryz.prog tJ 139 yfu.S := by
 refine fm tt yfu [fo ym4, fo yig] call139 func139 rfl results139 ntmps139 ?_
 rintro ⟨data, a, b⟩ y cx G (p : yq4 data a b = some y)
 obtain ⟨cmp, hf_cmp⟩ : ∃ q, (fun (z0 : Change) (z1 : Change) => zq16 z0 z1) = q := ⟨_, rfl⟩
 have p : yq5 data a b cmp = some y := by rw [<- hf_cmp]; exact p
 unfold yq5 at p
 refine rg G (rg G (rg G ?_))
 obtain ⟨u, h, p⟩ := jae p
 refine rs G (hK h h0) ?_
 obtain ⟨z, o, p⟩ := jae p
 refine rs G (hK o h0) ?_
 obtain ⟨A, s, p⟩ := jae p
 refine rs G (hK s h0) ?_
 refine jn p (fun (v, m) => ⟨[(3, .fn 35 []), (11, .ref 16 0), (13, dV v)], [bX 16 3 [dV m]], 48⟩) (fun t p => ?_) ?_
 ·refine rg G (cd p ?_ ?_) <;> intro p
  ·refine jn p (fun (i, j, k, l) => ⟨[(0, dV data), (3, .fn 35 []), (11, .ref 16 0), (12, dV i), (13, dV j), (14, dV k)], [bX 16 3 [dV l]], 48⟩) (fun vv p => ?_) ?_
   ·refine rg G (cd p ?_ ?_) <;> intro p
    ·obtain ⟨r, d, p⟩ := jae p
     have d : yk8 data (w64 (a + (w64 ((w64 ((w64 (b - a)).tdiv 4)) * 1)))) 0 = some r := by rw [<- hf_cmp] at d; exact d
     refine rs G (hC 3 (yb7.c (_, _, _) d) h0) ?_
     obtain ⟨n, e, p⟩ := jae p
     have e : yk8 data (w64 (a + (w64 ((w64 ((w64 (b - a)).tdiv 4)) * 2)))) r.2 = some n := by rw [<- hf_cmp] at e; exact e
     refine rs G (hC 3 (yb7.c (_, _, _) e) h0) ?_
     obtain ⟨w, f, p⟩ := jae p
     have f : yk8 data (w64 (a + (w64 ((w64 ((w64 (b - a)).tdiv 4)) * 3)))) n.2 = some w := by rw [<- hf_cmp] at f; exact f
     refine re G (hC 3 (yb7.c (_, _, _) f) h0) ?_
     exact wJ G p
    ·exact jad (wJ G p)
   rintro ⟨i, j, k, l⟩ p
   obtain ⟨x, g, p⟩ := jae p
   have g : ym2 data i j k l = some x := by rw [<- hf_cmp] at g; exact g
   refine re G (hC 5 (ydm.c (_, _, _, _, _) g) h0) ?_
   exact wJ G p
  ·exact jad (wJ G p)
 rintro ⟨v, m⟩ p
 refine rg G (jaa (rg G (cd p ?_ ?_))) <;> intro p
 ·refine rg G ?_
  cases p
  exact rt [] []
 ·refine rg G (cd p ?_ ?_) <;> intro p
  ·refine rg G ?_
   cases p
   exact rt [] []
  ·refine rg G ?_
   cases p
   exact rt [] []
def yff : MS ((List Change) × Int × Int) ((List Change)) := ⟨⟨[.sl, .rd, .rd, .fn 35 []], fun x => [.sc undef, Enc.e x.2.1, Enc.e x.2.2, .agg []], fun x => [arO 76 x.1], 1, 1, fun _ => rfl, fun _ => rfl, rfl, (by
  rintro ⟨a0, a1, a2⟩ ⟨b0, b1, b2⟩ h hO
  have q0 : a0 = b0 := Enc.inj _ _ (congrArg (fun l => D.sl 5 (obL l 0)) hO)
  have q1 : a1 = b1 := qI 1 h
  have q2 : a2 = b2 := qI 2 h
  subst q0; subst q1; subst q2; rfl)⟩, fun x => yqb x.1 x.2.1 x.2.2, fun _ => .tup [], fun _ => [], fun _ y => [arO 76 y]⟩
theorem ymo : FnOK Tryz.prog tJ 140 yff.S := by
 refine fm tt yff [] call140 func140 rfl results140 ntmps140 ?_
 rintro ⟨data, a, b⟩ y cx G (p : yqb data a b = some y)
 obtain ⟨cmp, hf_cmp⟩ : ∃ q, (fun (z0 : Change) (z1 : Change) => zq16 z0 z1) = q := ⟨_, rfl⟩
 have p : yqc data a b cmp = some y := by rw [<- hf_cmp]; exact p
 unfold yqc at p
 refine rg G (rg G (jaa (lp G p (fun (v, d, c) => ⟨[(0, .own 0), (3, .fn 35 []), (8, dV v), (9, dV d)], [aX 0 76 c], 48⟩) ?_)))
 rintro ⟨v, d, c⟩ k hb p
 rw [yhk] at p
 refine jab (rg G (cd p ?_ ?_)) <;> intro p
 ·refine jad (thN (jaa ?_))
  obtain ⟨i, e, j, f, l, g, p⟩ := ob3 p
  obtain ⟨m, h, p⟩ := jae p
  refine ds G [(13, [0]), (15, [0])] (hD 6 e (hE 7 e (hD 10 f (hE 11 f (hD 12 g (hS 13 g i (hD 14 h (hS 15 h j h0)))))))) ?_
  exact rg G (rh G (ibN (wL G p)))
 ·have p := eD p hb
  refine jag (thE (thE (ibE ?_)))
  cases p
  exact fN [] []
def yfn : MS ((List Change) × Int × Int) (Bool × (List Change)) := ⟨⟨[.sl, .rd, .rd, .fn 35 []], fun x => [.sc undef, Enc.e x.2.1, Enc.e x.2.2, .agg []], fun x => [arO 76 x.1], 1, 1, fun _ => rfl, fun _ => rfl, rfl, (by
  rintro ⟨a0, a1, a2⟩ ⟨b0, b1, b2⟩ h hO
  have q0 : a0 = b0 := Enc.inj _ _ (congrArg (fun l => D.sl 5 (obL l 0)) hO)
  have q1 : a1 = b1 := qI 1 h
  have q2 : a2 = b2 := qI 2 h
  subst q0; subst q1; subst q2; rfl)⟩, fun x => yqp x.1 x.2.1 x.2.2, fun y => dV y.1, fun _ => [], fun _ y => [arO 76 y.2]⟩
theorem ymy : FnOK Tryz.prog tJ 141 yfn.S := by
 refine fm tt yfn [fo yax] call141 func141 rfl results141 ntmps141 ?_
 rintro ⟨data, a, b⟩ y cx G (p : yqp data a b = some y)
 obtain ⟨cmp, hf_cmp⟩ : ∃ q, (fun (z0 : Change) (z1 : Change) => zq16 z0 z1) = q := ⟨_, rfl⟩
 have p : yqq data a b cmp = some y := by rw [<- hf_cmp]; exact p
 unfold yqq at p
 refine rg G (rg G (jab (rg G (tF p (fun h => ⟨[(0, .own 0), (3, .fn 35 [])], [aX 0 76 h], 48⟩) (fun v9 hr p => ?_) ?_))))
 ·refine jaa (lp G p (fun (v, i, d) => ⟨[(0, .own 0), (1, dV a), (2, dV b), (3, .fn 35 []), (9, dV v), (10, dV i)], [aX 0 76 d], 48⟩) ?_)
  rintro ⟨v, i, d⟩ U hb p
  rw [yh9] at p
  refine jab (rg G (cd p ?_ ?_)) <;> intro p
  ·refine jad (thN (jF p (fun (v2, j) => ⟨[(0, .own 0), (1, dV a), (2, dV b), (3, .fn 35 []), (9, dV v2), (10, dV i)], [aX 0 76 j], 48⟩) (fun v8 t p => ?_) ?_))
   ·refine jaa (jn p (fun o => ⟨[(0, .own 0), (1, dV a), (2, dV b), (3, .fn 35 []), (9, dV o), (10, dV i)], [aX 0 76 d], 48⟩) (fun o p => ?_) ?_)
    ·refine jaa (lp G p (fun V => ⟨[(0, .own 0), (1, dV a), (2, dV b), (3, .fn 35 []), (9, dV V), (10, dV i)], [aX 0 76 d], 48⟩) ?_)
     rintro V U W p
     rw [yic] at p
     refine jab (jn p (fun X => ⟨[(0, .own 0), (1, dV a), (2, dV b), (3, .fn 35 []), (9, dV V), (10, dV i), (36, dV X)], [aX 0 76 d], 48⟩) (fun X p => ?_) ?_)
     ·rcases bf p with ⟨r, p⟩ | ⟨r, p⟩
      ·obtain ⟨e2, h3, e3, h4, r1, T, p⟩ := ob3 p
       have T : zq16 e2 e3 = some r1 := by rw [<- hf_cmp] at T; exact T
       refine de G [(14, [])] (hO 3 (.b true) (hP r (hD 7 h3 (hE 8 h3 (hD 12 h4 (hE 13 h4 (hC 14 (yah.c (_, _) T) h0))))))) ?_
       exact wJ G p
      ·refine de G [(14, [])] (hO 3 (.b false) (hP r h0)) ?_
       exact wJ G p
     rintro X p
     refine cd p ?_ ?_ <;> intro p
     ·exact jad (thN (jaa (rh G (ibN (wL G p)))))
     ·exact jag (thE (thE (ibE (wD G p W))))
    rintro o p
    refine jab (rg G (cd p ?_ ?_)) <;> intro p
    ·refine rg G ?_
     have p := eR p t
     have p := eL p hb hr
     cases p
     exact rt [] []
    ·refine jad (thN (jab (rg G (cd p ?_ ?_)))) <;> intro p
     ·refine rg G ?_
      have p := eR p t
      have p := eL p hb hr
      cases p
      exact rt [] []
     ·refine jad (thN ?_)
      obtain ⟨Y, u, Z, w, e14, x, p⟩ := ob3 p
      obtain ⟨e15, z, p⟩ := jae p
      refine ds G [(15, [0]), (17, [0])] (hD 8 u (hE 9 u (hD 12 w (hE 13 w (hD 14 x (hS 15 x Y (hD 16 z (hS 17 z Z h0)))))))) ?_
      refine jn p (fun e => ⟨[(0, .own 0), (1, dV a), (2, dV b), (3, .fn 35 []), (9, dV o), (10, dV i)], [aX 0 76 e], 48⟩) (fun e p => ?_) ?_
      ·refine rg G (cd p ?_ ?_) <;> intro p
       ·refine rg G (tl p (fun f => ⟨[(0, .own 0), (1, dV a), (2, dV b), (3, .fn 35 []), (9, dV o), (10, dV i)], [aX 0 76 f], 48⟩) (fun f p => ?_) ?_)
        ·refine jaa (lp G p (fun (v6, k) => ⟨[(0, .own 0), (1, dV a), (2, dV b), (3, .fn 35 []), (9, dV o), (10, dV i), (11, dV v6)], [aX 0 76 k], 48⟩) ?_)
         rintro ⟨v6, k⟩ U A p
         rw [yib] at p
         refine jab (rg G (cd p ?_ ?_)) <;> intro p
         ·refine jad (thN (jab (jaa (jab ?_))))
          obtain ⟨e18, B, e19, C, r7, m, p⟩ := ob3 p
          have m : zq16 e18 e19 = some r7 := by rw [<- hf_cmp] at m; exact m
          refine ds G [(10, [])] (hD 3 B (hE 4 B (hD 8 C (hE 9 C (hC 10 (yah.c (_, _) m) h0))))) ?_
          refine cd p ?_ ?_ <;> intro p
          ·exact jag (thE (ibX rfl (thE (thE (ibE (wD G p A))))))
          ·refine jad (thN ?_)
           obtain ⟨e24, D, e25, E, e26, H, p⟩ := ob3 p
           obtain ⟨e27, I, p⟩ := jae p
           refine de G [(15, [0]), (17, [0])] (hD 8 D (hE 9 D (hD 12 E (hE 13 E (hD 14 H (hS 15 H e24 (hD 16 I (hS 17 I e25 h0)))))))) ?_
           exact ibN (thN (rh G (wL G p)))
         ·exact jag (thE (thE (ibE (wD G p A))))
        rintro f p s hw
        exact wJp p (Wk.trans hw (Wk_J G.hL ⟨[(0, []), (1, []), (2, []), (3, []), (9, []), (10, [])], [(0, 0, [])], [], 48⟩ (by kernel_rfl)))
       ·exact jad (wJ G p)
      rintro e p
      refine rg G (cd p ?_ ?_) <;> intro p
      ·refine rg G (tl p (fun g => ⟨[(0, .own 0), (1, dV a), (2, dV b), (3, .fn 35 []), (9, dV o), (10, dV i)], [aX 0 76 g], 48⟩) (fun g p => ?_) ?_)
       ·refine jaa (lp G p (fun (v7, l) => ⟨[(0, .own 0), (1, dV a), (2, dV b), (3, .fn 35 []), (9, dV o), (10, dV i), (12, dV v7)], [aX 0 76 l], 48⟩) ?_)
        rintro ⟨v7, l⟩ U K p
        rw [yia] at p
        refine jab (rg G (cd p ?_ ?_)) <;> intro p
        ·refine jad (thN (jab (jaa (jab ?_))))
         obtain ⟨e30, L, e31, M, r9, n, p⟩ := ob3 p
         have n : zq16 e30 e31 = some r9 := by rw [<- hf_cmp] at n; exact n
         refine ds G [(10, [])] (hD 3 L (hE 4 L (hD 8 M (hE 9 M (hC 10 (yah.c (_, _) n) h0))))) ?_
         refine cd p ?_ ?_ <;> intro p
         ·exact jag (thE (ibX rfl (thE (thE (ibE (wD G p K))))))
         ·refine jad (thN ?_)
          obtain ⟨e36, N, e37, O, e38, Q, p⟩ := ob3 p
          obtain ⟨e39, R, p⟩ := jae p
          refine de G [(15, [0]), (17, [0])] (hD 8 N (hE 9 N (hD 12 O (hE 13 O (hD 14 Q (hS 15 Q e36 (hD 16 R (hS 17 R e37 h0)))))))) ?_
          exact ibN (thN (rh G (wL G p)))
        ·exact jag (thE (thE (ibE (wD G p K))))
       rintro g p s1 hw1
       exact ibN (wFp p (Wk.trans hw1 (Wk_J G.hL ⟨[(0, []), (1, []), (2, []), (3, []), (9, []), (10, [])], [(0, 0, [])], [], 48⟩ (by kernel_rfl))))
      ·exact jad (ibN (wF G p))
   rintro ⟨v2, j⟩ p
   exact rh G (wL G p)
  ·exact jag (thE (thE (ibE (wE G p hb))))
 rintro h p s2 hw2
 refine thN (jah hw2 ?_)
 refine rg G ?_
 cases p
 exact rt [] []
def yfj : MS ((List Change) × Int × Int × Int) (Int × (List Change)) := ⟨⟨[.sl, .rd, .rd, .rd, .fn 35 []], fun x => [.sc undef, Enc.e x.2.1, Enc.e x.2.2.1, Enc.e x.2.2.2, .agg []], fun x => [arO 76 x.1], 1, 1, fun _ => rfl, fun _ => rfl, rfl, (by
  rintro ⟨a0, a1, a2, a3⟩ ⟨b0, b1, b2, b3⟩ h hO
  have q0 : a0 = b0 := Enc.inj _ _ (congrArg (fun l => D.sl 5 (obL l 0)) hO)
  have q1 : a1 = b1 := qI 1 h
  have q2 : a2 = b2 := qI 2 h
  have q3 : a3 = b3 := qI 3 h
  subst q0; subst q1; subst q2; subst q3; rfl)⟩, fun x => yqh x.1 x.2.1 x.2.2.1 x.2.2.2, fun y => dV y.1, fun _ => [], fun _ y => [arO 76 y.2]⟩
theorem ymu : FnOK Tryz.prog tJ 142 yfj.S := by
 refine fm tt yfj [fo yax] call142 func142 rfl results142 ntmps142 ?_
 rintro ⟨data, a, b, pivot⟩ y cx G (p : yqh data a b pivot = some y)
 obtain ⟨cmp, hf_cmp⟩ : ∃ q, (fun (z0 : Change) (z1 : Change) => zq16 z0 z1) = q := ⟨_, rfl⟩
 have p : yqi data a b pivot cmp = some y := by rw [<- hf_cmp]; exact p
 unfold yqi at p
 refine rg G ?_
 obtain ⟨V, N, W, O, e6, Q, p⟩ := ob3 p
 obtain ⟨e7, R, p⟩ := jae p
 refine ds G [(13, [0]), (15, [0])] (hD 6 N (hE 7 N (hD 10 O (hE 11 O (hD 12 Q (hS 13 Q V (hD 14 R (hS 15 R W h0)))))))) ?_
 refine rg G (jn p (fun (T, e) => ⟨[(0, .own 0), (4, .fn 35 []), (11, dV T)], [aX 0 76 e], 48⟩) (fun vv p => ?_) ?_)
 ·refine jaa (lp G p (fun (v, k, d) => ⟨[(0, .own 0), (1, dV a), (4, .fn 35 []), (11, dV v), (12, dV k)], [aX 0 76 d], 48⟩) ?_)
  rintro ⟨v, k, d⟩ U hb p
  rw [yhs] at p
  refine jaa (jn p (fun j => ⟨[(0, .own 0), (1, dV a), (4, .fn 35 []), (11, dV j), (12, dV k)], [aX 0 76 d], 48⟩) (fun j p => ?_) ?_)
  ·refine jaa (lp G p (fun w => ⟨[(0, .own 0), (1, dV a), (4, .fn 35 []), (11, dV w), (12, dV k)], [aX 0 76 d], 48⟩) ?_)
   rintro w U x p
   rw [yhu] at p
   refine jab (jn p (fun z => ⟨[(0, .own 0), (1, dV a), (4, .fn 35 []), (11, dV w), (12, dV k), (47, dV z)], [aX 0 76 d], 48⟩) (fun z p => ?_) ?_)
   ·rcases bf p with ⟨h, p⟩ | ⟨h, p⟩
    ·obtain ⟨A, l, B, m, X, f, p⟩ := ob3 p
     have f : zq16 A B = some X := by rw [<- hf_cmp] at f; exact f
     refine de G [(13, [])] (hO 3 (.b true) (hP h (hD 7 l (hE 8 l (hD 11 m (hE 12 m (hC 13 (yah.c (_, _) f) h0))))))) ?_
     exact wJ G p
    ·refine de G [(13, [])] (hO 3 (.b false) (hP h h0)) ?_
     exact wJ G p
   rintro z p
   refine cd p ?_ ?_ <;> intro p
   ·exact jad (thN (jaa (rh G (ibN (wL G p)))))
   ·exact jag (thE (thE (ibE (wD G p x))))
  rintro j p
  refine jn p (fun C => ⟨[(0, .own 0), (1, dV a), (4, .fn 35 []), (11, dV j), (12, dV C)], [aX 0 76 d], 48⟩) (fun C p => ?_) ?_
  ·refine jaa (lp G p (fun D => ⟨[(0, .own 0), (1, dV a), (4, .fn 35 []), (11, dV j), (12, dV D)], [aX 0 76 d], 48⟩) ?_)
   rintro D U E p
   rw [yht] at p
   refine jab (jn p (fun H => ⟨[(0, .own 0), (1, dV a), (4, .fn 35 []), (11, dV j), (12, dV D), (65, dV H)], [aX 0 76 d], 48⟩) (fun H p => ?_) ?_)
   ·rcases bf p with ⟨i, p⟩ | ⟨i, p⟩
    ·obtain ⟨I, n, K, o, Y, g, p⟩ := ob3 p
     have g : zq16 I K = some Y := by rw [<- hf_cmp] at g; exact g
     refine de G [(13, [])] (hO 3 (.b true) (hP i (hD 7 n (hE 8 n (hD 11 o (hE 12 o (hC 13 (yah.c (_, _) g) h0))))))) ?_
     exact wJ G p
    ·refine de G [(13, [])] (hO 3 (.b false) (hP i h0)) ?_
     exact wJ G p
   rintro H p
   refine cd p ?_ ?_ <;> intro p
   ·exact jad (thN (jaa (rh G (ibN (wL G p)))))
   ·exact jag (thE (thE (ibE (wD G p E))))
  rintro C p
  refine jab (rg G (cd p ?_ ?_)) <;> intro p
  ·exact jag (thE (ibX rfl (thE (ibE (wD G p hb)))))
  ·refine jad (thN ?_)
   obtain ⟨L, r, M, s, Z, t, p⟩ := ob3 p
   obtain ⟨e23, u, p⟩ := jae p
   refine ds G [(13, [0]), (15, [0])] (hD 6 r (hE 7 r (hD 10 s (hE 11 s (hD 12 t (hS 13 t L (hD 14 u (hS 15 u M h0)))))))) ?_
   exact rg G (rh G (ibN (wL G p)))
 rintro ⟨T, e⟩ p
 refine rg G ?_
 cases p
 exact rt [] []
def yfl : MS ((List Change) × Int × Int × Int) (Int × Bool × (List Change)) := ⟨⟨[.sl, .rd, .rd, .rd, .fn 35 []], fun x => [.sc undef, Enc.e x.2.1, Enc.e x.2.2.1, Enc.e x.2.2.2, .agg []], fun x => [arO 76 x.1], 1, 1, fun _ => rfl, fun _ => rfl, rfl, (by
  rintro ⟨a0, a1, a2, a3⟩ ⟨b0, b1, b2, b3⟩ h hO
  have q0 : a0 = b0 := Enc.inj _ _ (congrArg (fun l => D.sl 5 (obL l 0)) hO)
  have q1 : a1 = b1 := qI 1 h
  have q2 : a2 = b2 := qI 2 h
  have q3 : a3 = b3 := qI 3 h
  subst q0; subst q1; subst q2; subst q3; rfl)⟩, fun x => yql x.1 x.2.1 x.2.2.1 x.2.2.2, fun y => .tup [dV y.1, dV y.2.1], fun _ => [], fun _ y => [arO 76 y.2.2]⟩
theorem ymw : FnOK Tryz.prog tJ 143 yfl.S := by
 refine fm tt yfl [fo yax] call143 func143 rfl results143 ntmps143 ?_
 rintro ⟨data, a, b, pivot⟩ y cx G (p : yql data a b pivot = some y)
 obtain ⟨cmp, hf_cmp⟩ : ∃ q, (fun (z0 : Change) (z1 : Change) => zq16 z0 z1) = q := ⟨_, rfl⟩
 have p : yqm data a b pivot cmp = some y := by rw [<- hf_cmp]; exact p
 unfold yqm at p
 refine rg G ?_
 obtain ⟨k, h4, l, h5, e6, h6, p⟩ := ob3 p
 obtain ⟨e7, h7, p⟩ := jae p
 refine ds G [(13, [0]), (15, [0])] (hD 6 h4 (hE 7 h4 (hD 10 h5 (hE 11 h5 (hD 12 h6 (hS 13 h6 k (hD 14 h7 (hS 15 h7 l h0)))))))) ?_
 refine rg G (jn p (fun w => ⟨[(0, .own 0), (1, dV a), (4, .fn 35 []), (12, dV w), (13, dV (w64 (b - 1)))], [aX 0 76 ((data.set a.toNat k).set pivot.toNat l)], 48⟩) (fun w p => ?_) ?_)
 ·refine jaa (lp G p (fun v => ⟨[(0, .own 0), (1, dV a), (4, .fn 35 []), (12, dV v), (13, dV (w64 (b - 1)))], [aX 0 76 ((data.set a.toNat k).set pivot.toNat l)], 48⟩) ?_)
  rintro v r0 hb p
  rw [yh4] at p
  refine jab (jn p (fun v1 => ⟨[(0, .own 0), (1, dV a), (4, .fn 35 []), (12, dV v), (13, dV (w64 (b - 1))), (47, dV v1)], [aX 0 76 ((data.set a.toNat k).set pivot.toNat l)], 48⟩) (fun v1 p => ?_) ?_)
  ·rcases bf p with ⟨m, p⟩ | ⟨m, p⟩
   ·obtain ⟨e10, x, e11, z, r1, g, p⟩ := ob3 p
    have g : zq16 e10 e11 = some r1 := by rw [<- hf_cmp] at g; exact g
    refine de G [(13, [])] (hO 3 (.b true) (hP m (hD 7 x (hE 8 x (hD 11 z (hE 12 z (hC 13 (yah.c (_, _) g) h0))))))) ?_
    exact wJ G p
   ·refine de G [(13, [])] (hO 3 (.b false) (hP m h0)) ?_
    exact wJ G p
  rintro v1 p
  refine cd p ?_ ?_ <;> intro p
  ·exact jad (thN (jaa (rh G (ibN (wL G p)))))
  ·exact jag (thE (thE (ibE (wD G p hb))))
 rintro w p
 refine jn p (fun v5 => ⟨[(0, .own 0), (1, dV a), (4, .fn 35 []), (12, dV w), (13, dV v5)], [aX 0 76 ((data.set a.toNat k).set pivot.toNat l)], 48⟩) (fun v5 p => ?_) ?_
 ·refine jaa (lp G p (fun v3 => ⟨[(0, .own 0), (1, dV a), (4, .fn 35 []), (12, dV w), (13, dV v3)], [aX 0 76 ((data.set a.toNat k).set pivot.toNat l)], 48⟩) ?_)
  rintro v3 r0 hb2 p
  rw [yh3] at p
  refine jab (jn p (fun v4 => ⟨[(0, .own 0), (1, dV a), (4, .fn 35 []), (12, dV w), (13, dV v3), (66, dV v4)], [aX 0 76 ((data.set a.toNat k).set pivot.toNat l)], 48⟩) (fun v4 p => ?_) ?_)
  ·rcases bf p with ⟨n, p⟩ | ⟨n, p⟩
   ·obtain ⟨e14, A, e15, B, r3, h, p⟩ := ob3 p
    have h : zq16 e14 e15 = some r3 := by rw [<- hf_cmp] at h; exact h
    refine de G [(13, [])] (hO 3 (.b true) (hP n (hD 7 A (hE 8 A (hD 11 B (hE 12 B (hC 13 (yah.c (_, _) h) h0))))))) ?_
    exact wJ G p
   ·refine de G [(13, [])] (hO 3 (.b false) (hP n h0)) ?_
    exact wJ G p
  rintro v4 p
  refine cd p ?_ ?_ <;> intro p
  ·exact jad (thN (jaa (rh G (ibN (wL G p)))))
  ·exact jag (thE (thE (ibE (wD G p hb2))))
 rintro v5 p
 refine jab (rg G (cd p ?_ ?_)) <;> intro p
 ·obtain ⟨e20, C, e21, D, e22, E, p⟩ := ob3 p
  obtain ⟨e23, H, p⟩ := jae p
  refine ds G [(13, [0]), (15, [0])] (hD 6 C (hE 7 C (hD 10 D (hE 11 D (hD 12 E (hS 13 E e20 (hD 14 H (hS 15 H e21 h0)))))))) ?_
  refine rg G ?_
  cases p
  exact rt [] []
 ·refine jad (thN ?_)
  obtain ⟨e28, I, e29, K, e30, L, p⟩ := ob3 p
  obtain ⟨e31, M, p⟩ := jae p
  refine ds G [(13, [0]), (15, [0])] (hD 6 I (hE 7 I (hD 10 K (hE 11 K (hD 12 L (hS 13 L e28 (hD 14 M (hS 15 M e29 h0)))))))) ?_
  refine rg G (rg G (jn p (fun (N, f) => ⟨[(0, .own 0), (1, dV a), (4, .fn 35 []), (13, dV N)], [aX 0 76 f], 48⟩) (fun vv p => ?_) ?_))
  ·refine jaa (lp G p (fun (v6, O, d) => ⟨[(0, .own 0), (1, dV a), (4, .fn 35 []), (12, dV v6), (13, dV O)], [aX 0 76 d], 48⟩) ?_)
   rintro ⟨v6, O, d⟩ r0 hb4 p
   rw [yh0] at p
   refine jaa (jn p (fun e => ⟨[(0, .own 0), (1, dV a), (4, .fn 35 []), (12, dV e), (13, dV O)], [aX 0 76 d], 48⟩) (fun e p => ?_) ?_)
   ·refine jaa (lp G p (fun v8 => ⟨[(0, .own 0), (1, dV a), (4, .fn 35 []), (12, dV v8), (13, dV O)], [aX 0 76 d], 48⟩) ?_)
    rintro v8 r0 hb5 p
    rw [yh2] at p
    refine jab (jn p (fun v9 => ⟨[(0, .own 0), (1, dV a), (4, .fn 35 []), (12, dV v8), (13, dV O), (120, dV v9)], [aX 0 76 d], 48⟩) (fun v9 p => ?_) ?_)
    ·rcases bf p with ⟨o, p⟩ | ⟨o, p⟩
     ·obtain ⟨e34, Q, e35, R, r5, i, p⟩ := ob3 p
      have i : zq16 e34 e35 = some r5 := by rw [<- hf_cmp] at i; exact i
      refine de G [(13, [])] (hO 3 (.b true) (hP o (hD 7 Q (hE 8 Q (hD 11 R (hE 12 R (hC 13 (yah.c (_, _) i) h0))))))) ?_
      exact wJ G p
     ·refine de G [(13, [])] (hO 3 (.b false) (hP o h0)) ?_
      exact wJ G p
    rintro v9 p
    refine cd p ?_ ?_ <;> intro p
    ·exact jad (thN (jaa (rh G (ibN (wL G p)))))
    ·exact jag (thE (thE (ibE (wD G p hb5))))
   rintro e p
   refine jn p (fun r => ⟨[(0, .own 0), (1, dV a), (4, .fn 35 []), (12, dV e), (13, dV r)], [aX 0 76 d], 48⟩) (fun r p => ?_) ?_
   ·refine jaa (lp G p (fun s => ⟨[(0, .own 0), (1, dV a), (4, .fn 35 []), (12, dV e), (13, dV s)], [aX 0 76 d], 48⟩) ?_)
    rintro s r0 hb7 p
    rw [yh1] at p
    refine jab (jn p (fun t => ⟨[(0, .own 0), (1, dV a), (4, .fn 35 []), (12, dV e), (13, dV s), (139, dV t)], [aX 0 76 d], 48⟩) (fun t p => ?_) ?_)
    ·rcases bf p with ⟨u, p⟩ | ⟨u, p⟩
     ·obtain ⟨e38, T, e39, U, r7, j, p⟩ := ob3 p
      have j : zq16 e38 e39 = some r7 := by rw [<- hf_cmp] at j; exact j
      refine de G [(13, [])] (hO 3 (.b true) (hP u (hD 7 T (hE 8 T (hD 11 U (hE 12 U (hC 13 (yah.c (_, _) j) h0))))))) ?_
      exact wJ G p
     ·refine de G [(13, [])] (hO 3 (.b false) (hP u h0)) ?_
      exact wJ G p
    rintro t p
    refine cd p ?_ ?_ <;> intro p
    ·exact jad (thN (jaa (rh G (ibN (wL G p)))))
    ·exact jag (thE (thE (ibE (wD G p hb7))))
   rintro r p
   refine jab (rg G (cd p ?_ ?_)) <;> intro p
   ·exact jag (thE (ibX rfl (thE (ibE (wD G p hb4)))))
   ·refine jad (thN ?_)
    obtain ⟨e44, V, e45, W, e46, X, p⟩ := ob3 p
    obtain ⟨e47, Y, p⟩ := jae p
    refine ds G [(13, [0]), (15, [0])] (hD 6 V (hE 7 V (hD 10 W (hE 11 W (hD 12 X (hS 13 X e44 (hD 14 Y (hS 15 Y e45 h0)))))))) ?_
    exact rg G (rh G (ibN (wL G p)))
  rintro ⟨N, f⟩ p
  obtain ⟨e52, Z, e53, h61, e54, h62, p⟩ := ob3 p
  obtain ⟨e55, h63, p⟩ := jae p
  refine ds G [(13, [0]), (15, [0])] (hD 6 Z (hE 7 Z (hD 10 h61 (hE 11 h61 (hD 12 h62 (hS 13 h62 e52 (hD 14 h63 (hS 15 h63 e53 h0)))))))) ?_
  refine rg G ?_
  cases p
  exact rt [] []
def ydk : MS Int (IK .u64) := mR ybc
theorem yie : FnOK Tryz.prog tJ 199 ydk.S := by
 refine fm tt ydk [fo ye6] call199 func199 rfl results199 ntmps199 ?_
 rintro length y cx G (p : ybc length = some y)
 unfold ybc at p
 refine rg G ?_
 obtain ⟨r, h, u, a, p⟩ := ob2 p
 refine rs G (hC 2 (yd3.c _ h) (hK a h0)) ?_
 cases p
 exact rt [] []
def ydg : MS (IK .u64) ((IK .u64) × (IK .u64)) := ⟨.b 224, ya9, fun y => dV y.1, fun _ => [], fun _ y => [bxO 224 y.2]⟩
theorem yhg : FnOK Tryz.prog tJ 200 ydg.S := by
 refine fm tt ydg [] call200 func200 rfl results200 ntmps200 ?_
 rintro r y cx G (p : ya9 r = some y)
 unfold ya9 at p
 refine rg G ?_
 obtain ⟨d, a, p⟩ := jae p
 refine ds G [(9, [0])] (hK a h0) ?_
 obtain ⟨e, b, p⟩ := jae p
 refine ds G [(9, [0])] (hK b h0) ?_
 obtain ⟨f, c, p⟩ := jae p
 refine ds G [(9, [0])] (hK c h0) ?_
 refine rg G ?_
 cases p
 exact rt [] []
def yfw : MS ((List Change) × Int × Int) ((List Change)) := ⟨⟨[.sl, .rd, .rd, .fn 35 []], fun x => [.sc undef, Enc.e x.2.1, Enc.e x.2.2, .agg []], fun x => [arO 76 x.1], 1, 1, fun _ => rfl, fun _ => rfl, rfl, (by
  rintro ⟨a0, a1, a2⟩ ⟨b0, b1, b2⟩ h hO
  have q0 : a0 = b0 := Enc.inj _ _ (congrArg (fun l => D.sl 5 (obL l 0)) hO)
  have q1 : a1 = b1 := qI 1 h
  have q2 : a2 = b2 := qI 2 h
  subst q0; subst q1; subst q2; rfl)⟩, fun x => yq8 x.1 x.2.1 x.2.2, fun _ => .tup [], fun _ => [], fun _ y => [arO 76 y]⟩
theorem ync : FnOK Tryz.prog tJ 138 yfw.S := by
 refine fm tt yfw [fo yie, fo yhg] call138 func138 rfl results138 ntmps138 ?_
 rintro ⟨data, a, b⟩ y cx G (p : yq8 data a b = some y)
 obtain ⟨cmp, hf_cmp⟩ : ∃ q, (fun (z0 : Change) (z1 : Change) => zq16 z0 z1) = q := ⟨_, rfl⟩
 have p : yq9 data a b cmp = some y := by rw [<- hf_cmp]; exact p
 unfold yq9 at p
 refine rg G (rg G (cd p ?_ ?_)) <;> intro p
 ·refine rg G ?_
  obtain ⟨r, h, p⟩ := jae p
  refine rs G (hC 1 (ydk.c _ h) h0) ?_
  obtain ⟨u, l, p⟩ := jae p
  refine rs G (hK l h0) ?_
  refine jaa (lp G p (fun (v, d, i) => ⟨[(0, .own 0), (1, dV a), (3, .fn 35 []), (8, dV (w64 (b - a))), (9, .ref 32 0), (10, kV .u64 r.v), (11, dV v)], [aX 0 76 d, bX 32 224 [kV .u64 i]], 64⟩) ?_)
  rintro ⟨v, d, i⟩ w hb p
  rw [yiq] at p
  refine jab ?_
  obtain ⟨x, m, p⟩ := jae p
  refine rs G (hK m h0) ?_
  refine cd p ?_ ?_ <;> intro p
  ·refine jad (thN (jab (jaa ?_)))
   obtain ⟨n, o, p⟩ := jae p
   refine rs G (hC 0 (ydg.c _ o) h0) ?_
   refine jn p (fun g => ⟨[(0, .own 0), (1, dV a), (3, .fn 35 []), (8, dV (w64 (b - a))), (9, .ref 32 0), (10, kV .u64 r.v), (11, dV v), (12, dV g)], [aX 0 76 d, bX 32 224 [kV .u64 n.2.v]], 64⟩) (fun g p => ?_) ?_
   ·refine rg G (cd p ?_ ?_) <;> intro p
    ·exact rh G (wJ G p)
    ·exact jad (wJ G p)
   rintro g p
   obtain ⟨s, j, t, k, z, e, p⟩ := ob3 p
   obtain ⟨A, f, p⟩ := jae p
   refine de G [(17, [0]), (19, [0])] (hD 10 j (hE 11 j (hD 14 k (hE 15 k (hD 16 e (hS 17 e s (hD 18 f (hS 19 f t h0)))))))) ?_
   exact ibN (thN (rh G (wL G p)))
  ·have p := eD p hb
   refine jag (thE (thE (ibE ?_)))
   cases p
   exact fN [] []
 ·refine jad ?_
  cases p
  exact fN [] []
end
end Go.Proofs.YtmmffjenpfeapaaGreat
