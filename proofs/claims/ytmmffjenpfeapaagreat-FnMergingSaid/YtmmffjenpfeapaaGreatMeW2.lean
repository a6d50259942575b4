/- Each function computes what its model says. Made by program (dec.py). -/
import Derived.Test.YtmmffjenpfeapaaGreatMeW1
namespace Go.Proofs.YtmmffjenpfeapaaGreat
open Go Go.Ab Tryz
set_option maxRecDepth 100000
set_option maxHeartbeats 4000000
set_option linter.unusedVariables false
set_option linter.unusedSimpArgs false
noncomputable section
def yan (rec_ : (List Change) -> Int -> Int -> Int -> Option ((List Change))) : MS ((List Change) × Int × Int × Int) ((List Change)) := ⟨⟨[.sl, .rd, .rd, .rd, .fn 35 []], fun x => [.sc undef, Enc.e x.2.1, Enc.e x.2.2.1, Enc.e x.2.2.2, .agg []], fun x => [arO 76 x.1], 1, 1, fun _ => rfl, fun _ => rfl, rfl, (by
  rintro ⟨a0, a1, a2, a3⟩ ⟨b0, b1, b2, b3⟩ h hO
  have q0 : a0 = b0 := Enc.inj _ _ (congrArg (fun l => D.sl 5 (obL l 0)) hO)
  have q1 : a1 = b1 := qI 1 h
  have q2 : a2 = b2 := qI 2 h
  have q3 : a3 = b3 := qI 3 h
  subst q0; subst q1; subst q2; subst q3; rfl)⟩, fun x => rec_ x.1 x.2.1 x.2.2.1 x.2.2.2, fun _ => .tup [], fun _ => [], fun _ y => [arO 76 y]⟩
def yfh : MS ((List Change) × Int × Int × Int) ((List Change)) := yan yms
theorem yqe {data a b limit y} (p : yms data a b limit = some y) : yfh.C (data, a, b, limit) y := yfh.c (data, a, b, limit) p
theorem yhn {rec_ : (List Change) -> Int -> Int -> Int -> Option ((List Change))} {data a b limit y} (p : rec_ data a b limit = some y) : (yan rec_).C (data, a, b, limit) y := (yan rec_).c (data, a, b, limit) p
theorem yk1 {rec_ : (List Change) -> Int -> Int -> Int -> Option ((List Change))} (hrec : FnOK Tryz.prog tJ 72 (yan rec_).S) : FnOK Tryz.prog tJ 72 (yan (ybb rec_)).S := by
 refine fm tt (yan (ybb rec_)) [fo hrec, fo ym6, fo ym8, fo ync, fo yna, fo ymo, fo ymy, fo yax, fo ymu, fo ymw] call72 func72 rfl results72 ntmps72 ?_
 rintro ⟨data, a, b, limit⟩ y cx G (p : ybb rec_ data a b limit = some y)
 unfold ybb at p
 refine rg G (rg G (jaa (lp G p (fun (a1, b1, limit1, mid, mid1, f) => ⟨[(0, .own 0), (1, dV a1), (2, dV b1), (3, dV limit1), (4, .fn 35 []), (10, dV mid), (11, dV mid1)], [aX 0 76 f], 48⟩) ?_)))
 rintro ⟨a1, b1, limit1, mid, mid1, f⟩ O hb p
 rw [yho] at p
 refine jaa (rg G (jab (rg G (cd p ?_ ?_)))) <;> intro p
 ·obtain ⟨r, h, p⟩ := jae p
  refine rs G (hC 4 (yfq.c (_, _, _) h) h0) ?_
  have p := eD p hb
  cases p
  exact rt [] []
 ·refine jad (thN (jab (rg G (cd p ?_ ?_)))) <;> intro p
  ·obtain ⟨Q, A, p⟩ := jae p
   refine rs G (hC 4 (yfs.c (_, _, _) A) h0) ?_
   have p := eD p hb
   cases p
   exact rt [] []
  ·refine jad (thN (jn p (fun (limit2, g) => ⟨[(0, .own 0), (1, dV a1), (2, dV b1), (3, dV limit2), (4, .fn 35 []), (10, dV mid), (11, dV mid1), (12, dV (w64 (b1 - a1)))], [aX 0 76 g], 48⟩) (fun B p => ?_) ?_))
   ·refine rg G (cd p ?_ ?_) <;> intro p
    ·obtain ⟨R, C, p⟩ := jae p
     refine rs G (hC 4 (yfw.c (_, _, _) C) h0) ?_
     exact rh G (wJ G p)
    ·exact jad (wJ G p)
   rintro ⟨limit2, g⟩ p
   obtain ⟨T, D, p⟩ := jae p
   refine rs G (hC 4 (yfu.c (_, _, _) D) h0) ?_
   refine jn p (fun (leftLen, rightLen, d) => ⟨[(0, .own 0), (1, dV a1), (2, dV b1), (3, dV limit2), (4, .fn 35 []), (10, dV mid), (11, dV mid1), (12, dV (w64 (b1 - a1))), (13, dV leftLen), (14, dV rightLen)], [aX 0 76 d], 48⟩) (fun vv p => ?_) ?_
   ·refine rg G (cd p ?_ ?_) <;> intro p
    ·obtain ⟨U, E, p⟩ := jae p
     refine rs G (hC 4 (yff.c (_, _, _) E) h0) ?_
     exact rg G (rh G (wJ G p))
    ·exact jad (wJ G p)
   rintro ⟨leftLen, rightLen, d⟩ p
   refine jF p (fun e => ⟨[(0, .own 0), (1, dV a1), (2, dV b1), (3, dV limit2), (4, .fn 35 []), (10, dV mid), (11, dV mid1), (12, dV (w64 (b1 - a1))), (13, dV leftLen)], [aX 0 76 e], 48⟩) (fun V m p => ?_) ?_
   ·refine jn p (fun v => ⟨[(0, .own 0), (1, dV a1), (2, dV b1), (3, dV limit2), (4, .fn 35 []), (10, dV mid), (11, dV mid1), (12, dV (w64 (b1 - a1))), (13, dV leftLen), (75, dV v)], [aX 0 76 d], 48⟩) (fun v p => ?_) ?_
    ·rcases bf p with ⟨i, p⟩ | ⟨i, p⟩
     ·rcases bf p with ⟨j, p⟩ | ⟨j, p⟩
      ·refine re G (hO 1 (.b true) (hP i (hO 4 (.b true) (hP j h0)))) ?_
       exact wJ G p
      ·refine re G (hO 1 (.b true) (hP i (hO 4 (.b false) (hP j h0)))) ?_
       exact wJ G p
     ·refine re G (hO 1 (.b false) (hP i h0)) ?_
      exact wJ G p
    rintro v p
    refine cd p ?_ ?_ <;> intro p
    ·obtain ⟨W, H, p⟩ := jae p
     refine rs G (hC 4 (yfn.c (_, _, _) H) h0) ?_
     refine cd p ?_ ?_ <;> intro p
     ·have p := eR p m
      have p := eD p hb
      cases p
      exact rt [] []
     ·exact jad (wF G p)
    ·exact jad (wF G p)
   rintro e p
   refine jab (jn p (fun n => ⟨[(0, .own 0), (1, dV a1), (2, dV b1), (3, dV limit2), (4, .fn 35 []), (10, dV mid), (11, dV mid1), (12, dV (w64 (b1 - a1))), (13, dV leftLen), (97, dV n)], [aX 0 76 e], 48⟩) (fun n p => ?_) ?_)
   ·rcases bf p with ⟨k, p⟩ | ⟨k, p⟩
    ·obtain ⟨X, z, Y, l, I, o, p⟩ := ob3 p
     refine de G [(13, [])] (hO 2 (.b true) (hP k (hD 7 z (hE 8 z (hD 11 l (hE 12 l (hC 13 (yah.c (_, _) o) h0))))))) ?_
     exact wJ G p
    ·refine de G [(13, [])] (hO 2 (.b false) (hP k h0)) ?_
     exact wJ G p
   rintro n p
   refine cd p ?_ ?_ <;> intro p
   ·obtain ⟨K, q, p⟩ := jae p
    refine rs G (hC 5 (yfj.c (_, _, _, _) q) h0) ?_
    exact rg G (jag (thE (ibE (wL G p))))
   ·refine jad (thN ?_)
    obtain ⟨L, s, p⟩ := jae p
    refine rs G (hC 5 (yfl.c (_, _, _, _) s) h0) ?_
    refine rg G (rg G ?_)
    obtain ⟨u, t, p⟩ := jae p
    refine rs G (hK t h0) ?_
    refine rg G (cd p ?_ ?_) <;> intro p
    ·refine rg G ?_
     obtain ⟨M, w, p⟩ := jae p
     refine rs G (hC 5 (yhn w) h0) ?_
     exact rh G (ibN (wL G p))
    ·refine rg G ?_
     obtain ⟨N, x, p⟩ := jae p
     refine rs G (hC 6 (yhn x) h0) ?_
     exact rh G (ibN (wL G p))
theorem yd6 : ∀ k, FnOK Tryz.prog tJ 72 (yan (yb3 k)).S
 | 0 => ⟨fun args w => call72 args w, fun vs w F ds obs κ hp => by obtain ⟨x, y, _, _, h⟩ := hp; cases h⟩
 | k + 1 => yk1 (yd6 k)
theorem ymr : FnOK Tryz.prog tJ 72 yfh.S := yd6 4294967296
def yfz : MS (List Change) (List Change) := ⟨⟨[.sl, .fn 35 []], fun x => [.sc undef, .agg []], fun x => [arO 76 x], 1, 1, fun _ => rfl, fun _ => rfl, rfl, (by
  rintro a0 b0 h hO
  have q0 : a0 = b0 := Enc.inj _ _ (congrArg (fun l => D.sl 5 (obL l 0)) hO)
  subst q0; rfl)⟩, yf0, fun _ => .tup [], fun _ => [], fun _ y => [arO 76 y]⟩
theorem yne : FnOK Tryz.prog tJ 34 yfz.S := by
 refine fm tt yfz [fo ye6, fo ymr] call34 func34 rfl results34 ntmps34 ?_
 rintro x y cx G (p : yf0 x = some y)
 unfold yf0 at p
 refine rs G (hN 1 x h0) ?_
 obtain ⟨r, h, b, a, p⟩ := ob2 p
 refine re G (hC 4 (yd3.c _ h) (hC 6 (yqe a) h0)) ?_
 cases p
 exact fN [] []
def yn8 : MS (List Change) (List Change) := ⟨.m 76, zq94, fun _ => .own 0, fun y => [arO 76 y], fun _ _ => []⟩
def yn7 : Go.Shelf.Ren := ⟨fun x => bif Nat.beq x 43 then 36 else x, fun x => bif Nat.beq x 22 then 31 else bif Nat.beq x 23 then 76 else bif Nat.beq x 3 then 3 else bif Nat.beq x 4 then 4 else x, fun x => x⟩
theorem yrt : Tryz.f36 = { Go.Proofs.SlBodyN.n43 yn7 with name := "slices.Compact[[]loop.example/g00900/impl.Change,loop.example/g00900/impl.Change]" } := by kernel_rfl
theorem yop : FnOK Tryz.prog tJ 36 yn8.S := ju7 (α := Change) (x := tyE76) tt yn7 _ call36 (func36.trans (congrArg some yrt)) (b0 := 0) (e0 := false) ⟨Tryz.underlying0, Tryz.t0, Tryz.type0, rfl, rfl, rfl, fun h => by cases h⟩ (by kernel_rfl) (by kernel_rfl) (by kernel_rfl) (by kernel_rfl) rfl (by kernel_rfl) (fun _ _ => rfl)
def ymb : MS (Timetable × (List Change) × (List Change)) ((List Change) × Bool) := ⟨.x .r (.x .r .r), fun x => zq9 x.1 x.2.1 x.2.2, fun y => .tup [dV y.1, dV y.2], fun _ => [], fun _ _ => []⟩
theorem yrr {t x y_ y} (p : zq9 t x y_ = some y) : ymb.C (t, x, y_) y := ymb.c (t, x, y_) p
theorem yrq : FnOK Tryz.prog tJ 8 ymb.S := by
 refine fm tt ymb [fo yob, fo ykv, fo yon, fo yne, fo yop] call8 func8 rfl results8 ntmps8 ?_
 rintro ⟨t, x, y_⟩ y cx G (p : zq9 t x y_ = some y)
 unfold zq9 at p
 refine rg G (jab ?_)
 obtain ⟨r, h, p⟩ := jae p
 refine jn p (fun v => ⟨[(1, dV x), (2, dV y_), (3, .ref 16 0), (25, dV v)], [bX 16 30 [dV t.Network.Stops, dV t.Network.Lines, dV t.Trips]], 48⟩) (fun v p => ?_) ?_
 ·rcases bf p with ⟨hb, p⟩ | ⟨hb, p⟩
  ·refine re G (hC 2 (yby.c (_, _) h) (hO 4 (.b true) (hP hb h0))) ?_
   exact wJ G p
  ·obtain ⟨l, d, p⟩ := jae p
   rcases bf p with ⟨a, p⟩ | ⟨a, p⟩
   ·refine re G (hC 2 (yby.c (_, _) h) (hO 4 (.b false) (hP hb (hC 7 (yby.c (_, _) d) (hO 10 (.b true) (hP a h0)))))) ?_
    exact wJ G p
   ·obtain ⟨e, f, p⟩ := jae p
    refine re G (hC 2 (yby.c (_, _) h) (hO 4 (.b false) (hP hb (hC 7 (yby.c (_, _) d) (hO 10 (.b false) (hP a (hC 13 (yhf.c (_, _) f) (hN 14 e h0)))))))) ?_
    exact wJ G p
 rintro v p
 refine cd p ?_ ?_ <;> intro p
 ·refine rg G ?_
  cases p
  exact rt [] [[.z 5]]
 ·refine jad (thN ?_)
  obtain ⟨m, g, p⟩ := jae p
  refine rs G (hF 3 (yjd.c _ g) ⟨(jk8 jm9 jg1), jg1⟩ h0) ?_
  obtain ⟨n, i, p⟩ := jae p
  refine rs G (hC 1 (yfz.c _ i) h0) ?_
  obtain ⟨o, j, p⟩ := jae p
  refine rs G (hC 1 (yn8.c _ j) h0) ?_
  refine jab ?_
  obtain ⟨q, k, p⟩ := jae p
  refine rs G (hC 2 (yby.c (_, _) k) h0) ?_
  refine cd p ?_ ?_ <;> intro p
  ·refine rg G ?_
   cases p
   exact rt [] [[.z 5]]
  ·refine jad (thN (rg G ?_))
   cases p
   exact rt [] []
def yg0 : MS (Int × Int × Int) Bool := ⟨.x .r (.x .r .r), fun x => zq60 x.1 x.2.1 x.2.2, fun y => dV y, fun _ => [], fun _ _ => []⟩
theorem yad {x a b y} (p : zq60 x a b = some y) : yg0.C (x, a, b) y := yg0.c (x, a, b) p
theorem ybx : FnOK Tryz.prog tJ 148 yg0.S := by
 refine fm tt yg0 [] call148 func148 rfl results148 ntmps148 ?_
 rintro ⟨x, a, b⟩ y cx G (p : zq60 x a b = some y)
 unfold zq60 at p
 refine rg G (jn p (fun v => ⟨[(6, dV v)], [], 32⟩) (fun v p => ?_) ?_)
 ·rcases bf p with ⟨hb, p⟩ | ⟨hb, p⟩
  ·refine re G (hO 3 (.b true) (hP hb h0)) ?_
   exact wJ G p
  ·refine re G (hO 3 (.b false) (hP hb h0)) ?_
   exact wJ G p
 rintro v p
 cases p
 exact rt [] []
def ybu : MS ByteArray Bool := mR zq76
theorem yjr : FnOK Tryz.prog tJ 203 ybu.S := by
 refine fm tt ybu [fo ybx] call203 func203 rfl results203 ntmps203 ?_
 rintro s y cx G (p : zq76 s = some y)
 unfold zq76 at p
 refine rg G (jab ?_)
 obtain ⟨r, h, p⟩ := jae p
 refine jn p (fun v => ⟨[(0, dV s), (17, dV v)], [], 32⟩) (fun v p => ?_) ?_
 ·rcases bf p with ⟨hb, p⟩ | ⟨hb, p⟩
  ·refine re G (hC 2 (yad h) (hO 4 (.b true) (hP hb h0))) ?_
   exact wJ G p
  ·obtain ⟨u, m, p⟩ := jae p
   rcases bf p with ⟨d, p⟩ | ⟨d, p⟩
   ·refine re G (hC 2 (yad h) (hO 4 (.b false) (hP hb (hK m (hO 9 (.b true) (hP d h0)))))) ?_
    exact wJ G p
   ·obtain ⟨x, q, p⟩ := jae p
    refine re G (hC 2 (yad h) (hO 4 (.b false) (hP hb (hK m (hO 9 (.b false) (hP d (hK q h0))))))) ?_
    exact wJ G p
 rintro v p
 refine cd p ?_ ?_ <;> intro p
 ·refine rg G ?_
  cases p
  exact rt [] []
 ·refine jad (thN (jab (rg G (tF p (fun _ => ⟨[], [], 32⟩) (fun z hr p => ?_) ?_))))
  ·refine jaa (lp G p (fun j => ⟨[(0, dV s), (3, dV j)], [], 32⟩) ?_)
   rintro j A g p
   rw [ybv] at p
   refine jab (rg G (cd p ?_ ?_)) <;> intro p
   ·refine jad (thN (jab (jaa ?_)))
    obtain ⟨B, i, p⟩ := jae p
    refine jn p (fun k => ⟨[(0, dV s), (3, dV j), (45, dV k)], [], 32⟩) (fun k p => ?_) ?_
    ·rcases bf p with ⟨a, p⟩ | ⟨a, p⟩
     ·obtain ⟨C, n, p⟩ := jae p
      rcases bf p with ⟨e, p⟩ | ⟨e, p⟩
      ·refine re G (hK i (hO 4 (.b true) (hP a (hK n (hO 15 (.b true) (hP e h0)))))) ?_
       exact wJ G p
      ·obtain ⟨D, t, p⟩ := jae p
       refine re G (hK i (hO 4 (.b true) (hP a (hK n (hO 15 (.b false) (hP e (hK t h0))))))) ?_
       exact wJ G p
     ·obtain ⟨E, l, p⟩ := jae p
      rcases bf p with ⟨c, p⟩ | ⟨c, p⟩
      ·obtain ⟨H, o, p⟩ := jae p
       rcases bf p with ⟨f, p⟩ | ⟨f, p⟩
       ·refine re G (hK i (hO 4 (.b false) (hP a (hK l (hO 10 (.b true) (hP c (hK o (hO 15 (.b true) (hP f h0))))))))) ?_
        exact wJ G p
       ·obtain ⟨I, w, p⟩ := jae p
        refine re G (hK i (hO 4 (.b false) (hP a (hK l (hO 10 (.b true) (hP c (hK o (hO 15 (.b false) (hP f (hK w h0)))))))))) ?_
        exact wJ G p
      ·refine re G (hK i (hO 4 (.b false) (hP a (hK l (hO 10 (.b false) (hP c h0)))))) ?_
       exact wJ G p
    rintro k p
    refine cd p ?_ ?_ <;> intro p
    ·refine rg G ?_
     have p := eL p g hr
     cases p
     exact rt [] []
    ·exact jad (ibN (thN (rh G (wL G p))))
   ·exact jag (thE (thE (ibE (wE G p g))))
  rintro ⟨⟩ p K hw
  refine thN (jah hw ?_)
  refine rg G ?_
  cases p
  exact rt [] []
def yjs : MS ((List ByteArray) × ByteArray) Int := mS zq72
theorem yo5 : FnOK Tryz.prog tJ 204 yjs.S := by
 refine fm tt yjs [] call204 func204 rfl results204 ntmps204 ?_
 rintro ⟨list, name⟩ y cx G (p : zq72 list name = some y)
 unfold zq72 at p
 refine rg G (jab (rg G (tF p (fun _ => ⟨[], [], 32⟩) (fun a hr p => ?_) ?_)))
 ·refine jaa (lp G p (fun v => ⟨[(0, dV list), (1, dV name), (5, dV v)], [], 32⟩) ?_)
  rintro v b hb p
  rw [ycz] at p
  refine jab (rs G (hN 2 list h0) ?_)
  refine cd p ?_ ?_ <;> intro p
  ·refine jad (thN (jab (jaa ?_)))
   obtain ⟨e, h, p⟩ := jae p
   refine rs G (hD 2 h h0) ?_
   refine cd p ?_ ?_ <;> intro p
   ·refine rg G ?_
    have p := eL p hb hr
    cases p
    exact rt [] []
   ·exact jad (ibN (thN (rh G (wL G p))))
  ·exact jag (thE (thE (ibE (wE G p hb))))
 rintro ⟨⟩ p s hw
 refine thN (jah hw ?_)
 refine rg G ?_
 cases p
 exact rt [] []
def ygm : MS (Line × Int) Bool := mS zq74
theorem yo3 : FnOK Tryz.prog tJ 205 ygm.S := by
 refine fm tt ygm [fo yjr, fo ybx, fo ycr] call205 func205 rfl results205 ntmps205 ?_
 rintro ⟨x, stops⟩ y cx G (p : zq74 x stops = some y)
 unfold zq74 at p
 refine rg G (jab ?_)
 obtain ⟨r, h, p⟩ := jae p
 refine jn p (fun v => ⟨[(1, dV stops), (2, .ref 16 0), (27, dV v)], [bX 16 118 [dV x.Name, dV x.Stops, dV x.Runs]], 48⟩) (fun v p => ?_) ?_
 ·rcases bf p with ⟨hb, p⟩ | ⟨hb, p⟩
  ·refine re G (hC 2 (ybu.c _ h) (hO 4 (.b true) (hP hb h0))) ?_
   exact wJ G p
  ·obtain ⟨A, n, p⟩ := jae p
   rcases bf p with ⟨a, p⟩ | ⟨a, p⟩
   ·refine re G (hC 2 (ybu.c _ h) (hO 4 (.b false) (hP hb (hN 7 x.Stops (hC 8 (yad n) (hO 11 (.b true) (hP a h0))))))) ?_
    exact wJ G p
   ·refine re G (hC 2 (ybu.c _ h) (hO 4 (.b false) (hP hb (hN 7 x.Stops (hC 8 (yad n) (hO 11 (.b false) (hP a (hN 14 x.Runs (hN 17 x.Stops h0))))))))) ?_
    exact wJ G p
 rintro v p
 refine cd p ?_ ?_ <;> intro p
 ·refine rg G ?_
  cases p
  exact rt [] []
 ·refine jad (thN (jab (rg G (tF p (fun _ => ⟨[(2, .ref 16 0)], [bX 16 118 [dV x.Name, dV x.Stops, dV x.Runs]], 48⟩) (fun B hr p => ?_) ?_))))
  ·refine jaa (lp G p (fun g => ⟨[(1, dV stops), (2, .ref 16 0), (5, dV g)], [bX 16 118 [dV x.Name, dV x.Stops, dV x.Runs]], 48⟩) ?_)
   rintro g u e p
   rw [ycw] at p
   refine jab (rs G (hN 3 x.Stops h0) ?_)
   refine cd p ?_ ?_ <;> intro p
   ·refine jad (thN (jab (jaa ?_)))
    obtain ⟨C, o, D, q, p⟩ := ob2 p
    refine jn p (fun i => ⟨[(1, dV stops), (2, .ref 16 0), (5, dV g), (54, dV i)], [bX 16 118 [dV x.Name, dV x.Stops, dV x.Runs]], 48⟩) (fun i p => ?_) ?_
    ·rcases bf p with ⟨d, p⟩ | ⟨d, p⟩
     ·refine de G [] (hD 3 o (hC 7 (yad q) (hO 9 (.b true) (hP d h0)))) ?_
      exact wJ G p
     ·obtain ⟨E, w, H, z, p⟩ := ob2 p
      refine de G [] (hD 3 o (hC 7 (yad q) (hO 9 (.b false) (hP d (hD 14 w (hC 16 (yck.c (_, _) z) h0)))))) ?_
      exact wJ G p
    rintro i p
    refine cd p ?_ ?_ <;> intro p
    ·refine rg G ?_
     have p := eL p e hr
     cases p
     exact rt [] []
    ·exact jad (ibN (thN (rh G (wL G p))))
   ·exact jag (thE (thE (ibE (wE G p e))))
  rintro ⟨⟩ p s hw
  refine thN (jah hw ?_)
  refine jab (rg G (tF p (fun _ => ⟨[], [], 32⟩) (fun I j p => ?_) ?_))
  ·refine jaa (lp G p (fun t => ⟨[(2, .ref 16 0), (6, dV t)], [bX 16 118 [dV x.Name, dV x.Stops, dV x.Runs]], 48⟩) ?_)
   rintro t u f p
   rw [ycv] at p
   refine jab (rs G (hN 3 x.Runs h0) ?_)
   refine cd p ?_ ?_ <;> intro p
   ·refine jad (thN (jab (jaa ?_)))
    obtain ⟨K, k, L, l, p⟩ := ob2 p
    refine rs G (hD 3 k (hC 5 (yad l) h0)) ?_
    refine cd p ?_ ?_ <;> intro p
    ·refine rg G ?_
     have p := eL p f j
     cases p
     exact rt [] []
    ·exact jad (ibN (thN (rh G (wL G p))))
   ·exact jag (thE (thE (ibE (wE G p f))))
  rintro ⟨⟩ p M m
  refine thN (jah m ?_)
  refine rg G ?_
  cases p
  exact rt [] []
def ygl : MS (Network × ByteArray) Int := mS zq75
theorem yrw {n name y} (p : zq75 n name = some y) : ygl.C (n, name) y := ygl.c (n, name) p
theorem yo2 : FnOK Tryz.prog tJ 206 ygl.S := by
 refine fm tt ygl [] call206 func206 rfl results206 ntmps206 ?_
 rintro ⟨n, name⟩ y cx G (p : zq75 n name = some y)
 unfold zq75 at p
 refine rg G (jab (rg G (tF p (fun _ => ⟨[], [], 32⟩) (fun a hr p => ?_) ?_)))
 ·refine jaa (lp G p (fun v => ⟨[(1, dV name), (2, .ref 16 0), (5, dV v)], [bX 16 27 [dV n.Stops, dV n.Lines]], 48⟩) ?_)
  rintro v b hb p
  rw [ycu] at p
  refine jab (rs G (hN 3 n.Lines h0) ?_)
  refine cd p ?_ ?_ <;> intro p
  ·refine jad (thN (jab (jaa ?_)))
   obtain ⟨e, h, p⟩ := jae p
   refine rs G (hD 3 h h0) ?_
   refine cd p ?_ ?_ <;> intro p
   ·refine rg G ?_
    have p := eL p hb hr
    cases p
    exact rt [] []
   ·exact jad (ibN (thN (rh G (wL G p))))
  ·exact jag (thE (thE (ibE (wE G p hb))))
 rintro ⟨⟩ p s hw
 refine thN (jah hw ?_)
 refine rg G ?_
 cases p
 exact rt [] []
def ygn : MS Network Bool := mR zq73
theorem yo4 : FnOK Tryz.prog tJ 147 ygn.S := by
 refine fm tt ygn [fo ybx, fo yjr, fo yo5, fo yo3, fo yo2] call147 func147 rfl results147 ntmps147 ?_
 rintro n y cx G (p : zq73 n = some y)
 unfold zq73 at p
 refine rg G (jab ?_)
 obtain ⟨r, h, p⟩ := jae p
 refine jn p (fun v => ⟨[(1, .ref 16 0), (16, dV v)], [bX 16 27 [dV n.Stops, dV n.Lines]], 48⟩) (fun v p => ?_) ?_
 ·rcases bf p with ⟨hb, p⟩ | ⟨hb, p⟩
  ·refine re G (hN 2 n.Stops (hC 3 (yad h) (hO 5 (.b true) (hP hb h0)))) ?_
   exact wJ G p
  ·obtain ⟨E, z, p⟩ := jae p
   refine re G (hN 2 n.Stops (hC 3 (yad h) (hO 5 (.b false) (hP hb (hN 8 n.Lines (hC 9 (yad z) h0)))))) ?_
   exact wJ G p
 rintro v p
 refine cd p ?_ ?_ <;> intro p
 ·refine rg G ?_
  cases p
  exact rt [] []
 ·refine jad (thN (jab (rg G (tF p (fun _ => ⟨[(1, .ref 16 0)], [bX 16 27 [dV n.Stops, dV n.Lines]], 48⟩) (fun H hr p => ?_) ?_))))
  ·refine jaa (lp G p (fun i => ⟨[(1, .ref 16 0), (3, dV i)], [bX 16 27 [dV n.Stops, dV n.Lines]], 48⟩) ?_)
   rintro i A e p
   rw [ycy] at p
   refine jab (rs G (hN 3 n.Stops h0) ?_)
   refine cd p ?_ ?_ <;> intro p
   ·refine jad (thN (jab (jaa ?_)))
    obtain ⟨I, w, K, x, p⟩ := ob2 p
    refine jn p (fun k => ⟨[(1, .ref 16 0), (3, dV i), (42, dV k)], [bX 16 27 [dV n.Stops, dV n.Lines]], 48⟩) (fun k p => ?_) ?_
    ·rcases bf p with ⟨a, p⟩ | ⟨a, p⟩
     ·refine de G [] (hD 3 w (hC 5 (ybu.c _ x) (hO 7 (.b true) (hP a h0)))) ?_
      exact wJ G p
     ·obtain ⟨L, B, M, C, p⟩ := ob2 p
      refine de G [] (hD 3 w (hC 5 (ybu.c _ x) (hO 7 (.b false) (hP a (hD 13 B (hC 15 (yjs.c (_, _) C) h0)))))) ?_
      exact wJ G p
    rintro k p
    refine cd p ?_ ?_ <;> intro p
    ·refine rg G ?_
     have p := eL p e hr
     cases p
     exact rt [] []
    ·exact jad (ibN (thN (rh G (wL G p))))
   ·exact jag (thE (thE (ibE (wE G p e))))
  rintro ⟨⟩ p s hw
  refine thN (jah hw ?_)
  refine jab (rg G (tF p (fun _ => ⟨[], [], 32⟩) (fun N l p => ?_) ?_))
  ·refine jaa (lp G p (fun m => ⟨[(1, .ref 16 0), (4, dV m)], [bX 16 27 [dV n.Stops, dV n.Lines]], 48⟩) ?_)
   rintro m A f p
   rw [ycx] at p
   refine jab (rs G (hN 3 n.Lines h0) ?_)
   refine cd p ?_ ?_ <;> intro p
   ·refine jad (thN (jab (jaa ?_)))
    obtain ⟨O, g, Q, j, p⟩ := ob2 p
    refine jn p (fun o => ⟨[(1, .ref 16 0), (4, dV m), (71, dV o)], [bX 16 27 [dV n.Stops, dV n.Lines]], 48⟩) (fun o p => ?_) ?_
    ·rcases bf p with ⟨d, p⟩ | ⟨d, p⟩
     ·refine de G [] (hD 3 g (hN 7 n.Stops (hC 8 (ygm.c (_, _) j) (hO 10 (.b true) (hP d h0))))) ?_
      exact wJ G p
     ·obtain ⟨R, q, D, t, p⟩ := ob2 p
      refine de G [] (hD 3 g (hN 7 n.Stops (hC 8 (ygm.c (_, _) j) (hO 10 (.b false) (hP d (hD 15 q (hC 18 (yrw t) h0))))))) ?_
      exact wJ G p
    rintro o p
    refine cd p ?_ ?_ <;> intro p
    ·refine rg G ?_
     have p := eL p f l
     cases p
     exact rt [] []
    ·exact jad (ibN (thN (rh G (wL G p))))
   ·exact jag (thE (thE (ibE (wE G p f))))
  rintro ⟨⟩ p T u
  refine thN (jah u ?_)
  refine rg G ?_
  cases p
  exact rt [] []
def ygi : MS Int Bool := mR zq81
theorem ybt {t y} (p : zq81 t = some y) : ygi.C t y := ygi.c t p
theorem yoy : FnOK Tryz.prog tJ 149 ygi.S := by
 refine fm tt ygi [fo ybx] call149 func149 rfl results149 ntmps149 ?_
 rintro t y cx G (p : zq81 t = some y)
 unfold zq81 at p
 refine rg G ?_
 obtain ⟨r, h, p⟩ := jae p
 refine rs G (hC 1 (yad h) h0) ?_
 cases p
 exact rt [] []
def ydz : MS (Timetable × Int) Line := mS zq86
theorem yet : FnOK Tryz.prog tJ 87 ydz.S := by
 refine fm tt ydz [] call87 func87 rfl results87 ntmps87 ?_
 rintro ⟨t, i⟩ y cx G (p : zq86 t i = some y)
 unfold zq86 at p
 refine rg G ?_
 obtain ⟨c, a, d, b, p⟩ := ob2 p
 refine ds G [(11, [32])] (hD 6 a (hD 9 b h0)) ?_
 cases p
 exact rt [] []
def yjk : MS (Timetable × Int) (List Int) := mS zq89
theorem you : FnOK Tryz.prog tJ 207 yjk.S := by
 refine fm tt yjk [fo yet] call207 func207 rfl results207 ntmps207 ?_
 rintro ⟨t, i⟩ y cx G (p : zq89 t i = some y)
 unfold zq89 at p
 refine rg G ?_
 obtain ⟨r, h, p⟩ := jae p
 refine rs G (hC 2 (ydz.c (_, _) h) h0) ?_
 cases p
 exact rt [] []
def ygj : MS (Line × Int × Int) Int := ⟨.x .r (.x .r .r), fun x => zq80 x.1 x.2.1 x.2.2, fun y => dV y, fun _ => [], fun _ _ => []⟩
theorem yru {x from_ to_ y} (p : zq80 x from_ to_ = some y) : ygj.C (x, from_, to_) y := ygj.c (x, from_, to_) p
theorem yoz : FnOK Tryz.prog tJ 152 ygj.S := by
 refine fm tt ygj [] call152 func152 rfl results152 ntmps152 ?_
 rintro ⟨x, from_, to_⟩ y cx G (p : zq80 x from_ to_ = some y)
 unfold zq80 at p
 refine rg G (rg G (jab (rg G (tl p (fun a => ⟨[(7, dV a)], [], 32⟩) (fun a p => ?_) ?_))))
 ·refine jaa (lp G p (fun (v, b) => ⟨[(2, dV to_), (3, .ref 16 0), (7, dV v), (8, dV b)], [bX 16 118 [dV x.Name, dV x.Stops, dV x.Runs]], 48⟩) ?_)
  rintro ⟨v, b⟩ c hb p
  rw [yev] at p
  refine jab (rg G (cd p ?_ ?_)) <;> intro p
  ·refine jad (thN (jab (jaa ?_)))
   obtain ⟨e, h, p⟩ := jae p
   refine re G (hD 4 h h0) ?_
   exact ibN (thN (rh G (wL G p)))
  ·exact jag (thE (thE (ibE (wD G p hb))))
 rintro a p s hw
 refine thN (jah hw ?_)
 refine rg G ?_
 cases p
 exact rt [] []
def ygh : MS (Timetable × Int × Int) Int := ⟨.x .r (.x .r .r), fun x => zq82 x.1 x.2.1 x.2.2, fun y => dV y, fun _ => [], fun _ _ => []⟩
theorem yjn : FnOK Tryz.prog tJ 88 ygh.S := by
 refine fm tt ygh [fo yet, fo yoz] call88 func88 rfl results88 ntmps88 ?_
 rintro ⟨t, i, k⟩ y cx G (p : zq82 t i k = some y)
 unfold zq82 at p
 refine rg G ?_
 obtain ⟨e, a, f, b, g, d, p⟩ := ob3 p
 refine ds G [] (hD 3 a (hC 8 (ydz.c (_, _) b) (hC 10 (yru d) h0))) ?_
 cases p
 exact rt [] []
def yd1 : MS (Timetable × Int) Int := mS zq83
theorem yox : FnOK Tryz.prog tJ 150 yd1.S := by
 refine fm tt yd1 [fo you, fo yjn] call150 func150 rfl results150 ntmps150 ?_
 rintro ⟨t, i⟩ y cx G (p : zq83 t i = some y)
 unfold zq83 at p
 refine rg G ?_
 obtain ⟨a, b, e, d, p⟩ := ob2 p
 refine ds G [] (hC 4 (yjk.c (_, _) b) (hN 5 a (hC 7 (ygh.c (_, _, _) d) h0))) ?_
 cases p
 exact rt [] []
def ygg : MS Timetable Bool := mR zq85
theorem yjm : FnOK Tryz.prog tJ 75 ygg.S := by
 refine fm tt ygg [fo yo4, fo ybx, fo yoy, fo yox] call75 func75 rfl results75 ntmps75 ?_
 rintro t y cx G (p : zq85 t = some y)
 unfold zq85 at p
 refine rg G (jab ?_)
 obtain ⟨r, h, p⟩ := jae p
 refine jn p (fun v => ⟨[(1, .ref 16 0), (14, dV v)], [bX 16 30 [dV t.Network.Stops, dV t.Network.Lines, dV t.Trips]], 48⟩) (fun v p => ?_) ?_
 ·rcases bf p with ⟨hb, p⟩ | ⟨hb, p⟩
  ·refine re G (hC 2 (ygn.c _ h) (hO 4 (.b true) (hP hb h0))) ?_
   exact wJ G p
  ·refine re G (hC 2 (ygn.c _ h) (hO 4 (.b false) (hP hb (hN 7 t.Trips h0)))) ?_
   exact wJ G p
 rintro v p
 refine cd p ?_ ?_ <;> intro p
 ·refine rg G ?_
  cases p
  exact rt [] []
 ·refine jad (thN (jab (rg G (tF p (fun _ => ⟨[], [], 32⟩) (fun A hr p => ?_) ?_))))
  ·refine jaa (lp G p (fun x => ⟨[(1, .ref 16 0), (3, dV x)], [bX 16 30 [dV t.Network.Stops, dV t.Network.Lines, dV t.Trips]], 48⟩) ?_)
   rintro x B n p
   rw [yeu] at p
   refine jab (rs G (hN 3 t.Trips h0) ?_)
   refine cd p ?_ ?_ <;> intro p
   ·refine jad (thN (jab (jaa ?_)))
    obtain ⟨e, w, p⟩ := jae p
    refine rs G (hD 3 w h0) ?_
    obtain ⟨C, m, p⟩ := jae p
    refine jn p (fun q => ⟨[(1, .ref 16 0), (3, dV x), (70, dV q)], [bX 16 30 [dV t.Network.Stops, dV t.Network.Lines, dV t.Trips]], 48⟩) (fun q p => ?_) ?_
    ·rcases bf p with ⟨a, p⟩ | ⟨a, p⟩
     ·refine de G [] (hC 2 (yad m) (hO 4 (.b true) (hP a h0))) ?_
      exact wJ G p
     ·obtain ⟨D, o, p⟩ := jae p
      rcases bf p with ⟨d, p⟩ | ⟨d, p⟩
      ·refine de G [] (hC 2 (yad m) (hO 4 (.b false) (hP a (hN 10 t.Network.Lines (hC 12 (yad o) (hO 15 (.b true) (hP d h0))))))) ?_
       exact wJ G p
      ·obtain ⟨E, g, p⟩ := jae p
       rcases bf p with ⟨f, p⟩ | ⟨f, p⟩
       ·refine de G [] (hC 2 (yad m) (hO 4 (.b false) (hP a (hN 10 t.Network.Lines (hC 12 (yad o) (hO 15 (.b false) (hP d (hC 18 (ybt g) (hO 21 (.b true) (hP f h0)))))))))) ?_
        exact wJ G p
       ·obtain ⟨H, j, z, k, p⟩ := ob2 p
        rcases bf p with ⟨i, p⟩ | ⟨i, p⟩
        ·refine de G [] (hC 2 (yad m) (hO 4 (.b false) (hP a (hN 10 t.Network.Lines (hC 12 (yad o) (hO 15 (.b false) (hP d (hC 18 (ybt g) (hO 21 (.b false) (hP f (hC 24 (yd1.c (_, _) j) (hC 25 (ybt k) (hO 28 (.b true) (hP i h0)))))))))))))) ?_
         exact wJ G p
        ·rcases bf p with ⟨l, p⟩ | ⟨l, p⟩
         ·obtain ⟨I, u, p⟩ := jae p
          refine de G [] (hC 2 (yad m) (hO 4 (.b false) (hP a (hN 10 t.Network.Lines (hC 12 (yad o) (hO 15 (.b false) (hP d (hC 18 (ybt g) (hO 21 (.b false) (hP f (hC 24 (yd1.c (_, _) j) (hC 25 (ybt k) (hO 28 (.b false) (hP i (hO 31 (.b true) (hP l (hD 36 u h0))))))))))))))))) ?_
          exact wJ G p
         ·refine de G [] (hC 2 (yad m) (hO 4 (.b false) (hP a (hN 10 t.Network.Lines (hC 12 (yad o) (hO 15 (.b false) (hP d (hC 18 (ybt g) (hO 21 (.b false) (hP f (hC 24 (yd1.c (_, _) j) (hC 25 (ybt k) (hO 28 (.b false) (hP i (hO 31 (.b false) (hP l h0)))))))))))))))) ?_
          exact wJ G p
    rintro q p
    refine cd p ?_ ?_ <;> intro p
    ·refine rg G ?_
     have p := eL p n hr
     cases p
     exact rt [] []
    ·exact jad (ibN (thN (rh G (wL G p))))
   ·exact jag (thE (thE (ibE (wE G p n))))
  rintro ⟨⟩ p s hw
  refine thN (jah hw ?_)
  refine rg G ?_
  cases p
  exact rt [] []
def ydy : MS Timetable Timetable := ⟨.r, zq87, fun _ => .aggv [.own 0, .own 1, .own 2], fun y => [arO 9 y.Network.Stops, arO 118 y.Network.Lines, arO 74 y.Trips], fun _ _ => []⟩
theorem yes : FnOK Tryz.prog tJ 82 ydy.S := by
 refine fm tt ydy [fo yjq] call82 func82 rfl results82 ntmps82 ?_
 rintro t y cx G (p : zq87 t = some y)
 unfold zq87 at p
 refine rg G ?_
 obtain ⟨d, a, e, b, p⟩ := ob2 p
 refine ds G [(6, [96]), (8, [32, 80, 81, 144])] (hC 2 (ygk.c _ a) (hA 6 24 b h0)) ?_
 cases p
 exact rt [80, 81, 144] []
def yd0 : MS (Timetable × Int) Int := mS zq84
theorem yow : FnOK Tryz.prog tJ 83 yd0.S := by
 refine fm tt yd0 [] call83 func83 rfl results83 ntmps83 ?_
 rintro ⟨t, id⟩ y cx G (p : zq84 t id = some y)
 unfold zq84 at p
 refine rg G (jab (rg G (tF p (fun _ => ⟨[], [], 32⟩) (fun a hr p => ?_) ?_)))
 ·refine jaa (lp G p (fun v => ⟨[(1, dV id), (2, .ref 16 0), (5, dV v)], [bX 16 30 [dV t.Network.Stops, dV t.Network.Lines, dV t.Trips]], 48⟩) ?_)
  rintro v b hb p
  rw [ycq] at p
  refine jab (rs G (hN 3 t.Trips h0) ?_)
  refine cd p ?_ ?_ <;> intro p
  ·refine jad (thN (jab (jaa ?_)))
   obtain ⟨e, h, p⟩ := jae p
   refine rs G (hD 3 h h0) ?_
   refine cd p ?_ ?_ <;> intro p
   ·refine rg G ?_
    have p := eL p hb hr
    cases p
    exact rt [] []
   ·exact jad (ibN (thN (rh G (wL G p))))
  ·exact jag (thE (thE (ibE (wE G p hb))))
 rintro ⟨⟩ p s hw
 refine thN (jah hw ?_)
 refine rg G ?_
 cases p
 exact rt [] []
def yjl : MS (Timetable × Trip) Timetable := ⟨.x .r .r, fun x => zq88 x.1 x.2, fun _ => .aggv [.own 0, .own 1, .own 2], fun y => [arO 9 y.Network.Stops, arO 118 y.Network.Lines, arO 74 y.Trips], fun _ _ => []⟩
theorem yov : FnOK Tryz.prog tJ 84 yjl.S := by
 refine fm tt yjl [fo yes] call84 func84 rfl results84 ntmps84 ?_
 rintro ⟨t, x⟩ y cx G (p : zq88 t x = some y)
 unfold zq88 at p
 refine rg G (rg G (jn p (fun d => ⟨[(2, .ref 16 0), (3, .ref 32 0), (4, .ref 48 0), (5, dV d)], [bX 16 30 [dV t.Network.Stops, dV t.Network.Lines, dV t.Trips], bX 32 74 [dV x.Id, dV x.Line, dV x.Start], bX 48 30 [nS, nS, nS]], 80⟩) (fun d p => ?_) ?_))
 ·refine jaa (lp G p (fun v => ⟨[(2, .ref 16 0), (3, .ref 32 0), (4, .ref 48 0), (5, dV v)], [bX 16 30 [dV t.Network.Stops, dV t.Network.Lines, dV t.Trips], bX 32 74 [dV x.Id, dV x.Line, dV x.Start], bX 48 30 [nS, nS, nS]], 80⟩) ?_)
  rintro v m hb p
  rw [yer] at p
  refine jab (jn p (fun e => ⟨[(2, .ref 16 0), (3, .ref 32 0), (4, .ref 48 0), (5, dV v), (22, dV e)], [bX 16 30 [dV t.Network.Stops, dV t.Network.Lines, dV t.Trips], bX 32 74 [dV x.Id, dV x.Line, dV x.Start], bX 48 30 [nS, nS, nS]], 80⟩) (fun e p => ?_) ?_)
  ·rcases bf p with ⟨a, p⟩ | ⟨a, p⟩
   ·obtain ⟨n, i, p⟩ := jae p
    refine de G [] (hN 3 t.Trips (hO 5 (.b true) (hP a (hD 9 i h0)))) ?_
    exact wJ G p
   ·refine de G [] (hN 3 t.Trips (hO 5 (.b false) (hP a h0))) ?_
    exact wJ G p
  rintro e p
  refine cd p ?_ ?_ <;> intro p
  ·exact jad (thN (jaa (rh G (ibN (wL G p)))))
  ·exact jag (thE (thE (ibE (wD G p hb))))
 rintro d p
 obtain ⟨r, j, p⟩ := jae p
 refine rs G (hC 1 (ydy.c _ j) h0) ?_
 obtain ⟨o, k, q, l, s, f, p⟩ := ob3 p
 obtain ⟨u, g, w, h, p⟩ := ob2 p
 refine ds G [(4, []), (5, [144]), (8, [224, 256]), (12, []), (13, [272]), (15, [112, 352])] (hU 4 k (hA 5 24 l (hA 8 24 f (hV 12 g (hA 13 24 h h0))))) ?_
 refine rg G ?_
 cases p
 exact rt [96, 97, 352] []
def yjh : MS (Timetable × Int) Timetable := ⟨.x .r .r, fun x => zq90 x.1 x.2, fun _ => .aggv [.own 0, .own 1, .own 2], fun y => [arO 9 y.Network.Stops, arO 118 y.Network.Lines, arO 74 y.Trips], fun _ _ => []⟩
theorem yot : FnOK Tryz.prog tJ 85 yjh.S := by
 refine fm tt yjh [fo yes] call85 func85 rfl results85 ntmps85 ?_
 rintro ⟨t, i⟩ y cx G (p : zq90 t i = some y)
 unfold zq90 at p
 refine rg G ?_
 obtain ⟨r, h, p⟩ := jae p
 refine rs G (hC 1 (ydy.c _ h) h0) ?_
 obtain ⟨f, a, g, b, j, d, p⟩ := ob3 p
 obtain ⟨k, e, p⟩ := jae p
 refine ds G [(4, []), (5, [112]), (10, []), (11, [192]), (13, [80, 288])] (hU 4 a (hA 5 24 b (hV 10 d (hA 11 24 e h0)))) ?_
 refine rg G ?_
 cases p
 exact rt [64, 65, 288] []
def ygt : MS (Timetable × (List Change)) (Timetable × Bool) := ⟨.x .r .r, fun x => zq66 x.1 x.2, fun y => .tup [.aggv [.own 0, .own 1, .own 2], dV y.2], fun y => [arO 9 y.1.Network.Stops, arO 118 y.1.Network.Lines, arO 74 y.1.Trips], fun _ _ => []⟩
theorem yjw : FnOK Tryz.prog tJ 42 ygt.S := by
 refine fm tt ygt [fo yes, fo yow, fo yov, fo yot, fo yjm] call42 func42 rfl results42 ntmps42 ?_
 rintro ⟨t, list⟩ y cx G (p : zq66 t list = some y)
 unfold zq66 at p
 refine rg G (rg G (jab (rs G (hN 1 list h0) ?_)))
 refine cd p ?_ ?_ <;> intro p
 ·refine rg G ?_
  cases p
  refine wR (x' := ⟨[(4, .ref 16 0), (5, dV false)], [bX 16 30 [.own 32, .own 48, .own 64], aX 32 9 ([] : List ByteArray), aX 48 118 ([] : List Line), aX 64 74 ([] : List Trip)], 96⟩) (Wk_J G.hL ⟨[(4, []), (5, [])], [(16, 32, [.o 32, .o 48, .o 64])], [(32, 9, 1, []), (48, 118, 3, []), (64, 74, 3, [])], 96⟩ (by kernel_rfl)) ?_
  exact rt [32, 48, 64] []
 ·refine jad (thN ?_)
  obtain ⟨r, h, p⟩ := jae p
  refine rs G (hC 1 (ydy.c _ h) h0) ?_
  refine jab (rg G (tF p (fun (q, u, w) => ⟨[(4, .ref 16 0), (6, .ref 32 0), (7, .ref 48 0)], [bX 16 30 [nS, nS, nS], bX 32 30 [nS, nS, nS], bX 48 30 [.own 64, .own 80, .own 96], aX 64 9 q, aX 80 118 u, aX 96 74 w], 128⟩) (fun T hr p => ?_) ?_))
  ·refine jaa (lp G p (fun (at_, v, g, i) => ⟨[(1, dV list), (2, .ref 16 0), (4, .ref 32 0), (6, .ref 48 0), (7, .ref 64 0), (8, dV at_)], [bX 16 30 [dV t.Network.Stops, dV t.Network.Lines, dV t.Trips], bX 32 30 [nS, nS, nS], bX 48 30 [nS, nS, nS], bX 64 30 [.own 80, .own 96, .own 112], aX 80 9 v, aX 96 118 g, aX 112 74 i], 144⟩) ?_)
   rintro ⟨at_, v, g, i⟩ r0 hb p
   rw [yas] at p
   refine jab (rs G (hN 2 list h0) ?_)
   refine cd p ?_ ?_ <;> intro p
   ·refine jad (thN (jF p (fun (N, O, Q) => ⟨[(1, dV list), (2, .ref 16 0), (4, .ref 32 0), (6, .ref 48 0), (7, .ref 64 0), (8, dV at_)], [bX 16 30 [dV t.Network.Stops, dV t.Network.Lines, dV t.Trips], bX 32 30 [nS, nS, nS], bX 48 30 [nS, nS, nS], bX 64 30 [.own 80, .own 96, .own 112], aX 80 9 N, aX 96 118 O, aX 112 74 Q], 144⟩) (fun U z p => ?_) ?_))
    ·refine jaa ?_
     obtain ⟨e, V, p⟩ := jae p
     refine rs G (hD 2 V h0) ?_
     refine jab (jn p (fun C => ⟨[(1, dV list), (2, .ref 16 0), (4, .ref 32 0), (6, .ref 48 0), (7, .ref 64 0), (8, dV at_), (9, .ref 80 0), (45, dV C)], [bX 16 30 [dV t.Network.Stops, dV t.Network.Lines, dV t.Trips], bX 32 30 [nS, nS, nS], bX 48 30 [nS, nS, nS], bX 64 30 [.own 96, .own 112, .own 128], bX 80 76 [dV e.Kind, dV e.Trip.Id, dV e.Trip.Line, dV e.Trip.Start, dV e.To], aX 96 9 v, aX 112 118 g, aX 128 74 i], 160⟩) (fun C p => ?_) ?_)
     ·rcases bf p with ⟨j, p⟩ | ⟨j, p⟩
      ·obtain ⟨e2, W, p⟩ := jae p
       refine de G [] (hO 2 (.b true) (hP j (hD 6 W h0))) ?_
       exact wJ G p
      ·refine de G [] (hO 2 (.b false) (hP j h0)) ?_
       exact wJ G p
     rintro C p
     refine cd p ?_ ?_ <;> intro p
     ·refine rg G ?_
      have p := eR p z
      have p := eL p hb hr
      cases p
      refine wR (x' := ⟨[(4, .ref 16 0), (5, dV false)], [bX 16 30 [.own 32, .own 48, .own 64], aX 32 9 ([] : List ByteArray), aX 48 118 ([] : List Line), aX 64 74 ([] : List Trip)], 96⟩) (Wk_J G.hL ⟨[(4, []), (5, [])], [(16, 32, [.o 32, .o 48, .o 64])], [(32, 9, 1, []), (48, 118, 3, []), (64, 74, 3, [])], 96⟩ (by kernel_rfl)) ?_
      exact rt [32, 48, 64] []
     ·refine jad (thN ?_)
      obtain ⟨Y, Z, p⟩ := jae p
      refine rs G (hC 4 (yd0.c (_, _) Z) h0) ?_
      refine jn p (fun x => ⟨[(1, dV list), (2, .ref 16 0), (4, .ref 32 0), (6, .ref 48 0), (7, .ref 64 0), (8, dV at_), (9, .ref 80 0), (10, dV Y), (11, dV x)], [bX 16 30 [dV t.Network.Stops, dV t.Network.Lines, dV t.Trips], bX 32 30 [nS, nS, nS], bX 48 30 [nS, nS, nS], bX 64 30 [.own 96, .own 112, .own 128], bX 80 76 [dV e.Kind, dV e.Trip.Id, dV e.Trip.Line, dV e.Trip.Start, dV e.To], aX 96 9 v, aX 112 118 g, aX 128 74 i], 160⟩) (fun x p => ?_) ?_
      ·rcases bf p with ⟨k, p⟩ | ⟨k, p⟩
       ·obtain ⟨e6, h6, p⟩ := jae p
        refine de G [] (hO 2 (.b true) (hP k (hD 6 h6 h0))) ?_
        exact wJ G p
       ·refine de G [] (hO 2 (.b false) (hP k h0)) ?_
        exact wJ G p
      rintro x p
      refine jaa (jn p (fun D => ⟨[(1, dV list), (2, .ref 16 0), (4, .ref 32 0), (6, .ref 48 0), (7, .ref 64 0), (8, dV at_), (9, .ref 80 0), (11, dV x), (65, dV D)], [bX 16 30 [dV t.Network.Stops, dV t.Network.Lines, dV t.Trips], bX 32 30 [nS, nS, nS], bX 48 30 [nS, nS, nS], bX 64 30 [.own 96, .own 112, .own 128], bX 80 76 [dV e.Kind, dV e.Trip.Id, dV e.Trip.Line, dV e.Trip.Start, dV e.To], aX 96 9 v, aX 112 118 g, aX 128 74 i], 160⟩) (fun D p => ?_) ?_)
      ·rcases bf p with ⟨a, p⟩ | ⟨a, p⟩
       ·rcases bf p with ⟨l, p⟩ | ⟨l, p⟩
        ·refine re G (hO 3 (.b true) (hP a (hO 7 (.b true) (hP l h0)))) ?_
         exact wJ G p
        ·refine re G (hO 3 (.b true) (hP a (hO 7 (.b false) (hP l h0)))) ?_
         exact wJ G p
       ·refine re G (hO 3 (.b false) (hP a h0)) ?_
        exact wJ G p
      rintro D p
      refine cd p ?_ ?_ <;> intro p
      ·obtain ⟨r4, h7, p⟩ := jae p
       refine re G (hO 3 (.fz [96, 112, 128] [] []) (hC 3 (yjl.c (_, _) h7) h0)) ?_
       exact ibN (ibN (wF G p))
      ·refine jn p (fun E => ⟨[(1, dV list), (2, .ref 16 0), (4, .ref 32 0), (6, .ref 48 0), (7, .ref 64 0), (8, dV at_), (9, .ref 80 0), (11, dV x), (82, dV E)], [bX 16 30 [dV t.Network.Stops, dV t.Network.Lines, dV t.Trips], bX 32 30 [nS, nS, nS], bX 48 30 [nS, nS, nS], bX 64 30 [.own 96, .own 112, .own 128], bX 80 76 [dV e.Kind, dV e.Trip.Id, dV e.Trip.Line, dV e.Trip.Start, dV e.To], aX 96 9 v, aX 112 118 g, aX 128 74 i], 160⟩) (fun E p => ?_) ?_
       ·rcases bf p with ⟨d, p⟩ | ⟨d, p⟩
        ·rcases bf p with ⟨m, p⟩ | ⟨m, p⟩
         ·refine re G (hO 3 (.b true) (hP d (hO 6 (.b true) (hP m h0)))) ?_
          exact wJ G p
         ·refine re G (hO 3 (.b true) (hP d (hO 6 (.b false) (hP m h0)))) ?_
          exact wJ G p
        ·refine re G (hO 3 (.b false) (hP d h0)) ?_
         exact wJ G p
       rintro E p
       refine cd p ?_ ?_ <;> intro p
       ·refine jah (Wk_J (x' := (⟨[(1, dV list), (2, .ref 16 0), (4, .ref 32 0), (6, .ref 48 0), (7, .ref 64 0), (8, dV at_), (9, .ref 80 0)], [bX 16 30 [dV t.Network.Stops, dV t.Network.Lines, dV t.Trips], bX 32 30 [nS, nS, nS], bX 48 30 [nS, nS, nS], bX 64 30 [dV v, dV g, dV i], bX 80 76 [dV e.Kind, dV e.Trip.Id, dV e.Trip.Line, dV e.Trip.Start, dV e.To]], 112⟩ : X)) G.hL ⟨[(1, []), (2, []), (4, []), (6, []), (7, []), (8, []), (9, [])], [(16, 16, []), (32, 32, []), (48, 48, []), (64, 64, []), (80, 80, [])], [], 112⟩ (by kernel_rfl)) ?_
        obtain ⟨r7, H, r8, I, p⟩ := ob2 p
        refine de G [(7, [64, 208, 209, 210])] (hC 5 (yd0.c (_, _) H) (hC 6 (yjh.c (_, _) I) h0)) ?_
        exact ibN (ibN (wF G p))
       ·refine jn p (fun K => ⟨[(1, dV list), (2, .ref 16 0), (4, .ref 32 0), (6, .ref 48 0), (7, .ref 64 0), (8, dV at_), (9, .ref 80 0), (101, dV K)], [bX 16 30 [dV t.Network.Stops, dV t.Network.Lines, dV t.Trips], bX 32 30 [nS, nS, nS], bX 48 30 [nS, nS, nS], bX 64 30 [.own 96, .own 112, .own 128], bX 80 76 [dV e.Kind, dV e.Trip.Id, dV e.Trip.Line, dV e.Trip.Start, dV e.To], aX 96 9 v, aX 112 118 g, aX 128 74 i], 160⟩) (fun K p => ?_) ?_
        ·rcases bf p with ⟨f, p⟩ | ⟨f, p⟩
         ·rcases bf p with ⟨n, p⟩ | ⟨n, p⟩
          ·refine re G (hO 3 (.b true) (hP f (hO 6 (.b true) (hP n h0)))) ?_
           exact wJ G p
          ·refine re G (hO 3 (.b true) (hP f (hO 6 (.b false) (hP n h0)))) ?_
           exact wJ G p
         ·refine re G (hO 3 (.b false) (hP f h0)) ?_
          exact wJ G p
        rintro K p
        refine cd p ?_ ?_ <;> intro p
        ·obtain ⟨r9, L, p⟩ := jae p
         refine rs G (hC 4 (yd0.c (_, _) L) h0) ?_
         obtain ⟨R, A, p⟩ := jae p
         refine rs G (hD 3 A (hE 4 A h0)) ?_
         refine rg G ?_
         obtain ⟨e8, B, p⟩ := jae p
         refine re G (hD 4 B (hS 5 B (⟨R.Id, R.Line, e.To⟩ : Trip) h0)) ?_
         exact ibN (ibN (wF G p))
        ·refine rg G ?_
         have p := eR p z
         have p := eL p hb hr
         cases p
         refine wR (x' := ⟨[(4, .ref 16 0), (5, dV false)], [bX 16 30 [.own 32, .own 48, .own 64], aX 32 9 ([] : List ByteArray), aX 48 118 ([] : List Line), aX 64 74 ([] : List Trip)], 96⟩) (Wk_J G.hL ⟨[(4, []), (5, [])], [(16, 32, [.o 32, .o 48, .o 64])], [(32, 9, 1, []), (48, 118, 3, []), (64, 74, 3, [])], 96⟩ (by kernel_rfl)) ?_
         exact rt [32, 48, 64] []
    rintro ⟨N, O, Q⟩ p
    exact rh G (wL G p)
   ·exact jag (thE (thE (ibE (wE G p hb))))
  rintro ⟨q, u, w⟩ p s hw
  refine thN (jah hw ?_)
  refine jab ?_
  obtain ⟨r12, M, p⟩ := jae p
  refine rs G (hC 1 (ygg.c _ M) h0) ?_
  refine cd p ?_ ?_ <;> intro p
  ·refine rg G ?_
   cases p
   refine wR (x' := ⟨[(4, .ref 16 0), (5, dV false)], [bX 16 30 [.own 32, .own 48, .own 64], aX 32 9 ([] : List ByteArray), aX 48 118 ([] : List Line), aX 64 74 ([] : List Trip)], 96⟩) (Wk_J G.hL ⟨[(4, []), (5, [])], [(16, 16, [.o 32, .o 48, .o 64])], [(32, 9, 1, []), (48, 118, 3, []), (64, 74, 3, [])], 96⟩ (by kernel_rfl)) ?_
   exact rt [32, 48, 64] []
  ·refine jad (thN (rg G ?_))
   cases p
   exact rt [64, 80, 96] []
def yao : MS (Timetable × (List Change)) Bool := mS zq41
theorem ye5 : FnOK Tryz.prog tJ 37 yao.S := by
 refine fm tt yao [fo yjm, fo yjw] call37 func37 rfl results37 ntmps37 ?_
 rintro ⟨t, list⟩ y cx G (p : zq41 t list = some y)
 unfold zq41 at p
 refine rg G (jab ?_)
 obtain ⟨r, h, p⟩ := jae p
 refine rs G (hC 1 (ygg.c _ h) h0) ?_
 refine cd p ?_ ?_ <;> intro p
 ·refine rg G ?_
  cases p
  exact rt [] []
 ·refine jad (thN ?_)
  obtain ⟨b, a, p⟩ := jae p
  refine rs G (hC 2 (ygt.c (_, _) a) h0) ?_
  refine rg G ?_
  cases p
  exact rt [] []
def ygr : MS ((List Change) × (List Change)) ((List Int)) := ⟨.x .r .r, fun x => zq68 x.1 x.2, fun _ => .own 0, fun y => [arO 3 y], fun _ _ => []⟩
theorem yjv : FnOK Tryz.prog tJ 38 ygr.S := by
 refine fm tt ygr [fo yew] call38 func38 rfl results38 ntmps38 ?_
 rintro ⟨x, y_⟩ y cx G (p : zq68 x y_ = some y)
 unfold zq68 at p
 refine rg G (rg G (jab (rg G (tl p (fun d => ⟨[(5, .own 16)], [aX 16 3 d], 48⟩) (fun d p => ?_) ?_))))
 ·refine jaa (lp G p (fun (v, k) => ⟨[(0, dV x), (1, dV y_), (5, .own 16), (6, dV v)], [aX 16 3 k], 48⟩) ?_)
  rintro ⟨v, k⟩ o hb p
  rw [yex] at p
  refine jab (rs G (hN 2 x h0) ?_)
  refine cd p ?_ ?_ <;> intro p
  ·refine jad (thN (jn p (fun f => ⟨[(0, dV x), (1, dV y_), (5, .own 16), (6, dV v)], [aX 16 3 f], 48⟩) (fun f p => ?_) ?_))
   ·refine jaa ?_
    obtain ⟨e, h, r, i, p⟩ := ob2 p
    refine rs G (hD 3 h (hC 7 (ycl.c (_, _) i) h0)) ?_
    refine jn p (fun g => ⟨[(0, dV x), (1, dV y_), (5, .own 16), (6, dV v), (35, dV g)], [aX 16 3 k], 48⟩) (fun g p => ?_) ?_
    ·rcases bf p with ⟨a, p⟩ | ⟨a, p⟩
     ·obtain ⟨q, j, t, l, p⟩ := ob2 p
      refine de G [] (hO 2 (.b true) (hP a (hD 5 j (hD 9 l h0)))) ?_
      exact wJ G p
     ·refine de G [] (hO 2 (.b false) (hP a h0)) ?_
      exact wJ G p
    rintro g p
    refine cd p ?_ ?_ <;> intro p
    ·obtain ⟨w, m, u, n, p⟩ := ob2 p
     refine re G (hD 3 m (hA 8 8 n h0)) ?_
     exact ibN (wJ G p)
    ·exact jad (ibN (wJ G p))
   rintro f p
   exact rh G (wL G p)
  ·exact jag (thE (thE (ibE (wD G p hb))))
 rintro d p s hw
 refine thN (jah hw ?_)
 refine rg G ?_
 cases p
 exact rt [16] []
def ykd : MS (Timetable × (List Change) × (List Change)) ((List Change) × Bool) := ⟨.x .r (.x .r .r), fun x => zq42 x.1 x.2.1 x.2.2, fun y => .tup [.own 0, dV y.2], fun y => [arO 76 y.1], fun _ _ => []⟩
theorem ypm : FnOK Tryz.prog tJ 9 ykd.S := by
 refine fm tt ykd [fo ye5, fo yjv, fo yew] call9 func9 rfl results9 ntmps9 ?_
 rintro ⟨t, x, y_⟩ y cx G (p : zq42 t x y_ = some y)
 unfold zq42 at p
 refine rg G (rg G (jab ?_))
 obtain ⟨r, h, p⟩ := jae p
 refine jn p (fun v => ⟨[(1, dV x), (2, dV y_), (3, .ref 16 0), (8, .own 32), (29, dV v)], [bX 16 30 [dV t.Network.Stops, dV t.Network.Lines, dV t.Trips], aX 32 76 ([] : List Change)], 64⟩) (fun v p => ?_) ?_
 ·rcases bf p with ⟨hb, p⟩ | ⟨hb, p⟩
  ·refine re G (hC 2 (yao.c (_, _) h) (hO 4 (.b true) (hP hb h0))) ?_
   exact wJ G p
  ·obtain ⟨T, E, p⟩ := jae p
   rcases bf p with ⟨a, p⟩ | ⟨a, p⟩
   ·refine re G (hC 2 (yao.c (_, _) h) (hO 4 (.b false) (hP hb (hC 7 (yao.c (_, _) E) (hO 10 (.b true) (hP a h0)))))) ?_
    exact wJ G p
   ·obtain ⟨I, K, p⟩ := jae p
    refine re G (hC 2 (yao.c (_, _) h) (hO 4 (.b false) (hP hb (hC 7 (yao.c (_, _) E) (hO 10 (.b false) (hP a (hC 13 (ygr.c (_, _) K) (hN 14 I h0)))))))) ?_
    exact wJ G p
 rintro v p
 refine cd p ?_ ?_ <;> intro p
 ·refine rg G ?_
  cases p
  exact rt [32] []
 ·refine jad (thN ?_)
  obtain ⟨u, L, p⟩ := jae p
  refine rs G (hA 2 40 L h0) ?_
  refine jab (rg G (tl p (fun j => ⟨[(3, .ref 16 0), (8, .own 32), (9, .own 48)], [bX 16 30 [dV t.Network.Stops, dV t.Network.Lines, dV t.Trips], aX 32 76 ([] : List Change), aX 48 76 j], 80⟩) (fun j p => ?_) ?_))
  ·refine jaa (lp G p (fun (d, f) => ⟨[(1, dV x), (2, dV y_), (3, .ref 16 0), (8, .own 32), (9, .own 48), (10, dV d)], [bX 16 30 [dV t.Network.Stops, dV t.Network.Lines, dV t.Trips], aX 32 76 ([] : List Change), aX 48 76 f], 80⟩) ?_)
   rintro ⟨d, f⟩ M k p
   rw [ybz] at p
   refine jab (rs G (hN 2 y_ h0) ?_)
   refine cd p ?_ ?_ <;> intro p
   ·refine jad (thN (jn p (fun l => ⟨[(1, dV x), (2, dV y_), (3, .ref 16 0), (8, .own 32), (9, .own 48), (10, dV d)], [bX 16 30 [dV t.Network.Stops, dV t.Network.Lines, dV t.Trips], aX 32 76 ([] : List Change), aX 48 76 l], 80⟩) (fun l p => ?_) ?_))
    ·refine jaa (jab ?_)
     obtain ⟨e, N, U, O, p⟩ := ob2 p
     refine rs G (hD 3 N (hC 7 (ycl.c (_, _) O) h0)) ?_
     refine cd p ?_ ?_ <;> intro p
     ·exact jag (thE (ibE (wJ G p)))
     ·refine jad (thN (rs G (hN 1 f h0) ?_))
      refine jn p (fun i => ⟨[(1, dV x), (2, dV y_), (3, .ref 16 0), (8, .own 32), (9, .own 48), (10, dV d), (11, dV i)], [bX 16 30 [dV t.Network.Stops, dV t.Network.Lines, dV t.Trips], aX 32 76 ([] : List Change), aX 48 76 f], 80⟩) (fun i p => ?_) ?_
      ·refine jaa (lp G p (fun m => ⟨[(1, dV x), (2, dV y_), (3, .ref 16 0), (8, .own 32), (9, .own 48), (10, dV d), (11, dV m)], [bX 16 30 [dV t.Network.Stops, dV t.Network.Lines, dV t.Trips], aX 32 76 ([] : List Change), aX 48 76 f], 80⟩) ?_)
       rintro m M n p
       rw [yb0] at p
       refine jab (jn p (fun o => ⟨[(1, dV x), (2, dV y_), (3, .ref 16 0), (8, .own 32), (9, .own 48), (10, dV d), (11, dV m), (68, dV o)], [bX 16 30 [dV t.Network.Stops, dV t.Network.Lines, dV t.Trips], aX 32 76 ([] : List Change), aX 48 76 f], 80⟩) (fun o p => ?_) ?_)
       ·rcases bf p with ⟨g, p⟩ | ⟨g, p⟩
        ·obtain ⟨V, H, W, Q, p⟩ := ob2 p
         refine de G [] (hO 2 (.b true) (hP g (hD 6 H (hE 9 H (hD 12 Q h0))))) ?_
         exact wJ G p
        ·refine de G [] (hO 2 (.b false) (hP g h0)) ?_
         exact wJ G p
       rintro o p
       refine cd p ?_ ?_ <;> intro p
       ·exact jad (thN (jaa (rh G (ibN (wL G p)))))
       ·exact jag (thE (thE (ibE (wD G p n))))
      rintro i p
      refine jah (Wk_J (x' := (⟨[(1, dV x), (2, dV y_), (3, .ref 16 0), (8, .own 32), (9, dV f), (10, dV d), (11, dV i)], [bX 16 30 [dV t.Network.Stops, dV t.Network.Lines, dV t.Trips], aX 32 76 ([] : List Change)], 64⟩ : X)) G.hL ⟨[(1, []), (2, []), (3, []), (8, []), (9, []), (10, []), (11, [])], [(16, 16, []), (32, 32, [])], [], 64⟩ (by kernel_rfl)) ?_
      obtain ⟨Y, q, Z, w, e6, z, p⟩ := ob3 p
      obtain ⟨u8, A, u9, B, R, C, p⟩ := ob3 p
      refine de G [(3, []), (4, [64]), (10, [128, 208]), (13, []), (14, [224])] (hU 3 q (hA 4 40 w (hD 7 z (hA 10 40 A (hV 13 B (hA 14 40 C h0)))))) ?_
      exact ibN (wJ G p)
    rintro l p
    exact rh G (wL G p)
   ·exact jag (thE (thE (ibE (wD G p k))))
  rintro j p s hw
  refine thN (jah hw ?_)
  refine jab ?_
  obtain ⟨r4, D, p⟩ := jae p
  refine rs G (hC 2 (yao.c (_, _) D) h0) ?_
  refine cd p ?_ ?_ <;> intro p
  ·refine rg G ?_
   cases p
   exact rt [32] []
  ·refine jad (thN (rg G ?_))
   cases p
   exact rt [48] []
def ya8 : MS ((List Change) × (List Change)) Bool := mS yfc
theorem ymh : FnOK Tryz.prog tJ 10 ya8.S := by
 refine fm tt ya8 [] call10 func10 rfl results10 ntmps10 ?_
 rintro ⟨a, b⟩ y cx G (p : yfc a b = some y)
 unfold yfc at p
 refine rg G (jab (rs G (hN 1 a (hN 3 b h0)) ?_))
 refine cd p ?_ ?_ <;> intro p
 ·refine rg G ?_
  cases p
  exact rt [] []
 ·refine jad (thN (jab (rg G (tF p (fun _ => ⟨[], [], 32⟩) (fun e hr p => ?_) ?_))))
  ·refine jaa (lp G p (fun v => ⟨[(0, dV a), (1, dV b), (5, dV v)], [], 32⟩) ?_)
   rintro v f hb p
   rw [ydf] at p
   refine jab (rs G (hN 2 a h0) ?_)
   refine cd p ?_ ?_ <;> intro p
   ·refine jad (thN (jab (jaa ?_)))
    obtain ⟨g, c, h, d, p⟩ := ob2 p
    refine ds G [] (hD 2 c (hD 6 d h0)) ?_
    refine cd p ?_ ?_ <;> intro p
    ·refine rg G ?_
     have p := eL p hb hr
     cases p
     exact rt [] []
    ·exact jad (ibN (thN (rh G (wL G p))))
   ·exact jag (thE (thE (ibE (wE G p hb))))
  rintro ⟨⟩ p s hw
  refine thN (jah hw ?_)
  refine rg G ?_
  cases p
  exact rt [] []
def yph : MS (Timetable × (List Change) × (List Change)) ((List Int) × Bool) := ⟨.x .r (.x .r .r), fun x => zq4 x.1 x.2.1 x.2.2, fun y => .tup [dV y.1, dV y.2], fun _ => [], fun _ _ => []⟩
theorem yrz : FnOK Tryz.prog tJ 11 yph.S := by
 refine fm tt yph [fo yob, fo ykv] call11 func11 rfl results11 ntmps11 ?_
 rintro ⟨t, x, y_⟩ y cx G (p : zq4 t x y_ = some y)
 unfold zq4 at p
 refine rg G (jab ?_)
 obtain ⟨r, h, p⟩ := jae p
 refine jn p (fun v => ⟨[(1, dV x), (2, dV y_), (17, dV v)], [], 32⟩) (fun v p => ?_) ?_
 ·rcases bf p with ⟨hb, p⟩ | ⟨hb, p⟩
  ·refine re G (hC 2 (yby.c (_, _) h) (hO 4 (.b true) (hP hb h0))) ?_
   exact wJ G p
  ·obtain ⟨e, a, p⟩ := jae p
   refine re G (hC 2 (yby.c (_, _) h) (hO 4 (.b false) (hP hb (hC 7 (yby.c (_, _) a) h0)))) ?_
   exact wJ G p
 rintro v p
 refine cd p ?_ ?_ <;> intro p
 ·refine rg G ?_
  cases p
  exact rt [] [[.z 1]]
 ·refine jad (thN ?_)
  obtain ⟨f, d, p⟩ := jae p
  refine rs G (hC 2 (yhf.c (_, _) d) h0) ?_
  cases p
  exact rt [] []
def ykf : MS (Timetable × (List Change) × (List Change)) ((List Int) × Bool) := ⟨.x .r (.x .r .r), fun x => zq39 x.1 x.2.1 x.2.2, fun y => .tup [.own 0, dV y.2], fun y => [arO 3 y.1], fun _ _ => []⟩
theorem ypp : FnOK Tryz.prog tJ 12 ykf.S := by
 refine fm tt ykf [fo ye5, fo yjv] call12 func12 rfl results12 ntmps12 ?_
 rintro ⟨t, x, y_⟩ y cx G (p : zq39 t x y_ = some y)
 unfold zq39 at p
 refine rg G (jab ?_)
 obtain ⟨r, h, p⟩ := jae p
 refine jn p (fun v => ⟨[(1, dV x), (2, dV y_), (17, dV v)], [], 32⟩) (fun v p => ?_) ?_
 ·rcases bf p with ⟨hb, p⟩ | ⟨hb, p⟩
  ·refine re G (hC 2 (yao.c (_, _) h) (hO 4 (.b true) (hP hb h0))) ?_
   exact wJ G p
  ·obtain ⟨e, a, p⟩ := jae p
   refine re G (hC 2 (yao.c (_, _) h) (hO 4 (.b false) (hP hb (hC 7 (yao.c (_, _) a) h0)))) ?_
   exact wJ G p
 rintro v p
 refine cd p ?_ ?_ <;> intro p
 ·refine rg G ?_
  cases p
  exact rt [32] []
 ·refine jad (thN ?_)
  obtain ⟨f, d, p⟩ := jae p
  refine rs G (hC 2 (ygr.c (_, _) d) h0) ?_
  cases p
  exact rt [64] []
def yde : MS ((List Int) × (List Int)) Bool := mS yfb
theorem ymg : FnOK Tryz.prog tJ 13 yde.S := by
 refine fm tt yde [] call13 func13 rfl results13 ntmps13 ?_
 rintro ⟨a, b⟩ y cx G (p : yfb a b = some y)
 unfold yfb at p
 refine rg G (jab (rs G (hN 1 a (hN 3 b h0)) ?_))
 refine cd p ?_ ?_ <;> intro p
 ·refine rg G ?_
  cases p
  exact rt [] []
 ·refine jad (thN (jab (rg G (tF p (fun _ => ⟨[], [], 32⟩) (fun e hr p => ?_) ?_))))
  ·refine jaa (lp G p (fun v => ⟨[(0, dV a), (1, dV b), (5, dV v)], [], 32⟩) ?_)
   rintro v f hb p
   rw [ybl] at p
   refine jab (rs G (hN 2 a h0) ?_)
   refine cd p ?_ ?_ <;> intro p
   ·refine jad (thN (jab (jaa ?_)))
    obtain ⟨g, c, h, d, p⟩ := ob2 p
    refine ds G [] (hD 2 c (hD 6 d h0)) ?_
    refine cd p ?_ ?_ <;> intro p
    ·refine rg G ?_
     have p := eL p hb hr
     cases p
     exact rt [] []
    ·exact jad (ibN (thN (rh G (wL G p))))
   ·exact jag (thE (thE (ibE (wE G p hb))))
  rintro ⟨⟩ p s hw
  refine thN (jah hw ?_)
  refine rg G ?_
  cases p
  exact rt [] []
def ypx : MS (Timetable × (List Change)) (Timetable × Bool) := ⟨.x .r .r, fun x => zq2 x.1 x.2, fun y => .tup [dV y.1, dV y.2], fun _ => [], fun _ _ => []⟩
theorem yr2 : FnOK Tryz.prog tJ 39 ypx.S := by
 refine fm tt ypx [fo yji, fo yk9] call39 func39 rfl results39 ntmps39 ?_
 rintro ⟨t, list⟩ y cx G (p : zq2 t list = some y)
 unfold zq2 at p
 refine rg G (jab ?_)
 obtain ⟨r, h, p⟩ := jae p
 refine rs G (hC 1 (yjj.c _ h) h0) ?_
 refine cd p ?_ ?_ <;> intro p
 ·refine rg G ?_
  cases p
  exact rt [] [[.z 1, .z 3, .z 3]]
 ·refine jad (thN ?_)
  obtain ⟨b, a, p⟩ := jae p
  refine rs G (hC 2 (yir.c (_, _) a) h0) ?_
  cases p
  exact rt [] []
def yhb : MS (Timetable × Trip) Line := mS zq28
theorem ykn : FnOK Tryz.prog tJ 77 yhb.S := by
 refine fm tt yhb [] call77 func77 rfl results77 ntmps77 ?_
 rintro ⟨t, x⟩ y cx G (p : zq28 t x = some y)
 unfold zq28 at p
 refine rg G ?_
 obtain ⟨e, h, p⟩ := jae p
 refine rs G (hD 5 h h0) ?_
 cases p
 exact rt [] []
def ykm : MS (Timetable × Trip) (List Int) := ⟨.x .r .r, fun x => zq29 x.1 x.2, fun _ => .own 0, fun y => [arO 3 y], fun _ _ => []⟩
theorem ypy : FnOK Tryz.prog tJ 78 ykm.S := by
 refine fm tt ykm [fo ykn] call78 func78 rfl results78 ntmps78 ?_
 rintro ⟨t, x⟩ y cx G (p : zq29 t x = some y)
 unfold zq29 at p
 refine rg G (rg G (jab ?_))
 obtain ⟨r, h, p⟩ := jae p
 refine rs G (hC 2 (yhb.c (_, _) h) (hN 4 r.Runs h0)) ?_
 refine tl p (fun a => ⟨[(5, .own 16)], [aX 16 3 a], 48⟩) (fun a p => ?_) ?_
 ·refine jaa (lp G p (fun (v, b) => ⟨[(5, .own 16), (14, dV r.Runs), (15, dV (r.Runs.length : Int)), (16, dV v)], [aX 16 3 b], 48⟩) ?_)
  rintro ⟨v, b⟩ i hb p
  rw [ye8] at p
  refine rg G (jab (cd p ?_ ?_)) <;> intro p
  ·refine jad (thN (jab (jaa ?_)))
   obtain ⟨e, f, p⟩ := jae p
   refine rs G (hD 1 f h0) ?_
   obtain ⟨j, d, u, g, p⟩ := ob2 p
   refine re G (hD 3 d (hE 4 d (hA 8 8 g h0))) ?_
   exact ibN (thN (rh G (wL G p)))
  ·exact jag (thE (thE (ibE (wD G p hb))))
 rintro a p s hw
 refine thN (jah hw ?_)
 refine rg G ?_
 cases p
 exact rt [16] []
def yje : MS ((List Int) × (List Int)) Int := mS zq95
theorem yoo : FnOK Tryz.prog tJ 81 yje.S := by
 refine fm tt yje [fo yoc] call81 func81 rfl results81 ntmps81 ?_
 rintro ⟨a, b⟩ y cx G (p : zq95 a b = some y)
 unfold zq95 at p
 refine rg G (jab (rs G (hN 1 a h0) ?_))
 refine tF p (fun _ => ⟨[(0, dV a), (1, dV b)], [], 32⟩) (fun g hr p => ?_) ?_
 ·refine jaa (lp G p (fun v => ⟨[(0, dV a), (1, dV b), (9, dV a), (10, dV (a.length : Int)), (11, dV v)], [], 32⟩) ?_)
  rintro v i hb p
  rw [yar] at p
  refine rg G (jab (cd p ?_ ?_)) <;> intro p
  ·refine jad (thN (jab (jaa ?_)))
   obtain ⟨e, h, p⟩ := jae p
   refine rs G (hD 1 h h0) ?_
   refine jab (rs G (hN 2 b h0) ?_)
   refine cd p ?_ ?_ <;> intro p
   ·refine rg G ?_
    have p := eL p hb hr
    cases p
    exact rt [] []
   ·refine jad (thN ?_)
    obtain ⟨j, d, p⟩ := jae p
    refine rs G (hD 2 d h0) ?_
    obtain ⟨k, f, p⟩ := jae p
    refine rs G (hC 2 (yno.c (_, _) f) h0) ?_
    refine rg G (cd p ?_ ?_) <;> intro p
    ·refine rg G ?_
     have p := eL p hb hr
     cases p
     exact rt [] []
    ·exact jad (ibN (thN (rh G (wL G p))))
  ·exact jag (thE (thE (ibE (wE G p hb))))
 rintro ⟨⟩ p s hw
 refine thN (jah hw ?_)
 refine jab (rs G (hN 1 a (hN 3 b h0)) ?_)
 refine cd p ?_ ?_ <;> intro p
 ·refine rg G ?_
  cases p
  exact rt [] []
 ·refine jad (thN (rg G ?_))
  cases p
  exact rt [] []
def yai : MS (A2_Int × A2_Int) Int := mS zq14
theorem yay : FnOK Tryz.prog tJ 80 yai.S := by
 refine fm tt yai [fo yoo] call80 func80 rfl results80 ntmps80 ?_
 rintro ⟨a, b⟩ y cx G (p : zq14 a b = some y)
 unfold zq14 at p
 refine rg G ?_
 obtain ⟨e, d, p⟩ := jae p
 refine ds G [(0, [16]), (1, [32])] (hP trivial (hP trivial (hC 2 (yje.c (_, _) d) h0))) ?_
 cases p
 exact rt [] []
def yfp : MS ((List A2_Int) × Int × Int) ((List A2_Int)) := ⟨⟨[.sl, .rd, .rd, .fn 80 []], fun x => [.sc undef, Enc.e x.2.1, Enc.e x.2.2, .agg []], fun x => [arO 87 x.1], 1, 1, fun _ => rfl, fun _ => rfl, rfl, (by
  rintro ⟨a0, a1, a2⟩ ⟨b0, b1, b2⟩ h hO
  have q0 : a0 = b0 := Enc.inj _ _ (congrArg (fun l => D.sl 2 (obL l 0)) hO)
  have q1 : a1 = b1 := qI 1 h
  have q2 : a2 = b2 := qI 2 h
  subst q0; subst q1; subst q2; rfl)⟩, fun x => yqt x.1 x.2.1 x.2.2, fun _ => .tup [], fun _ => [], fun _ y => [arO 87 y]⟩
theorem ym5 : FnOK Tryz.prog tJ 208 yfp.S := by
 refine fm tt yfp [fo yay] call208 func208 rfl results208 ntmps208 ?_
 rintro ⟨data, a, b⟩ y cx G (p : yqt data a b = some y)
 obtain ⟨cmp, hf_cmp⟩ : ∃ q, (fun (z0 : A2_Int) (z1 : A2_Int) => zq14 z0 z1) = q := ⟨_, rfl⟩
 have p : yqu data a b cmp = some y := by rw [<- hf_cmp]; exact p
 unfold yqu at p
 refine rg G (jaa (lp G p (fun (v, f) => ⟨[(0, .own 0), (1, dV a), (2, dV b), (3, .fn 80 []), (8, dV v)], [aX 0 87 f], 48⟩) ?_))
 rintro ⟨v, f⟩ u hb p
 rw [yih] at p
 refine jab (rg G (cd p ?_ ?_)) <;> intro p
 ·refine jad (thN (jab (jaa (rg G (tl p (fun d => ⟨[(0, .own 0), (1, dV a), (2, dV b), (3, .fn 80 []), (8, dV v)], [aX 0 87 d], 48⟩) (fun d p => ?_) ?_)))))
  ·refine jaa (lp G p (fun (m, e) => ⟨[(0, .own 0), (1, dV a), (2, dV b), (3, .fn 80 []), (8, dV v), (9, dV m)], [aX 0 87 e], 48⟩) ?_)
   rintro ⟨m, e⟩ u n p
   rw [yii] at p
   refine jab (jn p (fun o => ⟨[(0, .own 0), (1, dV a), (2, dV b), (3, .fn 80 []), (8, dV v), (9, dV m), (34, dV o)], [aX 0 87 e], 48⟩) (fun o p => ?_) ?_)
   ·rcases bf p with ⟨g, p⟩ | ⟨g, p⟩
    ·obtain ⟨w, r, x, t, z, l, p⟩ := ob3 p
     have l : zq14 w x = some z := by rw [<- hf_cmp] at l; exact l
     refine de G [(14, [])] (hO 3 (.b true) (hP g (hD 7 r (hE 8 r (hD 12 t (hE 13 t (hC 14 (yai.c (_, _) l) h0))))))) ?_
     exact wJ G p
    ·refine de G [(14, [])] (hO 3 (.b false) (hP g h0)) ?_
     exact wJ G p
   rintro o p
   refine cd p ?_ ?_ <;> intro p
   ·refine jad (thN (jab (jaa ?_)))
    obtain ⟨A, h, B, i, C, j, p⟩ := ob3 p
    obtain ⟨D, k, p⟩ := jae p
    refine de G [(15, [0]), (17, [0])] (hD 8 h (hE 9 h (hD 12 i (hE 13 i (hD 14 j (hS 15 j A (hD 16 k (hS 17 k B h0)))))))) ?_
    exact ibN (thN (rh G (wL G p)))
   ·exact jag (thE (thE (ibE (wD G p n))))
  rintro d p s hw
  refine ibN (thN (jah hw ?_))
  exact rh G (wL G p)
 ·have p := eD p hb
  refine jag (thE (thE (ibE ?_)))
  cases p
  exact fN [] []
def ydh : MS ((List A2_Int) × Int × Int × Int) ((List A2_Int)) := ⟨⟨[.sl, .rd, .rd, .rd, .fn 80 []], fun x => [.sc undef, Enc.e x.2.1, Enc.e x.2.2.1, Enc.e x.2.2.2, .agg []], fun x => [arO 87 x.1], 1, 1, fun _ => rfl, fun _ => rfl, rfl, (by
  rintro ⟨a0, a1, a2, a3⟩ ⟨b0, b1, b2, b3⟩ h hO
  have q0 : a0 = b0 := Enc.inj _ _ (congrArg (fun l => D.sl 2 (obL l 0)) hO)
  have q1 : a1 = b1 := qI 1 h
  have q2 : a2 = b2 := qI 2 h
  have q3 : a3 = b3 := qI 3 h
  subst q0; subst q1; subst q2; subst q3; rfl)⟩, fun x => ymk x.1 x.2.1 x.2.2.1 x.2.2.2, fun _ => .tup [], fun _ => [], fun _ y => [arO 87 y]⟩
theorem ymj : FnOK Tryz.prog tJ 232 ydh.S := by
 refine fm tt ydh [fo yay] call232 func232 rfl results232 ntmps232 ?_
 rintro ⟨data, lo, hi, first⟩ y cx G (p : ymk data lo hi first = some y)
 obtain ⟨cmp, hf_cmp⟩ : ∃ q, (fun (z0 : A2_Int) (z1 : A2_Int) => zq14 z0 z1) = q := ⟨_, rfl⟩
 have p : ykx data lo hi first cmp = some y := by rw [<- hf_cmp]; exact p
 unfold ykx at p
 refine rg G (jaa (lp G p (fun (v, a) => ⟨[(0, .own 0), (2, dV hi), (3, dV first), (4, .fn 80 []), (10, dV v)], [aX 0 87 a], 48⟩) ?_))
 rintro ⟨v, a⟩ E hb p
 rw [yhh] at p
 refine jaa (rg G (jab (rg G (cd p ?_ ?_)))) <;> intro p
 ·have p := eD p hb
  refine jag (thE (ibX rfl (thE (ibE ?_))))
  cases p
  exact fN [] []
 ·refine jad (thN (jn p (fun l => ⟨[(0, .own 0), (2, dV hi), (3, dV first), (4, .fn 80 []), (10, dV v), (11, dV l)], [aX 0 87 a], 48⟩) (fun l p => ?_) ?_))
  ·refine jn p (fun m => ⟨[(0, .own 0), (2, dV hi), (3, dV first), (4, .fn 80 []), (10, dV v), (11, dV (w64 ((w64 (2 * v)) + 1))), (40, dV m)], [aX 0 87 a], 48⟩) (fun m p => ?_) ?_
   ·rcases bf p with ⟨e, p⟩ | ⟨e, p⟩
    ·obtain ⟨u, r, w, s, x, k, p⟩ := ob3 p
     have k : zq14 u w = some x := by rw [<- hf_cmp] at k; exact k
     refine de G [(19, [])] (hO 4 (.b true) (hP e (hD 10 r (hE 11 r (hD 17 s (hE 18 s (hC 19 (yai.c (_, _) k) h0))))))) ?_
     exact wJ G p
    ·refine de G [(19, [])] (hO 4 (.b false) (hP e h0)) ?_
     exact wJ G p
   rintro m p
   refine cd p ?_ ?_ <;> intro p
   ·exact rh G (wJ G p)
   ·exact jad (wJ G p)
  rintro l p
  refine jab ?_
  obtain ⟨z, t, A, f, B, d, p⟩ := ob3 p
  have d : zq14 z A = some B := by rw [<- hf_cmp] at d; exact d
  refine ds G [(13, [])] (hD 5 t (hE 6 t (hD 11 f (hE 12 f (hC 13 (yai.c (_, _) d) h0))))) ?_
  refine cd p ?_ ?_ <;> intro p
  ·have p := eD p hb
   cases p
   exact rt [] []
  ·refine jad (thN ?_)
   obtain ⟨n, g, o, h, C, i, p⟩ := ob3 p
   obtain ⟨D, j, p⟩ := jae p
   refine ds G [(21, [0]), (23, [0])] (hD 12 g (hE 13 g (hD 18 h (hE 19 h (hD 20 i (hS 21 i n (hD 22 j (hS 23 j o h0)))))))) ?_
   exact rh G (ibN (wL G p))
def yfr : MS ((List A2_Int) × Int × Int) ((List A2_Int)) := ⟨⟨[.sl, .rd, .rd, .fn 80 []], fun x => [.sc undef, Enc.e x.2.1, Enc.e x.2.2, .agg []], fun x => [arO 87 x.1], 1, 1, fun _ => rfl, fun _ => rfl, rfl, (by
  rintro ⟨a0, a1, a2⟩ ⟨b0, b1, b2⟩ h hO
  have q0 : a0 = b0 := Enc.inj _ _ (congrArg (fun l => D.sl 2 (obL l 0)) hO)
  have q1 : a1 = b1 := qI 1 h
  have q2 : a2 = b2 := qI 2 h
  subst q0; subst q1; subst q2; rfl)⟩, fun x => yqx x.1 x.2.1 x.2.2, fun _ => .tup [], fun _ => [], fun _ y => [arO 87 y]⟩
theorem ym7 : FnOK Tryz.prog tJ 209 yfr.S := by
 refine fm tt yfr [fo ymj] call209 func209 rfl results209 ntmps209 ?_
 rintro ⟨data, a, b⟩ y cx G (p : yqx data a b = some y)
 obtain ⟨cmp, hf_cmp⟩ : ∃ q, (fun (z0 : A2_Int) (z1 : A2_Int) => zq14 z0 z1) = q := ⟨_, rfl⟩
 have p : yqy data a b cmp = some y := by rw [<- hf_cmp]; exact p
 unfold yqy at p
 refine rg G (rg G (rg G (jab ?_)))
 obtain ⟨u, h, p⟩ := jae p
 refine rs G (hK h h0) ?_
 refine tl p (fun d => ⟨[(0, .own 0), (3, .fn 80 []), (8, dV a), (9, kV .i64 0), (10, dV (w64 (b - a)))], [aX 0 87 d], 48⟩) (fun d p => ?_) ?_
 ·refine jaa (lp G p (fun (v, e) => ⟨[(0, .own 0), (3, .fn 80 []), (8, dV a), (9, kV .i64 0), (10, dV (w64 (b - a))), (11, dV v)], [aX 0 87 e], 48⟩) ?_)
  rintro ⟨v, e⟩ x hb p
  rw [yim] at p
  refine jab (rg G (cd p ?_ ?_)) <;> intro p
  ·refine jad (thN (jab (jaa ?_)))
   obtain ⟨r, i, p⟩ := jae p
   have i : ymk e v (w64 (b - a)) a = some r := by rw [<- hf_cmp] at i; exact i
   refine re G (hC 5 (ydh.c (_, _, _, _) i) h0) ?_
   exact ibN (thN (rh G (wL G p)))
  ·exact jag (thE (thE (ibE (wD G p hb))))
 rintro d p s hw
 refine thN (jah hw ?_)
 refine rg G (jaa (lp G p (fun (j, f) => ⟨[(0, .own 0), (3, .fn 80 []), (8, dV a), (9, kV .i64 0), (12, dV j)], [aX 0 87 f], 48⟩) ?_))
 rintro ⟨j, f⟩ x k p
 rw [yil] at p
 refine jab (rg G (cd p ?_ ?_)) <;> intro p
 ·refine jad (thN (jab (jaa ?_)))
  obtain ⟨l, m, n, o, A, t, p⟩ := ob3 p
  obtain ⟨B, w, p⟩ := jae p
  refine ds G [(17, [0]), (19, [0])] (hD 10 m (hE 11 m (hD 14 o (hE 15 o (hD 16 t (hS 17 t l (hD 18 w (hS 19 w n h0)))))))) ?_
  obtain ⟨z, g, p⟩ := jae p
  have g : ymk ((f.set a.toNat l).set (w64 (a + j)).toNat n) 0 j a = some z := by rw [<- hf_cmp] at g; exact g
  refine re G (hC 5 (ydh.c (_, _, _, _) g) h0) ?_
  exact ibN (thN (rh G (wL G p)))
 ·have p := eD p k
  refine jag (thE (thE (ibE ?_)))
  cases p
  exact fN [] []
def yb4 : MS ((List A2_Int) × Int × Int × Int) (Int × Int × Int) := ⟨⟨[.rd, .rd, .rd, .bx, .fn 80 []], fun x => [Enc.e x.1, Enc.e x.2.1, Enc.e x.2.2.1, .sc undef, .agg []], fun x => [bxO 3 x.2.2.2], 1, 1, fun _ => rfl, fun _ => rfl, rfl, (by
  rintro ⟨a0, a1, a2, a3⟩ ⟨b0, b1, b2, b3⟩ h hO
  have q0 : a0 = b0 := qI 0 h
  have q1 : a1 = b1 := qI 1 h
  have q2 : a2 = b2 := qI 2 h
  have q3 : a3 = b3 := Enc.inj _ _ (congrArg (fun l => (obD l 0).getD 0 (.sc undef)) hO)
  subst q0; subst q1; subst q2; subst q3; rfl)⟩, fun x => yk2 x.1 x.2.1 x.2.2.1 x.2.2.2, fun y => .tup [dV y.1, dV y.2.1], fun _ => [], fun _ y => [bxO 3 y.2.2]⟩
theorem ymz : FnOK Tryz.prog tJ 253 yb4.S := by
 refine fm tt yb4 [fo yay] call253 func253 rfl results253 ntmps253 ?_
 rintro ⟨data, a, b, swaps⟩ y cx G (p : yk2 data a b swaps = some y)
 obtain ⟨cmp, hf_cmp⟩ : ∃ q, (fun (z0 : A2_Int) (z1 : A2_Int) => zq14 z0 z1) = q := ⟨_, rfl⟩
 have p : yiz data a b swaps cmp = some y := by rw [<- hf_cmp]; exact p
 unfold yiz at p
 refine rg G (jab ?_)
 obtain ⟨e, f, g, h, i, d, p⟩ := ob3 p
 have d : zq14 e g = some i := by rw [<- hf_cmp] at d; exact d
 refine ds G [(9, [])] (hD 3 f (hD 7 h (hC 9 (yai.c (_, _) d) h0))) ?_
 refine cd p ?_ ?_ <;> intro p
 ·refine rg G (rg G ?_)
  cases p
  exact rt [] []
 ·refine jad (thN (rg G ?_))
  cases p
  exact rt [] []
def ydl : MS ((List A2_Int) × Int × Int × Int × Int) (Int × Int) := ⟨⟨[.rd, .rd, .rd, .rd, .bx, .fn 80 []], fun x => [Enc.e x.1, Enc.e x.2.1, Enc.e x.2.2.1, Enc.e x.2.2.2.1, .sc undef, .agg []], fun x => [bxO 3 x.2.2.2.2], 1, 1, fun _ => rfl, fun _ => rfl, rfl, (by
  rintro ⟨a0, a1, a2, a3, a4⟩ ⟨b0, b1, b2, b3, b4⟩ h hO
  have q0 : a0 = b0 := qI 0 h
  have q1 : a1 = b1 := qI 1 h
  have q2 : a2 = b2 := qI 2 h
  have q3 : a3 = b3 := qI 3 h
  have q4 : a4 = b4 := Enc.inj _ _ (congrArg (fun l => (obD l 0).getD 0 (.sc undef)) hO)
  subst q0; subst q1; subst q2; subst q3; subst q4; rfl)⟩, fun x => ym1 x.1 x.2.1 x.2.2.1 x.2.2.2.1 x.2.2.2.2, fun y => dV y.1, fun _ => [], fun _ y => [bxO 3 y.2]⟩
theorem yif : FnOK Tryz.prog tJ 234 ydl.S := by
 refine fm tt ydl [fo ymz] call234 func234 rfl results234 ntmps234 ?_
 rintro ⟨data, a, b, c, swaps⟩ y cx G (p : ym1 data a b c swaps = some y)
 obtain ⟨cmp, hf_cmp⟩ : ∃ q, (fun (z0 : A2_Int) (z1 : A2_Int) => zq14 z0 z1) = q := ⟨_, rfl⟩
 have p : yk4 data a b c swaps cmp = some y := by rw [<- hf_cmp]; exact p
 unfold yk4 at p
 refine rg G ?_
 obtain ⟨r, h, p⟩ := jae p
 have h : yk2 data a b swaps = some r := by rw [<- hf_cmp] at h; exact h
 refine rs G (hC 5 (yb4.c (_, _, _, _) h) h0) ?_
 obtain ⟨f, d, p⟩ := jae p
 have d : yk2 data r.2.1 c r.2.2 = some f := by rw [<- hf_cmp] at d; exact d
 refine rs G (hC 5 (yb4.c (_, _, _, _) d) h0) ?_
 obtain ⟨g, e, p⟩ := jae p
 have e : yk2 data r.1 f.1 f.2.2 = some g := by rw [<- hf_cmp] at e; exact e
 refine rs G (hC 5 (yb4.c (_, _, _, _) e) h0) ?_
 refine rg G ?_
 cases p
 exact rt [] []
def yb6 : MS ((List A2_Int) × Int × Int) (Int × Int) := ⟨⟨[.rd, .rd, .bx, .fn 80 []], fun x => [Enc.e x.1, Enc.e x.2.1, .sc undef, .agg []], fun x => [bxO 3 x.2.2], 1, 1, fun _ => rfl, fun _ => rfl, rfl, (by
  rintro ⟨a0, a1, a2⟩ ⟨b0, b1, b2⟩ h hO
  have q0 : a0 = b0 := qI 0 h
  have q1 : a1 = b1 := qI 1 h
  have q2 : a2 = b2 := Enc.inj _ _ (congrArg (fun l => (obD l 0).getD 0 (.sc undef)) hO)
  subst q0; subst q1; subst q2; rfl)⟩, fun x => yk6 x.1 x.2.1 x.2.2, fun y => dV y.1, fun _ => [], fun _ y => [bxO 3 y.2]⟩
theorem ym3 : FnOK Tryz.prog tJ 233 yb6.S := by
 refine fm tt yb6 [fo yif] call233 func233 rfl results233 ntmps233 ?_
 rintro ⟨data, a, swaps⟩ y cx G (p : yk6 data a swaps = some y)
 obtain ⟨cmp, hf_cmp⟩ : ∃ q, (fun (z0 : A2_Int) (z1 : A2_Int) => zq14 z0 z1) = q := ⟨_, rfl⟩
 have p : yi1 data a swaps cmp = some y := by rw [<- hf_cmp]; exact p
 unfold yi1 at p
 refine rg G ?_
 obtain ⟨r, h, p⟩ := jae p
 have h : ym1 data (w64 (a - 1)) a (w64 (a + 1)) swaps = some r := by rw [<- hf_cmp] at h; exact h
 refine rs G (hC 8 (ydl.c (_, _, _, _, _) h) h0) ?_
 cases p
 exact rt [] []
def yft : MS ((List A2_Int) × Int × Int) (Int × Int) := ⟨⟨[.rd, .rd, .rd, .fn 80 []], fun x => [Enc.e x.1, Enc.e x.2.1, Enc.e x.2.2, .agg []], fun x => [], 0, 0, fun _ => rfl, fun _ => rfl, rfl, (by
  rintro ⟨a0, a1, a2⟩ ⟨b0, b1, b2⟩ h hO
  have q0 : a0 = b0 := qI 0 h
  have q1 : a1 = b1 := qI 1 h
  have q2 : a2 = b2 := qI 2 h
  subst q0; subst q1; subst q2; rfl)⟩, fun x => yq2 x.1 x.2.1 x.2.2, fun y => .tup [dV y.1, dV y.2], fun _ => [], fun _ _ => []⟩
theorem ym9 : FnOK Tryz.prog tJ 211 yft.S := by
 refine fm tt yft [fo ym3, fo yif] call211 func211 rfl results211 ntmps211 ?_
 rintro ⟨data, a, b⟩ y cx G (p : yq2 data a b = some y)
 obtain ⟨cmp, hf_cmp⟩ : ∃ q, (fun (z0 : A2_Int) (z1 : A2_Int) => zq14 z0 z1) = q := ⟨_, rfl⟩
 have p : yq3 data a b cmp = some y := by rw [<- hf_cmp]; exact p
 unfold yq3 at p
 refine rg G (rg G (rg G ?_))
 obtain ⟨u, h, p⟩ := jae p
 refine rs G (hK h h0) ?_
 obtain ⟨z, o, p⟩ := jae p
 refine rs G (hK o h0) ?_
 obtain ⟨A, s, p⟩ := jae p
 refine rs G (hK s h0) ?_
 refine jn p (fun (v, m) => ⟨[(3, .fn 80 []), (11, .ref 16 0), (13, dV v)], [bX 16 3 [dV m]], 48⟩) (fun t p => ?_) ?_
 ·refine rg G (cd p ?_ ?_) <;> intro p
  ·refine jn p (fun (i, j, k, l) => ⟨[(0, dV data), (3, .fn 80 []), (11, .ref 16 0), (12, dV i), (13, dV j), (14, dV k)], [bX 16 3 [dV l]], 48⟩) (fun vv p => ?_) ?_
   ·refine rg G (cd p ?_ ?_) <;> intro p
    ·obtain ⟨r, d, p⟩ := jae p
     have d : yk6 data (w64 (a + (w64 ((w64 ((w64 (b - a)).tdiv 4)) * 1)))) 0 = some r := by rw [<- hf_cmp] at d; exact d
     refine rs G (hC 3 (yb6.c (_, _, _) d) h0) ?_
     obtain ⟨n, e, p⟩ := jae p
     have e : yk6 data (w64 (a + (w64 ((w64 ((w64 (b - a)).tdiv 4)) * 2)))) r.2 = some n := by rw [<- hf_cmp] at e; exact e
     refine rs G (hC 3 (yb6.c (_, _, _) e) h0) ?_
     obtain ⟨w, f, p⟩ := jae p
     have f : yk6 data (w64 (a + (w64 ((w64 ((w64 (b - a)).tdiv 4)) * 3)))) n.2 = some w := by rw [<- hf_cmp] at f; exact f
     refine re G (hC 3 (yb6.c (_, _, _) f) h0) ?_
     exact wJ G p
    ·exact jad (wJ G p)
   rintro ⟨i, j, k, l⟩ p
   obtain ⟨x, g, p⟩ := jae p
   have g : ym1 data i j k l = some x := by rw [<- hf_cmp] at g; exact g
   refine re G (hC 5 (ydl.c (_, _, _, _, _) g) h0) ?_
   exact wJ G p
  ·exact jad (wJ G p)
 rintro ⟨v, m⟩ p
 refine rg G (jaa (rg G (cd p ?_ ?_))) <;> intro p
 ·refine rg G ?_
  cases p
  exact rt [] []
 ·refine rg G (cd p ?_ ?_) <;> intro p
  ·refine rg G ?_
   cases p
   exact rt [] []
  ·refine rg G ?_
   cases p
   exact rt [] []
def yfe : MS ((List A2_Int) × Int × Int) ((List A2_Int)) := ⟨⟨[.sl, .rd, .rd, .fn 80 []], fun x => [.sc undef, Enc.e x.2.1, Enc.e x.2.2, .agg []], fun x => [arO 87 x.1], 1, 1, fun _ => rfl, fun _ => rfl, rfl, (by
  rintro ⟨a0, a1, a2⟩ ⟨b0, b1, b2⟩ h hO
  have q0 : a0 = b0 := Enc.inj _ _ (congrArg (fun l => D.sl 2 (obL l 0)) hO)
  have q1 : a1 = b1 := qI 1 h
  have q2 : a2 = b2 := qI 2 h
  subst q0; subst q1; subst q2; rfl)⟩, fun x => yp9 x.1 x.2.1 x.2.2, fun _ => .tup [], fun _ => [], fun _ y => [arO 87 y]⟩
theorem ymn : FnOK Tryz.prog tJ 212 yfe.S := by
 refine fm tt yfe [] call212 func212 rfl results212 ntmps212 ?_
 rintro ⟨data, a, b⟩ y cx G (p : yp9 data a b = some y)
 obtain ⟨cmp, hf_cmp⟩ : ∃ q, (fun (z0 : A2_Int) (z1 : A2_Int) => zq14 z0 z1) = q := ⟨_, rfl⟩
 have p : yqa data a b cmp = some y := by rw [<- hf_cmp]; exact p
 unfold yqa at p
 refine rg G (rg G (jaa (lp G p (fun (v, d, c) => ⟨[(0, .own 0), (3, .fn 80 []), (8, dV v), (9, dV d)], [aX 0 87 c], 48⟩) ?_)))
 rintro ⟨v, d, c⟩ k hb p
 rw [yhj] at p
 refine jab (rg G (cd p ?_ ?_)) <;> intro p
 ·refine jad (thN (jaa ?_))
  obtain ⟨i, e, j, f, l, g, p⟩ := ob3 p
  obtain ⟨m, h, p⟩ := jae p
  refine ds G [(13, [0]), (15, [0])] (hD 6 e (hE 7 e (hD 10 f (hE 11 f (hD 12 g (hS 13 g i (hD 14 h (hS 15 h j h0)))))))) ?_
  exact rg G (rh G (ibN (wL G p)))
 ·have p := eD p hb
  refine jag (thE (thE (ibE ?_)))
  cases p
  exact fN [] []
def yfm : MS ((List A2_Int) × Int × Int) (Bool × (List A2_Int)) := ⟨⟨[.sl, .rd, .rd, .fn 80 []], fun x => [.sc undef, Enc.e x.2.1, Enc.e x.2.2, .agg []], fun x => [arO 87 x.1], 1, 1, fun _ => rfl, fun _ => rfl, rfl, (by
  rintro ⟨a0, a1, a2⟩ ⟨b0, b1, b2⟩ h hO
  have q0 : a0 = b0 := Enc.inj _ _ (congrArg (fun l => D.sl 2 (obL l 0)) hO)
  have q1 : a1 = b1 := qI 1 h
  have q2 : a2 = b2 := qI 2 h
  subst q0; subst q1; subst q2; rfl)⟩, fun x => yqn x.1 x.2.1 x.2.2, fun y => dV y.1, fun _ => [], fun _ y => [arO 87 y.2]⟩
theorem ymx : FnOK Tryz.prog tJ 213 yfm.S := by
 refine fm tt yfm [fo yay] call213 func213 rfl results213 ntmps213 ?_
 rintro ⟨data, a, b⟩ y cx G (p : yqn data a b = some y)
 obtain ⟨cmp, hf_cmp⟩ : ∃ q, (fun (z0 : A2_Int) (z1 : A2_Int) => zq14 z0 z1) = q := ⟨_, rfl⟩
 have p : yqo data a b cmp = some y := by rw [<- hf_cmp]; exact p
 unfold yqo at p
 refine rg G (rg G (jab (rg G (tF p (fun h => ⟨[(0, .own 0), (3, .fn 80 [])], [aX 0 87 h], 48⟩) (fun v9 hr p => ?_) ?_))))
 ·refine jaa (lp G p (fun (v, i, d) => ⟨[(0, .own 0), (1, dV a), (2, dV b), (3, .fn 80 []), (9, dV v), (10, dV i)], [aX 0 87 d], 48⟩) ?_)
  rintro ⟨v, i, d⟩ U hb p
  rw [yh5] at p
  refine jab (rg G (cd p ?_ ?_)) <;> intro p
  ·refine jad (thN (jF p (fun (v2, j) => ⟨[(0, .own 0), (1, dV a), (2, dV b), (3, .fn 80 []), (9, dV v2), (10, dV i)], [aX 0 87 j], 48⟩) (fun v8 t p => ?_) ?_))
   ·refine jaa (jn p (fun o => ⟨[(0, .own 0), (1, dV a), (2, dV b), (3, .fn 80 []), (9, dV o), (10, dV i)], [aX 0 87 d], 48⟩) (fun o p => ?_) ?_)
    ·refine jaa (lp G p (fun V => ⟨[(0, .own 0), (1, dV a), (2, dV b), (3, .fn 80 []), (9, dV V), (10, dV i)], [aX 0 87 d], 48⟩) ?_)
     rintro V U W p
     rw [yh8] at p
     refine jab (jn p (fun X => ⟨[(0, .own 0), (1, dV a), (2, dV b), (3, .fn 80 []), (9, dV V), (10, dV i), (36, dV X)], [aX 0 87 d], 48⟩) (fun X p => ?_) ?_)
     ·rcases bf p with ⟨r, p⟩ | ⟨r, p⟩
      ·obtain ⟨e2, h3, e3, h4, r1, T, p⟩ := ob3 p
       have T : zq14 e2 e3 = some r1 := by rw [<- hf_cmp] at T; exact T
       refine de G [(14, [])] (hO 3 (.b true) (hP r (hD 7 h3 (hE 8 h3 (hD 12 h4 (hE 13 h4 (hC 14 (yai.c (_, _) T) h0))))))) ?_
       exact wJ G p
      ·refine de G [(14, [])] (hO 3 (.b false) (hP r h0)) ?_
       exact wJ G p
     rintro X p
     refine cd p ?_ ?_ <;> intro p
     ·exact jad (thN (jaa (rh G (ibN (wL G p)))))
     ·exact jag (thE (thE (ibE (wD G p W))))
    rintro o p
    refine jab (rg G (cd p ?_ ?_)) <;> intro p
    ·refine rg G ?_
     have p := eR p t
     have p := eL p hb hr
     cases p
     exact rt [] []
    ·refine jad (thN (jab (rg G (cd p ?_ ?_)))) <;> intro p
     ·refine rg G ?_
      have p := eR p t
      have p := eL p hb hr
      cases p
      exact rt [] []
     ·refine jad (thN ?_)
      obtain ⟨Y, u, Z, w, e14, x, p⟩ := ob3 p
      obtain ⟨e15, z, p⟩ := jae p
      refine ds G [(15, [0]), (17, [0])] (hD 8 u (hE 9 u (hD 12 w (hE 13 w (hD 14 x (hS 15 x Y (hD 16 z (hS 17 z Z h0)))))))) ?_
      refine jn p (fun e => ⟨[(0, .own 0), (1, dV a), (2, dV b), (3, .fn 80 []), (9, dV o), (10, dV i)], [aX 0 87 e], 48⟩) (fun e p => ?_) ?_
      ·refine rg G (cd p ?_ ?_) <;> intro p
       ·refine rg G (tl p (fun f => ⟨[(0, .own 0), (1, dV a), (2, dV b), (3, .fn 80 []), (9, dV o), (10, dV i)], [aX 0 87 f], 48⟩) (fun f p => ?_) ?_)
        ·refine jaa (lp G p (fun (v6, k) => ⟨[(0, .own 0), (1, dV a), (2, dV b), (3, .fn 80 []), (9, dV o), (10, dV i), (11, dV v6)], [aX 0 87 k], 48⟩) ?_)
         rintro ⟨v6, k⟩ U A p
         rw [yh7] at p
         refine jab (rg G (cd p ?_ ?_)) <;> intro p
         ·refine jad (thN (jab (jaa (jab ?_))))
          obtain ⟨e18, B, e19, C, r7, m, p⟩ := ob3 p
          have m : zq14 e18 e19 = some r7 := by rw [<- hf_cmp] at m; exact m
          refine ds G [(10, [])] (hD 3 B (hE 4 B (hD 8 C (hE 9 C (hC 10 (yai.c (_, _) m) h0))))) ?_
          refine cd p ?_ ?_ <;> intro p
          ·exact jag (thE (ibX rfl (thE (thE (ibE (wD G p A))))))
          ·refine jad (thN ?_)
           obtain ⟨e24, D, e25, E, e26, H, p⟩ := ob3 p
           obtain ⟨e27, I, p⟩ := jae p
           refine de G [(15, [0]), (17, [0])] (hD 8 D (hE 9 D (hD 12 E (hE 13 E (hD 14 H (hS 15 H e24 (hD 16 I (hS 17 I e25 h0)))))))) ?_
           exact ibN (thN (rh G (wL G p)))
         ·exact jag (thE (thE (ibE (wD G p A))))
        rintro f p s hw
        exact wJp p (Wk.trans hw (Wk_J G.hL ⟨[(0, []), (1, []), (2, []), (3, []), (9, []), (10, [])], [(0, 0, [])], [], 48⟩ (by kernel_rfl)))
       ·exact jad (wJ G p)
      rintro e p
      refine rg G (cd p ?_ ?_) <;> intro p
      ·refine rg G (tl p (fun g => ⟨[(0, .own 0), (1, dV a), (2, dV b), (3, .fn 80 []), (9, dV o), (10, dV i)], [aX 0 87 g], 48⟩) (fun g p => ?_) ?_)
       ·refine jaa (lp G p (fun (v7, l) => ⟨[(0, .own 0), (1, dV a), (2, dV b), (3, .fn 80 []), (9, dV o), (10, dV i), (12, dV v7)], [aX 0 87 l], 48⟩) ?_)
        rintro ⟨v7, l⟩ U K p
        rw [yh6] at p
        refine jab (rg G (cd p ?_ ?_)) <;> intro p
        ·refine jad (thN (jab (jaa (jab ?_))))
         obtain ⟨e30, L, e31, M, r9, n, p⟩ := ob3 p
         have n : zq14 e30 e31 = some r9 := by rw [<- hf_cmp] at n; exact n
         refine ds G [(10, [])] (hD 3 L (hE 4 L (hD 8 M (hE 9 M (hC 10 (yai.c (_, _) n) h0))))) ?_
         refine cd p ?_ ?_ <;> intro p
         ·exact jag (thE (ibX rfl (thE (thE (ibE (wD G p K))))))
         ·refine jad (thN ?_)
          obtain ⟨e36, N, e37, O, e38, Q, p⟩ := ob3 p
          obtain ⟨e39, R, p⟩ := jae p
          refine de G [(15, [0]), (17, [0])] (hD 8 N (hE 9 N (hD 12 O (hE 13 O (hD 14 Q (hS 15 Q e36 (hD 16 R (hS 17 R e37 h0)))))))) ?_
          exact ibN (thN (rh G (wL G p)))
        ·exact jag (thE (thE (ibE (wD G p K))))
       rintro g p s1 hw1
       exact ibN (wFp p (Wk.trans hw1 (Wk_J G.hL ⟨[(0, []), (1, []), (2, []), (3, []), (9, []), (10, [])], [(0, 0, [])], [], 48⟩ (by kernel_rfl))))
      ·exact jad (ibN (wF G p))
   rintro ⟨v2, j⟩ p
   exact rh G (wL G p)
  ·exact jag (thE (thE (ibE (wE G p hb))))
 rintro h p s2 hw2
 refine thN (jah hw2 ?_)
 refine rg G ?_
 cases p
 exact rt [] []
def yfi : MS ((List A2_Int) × Int × Int × Int) (Int × (List A2_Int)) := ⟨⟨[.sl, .rd, .rd, .rd, .fn 80 []], fun x => [.sc undef, Enc.e x.2.1, Enc.e x.2.2.1, Enc.e x.2.2.2, .agg []], fun x => [arO 87 x.1], 1, 1, fun _ => rfl, fun _ => rfl, rfl, (by
  rintro ⟨a0, a1, a2, a3⟩ ⟨b0, b1, b2, b3⟩ h hO
  have q0 : a0 = b0 := Enc.inj _ _ (congrArg (fun l => D.sl 2 (obL l 0)) hO)
  have q1 : a1 = b1 := qI 1 h
  have q2 : a2 = b2 := qI 2 h
  have q3 : a3 = b3 := qI 3 h
  subst q0; subst q1; subst q2; subst q3; rfl)⟩, fun x => yqf x.1 x.2.1 x.2.2.1 x.2.2.2, fun y => dV y.1, fun _ => [], fun _ y => [arO 87 y.2]⟩
theorem ymt : FnOK Tryz.prog tJ 214 yfi.S := by
 refine fm tt yfi [fo yay] call214 func214 rfl results214 ntmps214 ?_
 rintro ⟨data, a, b, pivot⟩ y cx G (p : yqf data a b pivot = some y)
 obtain ⟨cmp, hf_cmp⟩ : ∃ q, (fun (z0 : A2_Int) (z1 : A2_Int) => zq14 z0 z1) = q := ⟨_, rfl⟩
 have p : yqg data a b pivot cmp = some y := by rw [<- hf_cmp]; exact p
 unfold yqg at p
 refine rg G ?_
 obtain ⟨V, N, W, O, e6, Q, p⟩ := ob3 p
 obtain ⟨e7, R, p⟩ := jae p
 refine ds G [(13, [0]), (15, [0])] (hD 6 N (hE 7 N (hD 10 O (hE 11 O (hD 12 Q (hS 13 Q V (hD 14 R (hS 15 R W h0)))))))) ?_
 refine rg G (jn p (fun (T, e) => ⟨[(0, .own 0), (4, .fn 80 []), (11, dV T)], [aX 0 87 e], 48⟩) (fun vv p => ?_) ?_)
 ·refine jaa (lp G p (fun (v, k, d) => ⟨[(0, .own 0), (1, dV a), (4, .fn 80 []), (11, dV v), (12, dV k)], [aX 0 87 d], 48⟩) ?_)
  rintro ⟨v, k, d⟩ U hb p
  rw [yhp] at p
  refine jaa (jn p (fun j => ⟨[(0, .own 0), (1, dV a), (4, .fn 80 []), (11, dV j), (12, dV k)], [aX 0 87 d], 48⟩) (fun j p => ?_) ?_)
  ·refine jaa (lp G p (fun w => ⟨[(0, .own 0), (1, dV a), (4, .fn 80 []), (11, dV w), (12, dV k)], [aX 0 87 d], 48⟩) ?_)
   rintro w U x p
   rw [yhr] at p
   refine jab (jn p (fun z => ⟨[(0, .own 0), (1, dV a), (4, .fn 80 []), (11, dV w), (12, dV k), (47, dV z)], [aX 0 87 d], 48⟩) (fun z p => ?_) ?_)
   ·rcases bf p with ⟨h, p⟩ | ⟨h, p⟩
    ·obtain ⟨A, l, B, m, X, f, p⟩ := ob3 p
     have f : zq14 A B = some X := by rw [<- hf_cmp] at f; exact f
     refine de G [(13, [])] (hO 3 (.b true) (hP h (hD 7 l (hE 8 l (hD 11 m (hE 12 m (hC 13 (yai.c (_, _) f) h0))))))) ?_
     exact wJ G p
    ·refine de G [(13, [])] (hO 3 (.b false) (hP h h0)) ?_
     exact wJ G p
   rintro z p
   refine cd p ?_ ?_ <;> intro p
   ·exact jad (thN (jaa (rh G (ibN (wL G p)))))
   ·exact jag (thE (thE (ibE (wD G p x))))
  rintro j p
  refine jn p (fun C => ⟨[(0, .own 0), (1, dV a), (4, .fn 80 []), (11, dV j), (12, dV C)], [aX 0 87 d], 48⟩) (fun C p => ?_) ?_
  ·refine jaa (lp G p (fun D => ⟨[(0, .own 0), (1, dV a), (4, .fn 80 []), (11, dV j), (12, dV D)], [aX 0 87 d], 48⟩) ?_)
   rintro D U E p
   rw [yhq] at p
   refine jab (jn p (fun H => ⟨[(0, .own 0), (1, dV a), (4, .fn 80 []), (11, dV j), (12, dV D), (65, dV H)], [aX 0 87 d], 48⟩) (fun H p => ?_) ?_)
   ·rcases bf p with ⟨i, p⟩ | ⟨i, p⟩
    ·obtain ⟨I, n, K, o, Y, g, p⟩ := ob3 p
     have g : zq14 I K = some Y := by rw [<- hf_cmp] at g; exact g
     refine de G [(13, [])] (hO 3 (.b true) (hP i (hD 7 n (hE 8 n (hD 11 o (hE 12 o (hC 13 (yai.c (_, _) g) h0))))))) ?_
     exact wJ G p
    ·refine de G [(13, [])] (hO 3 (.b false) (hP i h0)) ?_
     exact wJ G p
   rintro H p
   refine cd p ?_ ?_ <;> intro p
   ·exact jad (thN (jaa (rh G (ibN (wL G p)))))
   ·exact jag (thE (thE (ibE (wD G p E))))
  rintro C p
  refine jab (rg G (cd p ?_ ?_)) <;> intro p
  ·exact jag (thE (ibX rfl (thE (ibE (wD G p hb)))))
  ·refine jad (thN ?_)
   obtain ⟨L, r, M, s, Z, t, p⟩ := ob3 p
   obtain ⟨e23, u, p⟩ := jae p
   refine ds G [(13, [0]), (15, [0])] (hD 6 r (hE 7 r (hD 10 s (hE 11 s (hD 12 t (hS 13 t L (hD 14 u (hS 15 u M h0)))))))) ?_
   exact rg G (rh G (ibN (wL G p)))
 rintro ⟨T, e⟩ p
 refine rg G ?_
 cases p
 exact rt [] []
def yfk : MS ((List A2_Int) × Int × Int × Int) (Int × Bool × (List A2_Int)) := ⟨⟨[.sl, .rd, .rd, .rd, .fn 80 []], fun x => [.sc undef, Enc.e x.2.1, Enc.e x.2.2.1, Enc.e x.2.2.2, .agg []], fun x => [arO 87 x.1], 1, 1, fun _ => rfl, fun _ => rfl, rfl, (by
  rintro ⟨a0, a1, a2, a3⟩ ⟨b0, b1, b2, b3⟩ h hO
  have q0 : a0 = b0 := Enc.inj _ _ (congrArg (fun l => D.sl 2 (obL l 0)) hO)
  have q1 : a1 = b1 := qI 1 h
  have q2 : a2 = b2 := qI 2 h
  have q3 : a3 = b3 := qI 3 h
  subst q0; subst q1; subst q2; subst q3; rfl)⟩, fun x => yqj x.1 x.2.1 x.2.2.1 x.2.2.2, fun y => .tup [dV y.1, dV y.2.1], fun _ => [], fun _ y => [arO 87 y.2.2]⟩
theorem ymv : FnOK Tryz.prog tJ 215 yfk.S := by
 refine fm tt yfk [fo yay] call215 func215 rfl results215 ntmps215 ?_
 rintro ⟨data, a, b, pivot⟩ y cx G (p : yqj data a b pivot = some y)
 obtain ⟨cmp, hf_cmp⟩ : ∃ q, (fun (z0 : A2_Int) (z1 : A2_Int) => zq14 z0 z1) = q := ⟨_, rfl⟩
 have p : yqk data a b pivot cmp = some y := by rw [<- hf_cmp]; exact p
 unfold yqk at p
 refine rg G ?_
 obtain ⟨k, h4, l, h5, e6, h6, p⟩ := ob3 p
 obtain ⟨e7, h7, p⟩ := jae p
 refine ds G [(13, [0]), (15, [0])] (hD 6 h4 (hE 7 h4 (hD 10 h5 (hE 11 h5 (hD 12 h6 (hS 13 h6 k (hD 14 h7 (hS 15 h7 l h0)))))))) ?_
 refine rg G (jn p (fun w => ⟨[(0, .own 0), (1, dV a), (4, .fn 80 []), (12, dV w), (13, dV (w64 (b - 1)))], [aX 0 87 ((data.set a.toNat k).set pivot.toNat l)], 48⟩) (fun w p => ?_) ?_)
 ·refine jaa (lp G p (fun v => ⟨[(0, .own 0), (1, dV a), (4, .fn 80 []), (12, dV v), (13, dV (w64 (b - 1)))], [aX 0 87 ((data.set a.toNat k).set pivot.toNat l)], 48⟩) ?_)
  rintro v r0 hb p
  rw [yhz] at p
  refine jab (jn p (fun v1 => ⟨[(0, .own 0), (1, dV a), (4, .fn 80 []), (12, dV v), (13, dV (w64 (b - 1))), (47, dV v1)], [aX 0 87 ((data.set a.toNat k).set pivot.toNat l)], 48⟩) (fun v1 p => ?_) ?_)
  ·rcases bf p with ⟨m, p⟩ | ⟨m, p⟩
   ·obtain ⟨e10, x, e11, z, r1, g, p⟩ := ob3 p
    have g : zq14 e10 e11 = some r1 := by rw [<- hf_cmp] at g; exact g
    refine de G [(13, [])] (hO 3 (.b true) (hP m (hD 7 x (hE 8 x (hD 11 z (hE 12 z (hC 13 (yai.c (_, _) g) h0))))))) ?_
    exact wJ G p
   ·refine de G [(13, [])] (hO 3 (.b false) (hP m h0)) ?_
    exact wJ G p
  rintro v1 p
  refine cd p ?_ ?_ <;> intro p
  ·exact jad (thN (jaa (rh G (ibN (wL G p)))))
  ·exact jag (thE (thE (ibE (wD G p hb))))
 rintro w p
 refine jn p (fun v5 => ⟨[(0, .own 0), (1, dV a), (4, .fn 80 []), (12, dV w), (13, dV v5)], [aX 0 87 ((data.set a.toNat k).set pivot.toNat l)], 48⟩) (fun v5 p => ?_) ?_
 ·refine jaa (lp G p (fun v3 => ⟨[(0, .own 0), (1, dV a), (4, .fn 80 []), (12, dV w), (13, dV v3)], [aX 0 87 ((data.set a.toNat k).set pivot.toNat l)], 48⟩) ?_)
  rintro v3 r0 hb2 p
  rw [yhy] at p
  refine jab (jn p (fun v4 => ⟨[(0, .own 0), (1, dV a), (4, .fn 80 []), (12, dV w), (13, dV v3), (66, dV v4)], [aX 0 87 ((data.set a.toNat k).set pivot.toNat l)], 48⟩) (fun v4 p => ?_) ?_)
  ·rcases bf p with ⟨n, p⟩ | ⟨n, p⟩
   ·obtain ⟨e14, A, e15, B, r3, h, p⟩ := ob3 p
    have h : zq14 e14 e15 = some r3 := by rw [<- hf_cmp] at h; exact h
    refine de G [(13, [])] (hO 3 (.b true) (hP n (hD 7 A (hE 8 A (hD 11 B (hE 12 B (hC 13 (yai.c (_, _) h) h0))))))) ?_
    exact wJ G p
   ·refine de G [(13, [])] (hO 3 (.b false) (hP n h0)) ?_
    exact wJ G p
  rintro v4 p
  refine cd p ?_ ?_ <;> intro p
  ·exact jad (thN (jaa (rh G (ibN (wL G p)))))
  ·exact jag (thE (thE (ibE (wD G p hb2))))
 rintro v5 p
 refine jab (rg G (cd p ?_ ?_)) <;> intro p
 ·obtain ⟨e20, C, e21, D, e22, E, p⟩ := ob3 p
  obtain ⟨e23, H, p⟩ := jae p
  refine ds G [(13, [0]), (15, [0])] (hD 6 C (hE 7 C (hD 10 D (hE 11 D (hD 12 E (hS 13 E e20 (hD 14 H (hS 15 H e21 h0)))))))) ?_
  refine rg G ?_
  cases p
  exact rt [] []
 ·refine jad (thN ?_)
  obtain ⟨e28, I, e29, K, e30, L, p⟩ := ob3 p
  obtain ⟨e31, M, p⟩ := jae p
  refine ds G [(13, [0]), (15, [0])] (hD 6 I (hE 7 I (hD 10 K (hE 11 K (hD 12 L (hS 13 L e28 (hD 14 M (hS 15 M e29 h0)))))))) ?_
  refine rg G (rg G (jn p (fun (N, f) => ⟨[(0, .own 0), (1, dV a), (4, .fn 80 []), (13, dV N)], [aX 0 87 f], 48⟩) (fun vv p => ?_) ?_))
  ·refine jaa (lp G p (fun (v6, O, d) => ⟨[(0, .own 0), (1, dV a), (4, .fn 80 []), (12, dV v6), (13, dV O)], [aX 0 87 d], 48⟩) ?_)
   rintro ⟨v6, O, d⟩ r0 hb4 p
   rw [yhv] at p
   refine jaa (jn p (fun e => ⟨[(0, .own 0), (1, dV a), (4, .fn 80 []), (12, dV e), (13, dV O)], [aX 0 87 d], 48⟩) (fun e p => ?_) ?_)
   ·refine jaa (lp G p (fun v8 => ⟨[(0, .own 0), (1, dV a), (4, .fn 80 []), (12, dV v8), (13, dV O)], [aX 0 87 d], 48⟩) ?_)
    rintro v8 r0 hb5 p
    rw [yhx] at p
    refine jab (jn p (fun v9 => ⟨[(0, .own 0), (1, dV a), (4, .fn 80 []), (12, dV v8), (13, dV O), (120, dV v9)], [aX 0 87 d], 48⟩) (fun v9 p => ?_) ?_)
    ·rcases bf p with ⟨o, p⟩ | ⟨o, p⟩
     ·obtain ⟨e34, Q, e35, R, r5, i, p⟩ := ob3 p
      have i : zq14 e34 e35 = some r5 := by rw [<- hf_cmp] at i; exact i
      refine de G [(13, [])] (hO 3 (.b true) (hP o (hD 7 Q (hE 8 Q (hD 11 R (hE 12 R (hC 13 (yai.c (_, _) i) h0))))))) ?_
      exact wJ G p
     ·refine de G [(13, [])] (hO 3 (.b false) (hP o h0)) ?_
      exact wJ G p
    rintro v9 p
    refine cd p ?_ ?_ <;> intro p
    ·exact jad (thN (jaa (rh G (ibN (wL G p)))))
    ·exact jag (thE (thE (ibE (wD G p hb5))))
   rintro e p
   refine jn p (fun r => ⟨[(0, .own 0), (1, dV a), (4, .fn 80 []), (12, dV e), (13, dV r)], [aX 0 87 d], 48⟩) (fun r p => ?_) ?_
   ·refine jaa (lp G p (fun s => ⟨[(0, .own 0), (1, dV a), (4, .fn 80 []), (12, dV e), (13, dV s)], [aX 0 87 d], 48⟩) ?_)
    rintro s r0 hb7 p
    rw [yhw] at p
    refine jab (jn p (fun t => ⟨[(0, .own 0), (1, dV a), (4, .fn 80 []), (12, dV e), (13, dV s), (139, dV t)], [aX 0 87 d], 48⟩) (fun t p => ?_) ?_)
    ·rcases bf p with ⟨u, p⟩ | ⟨u, p⟩
     ·obtain ⟨e38, T, e39, U, r7, j, p⟩ := ob3 p
      have j : zq14 e38 e39 = some r7 := by rw [<- hf_cmp] at j; exact j
      refine de G [(13, [])] (hO 3 (.b true) (hP u (hD 7 T (hE 8 T (hD 11 U (hE 12 U (hC 13 (yai.c (_, _) j) h0))))))) ?_
      exact wJ G p
     ·refine de G [(13, [])] (hO 3 (.b false) (hP u h0)) ?_
      exact wJ G p
    rintro t p
    refine cd p ?_ ?_ <;> intro p
    ·exact jad (thN (jaa (rh G (ibN (wL G p)))))
    ·exact jag (thE (thE (ibE (wD G p hb7))))
   rintro r p
   refine jab (rg G (cd p ?_ ?_)) <;> intro p
   ·exact jag (thE (ibX rfl (thE (ibE (wD G p hb4)))))
   ·refine jad (thN ?_)
    obtain ⟨e44, V, e45, W, e46, X, p⟩ := ob3 p
    obtain ⟨e47, Y, p⟩ := jae p
    refine ds G [(13, [0]), (15, [0])] (hD 6 V (hE 7 V (hD 10 W (hE 11 W (hD 12 X (hS 13 X e44 (hD 14 Y (hS 15 Y e45 h0)))))))) ?_
    exact rg G (rh G (ibN (wL G p)))
  rintro ⟨N, f⟩ p
  obtain ⟨e52, Z, e53, h61, e54, h62, p⟩ := ob3 p
  obtain ⟨e55, h63, p⟩ := jae p
  refine ds G [(13, [0]), (15, [0])] (hD 6 Z (hE 7 Z (hD 10 h61 (hE 11 h61 (hD 12 h62 (hS 13 h62 e52 (hD 14 h63 (hS 15 h63 e53 h0)))))))) ?_
  refine rg G ?_
  cases p
  exact rt [] []
def yfv : MS ((List A2_Int) × Int × Int) ((List A2_Int)) := ⟨⟨[.sl, .rd, .rd, .fn 80 []], fun x => [.sc undef, Enc.e x.2.1, Enc.e x.2.2, .agg []], fun x => [arO 87 x.1], 1, 1, fun _ => rfl, fun _ => rfl, rfl, (by
  rintro ⟨a0, a1, a2⟩ ⟨b0, b1, b2⟩ h hO
  have q0 : a0 = b0 := Enc.inj _ _ (congrArg (fun l => D.sl 2 (obL l 0)) hO)
  have q1 : a1 = b1 := qI 1 h
  have q2 : a2 = b2 := qI 2 h
  subst q0; subst q1; subst q2; rfl)⟩, fun x => yq6 x.1 x.2.1 x.2.2, fun _ => .tup [], fun _ => [], fun _ y => [arO 87 y]⟩
theorem ynb : FnOK Tryz.prog tJ 210 yfv.S := by
 refine fm tt yfv [fo yie, fo yhg] call210 func210 rfl results210 ntmps210 ?_
 rintro ⟨data, a, b⟩ y cx G (p : yq6 data a b = some y)
 obtain ⟨cmp, hf_cmp⟩ : ∃ q, (fun (z0 : A2_Int) (z1 : A2_Int) => zq14 z0 z1) = q := ⟨_, rfl⟩
 have p : yq7 data a b cmp = some y := by rw [<- hf_cmp]; exact p
 unfold yq7 at p
 refine rg G (rg G (cd p ?_ ?_)) <;> intro p
 ·refine rg G ?_
  obtain ⟨r, h, p⟩ := jae p
  refine rs G (hC 1 (ydk.c _ h) h0) ?_
  obtain ⟨u, l, p⟩ := jae p
  refine rs G (hK l h0) ?_
  refine jaa (lp G p (fun (v, d, i) => ⟨[(0, .own 0), (1, dV a), (3, .fn 80 []), (8, dV (w64 (b - a))), (9, .ref 32 0), (10, kV .u64 r.v), (11, dV v)], [aX 0 87 d, bX 32 224 [kV .u64 i]], 64⟩) ?_)
  rintro ⟨v, d, i⟩ w hb p
  rw [yip] at p
  refine jab ?_
  obtain ⟨x, m, p⟩ := jae p
  refine rs G (hK m h0) ?_
  refine cd p ?_ ?_ <;> intro p
  ·refine jad (thN (jab (jaa ?_)))
   obtain ⟨n, o, p⟩ := jae p
   refine rs G (hC 0 (ydg.c _ o) h0) ?_
   refine jn p (fun g => ⟨[(0, .own 0), (1, dV a), (3, .fn 80 []), (8, dV (w64 (b - a))), (9, .ref 32 0), (10, kV .u64 r.v), (11, dV v), (12, dV g)], [aX 0 87 d, bX 32 224 [kV .u64 n.2.v]], 64⟩) (fun g p => ?_) ?_
   ·refine rg G (cd p ?_ ?_) <;> intro p
    ·exact rh G (wJ G p)
    ·exact jad (wJ G p)
   rintro g p
   obtain ⟨s, j, t, k, z, e, p⟩ := ob3 p
   obtain ⟨A, f, p⟩ := jae p
   refine de G [(17, [0]), (19, [0])] (hD 10 j (hE 11 j (hD 14 k (hE 15 k (hD 16 e (hS 17 e s (hD 18 f (hS 19 f t h0)))))))) ?_
   exact ibN (thN (rh G (wL G p)))
  ·have p := eD p hb
   refine jag (thE (thE (ibE ?_)))
   cases p
   exact fN [] []
 ·refine jad ?_
  cases p
  exact fN [] []
def yam (rec_ : (List A2_Int) -> Int -> Int -> Int -> Option ((List A2_Int))) : MS ((List A2_Int) × Int × Int × Int) ((List A2_Int)) := ⟨⟨[.sl, .rd, .rd, .rd, .fn 80 []], fun x => [.sc undef, Enc.e x.2.1, Enc.e x.2.2.1, Enc.e x.2.2.2, .agg []], fun x => [arO 87 x.1], 1, 1, fun _ => rfl, fun _ => rfl, rfl, (by
  rintro ⟨a0, a1, a2, a3⟩ ⟨b0, b1, b2, b3⟩ h hO
  have q0 : a0 = b0 := Enc.inj _ _ (congrArg (fun l => D.sl 2 (obL l 0)) hO)
  have q1 : a1 = b1 := qI 1 h
  have q2 : a2 = b2 := qI 2 h
  have q3 : a3 = b3 := qI 3 h
  subst q0; subst q1; subst q2; subst q3; rfl)⟩, fun x => rec_ x.1 x.2.1 x.2.2.1 x.2.2.2, fun _ => .tup [], fun _ => [], fun _ y => [arO 87 y]⟩
def yfg : MS ((List A2_Int) × Int × Int × Int) ((List A2_Int)) := yam ymq
theorem yqd {data a b limit y} (p : ymq data a b limit = some y) : yfg.C (data, a, b, limit) y := yfg.c (data, a, b, limit) p
theorem yhl {rec_ : (List A2_Int) -> Int -> Int -> Int -> Option ((List A2_Int))} {data a b limit y} (p : rec_ data a b limit = some y) : (yam rec_).C (data, a, b, limit) y := (yam rec_).c (data, a, b, limit) p
theorem yk0 {rec_ : (List A2_Int) -> Int -> Int -> Int -> Option ((List A2_Int))} (hrec : FnOK Tryz.prog tJ 151 (yam rec_).S) : FnOK Tryz.prog tJ 151 (yam (yba rec_)).S := by
 refine fm tt (yam (yba rec_)) [fo hrec, fo ym5, fo ym7, fo ynb, fo ym9, fo ymn, fo ymx, fo yay, fo ymt, fo ymv] call151 func151 rfl results151 ntmps151 ?_
 rintro ⟨data, a, b, limit⟩ y cx G (p : yba rec_ data a b limit = some y)
 unfold yba at p
 refine rg G (rg G (jaa (lp G p (fun (a1, b1, limit1, mid, mid1, f) => ⟨[(0, .own 0), (1, dV a1), (2, dV b1), (3, dV limit1), (4, .fn 80 []), (10, dV mid), (11, dV mid1)], [aX 0 87 f], 48⟩) ?_)))
 rintro ⟨a1, b1, limit1, mid, mid1, f⟩ O hb p
 rw [yhm] at p
 refine jaa (rg G (jab (rg G (cd p ?_ ?_)))) <;> intro p
 ·obtain ⟨r, h, p⟩ := jae p
  refine rs G (hC 4 (yfp.c (_, _, _) h) h0) ?_
  have p := eD p hb
  cases p
  exact rt [] []
 ·refine jad (thN (jab (rg G (cd p ?_ ?_)))) <;> intro p
  ·obtain ⟨Q, A, p⟩ := jae p
   refine rs G (hC 4 (yfr.c (_, _, _) A) h0) ?_
   have p := eD p hb
   cases p
   exact rt [] []
  ·refine jad (thN (jn p (fun (limit2, g) => ⟨[(0, .own 0), (1, dV a1), (2, dV b1), (3, dV limit2), (4, .fn 80 []), (10, dV mid), (11, dV mid1), (12, dV (w64 (b1 - a1)))], [aX 0 87 g], 48⟩) (fun B p => ?_) ?_))
   ·refine rg G (cd p ?_ ?_) <;> intro p
    ·obtain ⟨R, C, p⟩ := jae p
     refine rs G (hC 4 (yfv.c (_, _, _) C) h0) ?_
     exact rh G (wJ G p)
    ·exact jad (wJ G p)
   rintro ⟨limit2, g⟩ p
   obtain ⟨T, D, p⟩ := jae p
   refine rs G (hC 4 (yft.c (_, _, _) D) h0) ?_
   refine jn p (fun (leftLen, rightLen, d) => ⟨[(0, .own 0), (1, dV a1), (2, dV b1), (3, dV limit2), (4, .fn 80 []), (10, dV mid), (11, dV mid1), (12, dV (w64 (b1 - a1))), (13, dV leftLen), (14, dV rightLen)], [aX 0 87 d], 48⟩) (fun vv p => ?_) ?_
   ·refine rg G (cd p ?_ ?_) <;> intro p
    ·obtain ⟨U, E, p⟩ := jae p
     refine rs G (hC 4 (yfe.c (_, _, _) E) h0) ?_
     exact rg G (rh G (wJ G p))
    ·exact jad (wJ G p)
   rintro ⟨leftLen, rightLen, d⟩ p
   refine jF p (fun e => ⟨[(0, .own 0), (1, dV a1), (2, dV b1), (3, dV limit2), (4, .fn 80 []), (10, dV mid), (11, dV mid1), (12, dV (w64 (b1 - a1))), (13, dV leftLen)], [aX 0 87 e], 48⟩) (fun V m p => ?_) ?_
   ·refine jn p (fun v => ⟨[(0, .own 0), (1, dV a1), (2, dV b1), (3, dV limit2), (4, .fn 80 []), (10, dV mid), (11, dV mid1), (12, dV (w64 (b1 - a1))), (13, dV leftLen), (75, dV v)], [aX 0 87 d], 48⟩) (fun v p => ?_) ?_
    ·rcases bf p with ⟨i, p⟩ | ⟨i, p⟩
     ·rcases bf p with ⟨j, p⟩ | ⟨j, p⟩
      ·refine re G (hO 1 (.b true) (hP i (hO 4 (.b true) (hP j h0)))) ?_
       exact wJ G p
      ·refine re G (hO 1 (.b true) (hP i (hO 4 (.b false) (hP j h0)))) ?_
       exact wJ G p
     ·refine re G (hO 1 (.b false) (hP i h0)) ?_
      exact wJ G p
    rintro v p
    refine cd p ?_ ?_ <;> intro p
    ·obtain ⟨W, H, p⟩ := jae p
     refine rs G (hC 4 (yfm.c (_, _, _) H) h0) ?_
     refine cd p ?_ ?_ <;> intro p
     ·have p := eR p m
      have p := eD p hb
      cases p
      exact rt [] []
     ·exact jad (wF G p)
    ·exact jad (wF G p)
   rintro e p
   refine jab (jn p (fun n => ⟨[(0, .own 0), (1, dV a1), (2, dV b1), (3, dV limit2), (4, .fn 80 []), (10, dV mid), (11, dV mid1), (12, dV (w64 (b1 - a1))), (13, dV leftLen), (97, dV n)], [aX 0 87 e], 48⟩) (fun n p => ?_) ?_)
   ·rcases bf p with ⟨k, p⟩ | ⟨k, p⟩
    ·obtain ⟨X, z, Y, l, I, o, p⟩ := ob3 p
     refine de G [(13, [])] (hO 2 (.b true) (hP k (hD 7 z (hE 8 z (hD 11 l (hE 12 l (hC 13 (yai.c (_, _) o) h0))))))) ?_
     exact wJ G p
    ·refine de G [(13, [])] (hO 2 (.b false) (hP k h0)) ?_
     exact wJ G p
   rintro n p
   refine cd p ?_ ?_ <;> intro p
   ·obtain ⟨K, q, p⟩ := jae p
    refine rs G (hC 5 (yfi.c (_, _, _, _) q) h0) ?_
    exact rg G (jag (thE (ibE (wL G p))))
   ·refine jad (thN ?_)
    obtain ⟨L, s, p⟩ := jae p
    refine rs G (hC 5 (yfk.c (_, _, _, _) s) h0) ?_
    refine rg G (rg G ?_)
    obtain ⟨u, t, p⟩ := jae p
    refine rs G (hK t h0) ?_
    refine rg G (cd p ?_ ?_) <;> intro p
    ·refine rg G ?_
     obtain ⟨M, w, p⟩ := jae p
     refine rs G (hC 5 (yhl w) h0) ?_
     exact rh G (ibN (wL G p))
    ·refine rg G ?_
     obtain ⟨N, x, p⟩ := jae p
     refine rs G (hC 6 (yhl x) h0) ?_
     exact rh G (ibN (wL G p))
theorem yd5 : ∀ k, FnOK Tryz.prog tJ 151 (yam (yb2 k)).S
 | 0 => ⟨fun args w => call151 args w, fun vs w F ds obs κ hp => by obtain ⟨x, y, _, _, h⟩ := hp; cases h⟩
 | k + 1 => yk0 (yd5 k)
theorem ymp : FnOK Tryz.prog tJ 151 yfg.S := yd5 4294967296
def yfx : MS (List A2_Int) (List A2_Int) := ⟨⟨[.sl, .fn 80 []], fun x => [.sc undef, .agg []], fun x => [arO 87 x], 1, 1, fun _ => rfl, fun _ => rfl, rfl, (by
  rintro a0 b0 h hO
  have q0 : a0 = b0 := Enc.inj _ _ (congrArg (fun l => D.sl 2 (obL l 0)) hO)
  subst q0; rfl)⟩, yfy, fun _ => .tup [], fun _ => [], fun _ y => [arO 87 y]⟩
theorem ynd : FnOK Tryz.prog tJ 79 yfx.S := by
 refine fm tt yfx [fo ye6, fo ymp] call79 func79 rfl results79 ntmps79 ?_
 rintro x y cx G (p : yfy x = some y)
 unfold yfy at p
 refine rs G (hN 1 x h0) ?_
 obtain ⟨r, h, b, a, p⟩ := ob2 p
 refine re G (hC 4 (yd3.c _ h) (hC 6 (yqd a) h0)) ?_
 cases p
 exact fN [] []
def yid : MS (Timetable × Int) (List A2_Int) := ⟨.x .r .r, fun x => zq13 x.1 x.2, fun _ => .own 0, fun y => [arO 87 y], fun _ _ => []⟩
theorem yqr : FnOK Tryz.prog tJ 41 yid.S := by
 refine fm tt yid [fo ykn, fo yis, fo ypy, fo ynd] call41 func41 rfl results41 ntmps41 ?_
 rintro ⟨t, stop⟩ y cx G (p : zq13 t stop = some y)
 unfold zq13 at p
 refine rg G (rg G (jab (rs G (hN 2 t.Trips h0) ?_)))
 refine tl p (fun a => ⟨[(5, .own 16)], [aX 16 87 a], 48⟩) (fun a p => ?_) ?_
 ·refine jaa (lpP p (fun (v, x) => ⟨[(1, dV stop), (2, .ref 16 0), (5, .own 32), (10, dV t.Trips), (11, dV (t.Trips.length : Int)), (12, dV v)], [bX 16 30 [dV t.Network.Stops, dV t.Network.Lines, dV t.Trips], aX 32 87 x], 64⟩) (Wk_J G.hL ⟨[(1, []), (2, []), (5, [.o 32]), (10, []), (11, []), (12, [])], [(16, 16, [])], [(32, 87, 2, [])], 64⟩ (by kernel_rfl)) ?_)
  rintro ⟨v, x⟩ l hb p
  rw [ydj] at p
  refine rg G (jab (cd p ?_ ?_)) <;> intro p
  ·refine jad (thN (jn p (fun b => ⟨[(1, dV stop), (2, .ref 16 0), (5, .own 32), (10, dV t.Trips), (11, dV (t.Trips.length : Int)), (12, dV v)], [bX 16 30 [dV t.Network.Stops, dV t.Network.Lines, dV t.Trips], aX 32 87 b], 64⟩) (fun b p => ?_) ?_))
   ·refine jaa ?_
    obtain ⟨e, h, p⟩ := jae p
    refine rs G (hD 0 h h0) ?_
    obtain ⟨r, f, m, g, p⟩ := ob2 p
    refine rs G (hC 2 (yhb.c (_, _) f) (hC 5 (ydo.c (_, _) g) h0)) ?_
    refine rg G (cd p ?_ ?_) <;> intro p
    ·obtain ⟨n, i, q, d, u, j, p⟩ := ob3 p
     refine de G [(11, [32, 448])] (hC 3 (ykm.c (_, _) i) (hD 5 d (hE 6 d (hA 11 16 j h0)))) ?_
     exact ibN (wJ G p)
    ·exact jad (ibN (wJ G p))
   rintro b p
   exact rh G (wL G p)
  ·exact jag (thE (thE (ibE (wD G p hb))))
 rintro a p s hw
 refine thN (jah hw ?_)
 obtain ⟨w, k, p⟩ := jae p
 refine rs G (hC 1 (yfx.c _ k) h0) ?_
 refine rg G ?_
 cases p
 exact rt [16] []
def yf5 : MS ((List A2_Int) × (List A2_Int)) Bool := mS yf6
theorem ynn : FnOK Tryz.prog tJ 40 yf5.S := by
 refine fm tt yf5 [] call40 func40 rfl results40 ntmps40 ?_
 rintro ⟨a, b⟩ y cx G (p : yf6 a b = some y)
 unfold yf6 at p
 refine rg G (jab (rs G (hN 1 a (hN 3 b h0)) ?_))
 refine cd p ?_ ?_ <;> intro p
 ·refine rg G ?_
  cases p
  exact rt [] []
 ·refine jad (thN (jab (rs G (hN 1 a h0) ?_)))
  refine tF p (fun _ => ⟨[], [], 32⟩) (fun e hr p => ?_) ?_
  ·refine jaa (lp G p (fun v => ⟨[(0, dV a), (1, dV b), (12, dV (a.length : Int)), (13, dV v)], [], 32⟩) ?_)
   rintro v f hb p
   rw [ybr] at p
   refine rg G (jab (cd p ?_ ?_)) <;> intro p
   ·refine jad (thN (jab (jaa (rg G ?_))))
    obtain ⟨g, c, h, d, p⟩ := ob2 p
    refine ds G [] (hD 2 c (hD 6 d h0)) ?_
    refine cd p ?_ ?_ <;> intro p
    ·refine rg G ?_
     have p := eL p hb hr
     cases p
     exact rt [] []
    ·exact jad (ibN (thN (rh G (wL G p))))
   ·exact jag (thE (thE (ibE (wE G p hb))))
  rintro ⟨⟩ p s hw
  refine thN (jah hw ?_)
  refine rg G ?_
  cases p
  exact rt [] []
def ypo : MS (Timetable × (List Change)) ((List Int) × Bool) := ⟨.x .r .r, fun x => zq3 x.1 x.2, fun y => .tup [dV y.1, dV y.2], fun _ => [], fun _ _ => []⟩
theorem yr0 : FnOK Tryz.prog tJ 14 ypo.S := by
 refine fm tt ypo [fo yr2, fo yqr, fo ynn] call14 func14 rfl results14 ntmps14 ?_
 rintro ⟨t, list⟩ y cx G (p : zq3 t list = some y)
 unfold zq3 at p
 refine rg G ?_
 obtain ⟨r, h, p⟩ := jae p
 refine rs G (hC 2 (ypx.c (_, _) h) h0) ?_
 refine jab (rg G (cd p ?_ ?_)) <;> intro p
 ·refine rg G ?_
  cases p
  exact rt [] [[.z 1]]
 ·refine jad (thN (rg G (jab (rs G (hN 3 t.Network.Stops h0) ?_))))
  refine tl p (fun a => ⟨[(8, .own 16)], [aX 16 3 a], 48⟩) (fun a p => ?_) ?_
  ·refine jaa (lpP p (fun (v, d) => ⟨[(2, .ref 16 0), (6, .ref 32 0), (8, .own 48), (21, dV (t.Network.Stops.length : Int)), (22, dV v)], [bX 16 30 [dV t.Network.Stops, dV t.Network.Lines, dV t.Trips], bX 32 30 [dV r.1.Network.Stops, dV r.1.Network.Lines, dV r.1.Trips], aX 48 3 d], 80⟩) (Wk_J G.hL ⟨[(2, []), (6, []), (8, [.o 48]), (21, []), (22, [])], [(16, 16, []), (32, 160, [])], [(48, 3, 1, [])], 80⟩ (by kernel_rfl)) ?_)
   rintro ⟨v, d⟩ j hb p
   rw [ycm] at p
   refine rg G (jab (cd p ?_ ?_)) <;> intro p
   ·refine jad (thN (jn p (fun b => ⟨[(2, .ref 16 0), (6, .ref 32 0), (8, .own 48), (21, dV (t.Network.Stops.length : Int)), (22, dV v)], [bX 16 30 [dV t.Network.Stops, dV t.Network.Lines, dV t.Trips], bX 32 30 [dV r.1.Network.Stops, dV r.1.Network.Lines, dV r.1.Trips], aX 48 3 b], 80⟩) (fun b p => ?_) ?_))
    ·refine jaa (rg G ?_)
     obtain ⟨k, e, l, f, m, g, p⟩ := ob3 p
     refine ds G [] (hC 2 (yid.c (_, _) e) (hC 5 (yid.c (_, _) f) (hC 6 (yf5.c (_, _) g) h0))) ?_
     refine cd p ?_ ?_ <;> intro p
     ·obtain ⟨u, i, p⟩ := jae p
      refine re G (hA 3 8 i h0) ?_
      exact ibN (wJ G p)
     ·exact jad (ibN (wJ G p))
    rintro b p
    exact rh G (wL G p)
   ·exact jag (thE (thE (ibE (wD G p hb))))
  rintro a p s hw
  refine thN (jah hw ?_)
  refine rg G ?_
  cases p
  exact rt [] []
def ygs : MS (Timetable × Int) (List Int) := ⟨.x .r .r, fun x => zq67 x.1 x.2, fun _ => .own 0, fun y => [arO 3 y], fun _ _ => []⟩
theorem yo6 : FnOK Tryz.prog tJ 44 ygs.S := by
 refine fm tt ygs [fo yet, fo ycr, fo yjn] call44 func44 rfl results44 ntmps44 ?_
 rintro ⟨t, stop⟩ y cx G (p : zq67 t stop = some y)
 unfold zq67 at p
 refine rg G (rg G (jab (rg G (tl p (fun a => ⟨[(5, .own 16)], [aX 16 3 a], 48⟩) (fun a p => ?_) ?_))))
 ·refine jaa (lp G p (fun (v, k) => ⟨[(1, dV stop), (2, .ref 16 0), (5, .own 32), (6, dV v)], [bX 16 30 [dV t.Network.Stops, dV t.Network.Lines, dV t.Trips], aX 32 3 k], 64⟩) ?_)
  rintro ⟨v, k⟩ i hb p
  rw [yey] at p
  refine jab (rs G (hN 3 t.Trips h0) ?_)
  refine cd p ?_ ?_ <;> intro p
  ·refine jad (thN (jn p (fun b => ⟨[(1, dV stop), (2, .ref 16 0), (5, .own 32), (6, dV v)], [bX 16 30 [dV t.Network.Stops, dV t.Network.Lines, dV t.Trips], aX 32 3 b], 64⟩) (fun b p => ?_) ?_))
   ·refine jaa ?_
    obtain ⟨r, h, j, d, p⟩ := ob2 p
    refine rs G (hC 2 (ydz.c (_, _) h) (hC 4 (yck.c (_, _) d) h0)) ?_
    refine rg G (cd p ?_ ?_) <;> intro p
    ·obtain ⟨l, e, m, f, n, g, p⟩ := ob3 p
     refine de G [(12, [32, 448])] (hD 4 e (hC 10 (ygh.c (_, _, _) f) (hA 12 8 g h0))) ?_
     exact ibN (wJ G p)
    ·exact jad (ibN (wJ G p))
   rintro b p
   exact rh G (wL G p)
  ·exact jag (thE (thE (ibE (wD G p hb))))
 rintro a p s hw
 refine thN (jah hw ?_)
 refine rg G ?_
 cases p
 exact rt [16] []
def yjx : MS ((List Int) × (List Int)) Bool := mS zq65
theorem yo7 : FnOK Tryz.prog tJ 43 yjx.S := by
 refine fm tt yjx [] call43 func43 rfl results43 ntmps43 ?_
 rintro ⟨a, b⟩ y cx G (p : zq65 a b = some y)
 unfold zq65 at p
 refine rg G (jab (rs G (hN 1 a (hN 3 b h0)) ?_))
 refine cd p ?_ ?_ <;> intro p
 ·refine rg G ?_
  cases p
  exact rt [] []
 ·refine jad (thN (jab (rg G (tF p (fun _ => ⟨[], [], 32⟩) (fun e hr p => ?_) ?_))))
  ·refine jaa (lp G p (fun v => ⟨[(0, dV a), (1, dV b), (5, dV v)], [], 32⟩) ?_)
   rintro v f hb p
   rw [yc2] at p
   refine jab (rs G (hN 2 a h0) ?_)
   refine cd p ?_ ?_ <;> intro p
   ·refine jad (thN (jab (jaa ?_)))
    obtain ⟨g, c, h, d, p⟩ := ob2 p
    refine ds G [] (hD 2 c (hD 6 d h0)) ?_
    refine cd p ?_ ?_ <;> intro p
    ·refine rg G ?_
     have p := eL p hb hr
     cases p
     exact rt [] []
    ·exact jad (ibN (thN (rh G (wL G p))))
   ·exact jag (thE (thE (ibE (wE G p hb))))
  rintro ⟨⟩ p s hw
  refine thN (jah hw ?_)
  refine rg G ?_
  cases p
  exact rt [] []
def ykg : MS (Timetable × (List Change)) ((List Int) × Bool) := ⟨.x .r .r, fun x => zq38 x.1 x.2, fun y => .tup [.own 0, dV y.2], fun y => [arO 3 y.1], fun _ _ => []⟩
theorem ypq : FnOK Tryz.prog tJ 15 ykg.S := by
 refine fm tt ykg [fo ye5, fo yjw, fo yo6, fo yo7] call15 func15 rfl results15 ntmps15 ?_
 rintro ⟨t, list⟩ y cx G (p : zq38 t list = some y)
 unfold zq38 at p
 refine rg G (rg G (jab ?_))
 obtain ⟨r, h, p⟩ := jae p
 refine rs G (hC 2 (yao.c (_, _) h) h0) ?_
 refine cd p ?_ ?_ <;> intro p
 ·refine rg G ?_
  cases p
  exact rt [64] []
 ·refine jad (thN ?_)
  obtain ⟨a, f, p⟩ := jae p
  refine rs G (hC 2 (ygt.c (_, _) f) h0) ?_
  refine jab (rg G (tl p (fun b => ⟨[(6, .own 16)], [aX 16 3 b], 48⟩) (fun b p => ?_) ?_))
  ·refine jaa (lp G p (fun (v, e) => ⟨[(2, .ref 16 0), (6, .own 32), (7, .ref 48 0), (9, dV v)], [bX 16 30 [dV t.Network.Stops, dV t.Network.Lines, dV t.Trips], aX 32 3 e, bX 48 30 [.own 64, .own 80, .own 96], aX 64 9 a.1.Network.Stops, aX 80 118 a.1.Network.Lines, aX 96 74 a.1.Trips], 128⟩) ?_)
   rintro ⟨v, e⟩ l hb p
   rw [yc8] at p
   refine jab (rs G (hN 4 t.Network.Stops h0) ?_)
   refine cd p ?_ ?_ <;> intro p
   ·refine jad (thN (jn p (fun d => ⟨[(2, .ref 16 0), (6, .own 32), (7, .ref 48 0), (9, dV v)], [bX 16 30 [dV t.Network.Stops, dV t.Network.Lines, dV t.Trips], aX 32 3 d, bX 48 30 [.own 64, .own 80, .own 96], aX 64 9 a.1.Network.Stops, aX 80 118 a.1.Network.Lines, aX 96 74 a.1.Trips], 128⟩) (fun d p => ?_) ?_))
    ·refine jaa ?_
     obtain ⟨m, g, n, i, o, j, p⟩ := ob3 p
     refine ds G [] (hC 2 (ygs.c (_, _) g) (hF 5 (ygs.c (_, _) i) ⟨(jk8 jm9 jg1), jg1⟩ (hC 6 (yjx.c (_, _) j) h0))) ?_
     refine cd p ?_ ?_ <;> intro p
     ·obtain ⟨u, k, p⟩ := jae p
      refine re G (hA 3 8 k h0) ?_
      exact ibN (wJ G p)
     ·exact jad (ibN (wJ G p))
    rintro d p
    exact rh G (wL G p)
   ·exact jag (thE (thE (ibE (wD G p hb))))
  rintro b p s hw
  refine thN (jah hw ?_)
  refine rg G ?_
  cases p
  exact rt [16] []
def ya3 : MS (List UInt8) Bool := mR yak
theorem v_FnMerging_ok : FnOK Tryz.prog tJ 3 ya3.S := by
 refine fm tt ya3 [fo ymi, fo ypn, fo yrq, fo ypm, fo ymh, fo yrz, fo ypp, fo ymg, fo yr0, fo ypq] call3 func3 rfl results3 ntmps3 ?_
 rintro code y cx G (p : yak code = some y)
 unfold yak at p
 refine rg G (jab ?_)
 obtain ⟨r, h, p⟩ := jae p
 refine rs G (hC 1 (yfd.c _ h) h0) ?_
 refine cd p ?_ ?_ <;> intro p
 ·refine rg G ?_
  cases p
  exact rt [] []
 ·refine jad (thN ?_)
  obtain ⟨a, z, p⟩ := jae p
  refine rs G (hC 1 (yke.c _ z) h0) ?_
  obtain ⟨d, A, p⟩ := jae p
  refine rs G (hO 3 (.fz [80, 81] [] []) (hC 3 (yrr A) h0)) ?_
  obtain ⟨N, B, p⟩ := jae p
  refine rs G (hC 3 (yrr B) h0) ?_
  refine jab ?_
  obtain ⟨O, C, p⟩ := jae p
  refine rs G (hC 3 (ykd.c (_, _, _) C) h0) ?_
  refine jn p (fun v => ⟨[(3, .ref 16 0), (4, dV a.2.1), (5, dV a.2.2), (6, dV d.1), (7, dV d.2), (68, dV v)], [bX 16 30 [dV a.1.Network.Stops, dV a.1.Network.Lines, dV a.1.Trips]], 48⟩) (fun v p => ?_) ?_
  ·rcases bf p with ⟨hb, p⟩ | ⟨hb, p⟩
   ·refine re G (hO 3 (.b true) (hP hb h0)) ?_
    exact wJ G p
   ·obtain ⟨Q, q, p⟩ := jae p
    rcases bf p with ⟨j, p⟩ | ⟨j, p⟩
    ·refine re G (hO 3 (.b false) (hP hb (hC 6 (ya8.c (_, _) q) (hO 9 (.b true) (hP j h0))))) ?_
     exact wJ G p
    ·rcases bf p with ⟨m, p⟩ | ⟨m, p⟩
     ·refine re G (hO 3 (.b false) (hP hb (hC 6 (ya8.c (_, _) q) (hO 9 (.b false) (hP j (hO 14 (.b true) (hP m h0))))))) ?_
      exact wJ G p
     ·obtain ⟨R, D, p⟩ := jae p
      refine re G (hO 3 (.b false) (hP hb (hC 6 (ya8.c (_, _) q) (hO 9 (.b false) (hP j (hO 14 (.b false) (hP m (hC 17 (ya8.c (_, _) D) h0)))))))) ?_
      exact wJ G p
  rintro v p
  refine cd p ?_ ?_ <;> intro p
  ·refine rg G ?_
   cases p
   exact rt [] []
  ·refine jad (thN ?_)
   obtain ⟨l, E, p⟩ := jae p
   refine rs G (hC 3 (yph.c (_, _, _) E) h0) ?_
   refine jab ?_
   obtain ⟨T, H, p⟩ := jae p
   refine rs G (hC 3 (ykf.c (_, _, _) H) h0) ?_
   refine jn p (fun s => ⟨[(3, .ref 16 0), (4, dV a.2.1), (5, dV a.2.2), (6, dV d.1), (7, dV d.2), (12, dV l.1), (13, dV l.2), (91, dV s)], [bX 16 30 [dV a.1.Network.Stops, dV a.1.Network.Lines, dV a.1.Trips]], 48⟩) (fun s p => ?_) ?_
   ·rcases bf p with ⟨n, p⟩ | ⟨n, p⟩
    ·refine re G (hO 3 (.b true) (hP n h0)) ?_
     exact wJ G p
    ·obtain ⟨U, I, p⟩ := jae p
     refine re G (hO 3 (.b false) (hP n (hC 6 (yde.c (_, _) I) h0))) ?_
     exact wJ G p
   rintro s p
   refine cd p ?_ ?_ <;> intro p
   ·refine rg G ?_
    cases p
    exact rt [] []
   ·refine jad (thN (jab (rg G (cd p ?_ ?_)))) <;> intro p
    ·refine rs G (hN 1 d.1 h0) ?_
     cases p
     exact rt [] []
    ·refine jad (thN ?_)
     obtain ⟨K, u, p⟩ := jae p
     refine rs G (hC 2 (ypo.c (_, _) u) h0) ?_
     obtain ⟨L, w, p⟩ := jae p
     refine rs G (hC 2 (ykg.c (_, _) w) h0) ?_
     refine jn p (fun t => ⟨[(2, dV t)], [], 32⟩) (fun t p => ?_) ?_
     ·rcases bf p with ⟨e, p⟩ | ⟨e, p⟩
      ·rcases bf p with ⟨f, p⟩ | ⟨f, p⟩
       ·rcases bf p with ⟨g, p⟩ | ⟨g, p⟩
        ·rcases bf p with ⟨i, p⟩ | ⟨i, p⟩
         ·rcases bf p with ⟨k, p⟩ | ⟨k, p⟩
          ·rcases bf p with ⟨o, p⟩ | ⟨o, p⟩
           ·obtain ⟨M, x, p⟩ := jae p
            refine re G (hO 1 (.b true) (hP e (hN 3 l.1 (hO 6 (.b true) (hP f (hN 8 d.1 (hN 10 a.2.1 (hO 13 (.b true) (hP g (hN 15 d.1 (hN 17 a.2.2 (hO 20 (.b true) (hP i (hN 22 d.1 (hN 24 a.2.1 (hN 26 a.2.2 (hO 30 (.b true) (hP k (hO 35 (.b true) (hP o (hC 38 (yde.c (_, _) x) h0))))))))))))))))))))) ?_
            exact wJ G p
           ·refine re G (hO 1 (.b true) (hP e (hN 3 l.1 (hO 6 (.b true) (hP f (hN 8 d.1 (hN 10 a.2.1 (hO 13 (.b true) (hP g (hN 15 d.1 (hN 17 a.2.2 (hO 20 (.b true) (hP i (hN 22 d.1 (hN 24 a.2.1 (hN 26 a.2.2 (hO 30 (.b true) (hP k (hO 35 (.b false) (hP o h0)))))))))))))))))))) ?_
            exact wJ G p
          ·refine re G (hO 1 (.b true) (hP e (hN 3 l.1 (hO 6 (.b true) (hP f (hN 8 d.1 (hN 10 a.2.1 (hO 13 (.b true) (hP g (hN 15 d.1 (hN 17 a.2.2 (hO 20 (.b true) (hP i (hN 22 d.1 (hN 24 a.2.1 (hN 26 a.2.2 (hO 30 (.b false) (hP k h0)))))))))))))))))) ?_
           exact wJ G p
         ·refine re G (hO 1 (.b true) (hP e (hN 3 l.1 (hO 6 (.b true) (hP f (hN 8 d.1 (hN 10 a.2.1 (hO 13 (.b true) (hP g (hN 15 d.1 (hN 17 a.2.2 (hO 20 (.b false) (hP i h0))))))))))))) ?_
          exact wJ G p
        ·refine re G (hO 1 (.b true) (hP e (hN 3 l.1 (hO 6 (.b true) (hP f (hN 8 d.1 (hN 10 a.2.1 (hO 13 (.b false) (hP g h0))))))))) ?_
         exact wJ G p
       ·refine re G (hO 1 (.b true) (hP e (hN 3 l.1 (hO 6 (.b false) (hP f h0))))) ?_
        exact wJ G p
      ·refine re G (hO 1 (.b false) (hP e h0)) ?_
       exact wJ G p
     rintro t p
     cases p
     exact rt [] []
end
end Go.Proofs.YtmmffjenpfeapaaGreat
