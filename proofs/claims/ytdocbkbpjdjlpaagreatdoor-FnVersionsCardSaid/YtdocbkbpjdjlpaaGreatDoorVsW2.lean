/- Each function computes what its model says. Made by program (dec.py). -/
import Derived.Test.YtdocbkbpjdjlpaaGreatDoorVsW1
namespace Go.Proofs.YtdocbkbpjdjlpaaGreatDoor
open Go Go.Ab Tryz
set_option maxRecDepth 100000
set_option maxHeartbeats 4000000
set_option linter.unusedVariables false
set_option linter.unusedSimpArgs false
noncomputable section
def yf9 : MS ((List Change) × Int × Int × Int) (Int × Bool × (List Change)) := ⟨⟨[.sl, .rd, .rd, .rd, .fn 23 []], fun x => [.sc undef, Enc.e x.2.1, Enc.e x.2.2.1, Enc.e x.2.2.2, .agg []], fun x => [arO 56 x.1], 1, 1, fun _ => rfl, fun _ => rfl, rfl, (by
  rintro ⟨a0, a1, a2, a3⟩ ⟨b0, b1, b2, b3⟩ h hO
  have q0 : a0 = b0 := Enc.inj _ _ (congrArg (fun l => D.sl 5 (obL l 0)) hO)
  have q1 : a1 = b1 := qI 1 h
  have q2 : a2 = b2 := qI 2 h
  have q3 : a3 = b3 := qI 3 h
  subst q0; subst q1; subst q2; subst q3; rfl)⟩, fun x => yo7 x.1 x.2.1 x.2.2.1 x.2.2.2, fun y => .tup [dV y.1, dV y.2.1], fun _ => [], fun _ y => [arO 56 y.2.2]⟩
theorem yl7 : FnOK Tryz.prog tJ 87 yf9.S := by
 refine fm tt yf9 [fo ybc] call87 func87 rfl results87 ntmps87 ?_
 rintro ⟨data, a, b, pivot⟩ y cx G (p : yo7 data a b pivot = some y)
 obtain ⟨cmp, hf_cmp⟩ : ∃ q, (fun (z0 : Change) (z1 : Change) => zq13 z0 z1) = q := ⟨_, rfl⟩
 have p : yo8 data a b pivot cmp = some y := by rw [<- hf_cmp]; exact p
 unfold yo8 at p
 refine rg G ?_
 obtain ⟨e4, h4, e5, h5, e6, h6, p⟩ := ob3 p
 obtain ⟨e7, h7, p⟩ := jae p
 refine ds G [(13, [0]), (15, [0])] (hD 6 h4 (hE 7 h4 (hD 10 h5 (hE 11 h5 (hD 12 h6 (hS 13 h6 e4 (hD 14 h7 (hS 15 h7 e5 h0)))))))) ?_
 refine rg G (jn p (fun v2 => ⟨[(0, .own 0), (1, dV a), (4, .fn 23 []), (12, dV v2), (13, dV (w64 (b - 1)))], [aX 0 56 ((data.set a.toNat e4).set pivot.toNat e5)], 48⟩) (fun v2 p => ?_) ?_)
 ·refine jab (lp G p (fun v => ⟨[(0, .own 0), (1, dV a), (4, .fn 23 []), (12, dV v), (13, dV (w64 (b - 1)))], [aX 0 56 ((data.set a.toNat e4).set pivot.toNat e5)], 48⟩) ?_)
  rintro v r0 hb p
  rw [yho] at p
  refine jac (jn p (fun v1 => ⟨[(0, .own 0), (1, dV a), (4, .fn 23 []), (12, dV v), (13, dV (w64 (b - 1))), (47, dV v1)], [aX 0 56 ((data.set a.toNat e4).set pivot.toNat e5)], 48⟩) (fun v1 p => ?_) ?_)
  ·rcases bf p with ⟨hb1, p⟩ | ⟨hb1, p⟩
   ·obtain ⟨e10, h11, e11, h12, r1, h13, p⟩ := ob3 p
    have h13 : zq13 e10 e11 = some r1 := by rw [<- hf_cmp] at h13; exact h13
    refine de G [(13, [])] (hO 3 (.b true) (hP hb1 (hD 7 h11 (hE 8 h11 (hD 11 h12 (hE 12 h12 (hC 13 (yar.c (_, _) h13) h0))))))) ?_
    exact wJ G p
   ·refine de G [(13, [])] (hO 3 (.b false) (hP hb1 h0)) ?_
    exact wJ G p
  rintro v1 p
  refine cd p ?_ ?_ <;> intro p
  ·exact jad (thN (jab (rh G (ibN (wL G p)))))
  ·exact jaf (thE (thE (ibE (wD G p hb))))
 rintro v2 p
 refine jn p (fun v5 => ⟨[(0, .own 0), (1, dV a), (4, .fn 23 []), (12, dV v2), (13, dV v5)], [aX 0 56 ((data.set a.toNat e4).set pivot.toNat e5)], 48⟩) (fun v5 p => ?_) ?_
 ·refine jab (lp G p (fun v3 => ⟨[(0, .own 0), (1, dV a), (4, .fn 23 []), (12, dV v2), (13, dV v3)], [aX 0 56 ((data.set a.toNat e4).set pivot.toNat e5)], 48⟩) ?_)
  rintro v3 r0 hb2 p
  rw [yhn] at p
  refine jac (jn p (fun v4 => ⟨[(0, .own 0), (1, dV a), (4, .fn 23 []), (12, dV v2), (13, dV v3), (66, dV v4)], [aX 0 56 ((data.set a.toNat e4).set pivot.toNat e5)], 48⟩) (fun v4 p => ?_) ?_)
  ·rcases bf p with ⟨hb3, p⟩ | ⟨hb3, p⟩
   ·obtain ⟨e14, h17, e15, h18, r3, h19, p⟩ := ob3 p
    have h19 : zq13 e14 e15 = some r3 := by rw [<- hf_cmp] at h19; exact h19
    refine de G [(13, [])] (hO 3 (.b true) (hP hb3 (hD 7 h17 (hE 8 h17 (hD 11 h18 (hE 12 h18 (hC 13 (yar.c (_, _) h19) h0))))))) ?_
    exact wJ G p
   ·refine de G [(13, [])] (hO 3 (.b false) (hP hb3 h0)) ?_
    exact wJ G p
  rintro v4 p
  refine cd p ?_ ?_ <;> intro p
  ·exact jad (thN (jab (rh G (ibN (wL G p)))))
  ·exact jaf (thE (thE (ibE (wD G p hb2))))
 rintro v5 p
 refine jac (rg G (cd p ?_ ?_)) <;> intro p
 ·obtain ⟨e20, h24, e21, h25, e22, h26, p⟩ := ob3 p
  obtain ⟨e23, h27, p⟩ := jae p
  refine ds G [(13, [0]), (15, [0])] (hD 6 h24 (hE 7 h24 (hD 10 h25 (hE 11 h25 (hD 12 h26 (hS 13 h26 e20 (hD 14 h27 (hS 15 h27 e21 h0)))))))) ?_
  refine rg G ?_
  cases p
  exact rt [] []
 ·refine jad (thN ?_)
  obtain ⟨e28, h32, e29, h33, e30, h34, p⟩ := ob3 p
  obtain ⟨e31, h35, p⟩ := jae p
  refine ds G [(13, [0]), (15, [0])] (hD 6 h32 (hE 7 h32 (hD 10 h33 (hE 11 h33 (hD 12 h34 (hS 13 h34 e28 (hD 14 h35 (hS 15 h35 e29 h0)))))))) ?_
  refine rg G (rg G (jn p (fun (v14, data2) => ⟨[(0, .own 0), (1, dV a), (4, .fn 23 []), (13, dV v14)], [aX 0 56 data2], 48⟩) (fun vv p => ?_) ?_))
  ·refine jab (lp G p (fun (v6, v7, data1) => ⟨[(0, .own 0), (1, dV a), (4, .fn 23 []), (12, dV v6), (13, dV v7)], [aX 0 56 data1], 48⟩) ?_)
   rintro ⟨v6, v7, data1⟩ r0 hb4 p
   rw [yhk] at p
   refine jab (jn p (fun v10 => ⟨[(0, .own 0), (1, dV a), (4, .fn 23 []), (12, dV v10), (13, dV v7)], [aX 0 56 data1], 48⟩) (fun v10 p => ?_) ?_)
   ·refine jab (lp G p (fun v8 => ⟨[(0, .own 0), (1, dV a), (4, .fn 23 []), (12, dV v8), (13, dV v7)], [aX 0 56 data1], 48⟩) ?_)
    rintro v8 r0 hb5 p
    rw [yhm] at p
    refine jac (jn p (fun v9 => ⟨[(0, .own 0), (1, dV a), (4, .fn 23 []), (12, dV v8), (13, dV v7), (120, dV v9)], [aX 0 56 data1], 48⟩) (fun v9 p => ?_) ?_)
    ·rcases bf p with ⟨hb6, p⟩ | ⟨hb6, p⟩
     ·obtain ⟨e34, h39, e35, h40, r5, h41, p⟩ := ob3 p
      have h41 : zq13 e34 e35 = some r5 := by rw [<- hf_cmp] at h41; exact h41
      refine de G [(13, [])] (hO 3 (.b true) (hP hb6 (hD 7 h39 (hE 8 h39 (hD 11 h40 (hE 12 h40 (hC 13 (yar.c (_, _) h41) h0))))))) ?_
      exact wJ G p
     ·refine de G [(13, [])] (hO 3 (.b false) (hP hb6 h0)) ?_
      exact wJ G p
    rintro v9 p
    refine cd p ?_ ?_ <;> intro p
    ·exact jad (thN (jab (rh G (ibN (wL G p)))))
    ·exact jaf (thE (thE (ibE (wD G p hb5))))
   rintro v10 p
   refine jn p (fun v13 => ⟨[(0, .own 0), (1, dV a), (4, .fn 23 []), (12, dV v10), (13, dV v13)], [aX 0 56 data1], 48⟩) (fun v13 p => ?_) ?_
   ·refine jab (lp G p (fun v11 => ⟨[(0, .own 0), (1, dV a), (4, .fn 23 []), (12, dV v10), (13, dV v11)], [aX 0 56 data1], 48⟩) ?_)
    rintro v11 r0 hb7 p
    rw [yhl] at p
    refine jac (jn p (fun v12 => ⟨[(0, .own 0), (1, dV a), (4, .fn 23 []), (12, dV v10), (13, dV v11), (139, dV v12)], [aX 0 56 data1], 48⟩) (fun v12 p => ?_) ?_)
    ·rcases bf p with ⟨hb8, p⟩ | ⟨hb8, p⟩
     ·obtain ⟨e38, h45, e39, h46, r7, h47, p⟩ := ob3 p
      have h47 : zq13 e38 e39 = some r7 := by rw [<- hf_cmp] at h47; exact h47
      refine de G [(13, [])] (hO 3 (.b true) (hP hb8 (hD 7 h45 (hE 8 h45 (hD 11 h46 (hE 12 h46 (hC 13 (yar.c (_, _) h47) h0))))))) ?_
      exact wJ G p
     ·refine de G [(13, [])] (hO 3 (.b false) (hP hb8 h0)) ?_
      exact wJ G p
    rintro v12 p
    refine cd p ?_ ?_ <;> intro p
    ·exact jad (thN (jab (rh G (ibN (wL G p)))))
    ·exact jaf (thE (thE (ibE (wD G p hb7))))
   rintro v13 p
   refine jac (rg G (cd p ?_ ?_)) <;> intro p
   ·exact jaf (thE (ibX rfl (thE (ibE (wD G p hb4)))))
   ·refine jad (thN ?_)
    obtain ⟨e44, h52, e45, h53, e46, h54, p⟩ := ob3 p
    obtain ⟨e47, h55, p⟩ := jae p
    refine ds G [(13, [0]), (15, [0])] (hD 6 h52 (hE 7 h52 (hD 10 h53 (hE 11 h53 (hD 12 h54 (hS 13 h54 e44 (hD 14 h55 (hS 15 h55 e45 h0)))))))) ?_
    exact rg G (rh G (ibN (wL G p)))
  rintro ⟨v14, data2⟩ p
  obtain ⟨e52, h60, e53, h61, e54, h62, p⟩ := ob3 p
  obtain ⟨e55, h63, p⟩ := jae p
  refine ds G [(13, [0]), (15, [0])] (hD 6 h60 (hE 7 h60 (hD 10 h61 (hE 11 h61 (hD 12 h62 (hS 13 h62 e52 (hD 14 h63 (hS 15 h63 e53 h0)))))))) ?_
  refine rg G ?_
  cases p
  exact rt [] []
def ygb : MS Int ((IK .u64)) := ⟨.r, yd1, fun y => dV y, fun _ => [], fun _ _ => []⟩
theorem yma : FnOK Tryz.prog tJ 108 ygb.S := by
 refine fm tt ygb [fo yjz] call108 func108 rfl results108 ntmps108 ?_
 rintro length y cx G (p : yd1 length = some y)
 unfold yd1 at p
 refine rg G ?_
 obtain ⟨r, h, u, h1, p⟩ := ob2 p
 refine rs G (hC 2 (yg8.c _ h) (hK h1 h0)) ?_
 cases p
 exact rt [] []
def yf5 : MS ((IK .u64)) ((IK .u64) × (IK .u64)) := ⟨.b 128, ydy, fun y => dV y.1, fun _ => [], fun _ y => [bxO 128 y.2]⟩
theorem yl0 : FnOK Tryz.prog tJ 109 yf5.S := by
 refine fm tt yf5 [] call109 func109 rfl results109 ntmps109 ?_
 rintro r y cx G (p : ydy r = some y)
 unfold ydy at p
 refine rg G ?_
 obtain ⟨u1, h1, p⟩ := jae p
 refine ds G [(9, [0])] (hK h1 h0) ?_
 obtain ⟨u3, h3, p⟩ := jae p
 refine ds G [(9, [0])] (hK h3 h0) ?_
 obtain ⟨u5, h5, p⟩ := jae p
 refine ds G [(9, [0])] (hK h5 h0) ?_
 refine rg G ?_
 cases p
 exact rt [] []
def yis : MS ((List Change) × Int × Int) ((List Change)) := ⟨⟨[.sl, .rd, .rd, .fn 23 []], fun x => [.sc undef, Enc.e x.2.1, Enc.e x.2.2, .agg []], fun x => [arO 56 x.1], 1, 1, fun _ => rfl, fun _ => rfl, rfl, (by
  rintro ⟨a0, a1, a2⟩ ⟨b0, b1, b2⟩ h hO
  have q0 : a0 = b0 := Enc.inj _ _ (congrArg (fun l => D.sl 5 (obL l 0)) hO)
  have q1 : a1 = b1 := qI 1 h
  have q2 : a2 = b2 := qI 2 h
  subst q0; subst q1; subst q2; rfl)⟩, fun x => zq91 x.1 x.2.1 x.2.2, fun _ => .tup [], fun _ => [], fun _ y => [arO 56 y]⟩
theorem yne : FnOK Tryz.prog tJ 82 yis.S := by
 refine fm tt yis [fo yma, fo yl0] call82 func82 rfl results82 ntmps82 ?_
 rintro ⟨data, a, b⟩ y cx G (p : zq91 data a b = some y)
 obtain ⟨cmp, hf_cmp⟩ : ∃ q, (fun (z0 : Change) (z1 : Change) => zq13 z0 z1) = q := ⟨_, rfl⟩
 have p : zq90 data a b cmp = some y := by rw [<- hf_cmp]; exact p
 unfold zq90 at p
 refine rg G (rg G (cd p ?_ ?_)) <;> intro p
 ·refine rg G ?_
  obtain ⟨r, h, p⟩ := jae p
  refine rs G (hC 1 (ygb.c _ h) h0) ?_
  obtain ⟨u, h1, p⟩ := jae p
  refine rs G (hK h1 h0) ?_
  refine jab (lp G p (fun (v, data1, v1) => ⟨[(0, .own 0), (1, dV a), (3, .fn 23 []), (8, dV (w64 (b - a))), (9, .ref 32 0), (10, kV .u64 r.v), (11, dV v)], [aX 0 56 data1, bX 32 128 [kV .u64 v1]], 64⟩) ?_)
  rintro ⟨v, data1, v1⟩ r0 hb p
  rw [yit] at p
  refine jac ?_
  obtain ⟨u1, h2, p⟩ := jae p
  refine rs G (hK h2 h0) ?_
  refine cd p ?_ ?_ <;> intro p
  ·refine jad (thN (jac (jab ?_)))
   obtain ⟨r1, h3, p⟩ := jae p
   refine rs G (hC 0 (yf5.c _ h3) h0) ?_
   refine jn p (fun v2 => ⟨[(0, .own 0), (1, dV a), (3, .fn 23 []), (8, dV (w64 (b - a))), (9, .ref 32 0), (10, kV .u64 r.v), (11, dV v), (12, dV v2)], [aX 0 56 data1, bX 32 128 [kV .u64 r1.2.v]], 64⟩) (fun v2 p => ?_) ?_
   ·refine rg G (cd p ?_ ?_) <;> intro p
    ·exact rh G (wJ G p)
    ·exact jad (wJ G p)
   rintro v2 p
   obtain ⟨e4, h8, e5, h9, e6, h10, p⟩ := ob3 p
   obtain ⟨e7, h11, p⟩ := jae p
   refine de G [(17, [0]), (19, [0])] (hD 10 h8 (hE 11 h8 (hD 14 h9 (hE 15 h9 (hD 16 h10 (hS 17 h10 e4 (hD 18 h11 (hS 19 h11 e5 h0)))))))) ?_
   exact ibN (thN (rh G (wL G p)))
  ·have p := eD p hb
   refine jaf (thE (thE (ibE ?_)))
   cases p
   exact fN [] []
 ·refine jad ?_
  cases p
  exact fN [] []
def yaz (rec_ : (List Change) -> Int -> Int -> Int -> Option ((List Change))) : MS ((List Change) × Int × Int × Int) ((List Change)) := ⟨⟨[.sl, .rd, .rd, .rd, .fn 23 []], fun x => [.sc undef, Enc.e x.2.1, Enc.e x.2.2.1, Enc.e x.2.2.2, .agg []], fun x => [arO 56 x.1], 1, 1, fun _ => rfl, fun _ => rfl, rfl, (by
  rintro ⟨a0, a1, a2, a3⟩ ⟨b0, b1, b2, b3⟩ h hO
  have q0 : a0 = b0 := Enc.inj _ _ (congrArg (fun l => D.sl 5 (obL l 0)) hO)
  have q1 : a1 = b1 := qI 1 h
  have q2 : a2 = b2 := qI 2 h
  have q3 : a3 = b3 := qI 3 h
  subst q0; subst q1; subst q2; subst q3; rfl)⟩, fun x => rec_ x.1 x.2.1 x.2.2.1 x.2.2.2, fun _ => .tup [], fun _ => [], fun _ y => [arO 56 y]⟩
def yf7 : MS ((List Change) × Int × Int × Int) ((List Change)) := yaz yl5
theorem yo3 {data a b limit y} (p : yl5 data a b limit = some y) : yf7.C (data, a, b, limit) y := yf7.c (data, a, b, limit) p
theorem yhf {rec_ : (List Change) -> Int -> Int -> Int -> Option ((List Change))} {data a b limit y} (p : rec_ data a b limit = some y) : (yaz rec_).C (data, a, b, limit) y := (yaz rec_).c (data, a, b, limit) p
theorem ykh {rec_ : (List Change) -> Int -> Int -> Int -> Option ((List Change))} (hrec : FnOK Tryz.prog tJ 49 (yaz rec_).S) : FnOK Tryz.prog tJ 49 (yaz (ybt rec_)).S := by
 refine fm tt (yaz (ybt rec_)) [fo hrec, fo ynb, fo ync, fo yne, fo ynd, fo yl3, fo yl8, fo ybc, fo yl6, fo yl7] call49 func49 rfl results49 ntmps49 ?_
 rintro ⟨data, a, b, limit⟩ y cx G (p : ybt rec_ data a b limit = some y)
 unfold ybt at p
 refine rg G (rg G (jab (lp G p (fun (a1, b1, limit1, mid, mid1, data1) => ⟨[(0, .own 0), (1, dV a1), (2, dV b1), (3, dV limit1), (4, .fn 23 []), (10, dV mid), (11, dV mid1)], [aX 0 56 data1], 48⟩) ?_)))
 rintro ⟨a1, b1, limit1, mid, mid1, data1⟩ r0 hb p
 rw [yhg] at p
 refine jab (rg G (jac (rg G (cd p ?_ ?_)))) <;> intro p
 ·obtain ⟨r, h, p⟩ := jae p
  refine rs G (hC 4 (yil.c (_, _, _) h) h0) ?_
  have p := eD p hb
  cases p
  exact rt [] []
 ·refine jad (thN (jac (rg G (cd p ?_ ?_)))) <;> intro p
  ·obtain ⟨r2, h1, p⟩ := jae p
   refine rs G (hC 4 (yio.c (_, _, _) h1) h0) ?_
   have p := eD p hb
   cases p
   exact rt [] []
  ·refine jad (thN (jn p (fun (limit2, data2) => ⟨[(0, .own 0), (1, dV a1), (2, dV b1), (3, dV limit2), (4, .fn 23 []), (10, dV mid), (11, dV mid1), (12, dV (w64 (b1 - a1)))], [aX 0 56 data2], 48⟩) (fun vv1 p => ?_) ?_))
   ·refine rg G (cd p ?_ ?_) <;> intro p
    ·obtain ⟨r4, h2, p⟩ := jae p
     refine rs G (hC 4 (yis.c (_, _, _) h2) h0) ?_
     exact rh G (wJ G p)
    ·exact jad (wJ G p)
   rintro ⟨limit2, data2⟩ p
   obtain ⟨r5, h3, p⟩ := jae p
   refine rs G (hC 4 (yir.c (_, _, _) h3) h0) ?_
   refine jn p (fun (leftLen, rightLen, data3) => ⟨[(0, .own 0), (1, dV a1), (2, dV b1), (3, dV limit2), (4, .fn 23 []), (10, dV mid), (11, dV mid1), (12, dV (w64 (b1 - a1))), (13, dV leftLen), (14, dV rightLen)], [aX 0 56 data3], 48⟩) (fun vv p => ?_) ?_
   ·refine rg G (cd p ?_ ?_) <;> intro p
    ·obtain ⟨r6, h4, p⟩ := jae p
     refine rs G (hC 4 (yf6.c (_, _, _) h4) h0) ?_
     exact rg G (rh G (wJ G p))
    ·exact jad (wJ G p)
   rintro ⟨leftLen, rightLen, data3⟩ p
   refine jF p (fun data4 => ⟨[(0, .own 0), (1, dV a1), (2, dV b1), (3, dV limit2), (4, .fn 23 []), (10, dV mid), (11, dV mid1), (12, dV (w64 (b1 - a1))), (13, dV leftLen)], [aX 0 56 data4], 48⟩) (fun v2 hr3 p => ?_) ?_
   ·refine jn p (fun v => ⟨[(0, .own 0), (1, dV a1), (2, dV b1), (3, dV limit2), (4, .fn 23 []), (10, dV mid), (11, dV mid1), (12, dV (w64 (b1 - a1))), (13, dV leftLen), (75, dV v)], [aX 0 56 data3], 48⟩) (fun v p => ?_) ?_
    ·rcases bf p with ⟨hb1, p⟩ | ⟨hb1, p⟩
     ·rcases bf p with ⟨hb2, p⟩ | ⟨hb2, p⟩
      ·refine re G (hO 1 (.b true) (hP hb1 (hO 4 (.b true) (hP hb2 h0)))) ?_
       exact wJ G p
      ·refine re G (hO 1 (.b true) (hP hb1 (hO 4 (.b false) (hP hb2 h0)))) ?_
       exact wJ G p
     ·refine re G (hO 1 (.b false) (hP hb1 h0)) ?_
      exact wJ G p
    rintro v p
    refine cd p ?_ ?_ <;> intro p
    ·obtain ⟨r7, h5, p⟩ := jae p
     refine rs G (hC 4 (yga.c (_, _, _) h5) h0) ?_
     refine cd p ?_ ?_ <;> intro p
     ·have p := eR p hr3
      have p := eD p hb
      cases p
      exact rt [] []
     ·exact jad (wF G p)
    ·exact jad (wF G p)
   rintro data4 p
   refine jac (jn p (fun v1 => ⟨[(0, .own 0), (1, dV a1), (2, dV b1), (3, dV limit2), (4, .fn 23 []), (10, dV mid), (11, dV mid1), (12, dV (w64 (b1 - a1))), (13, dV leftLen), (97, dV v1)], [aX 0 56 data4], 48⟩) (fun v1 p => ?_) ?_)
   ·rcases bf p with ⟨hb3, p⟩ | ⟨hb3, p⟩
    ·obtain ⟨e6, h9, e7, h10, r11, h11, p⟩ := ob3 p
     refine de G [(13, [])] (hO 2 (.b true) (hP hb3 (hD 7 h9 (hE 8 h9 (hD 11 h10 (hE 12 h10 (hC 13 (yar.c (_, _) h11) h0))))))) ?_
     exact wJ G p
    ·refine de G [(13, [])] (hO 2 (.b false) (hP hb3 h0)) ?_
     exact wJ G p
   rintro v1 p
   refine cd p ?_ ?_ <;> intro p
   ·obtain ⟨r12, h12, p⟩ := jae p
    refine rs G (hC 5 (yf8.c (_, _, _, _) h12) h0) ?_
    exact rg G (jaf (thE (ibE (wL G p))))
   ·refine jad (thN ?_)
    obtain ⟨r13, h13, p⟩ := jae p
    refine rs G (hC 5 (yf9.c (_, _, _, _) h13) h0) ?_
    refine rg G (rg G ?_)
    obtain ⟨u, h14, p⟩ := jae p
    refine rs G (hK h14 h0) ?_
    refine rg G (cd p ?_ ?_) <;> intro p
    ·refine rg G ?_
     obtain ⟨r14, h15, p⟩ := jae p
     refine rs G (hC 5 (yhf h15) h0) ?_
     exact rh G (ibN (wL G p))
    ·refine rg G ?_
     obtain ⟨r15, h16, p⟩ := jae p
     refine rs G (hC 6 (yhf h16) h0) ?_
     exact rh G (ibN (wL G p))
theorem yes : ∀ k, FnOK Tryz.prog tJ 49 (yaz (ycf k)).S
 | 0 => ⟨fun args w => call49 args w, fun vs w F ds obs κ hp => by obtain ⟨x, y, _, _, h⟩ := hp; cases h⟩
 | k + 1 => ykh (yes k)
theorem yl4 : FnOK Tryz.prog tJ 49 yf7.S := yes 4294967296
def yiu : MS ((List Change)) ((List Change)) := ⟨⟨[.sl, .fn 23 []], fun x => [.sc undef, .agg []], fun x => [arO 56 x], 1, 1, fun _ => rfl, fun _ => rfl, rfl, (by
  rintro a0 b0 h hO
  have q0 : a0 = b0 := Enc.inj _ _ (congrArg (fun l => D.sl 5 (obL l 0)) hO)
  subst q0; rfl)⟩, zq89, fun _ => .tup [], fun _ => [], fun _ y => [arO 56 y]⟩
theorem ynf : FnOK Tryz.prog tJ 22 yiu.S := by
 refine fm tt yiu [fo yjz, fo yl4] call22 func22 rfl results22 ntmps22 ?_
 rintro x y cx G (p : zq89 x = some y)
 unfold zq89 at p
 refine rs G (hN 1 x h0) ?_
 obtain ⟨r, h, r1, h1, p⟩ := ob2 p
 refine re G (hC 4 (yg8.c _ h) (hC 6 (yo3 h1) h0)) ?_
 cases p
 exact fN [] []
def yod : MS (Timetable × Timetable) ((List Change) × Bool) := ⟨.x .r .r, fun x => zq3 x.1 x.2, fun y => .tup [dV y.1, dV y.2], fun _ => [], fun _ _ => []⟩
theorem yqa : FnOK Tryz.prog tJ 6 yod.S := by
 refine fm tt yod [fo ygm, fo you, fo yj3, fo ynf] call6 func6 rfl results6 ntmps6 ?_
 rintro ⟨a, b⟩ y cx G (p : zq3 a b = some y)
 unfold zq3 at p
 refine rg G (jac ?_)
 obtain ⟨r4, h4, p⟩ := jae p
 refine jn p (fun v => ⟨[(2, .ref 16 0), (3, .ref 32 0), (28, dV v)], [bX 16 30 [dV a.Network.Stops, dV a.Network.Lines, dV a.Trips], bX 32 30 [dV b.Network.Stops, dV b.Network.Lines, dV b.Trips]], 64⟩) (fun v p => ?_) ?_
 ·rcases bf p with ⟨hb, p⟩ | ⟨hb, p⟩
  ·refine de G [] (hC 1 (ycr.c _ h4) (hO 3 (.b true) (hP hb h0))) ?_
   exact wJ G p
  ·obtain ⟨r5, h5, p⟩ := jae p
   rcases bf p with ⟨hb1, p⟩ | ⟨hb1, p⟩
   ·refine de G [] (hC 1 (ycr.c _ h4) (hO 3 (.b false) (hP hb (hC 5 (ycr.c _ h5) (hO 8 (.b true) (hP hb1 h0)))))) ?_
    exact wJ G p
   ·obtain ⟨r6, h6, r7, h7, p⟩ := ob2 p
    refine de G [] (hC 1 (ycr.c _ h4) (hO 3 (.b false) (hP hb (hC 5 (ycr.c _ h5) (hO 8 (.b false) (hP hb1 (hC 11 (yhc.c _ h6) (hC 14 (yhc.c _ h7) h0)))))))) ?_
    exact wJ G p
 rintro v p
 refine cd p ?_ ?_ <;> intro p
 ·refine rg G ?_
  cases p
  exact rt [] [[.z 5]]
 ·refine jad (thN (rg G (jac (rs G (hN 2 a.Trips h0) ?_))))
  refine tF p (fun x2 => ⟨[(2, .ref 16 0), (3, .ref 32 0), (6, .own 48)], [bX 16 30 [dV a.Network.Stops, dV a.Network.Lines, dV a.Trips], bX 32 30 [dV b.Network.Stops, dV b.Network.Lines, dV b.Trips], aX 48 56 x2], 80⟩) (fun v4 hr p => ?_) ?_
  ·refine jab (lpP p (fun (v1, x) => ⟨[(2, .ref 16 0), (3, .ref 32 0), (6, .own 48), (30, dV a.Trips), (31, dV (a.Trips.length : Int)), (32, dV v1)], [bX 16 30 [dV a.Network.Stops, dV a.Network.Lines, dV a.Trips], bX 32 30 [dV b.Network.Stops, dV b.Network.Lines, dV b.Trips], aX 48 56 x], 80⟩) (Wk_J G.hL ⟨[(2, []), (3, []), (6, [.o 48]), (30, []), (31, []), (32, [])], [(16, 16, []), (32, 32, [])], [(48, 56, 5, [])], 80⟩ (by kernel_rfl)) ?_)
   rintro ⟨v1, x⟩ r0 hb2 p
   rw [yg6] at p
   refine rg G (jac (cd p ?_ ?_)) <;> intro p
   ·refine jad (thN (jF p (fun x1 => ⟨[(2, .ref 16 0), (3, .ref 32 0), (6, .own 48), (30, dV a.Trips), (31, dV (a.Trips.length : Int)), (32, dV v1)], [bX 16 30 [dV a.Network.Stops, dV a.Network.Lines, dV a.Trips], bX 32 30 [dV b.Network.Stops, dV b.Network.Lines, dV b.Trips], aX 48 56 x1], 80⟩) (fun v2 hr1 p => ?_) ?_))
    ·refine jab ?_
     obtain ⟨e, h8, p⟩ := jae p
     refine rs G (hD 0 h8 h0) ?_
     obtain ⟨r8, h9, p⟩ := jae p
     refine rs G (hC 3 (yep.c (_, _) h9) h0) ?_
     refine jab (rg G (cd p ?_ ?_)) <;> intro p
     ·obtain ⟨u, h10, p⟩ := jae p
      refine re G (hA 4 40 h10 h0) ?_
      exact ibN (ibN (wF G p))
     ·obtain ⟨e2, h12, p⟩ := jae p
      refine ds G [] (hD 3 h12 h0) ?_
      refine cd p ?_ ?_ <;> intro p
      ·refine rg G ?_
       have p := eR p hr1
       have p := eL p hb2 hr
       cases p
       exact rt [] [[.z 5]]
      ·obtain ⟨e6, h14, p⟩ := jae p
       refine ds G [] (hD 3 h14 h0) ?_
       refine cd p ?_ ?_ <;> intro p
       ·obtain ⟨e8, h17, u2, h18, p⟩ := ob2 p
        refine de G [(10, [48, 752])] (hD 5 h17 (hA 10 40 h18 h0)) ?_
        exact ibN (ibN (wF G p))
       ·exact jad (ibN (ibN (wF G p)))
    rintro x1 p
    exact rh G (wL G p)
   ·exact jaf (thE (thE (ibE (wE G p hb2))))
  rintro x2 p s hw
  refine thN (jai hw ?_)
  refine jac (rs G (hN 2 b.Trips h0) ?_)
  refine tl p (fun x5 => ⟨[(6, .own 16)], [aX 16 56 x5], 48⟩) (fun x5 p => ?_) ?_
  ·refine jab (lp G p (fun (v3, x3) => ⟨[(2, .ref 16 0), (6, .own 32), (81, dV b.Trips), (82, dV (b.Trips.length : Int)), (83, dV v3)], [bX 16 30 [dV a.Network.Stops, dV a.Network.Lines, dV a.Trips], aX 32 56 x3], 64⟩) ?_)
   rintro ⟨v3, x3⟩ r0 hb3 p
   rw [yen] at p
   refine rg G (jac (cd p ?_ ?_)) <;> intro p
   ·refine jad (thN (jn p (fun x4 => ⟨[(2, .ref 16 0), (6, .own 32), (81, dV b.Trips), (82, dV (b.Trips.length : Int)), (83, dV v3)], [bX 16 30 [dV a.Network.Stops, dV a.Network.Lines, dV a.Trips], aX 32 56 x4], 64⟩) (fun x4 p => ?_) ?_))
    ·refine jab ?_
     obtain ⟨e9, h19, p⟩ := jae p
     refine rs G (hD 0 h19 h0) ?_
     obtain ⟨r11, h20, p⟩ := jae p
     refine rs G (hC 3 (yep.c (_, _) h20) h0) ?_
     refine cd p ?_ ?_ <;> intro p
     ·obtain ⟨u3, h21, p⟩ := jae p
      refine re G (hA 4 40 h21 h0) ?_
      exact ibN (wJ G p)
     ·exact jad (ibN (wJ G p))
    rintro x4 p
    exact rh G (wL G p)
   ·exact jaf (thE (thE (ibE (wD G p hb3))))
  rintro x5 p s1 hw1
  refine thN (jai hw1 ?_)
  refine jac (rs G (hN 1 x5 h0) ?_)
  refine cd p ?_ ?_ <;> intro p
  ·refine rg G ?_
   cases p
   exact rt [] [[.z 5]]
  ·refine jad (thN ?_)
   obtain ⟨r12, h22, p⟩ := jae p
   refine rs G (hC 1 (yiu.c _ h22) h0) ?_
   refine rg G ?_
   cases p
   exact rt [] []
def ygo : MS Network ByteArray := ⟨.r, zq78, fun y => dV y, fun _ => [], fun _ _ => []⟩
theorem ynp : FnOK Tryz.prog tJ 24 ygo.S := by
 refine fm tt ygo [fo ydi] call24 func24 rfl results24 ntmps24 ?_
 rintro n y cx G (p : zq78 n = some y)
 unfold zq78 at p
 refine rg G (rg G (jac (rg G (tl p (fun i2 => ⟨[(1, .ref 16 0), (3, dV i2)], [bX 16 27 [dV n.Stops, dV n.Lines]], 48⟩) (fun i2 p => ?_) ?_))))
 ·refine jab (lp G p (fun (i, i1) => ⟨[(1, .ref 16 0), (3, dV i), (4, dV i1)], [bX 16 27 [dV n.Stops, dV n.Lines]], 48⟩) ?_)
  rintro ⟨i, i1⟩ r0 hb p
  rw [yfk] at p
  refine jac (rs G (hN 3 n.Stops h0) ?_)
  refine cd p ?_ ?_ <;> intro p
  ·refine jad (thN (jac (jab ?_)))
   obtain ⟨u, h, e, h1, u1, h2, p⟩ := ob3 p
   obtain ⟨u2, h3, p⟩ := jae p
   refine re G (hP (jdw (jcm h)) (hD 5 h1 (hP (jdw (jcm h2)) (hP (jdw (jcm h3)) h0)))) ?_
   exact ibN (thN (rh G (wL G p)))
  ·exact jaf (thE (thE (ibE (wD G p hb))))
 rintro i2 p s hw
 refine thN (jai hw ?_)
 refine jac (rg G (tl p (fun i7 => ⟨[(3, dV i7)], [], 32⟩) (fun i7 p => ?_) ?_))
 ·refine jab (lp G p (fun (i3, x) => ⟨[(1, .ref 16 0), (3, dV i3), (5, dV x)], [bX 16 27 [dV n.Stops, dV n.Lines]], 48⟩) ?_)
  rintro ⟨i3, x⟩ r0 hb1 p
  rw [yfj] at p
  refine jac (rs G (hN 3 n.Lines h0) ?_)
  refine cd p ?_ ?_ <;> intro p
  ·refine jad (thN (jac (jab ?_)))
   obtain ⟨e1, h4, p⟩ := jae p
   refine rs G (hD 3 h4 h0) ?_
   obtain ⟨u3, h5, u4, h6, p⟩ := ob2 p
   refine rs G (hP (jdw (jcm h5)) (hP (jdw (jcm h6)) h0)) ?_
   refine jac (rg G (tl p (fun i6 => ⟨[(1, .ref 16 0), (3, dV i6), (5, dV x)], [bX 16 27 [dV n.Stops, dV n.Lines]], 48⟩) (fun i6 p => ?_) ?_))
   ·refine jab (lp G p (fun (i4, v) => ⟨[(1, .ref 16 0), (3, dV i4), (5, dV x), (6, .ref 32 0), (7, dV v)], [bX 16 27 [dV n.Stops, dV n.Lines], bX 32 78 [dV e1.Name, dV e1.Stops, dV e1.Runs]], 64⟩) ?_)
    rintro ⟨i4, v⟩ r0 hb2 p
    rw [yc6] at p
    refine jac (rs G (hN 3 e1.Stops h0) ?_)
    refine cd p ?_ ?_ <;> intro p
    ·refine jad (thN (jn p (fun i5 => ⟨[(1, .ref 16 0), (3, dV i5), (5, dV x), (6, .ref 32 0), (7, dV v)], [bX 16 27 [dV n.Stops, dV n.Lines], bX 32 78 [dV e1.Name, dV e1.Stops, dV e1.Runs]], 64⟩) (fun i5 p => ?_) ?_))
     ·refine jab ?_
      obtain ⟨u7, h11, e4, h12, e5, h13, p⟩ := ob3 p
      obtain ⟨u8, h14, p⟩ := jae p
      refine ds G [] (hP (jdw (jcm h11)) (hD 7 h12 (hD 9 h13 (hP (jdw (jcm h14)) h0)))) ?_
      refine rs G (hN 3 e1.Runs h0) ?_
      refine cd p ?_ ?_ <;> intro p
      ·obtain ⟨u9, h15, e6, h16, r, h17, p⟩ := ob3 p
       obtain ⟨u10, h18, p⟩ := jae p
       refine re G (hP (jdw (jcm h15)) (hD 5 h16 (hC 7 (yel.c _ h17) (hP (jdw (jcm h18)) h0)))) ?_
       exact ibN (wJ G p)
      ·exact jad (ibN (wJ G p))
     rintro i5 p
     exact rh G (wL G p)
    ·exact jaf (thE (thE (ibE (wD G p hb2))))
   rintro i6 p s1 hw1
   refine thN (jai hw1 ?_)
   obtain ⟨u11, h19, p⟩ := jae p
   refine re G (hP (jdw (jcm h19)) h0) ?_
   exact ibN (thN (rh G (wL G p)))
  ·exact jaf (thE (thE (ibE (wD G p hb1))))
 rintro i7 p s2 hw2
 refine thN (jai hw2 ?_)
 refine rg G ?_
 cases p
 exact rt [] []
def yjx : MS (Timetable × Timetable) ((List Change) × Bool) := ⟨.x .r .r, fun x => zq32 x.1 x.2, fun y => .tup [.own 0, dV y.2], fun y => [arO 56 y.1], fun _ _ => []⟩
theorem yoj : FnOK Tryz.prog tJ 7 yjx.S := by
 refine fm tt yjx [fo yfn, fo ynp] call7 func7 rfl results7 ntmps7 ?_
 rintro ⟨a, b⟩ y cx G (p : zq32 a b = some y)
 unfold zq32 at p
 refine rg G (rg G (jac ?_))
 obtain ⟨r4, h4, p⟩ := jae p
 refine jn p (fun v => ⟨[(2, .ref 16 0), (3, .ref 32 0), (6, .own 48), (26, dV v)], [bX 16 30 [dV a.Network.Stops, dV a.Network.Lines, dV a.Trips], bX 32 30 [dV b.Network.Stops, dV b.Network.Lines, dV b.Trips], aX 48 56 ([] : List Change)], 80⟩) (fun v p => ?_) ?_
 ·rcases bf p with ⟨hb, p⟩ | ⟨hb, p⟩
  ·refine de G [] (hC 1 (ybh.c _ h4) (hO 3 (.b true) (hP hb h0))) ?_
   exact wJ G p
  ·obtain ⟨r5, h5, p⟩ := jae p
   rcases bf p with ⟨hb1, p⟩ | ⟨hb1, p⟩
   ·refine de G [] (hC 1 (ybh.c _ h4) (hO 3 (.b false) (hP hb (hC 5 (ybh.c _ h5) (hO 8 (.b true) (hP hb1 h0)))))) ?_
    exact wJ G p
   ·obtain ⟨r6, h6, r7, h7, p⟩ := ob2 p
    refine de G [] (hC 1 (ybh.c _ h4) (hO 3 (.b false) (hP hb (hC 5 (ybh.c _ h5) (hO 8 (.b false) (hP hb1 (hC 11 (ygo.c _ h6) (hC 14 (ygo.c _ h7) h0)))))))) ?_
    exact wJ G p
 rintro v p
 refine cd p ?_ ?_ <;> intro p
 ·refine rg G ?_
  cases p
  exact rt [48] []
 ·refine jad (thN (rg G (jF p (fun k2 => ⟨[(6, .own 16)], [aX 16 56 k2], 48⟩) (fun v6 hr p => ?_) ?_)))
  ·refine jab (lp G p (fun (v1, v2, k) => ⟨[(2, .ref 16 0), (3, .ref 32 0), (6, .own 48), (7, dV v1), (8, dV v2)], [bX 16 30 [dV a.Network.Stops, dV a.Network.Lines, dV a.Trips], bX 32 30 [dV b.Network.Stops, dV b.Network.Lines, dV b.Trips], aX 48 56 k], 80⟩) ?_)
   rintro ⟨v1, v2, k⟩ r0 hb2 p
   rw [ydn] at p
   refine jac (jn p (fun v3 => ⟨[(2, .ref 16 0), (3, .ref 32 0), (6, .own 48), (7, dV v1), (8, dV v2), (39, dV v3)], [bX 16 30 [dV a.Network.Stops, dV a.Network.Lines, dV a.Trips], bX 32 30 [dV b.Network.Stops, dV b.Network.Lines, dV b.Trips], aX 48 56 k], 80⟩) (fun v3 p => ?_) ?_)
   ·rcases bf p with ⟨hb3, p⟩ | ⟨hb3, p⟩
    ·refine re G (hN 3 a.Trips (hO 5 (.b true) (hP hb3 h0))) ?_
     exact wJ G p
    ·refine re G (hN 3 a.Trips (hO 5 (.b false) (hP hb3 (hN 9 b.Trips h0)))) ?_
     exact wJ G p
   rintro v3 p
   refine cd p ?_ ?_ <;> intro p
   ·refine jad (thN (jab (jab (jn p (fun v4 => ⟨[(2, .ref 16 0), (3, .ref 32 0), (6, .own 48), (7, dV v1), (8, dV v2), (86, dV v4)], [bX 16 30 [dV a.Network.Stops, dV a.Network.Lines, dV a.Trips], bX 32 30 [dV b.Network.Stops, dV b.Network.Lines, dV b.Trips], aX 48 56 k], 80⟩) (fun v4 p => ?_) ?_))))
    ·rcases bf p with ⟨hb4, p⟩ | ⟨hb4, p⟩
     ·refine de G [] (hN 3 b.Trips (hO 5 (.b true) (hP hb4 h0))) ?_
      exact wJ G p
     ·rcases bf p with ⟨hb5, p⟩ | ⟨hb5, p⟩
      ·obtain ⟨e2, h10, e3, h11, p⟩ := ob2 p
       refine de G [] (hN 3 b.Trips (hO 5 (.b false) (hP hb4 (hN 9 a.Trips (hO 11 (.b true) (hP hb5 (hD 15 h10 (hD 21 h11 h0)))))))) ?_
       exact wJ G p
      ·refine de G [] (hN 3 b.Trips (hO 5 (.b false) (hP hb4 (hN 9 a.Trips (hO 11 (.b false) (hP hb5 h0)))))) ?_
       exact wJ G p
    rintro v4 p
    refine cd p ?_ ?_ <;> intro p
    ·obtain ⟨e4, h12, u, h13, p⟩ := ob2 p
     refine rs G (hD 4 h12 (hA 8 40 h13 h0)) ?_
     exact rh G (ibN (ibN (wL G p)))
    ·refine jn p (fun v5 => ⟨[(2, .ref 16 0), (3, .ref 32 0), (6, .own 48), (7, dV v1), (8, dV v2), (125, dV v5)], [bX 16 30 [dV a.Network.Stops, dV a.Network.Lines, dV a.Trips], bX 32 30 [dV b.Network.Stops, dV b.Network.Lines, dV b.Trips], aX 48 56 k], 80⟩) (fun v5 p => ?_) ?_
     ·rcases bf p with ⟨hb6, p⟩ | ⟨hb6, p⟩
      ·refine de G [] (hN 3 a.Trips (hO 5 (.b true) (hP hb6 h0))) ?_
       exact wJ G p
      ·obtain ⟨e7, h16, e8, h17, p⟩ := ob2 p
       refine de G [] (hN 3 a.Trips (hO 5 (.b false) (hP hb6 (hD 9 h16 (hD 15 h17 h0))))) ?_
       exact wJ G p
     rintro v5 p
     refine cd p ?_ ?_ <;> intro p
     ·obtain ⟨e9, h18, u1, h19, p⟩ := ob2 p
      refine rs G (hD 4 h18 (hA 8 40 h19 h0)) ?_
      exact rh G (ibN (ibN (wL G p)))
     ·refine jac ?_
      obtain ⟨e12, h22, e13, h23, p⟩ := ob2 p
      refine ds G [] (hD 3 h22 (hD 9 h23 h0)) ?_
      refine cd p ?_ ?_ <;> intro p
      ·refine rg G ?_
       have p := eL p hb2 hr
       cases p
       exact rt [288] []
      ·refine jad (thN (jn p (fun k1 => ⟨[(2, .ref 16 0), (3, .ref 32 0), (6, .own 48), (7, dV v1), (8, dV v2)], [bX 16 30 [dV a.Network.Stops, dV a.Network.Lines, dV a.Trips], bX 32 30 [dV b.Network.Stops, dV b.Network.Lines, dV b.Trips], aX 48 56 k1], 80⟩) (fun k1 p => ?_) ?_))
       ·obtain ⟨e17, h26, e18, h27, p⟩ := ob2 p
        refine ds G [] (hD 3 h26 (hD 9 h27 h0)) ?_
        refine cd p ?_ ?_ <;> intro p
        ·obtain ⟨e21, h31, e22, h32, u3, h33, p⟩ := ob3 p
         refine de G [(14, [48, 704])] (hD 4 h31 (hD 9 h32 (hA 14 40 h33 h0))) ?_
         exact wJ G p
        ·exact jad (wJ G p)
       rintro k1 p
       exact rg G (rh G (ibN (ibN (wL G p))))
   ·exact jaf (thE (thE (ibE (wE G p hb2))))
  rintro k2 p
  refine jac (rs G (hN 1 k2 h0) ?_)
  refine cd p ?_ ?_ <;> intro p
  ·refine rg G ?_
   cases p
   exact rt [96] []
  ·refine jad (thN (rg G ?_))
   cases p
   exact rt [16] []
def ycd : MS ((List Change) × (List Change)) Bool := ⟨.x .r .r, fun x => yf1 x.1 x.2, fun y => dV y, fun _ => [], fun _ _ => []⟩
theorem ylt : FnOK Tryz.prog tJ 8 ycd.S := by
 refine fm tt ycd [] call8 func8 rfl results8 ntmps8 ?_
 rintro ⟨a, b⟩ y cx G (p : yf1 a b = some y)
 unfold yf1 at p
 refine rg G (jac (rs G (hN 1 a (hN 3 b h0)) ?_))
 refine cd p ?_ ?_ <;> intro p
 ·refine rg G ?_
  cases p
  exact rt [] []
 ·refine jad (thN (jac (rg G (tF p (fun _ => ⟨[], [], 32⟩) (fun v1 hr p => ?_) ?_))))
  ·refine jab (lp G p (fun v => ⟨[(0, dV a), (1, dV b), (5, dV v)], [], 32⟩) ?_)
   rintro v r0 hb p
   rw [ydx] at p
   refine jac (rs G (hN 2 a h0) ?_)
   refine cd p ?_ ?_ <;> intro p
   ·refine jad (thN (jac (jab ?_)))
    obtain ⟨e2, h2, e3, h3, p⟩ := ob2 p
    refine ds G [] (hD 2 h2 (hD 6 h3 h0)) ?_
    refine cd p ?_ ?_ <;> intro p
    ·refine rg G ?_
     have p := eL p hb hr
     cases p
     exact rt [] []
    ·exact jad (ibN (thN (rh G (wL G p))))
   ·exact jaf (thE (thE (ibE (wE G p hb))))
  rintro ⟨⟩ p s hw
  refine thN (jai hw ?_)
  refine rg G ?_
  cases p
  exact rt [] []
def yiz : MS ((List ByteArray)) ((List ByteArray)) := ⟨.r, zq81, fun _ => .own 0, fun y => [arO 9 y], fun _ _ => []⟩
theorem ynm : FnOK Tryz.prog tJ 112 yiz.S := by
 refine fm tt yiz [] call112 func112 rfl results112 ntmps112 ?_
 rintro s y cx G (p : zq81 s = some y)
 unfold zq81 at p
 obtain ⟨u, h, p⟩ := jae p
 cases p
 refine rg G (jac (jia G.t.ty G.ok 1 (ds := List.map Enc.e s) (es := 1) [] .nil (by kernel_rfl) (by rfl) (by rfl) (by kernel_rfl) ?_))
 intro b hb
 refine jlm b (by kernel_rfl) (fun hc => ?_) (fun hc => ?_)
 ·have hl : s = [] := by
   cases s with
   | nil => rfl
   | cons a r => have := hb (by simp); rw [hc] at this; cases this
  subst hl
  refine rg G (jai (Wk_J (x' := ⟨[(2, .own 16)], [(16, some (.arr 9 1 []))], 32⟩) G.hL ⟨[(2, [.o 16])], [], [(16, 9, 1, [])], 32⟩ (by kernel_rfl)) ?_)
  exact rt [16] []
 ·refine sN (rs G (hA 2 16 h h0) ?_)
  exact rt [96] []
def ygn : MS ((List Int)) ((List Int)) := ⟨.r, zq80, fun _ => .own 0, fun y => [arO 3 y], fun _ _ => []⟩
theorem ynn : FnOK Tryz.prog tJ 121 ygn.S := by
 refine fm tt ygn [] call121 func121 rfl results121 ntmps121 ?_
 rintro s y cx G (p : zq80 s = some y)
 unfold zq80 at p
 obtain ⟨u, h, p⟩ := jae p
 cases p
 refine rg G (jac (jia G.t.ty G.ok 1 (ds := List.map Enc.e s) (es := 1) [] .nil (by kernel_rfl) (by rfl) (by rfl) (by kernel_rfl) ?_))
 intro b hb
 refine jlm b (by kernel_rfl) (fun hc => ?_) (fun hc => ?_)
 ·have hl : s = [] := by
   cases s with
   | nil => rfl
   | cons a r => have := hb (by simp); rw [hc] at this; cases this
  subst hl
  refine rg G (jai (Wk_J (x' := ⟨[(2, .own 16)], [(16, some (.arr 3 1 []))], 32⟩) G.hL ⟨[(2, [.o 16])], [], [(16, 3, 1, [])], 32⟩ (by kernel_rfl)) ?_)
  exact rt [16] []
 ·refine sN (rs G (hA 2 8 h h0) ?_)
  exact rt [96] []
def yj9 : MS Line Line := ⟨.r, zq14, fun y => .aggv [dV y.Name, .own 0, .own 1], fun y => [arO 3 y.Stops, arO 3 y.Runs], fun _ _ => []⟩
theorem yox : FnOK Tryz.prog tJ 113 yj9.S := by
 refine fm tt yj9 [fo ynn] call113 func113 rfl results113 ntmps113 ?_
 rintro l y cx G (p : zq14 l = some y)
 unfold zq14 at p
 refine rg G ?_
 obtain ⟨r2, h2, r3, h3, p⟩ := ob2 p
 refine ds G [(9, [32, 112, 160])] (hC 4 (ygn.c _ h2) (hC 7 (ygn.c _ h3) h0)) ?_
 cases p
 exact rt [112, 160] []
def yj8 : MS Network Network := ⟨.r, zq15, fun _ => .aggv [.own 0, .own 1], fun y => [arO 9 y.Stops, taO 78 [none, some 3, some 3] y.Lines], fun _ _ => []⟩
theorem yow : FnOK Tryz.prog tJ 91 yj8.S := by
 refine fm tt yj8 [fo ynm, fo yox] call91 func91 rfl results91 ntmps91 ?_
 rintro n y cx G (p : zq15 n = some y)
 unfold zq15 at p
 refine rg G ?_
 obtain ⟨r1, h2, u1, h3, p⟩ := ob2 p
 refine ds G [(9, [80, 144, 176])] (hC 2 (yiz.c _ h2) (hN 5 n.Lines (hO 6 (.l (List.map Enc.e (List.replicate (n.Lines.length : Int).toNat ((⟨ByteArray.empty, ([] : List Int), ([] : List Int)⟩ : Line) : Line)))) (hP (mk_p (b := 64) (jcm h3) rfl) (hP (jt3 Enc.e (n.Lines.length : Int).toNat ((⟨ByteArray.empty, ([] : List Int), ([] : List Int)⟩ : Line) : Line)) h0))))) ?_
 refine jac (rs G (hN 2 n.Lines h0) ?_)
 refine tl p (fun v2 => ⟨[(2, .ref 16 0), (3, .ref 32 0)], [bX 16 27 [.dat (.sc (.slice none 0 0)), .dat (.sc (.slice none 0 0))], bX 32 27 [.own 48, .own 64], aX 48 9 r1, tX 64 78 [none, some 3, some 3] v2 64 none], 96⟩) (fun v2 p => ?_) ?_
 ·refine jab (lp G p (fun (v, v1) => ⟨[(2, .ref 16 0), (3, .ref 32 0), (15, dV n.Lines), (16, dV (n.Lines.length : Int)), (17, dV v)], [bX 16 27 [.dat (.sc (.slice none 0 0)), .dat (.sc (.slice none 0 0))], bX 32 27 [.own 48, .own 64], aX 48 9 r1, tX 64 78 [none, some 3, some 3] v1 64 none], 96⟩) ?_)
  rintro ⟨v, v1⟩ r0 hb p
  rw [ydu] at p
  refine rg G (jac (cd p ?_ ?_)) <;> intro p
  ·refine jad (thN (jac (jab ?_)))
   obtain ⟨e, h4, p⟩ := jae p
   refine rs G (hD 1 h4 h0) ?_
   obtain ⟨r3, h7, e2, h8, p⟩ := ob2 p
   refine de G [(6, [64, 272, 273])] (hC 4 (yj9.c _ h7) (hD 5 h8 (hS 6 h8 r3 h0))) ?_
   exact ibN (thN (rh G (wL G p)))
  ·exact jaf (thE (thE (ibE (wD G p hb))))
 rintro v2 p s hw
 refine thN (jai hw ?_)
 refine rg G ?_
 cases p
 exact rt [48, 64] []
def yi1 : MS ((List Trip)) ((List Trip)) := ⟨.r, zq79, fun _ => .own 0, fun y => [arO 51 y], fun _ _ => []⟩
theorem yno : FnOK Tryz.prog tJ 92 yi1.S := by
 refine fm tt yi1 [] call92 func92 rfl results92 ntmps92 ?_
 rintro s y cx G (p : zq79 s = some y)
 unfold zq79 at p
 obtain ⟨u, h, p⟩ := jae p
 cases p
 refine rg G (jac (jia G.t.ty G.ok 1 (ds := List.map Enc.e s) (es := 3) [] .nil (by kernel_rfl) (by rfl) (by rfl) (by kernel_rfl) ?_))
 intro b hb
 refine jlm b (by kernel_rfl) (fun hc => ?_) (fun hc => ?_)
 ·have hl : s = [] := by
   cases s with
   | nil => rfl
   | cons a r => have := hb (by simp); rw [hc] at this; cases this
  subst hl
  refine rg G (jai (Wk_J (x' := ⟨[(2, .own 16)], [(16, some (.arr 51 3 []))], 32⟩) G.hL ⟨[(2, [.o 16])], [], [(16, 51, 3, [])], 32⟩ (by kernel_rfl)) ?_)
  exact rt [16] []
 ·refine sN (rs G (hA 2 24 h h0) ?_)
  exact rt [96] []
def yer : MS Timetable Timetable := ⟨.r, zq16, fun _ => .aggv [.own 0, .own 1, .own 2], fun y => [arO 9 y.Network.Stops, taO 78 [none, some 3, some 3] y.Network.Lines, arO 51 y.Trips], fun _ _ => []⟩
theorem yfy : FnOK Tryz.prog tJ 53 yer.S := by
 refine fm tt yer [fo yow, fo yno] call53 func53 rfl results53 ntmps53 ?_
 rintro t y cx G (p : zq16 t = some y)
 unfold zq16 at p
 refine rg G ?_
 obtain ⟨r2, h2, r3, h3, p⟩ := ob2 p
 refine ds G [(7, [32, 80, 81, 128])] (hC 2 (yj8.c _ h2) (hC 5 (yi1.c _ h3) h0)) ?_
 cases p
 exact rt [80, 81, 128] []
def yix : MS ((List Trip) × Trip) Int := ⟨.x .r .r, fun x => zq85 x.1 x.2, fun y => dV y, fun _ => [], fun _ _ => []⟩
theorem ynj : FnOK Tryz.prog tJ 54 yix.S := by
 refine fm tt yix [] call54 func54 rfl results54 ntmps54 ?_
 rintro ⟨s, v⟩ y cx G (p : zq85 s v = some y)
 unfold zq85 at p
 refine rg G (jac (rs G (hN 1 s h0) ?_))
 refine tF p (fun _ => ⟨[], [], 32⟩) (fun v2 hr p => ?_) ?_
 ·refine jab (lp G p (fun v1 => ⟨[(0, dV s), (3, .ref 16 0), (7, dV (s.length : Int)), (8, dV v1)], [bX 16 51 [dV v.Id, dV v.Line, dV v.Start]], 48⟩) ?_)
  rintro v1 r0 hb p
  rw [yc4] at p
  refine rg G (jac (cd p ?_ ?_)) <;> intro p
  ·refine jad (thN (jac (jab (rg G ?_))))
   obtain ⟨e1, h1, p⟩ := jae p
   refine ds G [] (hD 3 h1 h0) ?_
   refine cd p ?_ ?_ <;> intro p
   ·refine rg G ?_
    have p := eL p hb hr
    cases p
    exact rt [] []
   ·exact jad (ibN (thN (rh G (wL G p))))
  ·exact jaf (thE (thE (ibE (wE G p hb))))
 rintro ⟨⟩ p s1 hw
 refine thN (jai hw ?_)
 refine rg G ?_
 cases p
 exact rt [] []
def ymy : MS ((List Trip) × Int × (List Trip)) ((List Trip)) := ⟨.x (.m 51) (.x .r (.m 51)), fun x => zq88 x.1 x.2.1 x.2.2, fun _ => .own 0, fun y => [arO 51 y], fun _ _ => []⟩
def ymx : Go.Shelf.Ren := ⟨fun x => bif Nat.beq x 29 then 114 else bif Nat.beq x 30 then 115 else x, fun x => bif Nat.beq x 24 then 28 else bif Nat.beq x 9 then 51 else bif Nat.beq x 3 then 3 else bif Nat.beq x 4 then 4 else x, fun x => x⟩
theorem yp4 : Tryz.f93 = { Go.Proofs.Body2.n22 ymx with name := "slices.Insert[[]loop.example/g00900/impl.Trip,loop.example/g00900/impl.Trip]", targs := #[28, 51] } := by kernel_rfl
theorem yng : FnOK Tryz.prog tJ 93 ymy.S := ju0 (α := Trip) (x := tyE51) tt ymx call93 (func93.trans (congrArg some yp4)) (by kernel_rfl) (by kernel_rfl) (by kernel_rfl) (by kernel_rfl) (by kernel_rfl) func114 (by kernel_rfl) (by kernel_rfl) (by kernel_rfl) (by kernel_rfl)
def yj1 : MS (Timetable × Trip) Timetable := ⟨.x .r .r, fun x => zq27 x.1 x.2, fun _ => .aggv [.own 0, .own 1, .own 2], fun y => [arO 9 y.Network.Stops, taO 78 [none, some 3, some 3] y.Network.Lines, arO 51 y.Trips], fun _ _ => []⟩
theorem yom : FnOK Tryz.prog tJ 55 yj1.S := by
 refine fm tt yj1 [fo yfy, fo yng] call55 func55 rfl results55 ntmps55 ?_
 rintro ⟨t, x⟩ y cx G (p : zq27 t x = some y)
 unfold zq27 at p
 refine rg G (rg G (jn p (fun v2 => ⟨[(2, .ref 16 0), (3, .ref 32 0), (4, .ref 48 0), (5, dV v2)], [bX 16 30 [dV t.Network.Stops, dV t.Network.Lines, dV t.Trips], bX 32 51 [dV x.Id, dV x.Line, dV x.Start], bX 48 30 [.dat (.sc (.slice none 0 0)), .dat (.sc (.slice none 0 0)), .dat (.sc (.slice none 0 0))]], 80⟩) (fun v2 p => ?_) ?_))
 ·refine jab (lp G p (fun v => ⟨[(2, .ref 16 0), (3, .ref 32 0), (4, .ref 48 0), (5, dV v)], [bX 16 30 [dV t.Network.Stops, dV t.Network.Lines, dV t.Trips], bX 32 51 [dV x.Id, dV x.Line, dV x.Start], bX 48 30 [.dat (.sc (.slice none 0 0)), .dat (.sc (.slice none 0 0)), .dat (.sc (.slice none 0 0))]], 80⟩) ?_)
  rintro v r0 hb p
  rw [ybb] at p
  refine jac (jn p (fun v1 => ⟨[(2, .ref 16 0), (3, .ref 32 0), (4, .ref 48 0), (5, dV v), (22, dV v1)], [bX 16 30 [dV t.Network.Stops, dV t.Network.Lines, dV t.Trips], bX 32 51 [dV x.Id, dV x.Line, dV x.Start], bX 48 30 [.dat (.sc (.slice none 0 0)), .dat (.sc (.slice none 0 0)), .dat (.sc (.slice none 0 0))]], 80⟩) (fun v1 p => ?_) ?_)
  ·rcases bf p with ⟨hb1, p⟩ | ⟨hb1, p⟩
   ·obtain ⟨e1, h1, p⟩ := jae p
    refine de G [] (hN 3 t.Trips (hO 5 (.b true) (hP hb1 (hD 9 h1 h0)))) ?_
    exact wJ G p
   ·refine de G [] (hN 3 t.Trips (hO 5 (.b false) (hP hb1 h0))) ?_
    exact wJ G p
  rintro v1 p
  refine cd p ?_ ?_ <;> intro p
  ·exact jad (thN (jab (rh G (ibN (wL G p)))))
  ·exact jaf (thE (thE (ibE (wD G p hb))))
 rintro v2 p
 obtain ⟨r, h2, p⟩ := jae p
 refine rs G (hC 1 (yer.c _ h2) h0) ?_
 obtain ⟨r1, h3, p⟩ := jae p
 refine rs G (hC 5 (ymy.c (_, _, _) h3) h0) ?_
 refine rg G ?_
 cases p
 exact rt [96, 97, 224] []
def ym0 : MS ((List Trip) × Int × Int) ((List Trip)) := ⟨.x (.m 51) (.x .r .r), fun x => zq82 x.1 x.2.1 x.2.2, fun _ => .own 0, fun y => [arO 51 y], fun _ _ => []⟩
def ymz : Go.Shelf.Ren := ⟨fun x => x, fun x => bif Nat.beq x 24 then 28 else bif Nat.beq x 9 then 51 else bif Nat.beq x 3 then 3 else bif Nat.beq x 4 then 4 else x, fun x => x⟩
theorem yp5 : Tryz.f94 = { Go.Proofs.Body2.n24 ymz with name := "slices.Delete[[]loop.example/g00900/impl.Trip,loop.example/g00900/impl.Trip]", targs := #[28, 51] } := by kernel_rfl
theorem ynl : FnOK Tryz.prog tJ 94 ym0.S := ju2 (α := Trip) (x := tyE51) tt ymz call94 (func94.trans (congrArg some yp5)) (by kernel_rfl) (by kernel_rfl) (by kernel_rfl) (by kernel_rfl) (by kernel_rfl)
def yj0 : MS (Timetable × Int) Timetable := ⟨.x .r .r, fun x => zq29 x.1 x.2, fun _ => .aggv [.own 0, .own 1, .own 2], fun y => [arO 9 y.Network.Stops, taO 78 [none, some 3, some 3] y.Network.Lines, arO 51 y.Trips], fun _ _ => []⟩
theorem yol : FnOK Tryz.prog tJ 56 yj0.S := by
 refine fm tt yj0 [fo yfy, fo ynl] call56 func56 rfl results56 ntmps56 ?_
 rintro ⟨t, i⟩ y cx G (p : zq29 t i = some y)
 unfold zq29 at p
 refine rg G ?_
 obtain ⟨r, h, p⟩ := jae p
 refine rs G (hC 1 (yer.c _ h) h0) ?_
 obtain ⟨r1, h1, p⟩ := jae p
 refine rs G (hC 5 (ym0.c (_, _, _) h1) h0) ?_
 refine rg G ?_
 cases p
 exact rt [64, 65, 192] []
def yka : MS Timetable (Timetable × Bool) := ⟨.r, zq12, fun y => .tup [dV y.1, dV y.2], fun _ => [], fun _ _ => []⟩
theorem yoy : FnOK Tryz.prog tJ 57 yka.S := by
 refine fm tt yka [fo ygm] call57 func57 rfl results57 ntmps57 ?_
 rintro t y cx G (p : zq12 t = some y)
 unfold zq12 at p
 refine rg G (jac ?_)
 obtain ⟨r, h, p⟩ := jae p
 refine rs G (hC 1 (ycr.c _ h) h0) ?_
 refine cd p ?_ ?_ <;> intro p
 ·refine rg G ?_
  cases p
  exact rt [] [[.z 1, .z 3, .z 3]]
 ·refine jad (thN (rg G ?_))
  cases p
  exact rt [] []
def yli : MS (Timetable × (List Change)) (Timetable × Bool) := ⟨.x .r .r, fun x => zq9 x.1 x.2, fun y => .tup [dV y.1, dV y.2], fun _ => [], fun _ _ => []⟩
theorem ymw : FnOK Tryz.prog tJ 25 yli.S := by
 refine fm tt yli [fo yfy, fo ynj, fo yj3, fo yom, fo yol, fo yoy] call25 func25 rfl results25 ntmps25 ?_
 rintro ⟨t, list⟩ y cx G (p : zq9 t list = some y)
 unfold zq9 at p
 refine rg G (jac (rs G (hN 1 list h0) ?_))
 refine cd p ?_ ?_ <;> intro p
 ·refine rg G ?_
  cases p
  exact rt [] [[.z 1, .z 3, .z 3]]
 ·refine jad (thN ?_)
  obtain ⟨r, h, p⟩ := jae p
  refine rs G (hC 1 (yer.c _ h) h0) ?_
  refine rg G (jac (rs G (hN 1 list h0) ?_))
  refine tF p (fun (v11, v12, v13) => ⟨[(4, .ref 16 0), (6, .ref 32 0)], [bX 16 30 [.dat (.sc (.slice none 0 0)), .dat (.sc (.slice none 0 0)), .dat (.sc (.slice none 0 0))], bX 32 30 [.own 48, .own 64, .own 80], aX 48 9 v11, tX 64 78 [none, some 3, some 3] v12 64 none, aX 80 51 v13], 112⟩) (fun v14 hr p => ?_) ?_
  ·refine jab (lp G p (fun (c, v, v1, v2, v3) => ⟨[(4, .ref 16 0), (6, .ref 32 0), (7, dV c), (17, dV list), (18, dV (list.length : Int)), (19, dV v)], [bX 16 30 [.dat (.sc (.slice none 0 0)), .dat (.sc (.slice none 0 0)), .dat (.sc (.slice none 0 0))], bX 32 30 [.own 48, .own 64, .own 80], aX 48 9 v1, tX 64 78 [none, some 3, some 3] v2 64 none, aX 80 51 v3], 112⟩) ?_)
   rintro ⟨c, v, v1, v2, v3⟩ r0 hb p
   rw [yef] at p
   refine rg G (jac (cd p ?_ ?_)) <;> intro p
   ·refine jad (thN (jF p (fun (c1, v4, v5, v6) => ⟨[(4, .ref 16 0), (6, .ref 32 0), (7, dV c1), (17, dV list), (18, dV (list.length : Int)), (19, dV v)], [bX 16 30 [.dat (.sc (.slice none 0 0)), .dat (.sc (.slice none 0 0)), .dat (.sc (.slice none 0 0))], bX 32 30 [.own 48, .own 64, .own 80], aX 48 9 v4, tX 64 78 [none, some 3, some 3] v5 64 none, aX 80 51 v6], 112⟩) (fun v10 hr1 p => ?_) ?_))
    ·refine jab ?_
     obtain ⟨e, h1, p⟩ := jae p
     refine rs G (hD 0 h1 h0) ?_
     refine jac (rg G (cd p ?_ ?_)) <;> intro p
     ·refine rg G ?_
      have p := eR p hr1
      have p := eL p hb hr
      cases p
      exact rt [] [[.z 1, .z 3, .z 3]]
     ·refine jad (thN (rg G ?_))
      obtain ⟨r3, h2, p⟩ := jae p
      refine rs G (hC 4 (yix.c (_, _) h2) h0) ?_
      refine jab (jn p (fun v7 => ⟨[(4, .ref 16 0), (6, .ref 32 0), (7, dV e.Trip.Id), (9, .ref 48 0), (10, dV r3), (17, dV list), (18, dV (list.length : Int)), (19, dV v), (38, dV v7)], [bX 16 30 [.dat (.sc (.slice none 0 0)), .dat (.sc (.slice none 0 0)), .dat (.sc (.slice none 0 0))], bX 32 30 [.own 64, .own 80, .own 96], bX 48 56 [dV e.Kind, dV e.Trip.Id, dV e.Trip.Line, dV e.Trip.Start, dV e.To], aX 64 9 v1, tX 80 78 [none, some 3, some 3] v2 80 none, aX 96 51 v3], 128⟩) (fun v7 p => ?_) ?_)
      ·rcases bf p with ⟨hb1, p⟩ | ⟨hb1, p⟩
       ·rcases bf p with ⟨hb2, p⟩ | ⟨hb2, p⟩
        ·obtain ⟨r4, h3, p⟩ := jae p
         refine re G (hO 3 (.b true) (hP hb1 (hO 8 (.b true) (hP hb2 (hC 13 (yep.c (_, _) h3) h0))))) ?_
         exact wJ G p
        ·refine re G (hO 3 (.b true) (hP hb1 (hO 8 (.b false) (hP hb2 h0)))) ?_
         exact wJ G p
       ·refine re G (hO 3 (.b false) (hP hb1 h0)) ?_
        exact wJ G p
      rintro v7 p
      refine cd p ?_ ?_ <;> intro p
      ·obtain ⟨r5, h4, p⟩ := jae p
       refine re G (hO 3 (.fz [64, 80, 96] [] []) (hC 3 (yj1.c (_, _) h4) h0)) ?_
       exact ibN (ibN (wF G p))
      ·refine jn p (fun v8 => ⟨[(4, .ref 16 0), (6, .ref 32 0), (7, dV e.Trip.Id), (9, .ref 48 0), (10, dV r3), (17, dV list), (18, dV (list.length : Int)), (19, dV v), (59, dV v8)], [bX 16 30 [.dat (.sc (.slice none 0 0)), .dat (.sc (.slice none 0 0)), .dat (.sc (.slice none 0 0))], bX 32 30 [.own 64, .own 80, .own 96], bX 48 56 [dV e.Kind, dV e.Trip.Id, dV e.Trip.Line, dV e.Trip.Start, dV e.To], aX 64 9 v1, tX 80 78 [none, some 3, some 3] v2 80 none, aX 96 51 v3], 128⟩) (fun v8 p => ?_) ?_
       ·rcases bf p with ⟨hb3, p⟩ | ⟨hb3, p⟩
        ·rcases bf p with ⟨hb4, p⟩ | ⟨hb4, p⟩
         ·refine re G (hO 3 (.b true) (hP hb3 (hO 8 (.b true) (hP hb4 h0)))) ?_
          exact wJ G p
         ·refine re G (hO 3 (.b true) (hP hb3 (hO 8 (.b false) (hP hb4 h0)))) ?_
          exact wJ G p
        ·refine re G (hO 3 (.b false) (hP hb3 h0)) ?_
         exact wJ G p
       rintro v8 p
       refine cd p ?_ ?_ <;> intro p
       ·obtain ⟨r6, h5, p⟩ := jae p
        refine re G (hO 2 (.fz [64, 80, 96] [] []) (hC 2 (yj0.c (_, _) h5) h0)) ?_
        exact ibN (ibN (wF G p))
       ·refine jn p (fun v9 => ⟨[(4, .ref 16 0), (6, .ref 32 0), (7, dV e.Trip.Id), (9, .ref 48 0), (10, dV r3), (17, dV list), (18, dV (list.length : Int)), (19, dV v), (75, dV v9)], [bX 16 30 [.dat (.sc (.slice none 0 0)), .dat (.sc (.slice none 0 0)), .dat (.sc (.slice none 0 0))], bX 32 30 [.own 64, .own 80, .own 96], bX 48 56 [dV e.Kind, dV e.Trip.Id, dV e.Trip.Line, dV e.Trip.Start, dV e.To], aX 64 9 v1, tX 80 78 [none, some 3, some 3] v2 80 none, aX 96 51 v3], 128⟩) (fun v9 p => ?_) ?_
        ·rcases bf p with ⟨hb5, p⟩ | ⟨hb5, p⟩
         ·rcases bf p with ⟨hb6, p⟩ | ⟨hb6, p⟩
          ·refine re G (hO 3 (.b true) (hP hb5 (hO 11 (.b true) (hP hb6 h0)))) ?_
           exact wJ G p
          ·refine re G (hO 3 (.b true) (hP hb5 (hO 11 (.b false) (hP hb6 h0)))) ?_
           exact wJ G p
         ·refine re G (hO 3 (.b false) (hP hb5 h0)) ?_
          exact wJ G p
        rintro v9 p
        refine cd p ?_ ?_ <;> intro p
        ·obtain ⟨e3, h6, p⟩ := jae p
         refine re G (hD 5 h6 (hS 7 h6 (⟨e3.Id, e3.Line, e.To⟩ : Trip) h0)) ?_
         exact ibN (ibN (wF G p))
        ·refine rg G ?_
         have p := eR p hr1
         have p := eL p hb hr
         cases p
         exact rt [] [[.z 1, .z 3, .z 3]]
    rintro ⟨c1, v4, v5, v6⟩ p
    exact rh G (wL G p)
   ·exact jaf (thE (thE (ibE (wE G p hb))))
  rintro ⟨v11, v12, v13⟩ p s hw
  refine thN (jai hw ?_)
  obtain ⟨r9, h7, p⟩ := jae p
  refine rs G (hO 1 (.fz [48, 64, 80] [] []) (hC 1 (yka.c _ h7) h0)) ?_
  cases p
  exact rt [] []
def yln : MS (Timetable × (List Change)) (Timetable × Bool) := ⟨.x .r .r, fun x => zq2 x.1 x.2, fun y => .tup [dV y.1, dV y.2], fun _ => [], fun _ _ => []⟩
theorem yqb : FnOK Tryz.prog tJ 9 yln.S := by
 refine fm tt yln [fo ygm, fo ymw] call9 func9 rfl results9 ntmps9 ?_
 rintro ⟨t, list⟩ y cx G (p : zq2 t list = some y)
 unfold zq2 at p
 refine rg G (jac ?_)
 obtain ⟨r, h, p⟩ := jae p
 refine rs G (hC 1 (ycr.c _ h) h0) ?_
 refine cd p ?_ ?_ <;> intro p
 ·refine rg G ?_
  cases p
  exact rt [] [[.z 1, .z 3, .z 3]]
 ·refine jad (thN ?_)
  obtain ⟨r1, h1, p⟩ := jae p
  refine rs G (hC 2 (yli.c (_, _) h1) h0) ?_
  cases p
  exact rt [] []
def ylk : MS (Timetable × (List Change)) Bool := ⟨.x .r .r, fun x => zq5 x.1 x.2, fun y => dV y, fun _ => [], fun _ _ => []⟩
theorem ym1 : FnOK Tryz.prog tJ 12 ylk.S := by
 refine fm tt ylk [fo ygm, fo ymw] call12 func12 rfl results12 ntmps12 ?_
 rintro ⟨t, list⟩ y cx G (p : zq5 t list = some y)
 unfold zq5 at p
 refine rg G (jac ?_)
 obtain ⟨r, h, p⟩ := jae p
 refine rs G (hC 1 (ycr.c _ h) h0) ?_
 refine cd p ?_ ?_ <;> intro p
 ·refine rg G ?_
  cases p
  exact rt [] []
 ·refine jad (thN ?_)
  obtain ⟨r1, h1, p⟩ := jae p
  refine rs G (hC 2 (yli.c (_, _) h1) h0) ?_
  refine rg G ?_
  cases p
  exact rt [] []
def ylm : MS (Timetable × (List Change)) ((List Change) × Bool) := ⟨.x .r .r, fun x => zq4 x.1 x.2, fun y => .tup [dV y.1, dV y.2], fun _ => [], fun _ _ => []⟩
theorem yp9 : FnOK Tryz.prog tJ 10 ylm.S := by
 refine fm tt ylm [fo ym1] call10 func10 rfl results10 ntmps10 ?_
 rintro ⟨t, list⟩ y cx G (p : zq4 t list = some y)
 unfold zq4 at p
 refine rg G (jac ?_)
 obtain ⟨r, h, p⟩ := jae p
 refine rs G (hC 2 (ylk.c (_, _) h) h0) ?_
 refine cd p ?_ ?_ <;> intro p
 ·refine rg G ?_
  cases p
  exact rt [] [[.z 5]]
 ·refine jad (thN (rg G (jac (rs G (hN 1 list h0) ?_))))
  refine tl p (fun c1 => ⟨[(6, .own 16)], [aX 16 56 c1], 48⟩) (fun c1 p => ?_) ?_
  ·refine jab (lpP p (fun (v, c) => ⟨[(6, .own 16), (13, dV list), (14, dV (list.length : Int)), (15, dV v)], [aX 16 56 c], 48⟩) (Wk_J G.hL ⟨[(6, [.o 16]), (13, []), (14, []), (15, [])], [], [(16, 56, 5, [])], 48⟩ (by kernel_rfl)) ?_)
   rintro ⟨v, c⟩ r0 hb p
   rw [ygz] at p
   refine rg G (jac (cd p ?_ ?_)) <;> intro p
   ·refine jad (thN (jac (jab ?_)))
    obtain ⟨e, h1, p⟩ := jae p
    refine rs G (hD 0 h1 h0) ?_
    refine jn p (fun (v1, v2, v3) => ⟨[(6, .own 16), (8, .ref 32 0), (13, dV list), (14, dV (list.length : Int)), (15, dV v)], [aX 16 56 c, bX 32 56 [dV v1, dV e.Trip.Id, dV e.Trip.Line, dV v2, dV v3]], 64⟩) (fun vv p => ?_) ?_
    ·refine rg G (jab (rg G (cd p ?_ ?_))) <;> intro p
     ·exact rh G (ibN (wJ G p))
     ·refine rg G (cd p ?_ ?_) <;> intro p
      ·exact rh G (ibN (wJ G p))
      ·exact rh G (ibN (wJ G p))
    rintro ⟨v1, v2, v3⟩ p
    obtain ⟨u, h2, p⟩ := jae p
    refine re G (hA 3 40 h2 h0) ?_
    exact ibN (thN (rh G (wL G p)))
   ·exact jaf (thE (thE (ibE (wD G p hb))))
  rintro c1 p s hw
  refine thN (jai hw ?_)
  refine rg G ?_
  cases p
  exact rt [] []
def ydv : MS ((List ByteArray) × (List ByteArray)) Bool := ⟨.x .r .r, fun x => yia x.1 x.2, fun y => dV y, fun _ => [], fun _ _ => []⟩
theorem ylq : FnOK Tryz.prog tJ 58 ydv.S := by
 refine fm tt ydv [] call58 func58 rfl results58 ntmps58 ?_
 rintro ⟨a, b⟩ y cx G (p : yia a b = some y)
 unfold yia at p
 refine rg G (jac (rs G (hN 1 a (hN 3 b h0)) ?_))
 refine cd p ?_ ?_ <;> intro p
 ·refine rg G ?_
  cases p
  exact rt [] []
 ·refine jad (thN (jac (rg G (tF p (fun _ => ⟨[], [], 32⟩) (fun v1 hr p => ?_) ?_))))
  ·refine jab (lp G p (fun v => ⟨[(0, dV a), (1, dV b), (5, dV v)], [], 32⟩) ?_)
   rintro v r0 hb p
   rw [yb0] at p
   refine jac (rs G (hN 2 a h0) ?_)
   refine cd p ?_ ?_ <;> intro p
   ·refine jad (thN (jac (jab ?_)))
    obtain ⟨e2, h2, e3, h3, p⟩ := ob2 p
    refine ds G [] (hD 2 h2 (hD 6 h3 h0)) ?_
    refine cd p ?_ ?_ <;> intro p
    ·refine rg G ?_
     have p := eL p hb hr
     cases p
     exact rt [] []
    ·exact jad (ibN (thN (rh G (wL G p))))
   ·exact jaf (thE (thE (ibE (wE G p hb))))
  rintro ⟨⟩ p s hw
  refine thN (jai hw ?_)
  refine rg G ?_
  cases p
  exact rt [] []
def ycc : MS ((List Int) × (List Int)) Bool := ⟨.x .r .r, fun x => yf0 x.1 x.2, fun y => dV y, fun _ => [], fun _ _ => []⟩
theorem yls : FnOK Tryz.prog tJ 59 ycc.S := by
 refine fm tt ycc [] call59 func59 rfl results59 ntmps59 ?_
 rintro ⟨a, b⟩ y cx G (p : yf0 a b = some y)
 unfold yf0 at p
 refine rg G (jac (rs G (hN 1 a (hN 3 b h0)) ?_))
 refine cd p ?_ ?_ <;> intro p
 ·refine rg G ?_
  cases p
  exact rt [] []
 ·refine jad (thN (jac (rg G (tF p (fun _ => ⟨[], [], 32⟩) (fun v1 hr p => ?_) ?_))))
  ·refine jab (lp G p (fun v => ⟨[(0, dV a), (1, dV b), (5, dV v)], [], 32⟩) ?_)
   rintro v r0 hb p
   rw [yb2] at p
   refine jac (rs G (hN 2 a h0) ?_)
   refine cd p ?_ ?_ <;> intro p
   ·refine jad (thN (jac (jab ?_)))
    obtain ⟨e2, h2, e3, h3, p⟩ := ob2 p
    refine ds G [] (hD 2 h2 (hD 6 h3 h0)) ?_
    refine cd p ?_ ?_ <;> intro p
    ·refine rg G ?_
     have p := eL p hb hr
     cases p
     exact rt [] []
    ·exact jad (ibN (thN (rh G (wL G p))))
   ·exact jaf (thE (thE (ibE (wE G p hb))))
  rintro ⟨⟩ p s hw
  refine thN (jai hw ?_)
  refine rg G ?_
  cases p
  exact rt [] []
def ydw : MS (Network × Network) Bool := ⟨.x .r .r, fun x => yib x.1 x.2, fun y => dV y, fun _ => [], fun _ _ => []⟩
theorem ylr : FnOK Tryz.prog tJ 26 ydw.S := by
 refine fm tt ydw [fo ylq, fo yls] call26 func26 rfl results26 ntmps26 ?_
 rintro ⟨a, b⟩ y cx G (p : yib a b = some y)
 unfold yib at p
 refine rg G (jac ?_)
 obtain ⟨r, h, p⟩ := jae p
 refine jn p (fun v => ⟨[(2, .ref 16 0), (3, .ref 32 0), (20, dV v)], [bX 16 27 [dV a.Stops, dV a.Lines], bX 32 27 [dV b.Stops, dV b.Lines]], 64⟩) (fun v p => ?_) ?_
 ·rcases bf p with ⟨hb, p⟩ | ⟨hb, p⟩
  ·refine re G (hC 4 (ydv.c (_, _) h) (hO 6 (.b true) (hP hb h0))) ?_
   exact wJ G p
  ·refine re G (hC 4 (ydv.c (_, _) h) (hO 6 (.b false) (hP hb (hN 9 a.Lines (hN 12 b.Lines h0))))) ?_
   exact wJ G p
 rintro v p
 refine cd p ?_ ?_ <;> intro p
 ·refine rg G ?_
  cases p
  exact rt [] []
 ·refine jad (thN (jac (rg G (tF p (fun _ => ⟨[], [], 32⟩) (fun v3 hr p => ?_) ?_))))
  ·refine jab (lp G p (fun v1 => ⟨[(2, .ref 16 0), (3, .ref 32 0), (5, dV v1)], [bX 16 27 [dV a.Stops, dV a.Lines], bX 32 27 [dV b.Stops, dV b.Lines]], 64⟩) ?_)
   rintro v1 r0 hb1 p
   rw [yb1] at p
   refine jac (rs G (hN 3 a.Lines h0) ?_)
   refine cd p ?_ ?_ <;> intro p
   ·refine jad (thN (jac (jab ?_)))
    obtain ⟨e6, h9, e7, h10, p⟩ := ob2 p
    refine jn p (fun v2 => ⟨[(2, .ref 16 0), (3, .ref 32 0), (5, dV v1), (72, dV v2)], [bX 16 27 [dV a.Stops, dV a.Lines], bX 32 27 [dV b.Stops, dV b.Lines]], 64⟩) (fun v2 p => ?_) ?_
    ·rcases bf p with ⟨hb2, p⟩ | ⟨hb2, p⟩
     ·refine de G [] (hD 3 h9 (hD 9 h10 (hO 13 (.b true) (hP hb2 h0)))) ?_
      exact wJ G p
     ·obtain ⟨e8, h11, e9, h12, r3, h13, p⟩ := ob3 p
      rcases bf p with ⟨hb3, p⟩ | ⟨hb3, p⟩
      ·refine de G [] (hD 3 h9 (hD 9 h10 (hO 13 (.b false) (hP hb2 (hD 17 h11 (hD 23 h12 (hC 26 (ycc.c (_, _) h13) (hO 29 (.b true) (hP hb3 h0))))))))) ?_
       exact wJ G p
      ·obtain ⟨e10, h14, e11, h15, r4, h16, p⟩ := ob3 p
       refine de G [] (hD 3 h9 (hD 9 h10 (hO 13 (.b false) (hP hb2 (hD 17 h11 (hD 23 h12 (hC 26 (ycc.c (_, _) h13) (hO 29 (.b false) (hP hb3 (hD 33 h14 (hD 39 h15 (hC 42 (ycc.c (_, _) h16) h0)))))))))))) ?_
       exact wJ G p
    rintro v2 p
    refine cd p ?_ ?_ <;> intro p
    ·refine rg G ?_
     have p := eL p hb1 hr
     cases p
     exact rt [] []
    ·exact jad (ibN (thN (rh G (wL G p))))
   ·exact jaf (thE (thE (ibE (wE G p hb1))))
  rintro ⟨⟩ p s hw
  refine thN (jai hw ?_)
  refine rg G ?_
  cases p
  exact rt [] []
def yam : MS (Timetable × Timetable) Bool := ⟨.x .r .r, fun x => yfz x.1 x.2, fun y => dV y, fun _ => [], fun _ _ => []⟩
theorem ylp : FnOK Tryz.prog tJ 11 yam.S := by
 refine fm tt yam [fo ylr] call11 func11 rfl results11 ntmps11 ?_
 rintro ⟨a, b⟩ y cx G (p : yfz a b = some y)
 unfold yfz at p
 refine rg G (jac ?_)
 obtain ⟨r, h, p⟩ := jae p
 refine jn p (fun v => ⟨[(2, .ref 16 0), (3, .ref 32 0), (20, dV v)], [bX 16 30 [dV a.Network.Stops, dV a.Network.Lines, dV a.Trips], bX 32 30 [dV b.Network.Stops, dV b.Network.Lines, dV b.Trips]], 64⟩) (fun v p => ?_) ?_
 ·rcases bf p with ⟨hb, p⟩ | ⟨hb, p⟩
  ·refine re G (hC 4 (ydw.c (_, _) h) (hO 6 (.b true) (hP hb h0))) ?_
   exact wJ G p
  ·refine re G (hC 4 (ydw.c (_, _) h) (hO 6 (.b false) (hP hb (hN 9 a.Trips (hN 12 b.Trips h0))))) ?_
   exact wJ G p
 rintro v p
 refine cd p ?_ ?_ <;> intro p
 ·refine rg G ?_
  cases p
  exact rt [] []
 ·refine jad (thN (jac (rg G (tF p (fun _ => ⟨[], [], 32⟩) (fun v2 hr p => ?_) ?_))))
  ·refine jab (lp G p (fun v1 => ⟨[(2, .ref 16 0), (3, .ref 32 0), (5, dV v1)], [bX 16 30 [dV a.Network.Stops, dV a.Network.Lines, dV a.Trips], bX 32 30 [dV b.Network.Stops, dV b.Network.Lines, dV b.Trips]], 64⟩) ?_)
   rintro v1 r0 hb1 p
   rw [ybz] at p
   refine jac (rs G (hN 3 a.Trips h0) ?_)
   refine cd p ?_ ?_ <;> intro p
   ·refine jad (thN (jac (jab ?_)))
    obtain ⟨e2, h3, e3, h4, p⟩ := ob2 p
    refine ds G [] (hD 3 h3 (hD 8 h4 h0)) ?_
    refine cd p ?_ ?_ <;> intro p
    ·refine rg G ?_
     have p := eL p hb1 hr
     cases p
     exact rt [] []
    ·exact jad (ibN (thN (rh G (wL G p))))
   ·exact jaf (thE (thE (ibE (wE G p hb1))))
  rintro ⟨⟩ p s hw
  refine thN (jai hw ?_)
  refine rg G ?_
  cases p
  exact rt [] []
def ya8 : MS ((List UInt8)) Bool := ⟨.r, yao, fun y => dV y, fun _ => [], fun _ _ => []⟩
theorem v_FnVersions_ok : FnOK Tryz.prog tJ 3 ya8.S := by
 refine fm tt ya8 [fo ylu, fo yoi, fo yqa, fo yoj, fo ylt, fo yqb, fo yp9, fo ylp, fo ym1] call3 func3 rfl results3 ntmps3 ?_
 rintro code y cx G (p : yao code = some y)
 unfold yao at p
 refine rg G (jac ?_)
 obtain ⟨r, h, p⟩ := jae p
 refine rs G (hC 1 (yf2.c _ h) h0) ?_
 refine cd p ?_ ?_ <;> intro p
 ·refine rg G ?_
  cases p
  exact rt [] []
 ·refine jad (thN ?_)
  obtain ⟨r1, h1, p⟩ := jae p
  refine rs G (hC 1 (yjw.c _ h1) h0) ?_
  obtain ⟨r2, h2, p⟩ := jae p
  refine rs G (hO 2 (.fz [80, 81] [] []) (hC 2 (yod.c (_, _) h2) h0)) ?_
  refine jac ?_
  obtain ⟨r3, h3, p⟩ := jae p
  refine rs G (hC 2 (yjx.c (_, _) h3) h0) ?_
  refine jn p (fun v => ⟨[(3, .ref 16 0), (4, .ref 32 0), (5, dV r2.1), (6, dV r2.2), (44, dV v)], [bX 16 30 [dV r1.1.Network.Stops, dV r1.1.Network.Lines, dV r1.1.Trips], bX 32 30 [dV r1.2.Network.Stops, dV r1.2.Network.Lines, dV r1.2.Trips]], 64⟩) (fun v p => ?_) ?_
  ·rcases bf p with ⟨hb, p⟩ | ⟨hb, p⟩
   ·refine re G (hO 3 (.b true) (hP hb h0)) ?_
    exact wJ G p
   ·obtain ⟨r4, h4, p⟩ := jae p
    refine re G (hO 3 (.b false) (hP hb (hC 6 (ycd.c (_, _) h4) h0))) ?_
    exact wJ G p
  rintro v p
  refine cd p ?_ ?_ <;> intro p
  ·refine rg G ?_
   cases p
   exact rt [] []
  ·refine jad (thN (jac (rg G (cd p ?_ ?_)))) <;> intro p
   ·refine rs G (hN 1 r2.1 h0) ?_
    cases p
    exact rt [] []
   ·refine jad (thN ?_)
    obtain ⟨r5, h5, p⟩ := jae p
    refine rs G (hC 2 (yln.c (_, _) h5) h0) ?_
    obtain ⟨r6, h6, p⟩ := jae p
    refine rs G (hC 2 (ylm.c (_, _) h6) h0) ?_
    obtain ⟨r7, h7, p⟩ := jae p
    refine rs G (hC 2 (yln.c (_, _) h7) h0) ?_
    obtain ⟨r8, h8, p⟩ := jae p
    refine rs G (hC 2 (ylm.c (_, _) h8) h0) ?_
    refine jn p (fun a => ⟨[(2, dV a)], [], 32⟩) (fun a p => ?_) ?_
    ·rcases bf p with ⟨hb1, p⟩ | ⟨hb1, p⟩
     ·obtain ⟨r9, h9, p⟩ := jae p
      rcases bf p with ⟨hb2, p⟩ | ⟨hb2, p⟩
      ·rcases bf p with ⟨hb3, p⟩ | ⟨hb3, p⟩
       ·rcases bf p with ⟨hb4, p⟩ | ⟨hb4, p⟩
        ·obtain ⟨r10, h10, p⟩ := jae p
         rcases bf p with ⟨hb5, p⟩ | ⟨hb5, p⟩
         ·rcases bf p with ⟨hb6, p⟩ | ⟨hb6, p⟩
          ·obtain ⟨r11, h11, p⟩ := jae p
           rcases bf p with ⟨hb7, p⟩ | ⟨hb7, p⟩
           ·obtain ⟨r12, h12, p⟩ := jae p
            refine re G (hO 1 (.b true) (hP hb1 (hC 4 (yam.c (_, _) h9) (hO 6 (.b true) (hP hb2 (hO 9 (.b true) (hP hb3 (hO 12 (.b true) (hP hb4 (hC 15 (yam.c (_, _) h10) (hO 17 (.b true) (hP hb5 (hO 20 (.b true) (hP hb6 (hC 23 (ycd.c (_, _) h11) (hO 25 (.b true) (hP hb7 (hC 28 (ylk.c (_, _) h12) h0)))))))))))))))))) ?_
            exact wJ G p
           ·refine re G (hO 1 (.b true) (hP hb1 (hC 4 (yam.c (_, _) h9) (hO 6 (.b true) (hP hb2 (hO 9 (.b true) (hP hb3 (hO 12 (.b true) (hP hb4 (hC 15 (yam.c (_, _) h10) (hO 17 (.b true) (hP hb5 (hO 20 (.b true) (hP hb6 (hC 23 (ycd.c (_, _) h11) (hO 25 (.b false) (hP hb7 h0))))))))))))))))) ?_
            exact wJ G p
          ·refine re G (hO 1 (.b true) (hP hb1 (hC 4 (yam.c (_, _) h9) (hO 6 (.b true) (hP hb2 (hO 9 (.b true) (hP hb3 (hO 12 (.b true) (hP hb4 (hC 15 (yam.c (_, _) h10) (hO 17 (.b true) (hP hb5 (hO 20 (.b false) (hP hb6 h0)))))))))))))) ?_
           exact wJ G p
         ·refine re G (hO 1 (.b true) (hP hb1 (hC 4 (yam.c (_, _) h9) (hO 6 (.b true) (hP hb2 (hO 9 (.b true) (hP hb3 (hO 12 (.b true) (hP hb4 (hC 15 (yam.c (_, _) h10) (hO 17 (.b false) (hP hb5 h0)))))))))))) ?_
          exact wJ G p
        ·refine re G (hO 1 (.b true) (hP hb1 (hC 4 (yam.c (_, _) h9) (hO 6 (.b true) (hP hb2 (hO 9 (.b true) (hP hb3 (hO 12 (.b false) (hP hb4 h0))))))))) ?_
         exact wJ G p
       ·refine re G (hO 1 (.b true) (hP hb1 (hC 4 (yam.c (_, _) h9) (hO 6 (.b true) (hP hb2 (hO 9 (.b false) (hP hb3 h0))))))) ?_
        exact wJ G p
      ·refine re G (hO 1 (.b true) (hP hb1 (hC 4 (yam.c (_, _) h9) (hO 6 (.b false) (hP hb2 h0))))) ?_
       exact wJ G p
     ·refine re G (hO 1 (.b false) (hP hb1 h0)) ?_
      exact wJ G p
    rintro a p
    cases p
    exact rt [] []
end
end Go.Proofs.YtdocbkbpjdjlpaaGreatDoor
