/- Each function computes what its model says. Made by program (dec.py). -/
import Derived.Test.YtaegkodcjpgndaaGreatPcW1
namespace Go.Proofs.YtaegkodcjpgndaaGreat
open Go Go.Ab
set_option maxRecDepth 100000
set_option maxHeartbeats 4000000
set_option linter.unusedVariables false
set_option linter.unusedSimpArgs false
noncomputable section
def yanr : MS (Timetable × (List Int)) Int := ⟨.x .r .r, fun x => zq57 x.1 x.2, fun y => dV y, fun _ => [], fun _ _ => []⟩
theorem yanq {t piece y} (hm : zq57 t piece = some y) : yanr.C (t, piece) y := yanr.c (t, piece) hm
theorem yago : FnOK Tryz.prog 137 yanr.S := by
 refine fm tt yanr [fo yaek, fo yafl] Tryz.call137 Tryz.func137 rfl Tryz.results137 Tryz.ntmps137 ?_
 rintro ⟨t, piece⟩ y cx G hm
 have hm : zq57 t piece = some y := hm
 unfold zq57 at hm
 refine rg G ?_
 obtain ⟨e1, h3, hm⟩ := obind hm
 obtain ⟨r2, h4, hm⟩ := obind hm
 obtain ⟨r3, h5, hm⟩ := obind hm
 refine ds G [] (hN 4 piece (hD 6 h3 (hC 8 (yadg h4) (hC 9 (yaex h5) h0)))) ?_
 cases hm
 exact rt [] []
def yanj : MS (Timetable × (List Int)) Int := ⟨.x .r .r, fun x => zq64 x.1 x.2, fun y => dV y, fun _ => [], fun _ _ => []⟩
theorem yani {t piece y} (hm : zq64 t piece = some y) : yanj.C (t, piece) y := yanj.c (t, piece) hm
theorem yagl : FnOK Tryz.prog 138 yanj.S := by
 refine fm tt yanj [fo yaek] Tryz.call138 Tryz.func138 rfl Tryz.results138 Tryz.ntmps138 ?_
 rintro ⟨t, piece⟩ y cx G hm
 have hm : zq64 t piece = some y := hm
 unfold zq64 at hm
 refine rg G ?_
 obtain ⟨e2, h3, hm⟩ := obind hm
 obtain ⟨r1, h4, hm⟩ := obind hm
 obtain ⟨e3, h5, hm⟩ := obind hm
 refine ds G [] (hD 4 h3 (hC 6 (yadg h4) (hD 7 h5 h0))) ?_
 cases hm
 exact rt [] []
def yaog : MS (Timetable × Fleet × (List (List Int)) × Rules × Int) ((List (List Int)) × Bool) := ⟨.x .r (.x .r (.x .r (.x .r .r))), fun x => zq44 x.1 x.2.1 x.2.2.1 x.2.2.2.1 x.2.2.2.2, fun y => .tup [.own 0, dV y.2], fun y => [arO 35 y.1], fun _ _ => []⟩
theorem yazt {t f blocks r id y} (hm : zq44 t f blocks r id = some y) : yaog.C (t, f, blocks, r, id) y := yaog.c (t, f, blocks, r, id) hm
theorem yavy : FnOK Tryz.prog 57 yaog.S := by
 refine fm tt yaog [fo yare, fo yarc, fo yajk, fo yago, fo yagl] Tryz.call57 Tryz.func57 rfl Tryz.results57 Tryz.ntmps57 ?_
 rintro ⟨t, f, blocks, r, id⟩ y cx G hm
 have hm : zq44 t f blocks r id = some y := hm
 unfold zq44 at hm
 refine rg G (rg G ?_)
 obtain ⟨r1, h, hm⟩ := obind hm
 refine rs G (hC 2 (yavt h) h0) ?_
 refine Ok_seq ?_
 obtain ⟨r2, h1, hm⟩ := obind hm
 refine jn hm (fun v => ⟨[(2, dV blocks), (5, .ref 16 0), (8, .ref 32 0), (12, .own 48), (13, dV r1.1), (14, dV r1.2), (33, dV v)], [bX 16 [dV t.Network.Stops, dV t.Network.Lines, dV t.Trips], bX 32 [dV r.SignOn, dV r.SignOff, dV r.MaxDrive, dV r.MinBreak, dV r.PaidBreak, dV r.MaxLength], aX 48 35 ([] : List (List Int))], 80⟩) (fun v hm => ?_) ?_
 ·rcases bf hm with ⟨hb, hm⟩ | ⟨hb, hm⟩
  ·refine re G (hC 4 (yasf h1) (hO 6 (.b true) (hP hb h0))) ?_
   exact wJ G hm
  ·refine re G (hC 4 (yasf h1) (hO 6 (.b false) (hP hb h0))) ?_
   exact wJ G hm
 rintro v hm
 refine cd hm (fun hm => ?_) (fun hm => ?_)
 ·refine rg G ?_
  cases hm
  exact rt [48] []
 ·refine X_skip (thN (Ok_seq (rg G (tl hm (fun v4 => ⟨[(12, .own 16)], [aX 16 35 v4], 48⟩) (fun v4 hm => ?_) ?_))))
  ·refine Ok_block (lp G hm (fun (v1, v2) => ⟨[(2, dV blocks), (5, .ref 16 0), (8, .ref 32 0), (12, .own 48), (13, dV r1.1), (14, dV r1.2), (15, dV v1)], [bX 16 [dV t.Network.Stops, dV t.Network.Lines, dV t.Trips], bX 32 [dV r.SignOn, dV r.SignOff, dV r.MaxDrive, dV r.MinBreak, dV r.PaidBreak, dV r.MaxLength], aX 48 35 v2], 80⟩) ?_)
   rintro ⟨v1, v2⟩ r0 hb1 hm
   rw [yada] at hm
   refine Ok_seq ?_
   obtain ⟨e, h2, hm⟩ := obind hm
   refine rs G (hD 3 h2 (hN 5 e h0)) ?_
   refine cd hm (fun hm => ?_) (fun hm => ?_)
   ·refine X_skip (thN (jn hm (fun v3 => ⟨[(2, dV blocks), (5, .ref 16 0), (8, .ref 32 0), (12, .own 48), (13, dV r1.1), (14, dV r1.2), (15, dV v1)], [bX 16 [dV t.Network.Stops, dV t.Network.Lines, dV t.Trips], bX 32 [dV r.SignOn, dV r.SignOff, dV r.MaxDrive, dV r.MinBreak, dV r.PaidBreak, dV r.MaxLength], aX 48 35 v3], 80⟩) (fun v3 hm => ?_) ?_))
    ·refine Ok_block ?_
     obtain ⟨e1, h3, hm⟩ := obind hm
     obtain ⟨u, h4, hm⟩ := obind hm
     obtain ⟨r3, h5, hm⟩ := obind hm
     refine rs G (hD 2 h3 (hU 6 h4 (hC 7 (yamf h5) h0))) ?_
     obtain ⟨r6, h8, hm⟩ := obind hm
     obtain ⟨r7, h9, hm⟩ := obind hm
     refine ds G [] (hC 2 (yanq h8) (hC 5 (yani h9) h0)) ?_
     refine cd hm (fun hm => ?_) (fun hm => ?_)
     ·obtain ⟨u1, h10, hm⟩ := obind hm
      refine re G (hO 2 (.fz [304] [] []) (hA 3 24 h10 h0)) ?_
      exact ibN (wJ G hm)
     ·exact X_skip (ibN (wJ G hm))
    rintro v3 hm
    exact rh G (wL G hm)
   ·exact Ok_exit (thE (thE (ibE (wD G hm hb1))))
  rintro v4 hm s hw
  refine thN (Ok_weak hw ?_)
  refine rg G ?_
  cases hm
  exact rt [16] []
def yahd : MS ((List Int) × (List Int)) Bool := ⟨.x .r .r, fun x => zq135 x.1 x.2, fun y => dV y, fun _ => [], fun _ _ => []⟩
theorem yaxd {a b y} (hm : zq135 a b = some y) : yahd.C (a, b) y := yahd.c (a, b) hm
theorem yasn : FnOK Tryz.prog 13 yahd.S := by
 refine fm tt yahd [] Tryz.call13 Tryz.func13 rfl Tryz.results13 Tryz.ntmps13 ?_
 rintro ⟨a, b⟩ y cx G hm
 have hm : zq135 a b = some y := hm
 unfold zq135 at hm
 refine rg G (Ok_seq (rs G (hN 1 a (hN 3 b h0)) ?_))
 refine cd hm (fun hm => ?_) (fun hm => ?_)
 ·refine rg G ?_
  cases hm
  exact rt [] []
 ·refine X_skip (thN (Ok_seq (rg G (tF hm (fun _ => ⟨[], [], 32⟩) (fun v1 hr hm => ?_) ?_))))
  ·refine Ok_block (lp G hm (fun v => ⟨[(0, dV a), (1, dV b), (5, dV v)], [], 32⟩) ?_)
   rintro v r0 hb hm
   rw [yadm] at hm
   refine Ok_seq (rs G (hN 2 a h0) ?_)
   refine cd hm (fun hm => ?_) (fun hm => ?_)
   ·refine X_skip (thN (Ok_seq (Ok_block ?_)))
    obtain ⟨e2, h2, hm⟩ := obind hm
    obtain ⟨e3, h3, hm⟩ := obind hm
    refine ds G [] (hD 2 h2 (hD 6 h3 h0)) ?_
    refine cd hm (fun hm => ?_) (fun hm => ?_)
    ·refine rg G ?_
     have hm := eL hm hb hr
     cases hm
     exact rt [] []
    ·exact X_skip (ibN (thN (rh G (wL G hm))))
   ·exact Ok_exit (thE (thE (ibE (wE G hm hb))))
  rintro ⟨⟩ hm s hw
  refine thN (Ok_weak hw ?_)
  refine rg G ?_
  cases hm
  exact rt [] []
def yahc : MS ((List (List Int)) × (List (List Int))) Bool := ⟨.x .r .r, fun x => zq136 x.1 x.2, fun y => dV y, fun _ => [], fun _ _ => []⟩
theorem yaxc {a b y} (hm : zq136 a b = some y) : yahc.C (a, b) y := yahc.c (a, b) hm
theorem yasm : FnOK Tryz.prog 58 yahc.S := by
 refine fm tt yahc [fo yasn] Tryz.call58 Tryz.func58 rfl Tryz.results58 Tryz.ntmps58 ?_
 rintro ⟨a, b⟩ y cx G hm
 have hm : zq136 a b = some y := hm
 unfold zq136 at hm
 refine rg G (Ok_seq (rs G (hN 1 a (hN 3 b h0)) ?_))
 refine cd hm (fun hm => ?_) (fun hm => ?_)
 ·refine rg G ?_
  cases hm
  exact rt [] []
 ·refine X_skip (thN (Ok_seq (rg G (tF hm (fun _ => ⟨[], [], 32⟩) (fun v1 hr hm => ?_) ?_))))
  ·refine Ok_block (lp G hm (fun v => ⟨[(0, dV a), (1, dV b), (5, dV v)], [], 32⟩) ?_)
   rintro v r0 hb hm
   rw [yadl] at hm
   refine Ok_seq (rs G (hN 2 a h0) ?_)
   refine cd hm (fun hm => ?_) (fun hm => ?_)
   ·refine X_skip (thN (Ok_seq (Ok_block ?_)))
    obtain ⟨e2, h3, hm⟩ := obind hm
    obtain ⟨e3, h4, hm⟩ := obind hm
    obtain ⟨r1, h5, hm⟩ := obind hm
    refine ds G [] (hD 2 h3 (hD 6 h4 (hC 8 (yaxd h5) h0))) ?_
    refine cd hm (fun hm => ?_) (fun hm => ?_)
    ·refine rg G ?_
     have hm := eL hm hb hr
     cases hm
     exact rt [] []
    ·exact X_skip (ibN (thN (rh G (wL G hm))))
   ·exact Ok_exit (thE (thE (ibE (wE G hm hb))))
  rintro ⟨⟩ hm s hw
  refine thN (Ok_weak hw ?_)
  refine rg G ?_
  cases hm
  exact rt [] []
def yahz : MS ((List Int) × (List Int)) Bool := ⟨.x .r .r, fun x => zq113 x.1 x.2, fun y => dV y, fun _ => [], fun _ _ => []⟩
theorem yaxv {s1 s2 y} (hm : zq113 s1 s2 = some y) : yahz.C (s1, s2) y := yahz.c (s1, s2) hm
theorem yath : FnOK Tryz.prog 203 yahz.S := by
 refine fm tt yahz [] Tryz.call203 Tryz.func203 rfl Tryz.results203 Tryz.ntmps203 ?_
 rintro ⟨s1, s2⟩ y cx G hm
 have hm : zq113 s1 s2 = some y := hm
 unfold zq113 at hm
 refine rg G (Ok_seq (rs G (hN 1 s1 (hN 3 s2 h0)) ?_))
 refine cd hm (fun hm => ?_) (fun hm => ?_)
 ·refine rg G ?_
  cases hm
  exact rt [] []
 ·refine X_skip (thN (Ok_seq (rs G (hN 1 s1 h0) ?_)))
  refine tF hm (fun _ => ⟨[], [], 32⟩) (fun v1 hr hm => ?_) ?_
  ·refine Ok_block (lp G hm (fun v => ⟨[(0, dV s1), (1, dV s2), (12, dV (s1.length : Int)), (13, dV v)], [], 32⟩) ?_)
   rintro v r0 hb hm
   rw [yacm] at hm
   refine rg G (Ok_seq (cd hm (fun hm => ?_) (fun hm => ?_)))
   ·refine X_skip (thN (Ok_seq (Ok_block (rg G ?_))))
    obtain ⟨e2, h2, hm⟩ := obind hm
    obtain ⟨e3, h3, hm⟩ := obind hm
    refine ds G [] (hD 2 h2 (hD 6 h3 h0)) ?_
    refine cd hm (fun hm => ?_) (fun hm => ?_)
    ·refine rg G ?_
     have hm := eL hm hb hr
     cases hm
     exact rt [] []
    ·exact X_skip (ibN (thN (rh G (wL G hm))))
   ·exact Ok_exit (thE (thE (ibE (wE G hm hb))))
  rintro ⟨⟩ hm s hw
  refine thN (Ok_weak hw ?_)
  refine rg G ?_
  cases hm
  exact rt [] []
def yapa : MS ((List (List Int)) × (List Int)) Bool := ⟨.x .r .r, fun x => zq24 x.1 x.2, fun y => dV y, fun _ => [], fun _ _ => []⟩
theorem yawr {blocks piece y} (hm : zq24 blocks piece = some y) : yapa.C (blocks, piece) y := yapa.c (blocks, piece) hm
theorem yark : FnOK Tryz.prog 139 yapa.S := by
 refine fm tt yapa [fo yari, fo yath] Tryz.call139 Tryz.func139 rfl Tryz.results139 Tryz.ntmps139 ?_
 rintro ⟨blocks, piece⟩ y cx G hm
 have hm : zq24 blocks piece = some y := hm
 unfold zq24 at hm
 refine rg G (Ok_seq (rs G (hN 1 piece h0) ?_))
 refine cd hm (fun hm => ?_) (fun hm => ?_)
 ·refine rg G ?_
  cases hm
  exact rt [] []
 ·refine X_skip (thN ?_)
  obtain ⟨e, h, hm⟩ := obind hm
  obtain ⟨r, h1, hm⟩ := obind hm
  refine rs G (hD 2 h (hC 4 (yawh h1) h0)) ?_
  refine jn hm (fun k => ⟨[(4, dV k)], [], 32⟩) (fun k hm => ?_) ?_
  ·rcases bf hm with ⟨hb, hm⟩ | ⟨hb, hm⟩
   ·obtain ⟨e1, h2, hm⟩ := obind hm
    rcases bf hm with ⟨hb1, hm⟩ | ⟨hb1, hm⟩
    ·obtain ⟨e2, h3, hm⟩ := obind hm
     obtain ⟨u, h4, hm⟩ := obind hm
     obtain ⟨r1, h5, hm⟩ := obind hm
     refine re G (hO 2 (.b true) (hP hb (hN 5 piece (hD 9 h2 (hN 11 e1 (hO 14 (.b true) (hP hb1 (hD 17 h3 (hN 22 piece (hU 24 h4 (hC 26 (yaxv h5) h0))))))))))) ?_
     exact wJ G hm
    ·refine re G (hO 2 (.b true) (hP hb (hN 5 piece (hD 9 h2 (hN 11 e1 (hO 14 (.b false) (hP hb1 h0))))))) ?_
     exact wJ G hm
   ·refine re G (hO 2 (.b false) (hP hb h0)) ?_
    exact wJ G hm
  rintro k hm
  cases hm
  exact rt [] []
def zq4_M : MS (Timetable × Fleet × (List (List Int)) × (List Int)) (Bool × Bool) := ⟨.x .r (.x .r (.x .r .r)), fun x => zq4 x.1 x.2.1 x.2.2.1 x.2.2.2, fun y => .tup [dV y.1, dV y.2], fun _ => [], fun _ _ => []⟩
theorem zq4_c {t f blocks piece y} (hm : zq4 t f blocks piece = some y) : zq4_M.C (t, f, blocks, piece) y := zq4_M.c (t, f, blocks, piece) hm
theorem yazp : FnOK Tryz.prog 59 zq4_M.S := by
 refine fm tt zq4_M [fo yavm, fo yark] Tryz.call59 Tryz.func59 rfl Tryz.results59 Tryz.ntmps59 ?_
 rintro ⟨t, f, blocks, piece⟩ y cx G hm
 have hm : zq4 t f blocks piece = some y := hm
 unfold zq4 at hm
 refine rg G (Ok_seq ?_)
 obtain ⟨r, h, hm⟩ := obind hm
 refine rs G (hC 3 (zq5_c h) h0) ?_
 refine cd hm (fun hm => ?_) (fun hm => ?_)
 ·refine rg G ?_
  cases hm
  exact rt [] []
 ·refine X_skip (thN ?_)
  obtain ⟨r1, h1, hm⟩ := obind hm
  refine rs G (hC 2 (yawr h1) h0) ?_
  cases hm
  exact rt [] []
def yamr : MS (l1Cur × (List (List Int))) ((List Int) × l1Cur) := ⟨.x .b (.s 35), fun x => zq80 x.1 x.2, fun _ => .own 0, fun y => [arO 3 y.1], fun x y => [bxO y.2, arO 35 x.2]⟩
theorem yauv {c blocks y} (hm : zq80 c blocks = some y) : yamr.C (c, blocks) y := yamr.c (c, blocks) hm
theorem yauu : FnOK Tryz.prog 140 yamr.S := by
 refine fm tt yamr [fo yabj, fo yajk, fo yacx] Tryz.call140 Tryz.func140 rfl Tryz.results140 Tryz.ntmps140 ?_
 rintro ⟨c, blocks⟩ y cx G hm
 have hm : zq80 c blocks = some y := hm
 unfold zq80 at hm
 refine rg G (Ok_seq (rs G (hN 1 blocks h0) ?_))
 refine cd hm (fun hm => ?_) (fun hm => ?_)
 ·refine rg G ?_
  cases hm
  exact rt [80] []
 ·refine X_skip (thN ?_)
  obtain ⟨r, h, hm⟩ := obind hm
  obtain ⟨e, h1, hm⟩ := obind hm
  refine rs G (hN 3 blocks (hC 4 (yaba h) (hD 5 h1 (hE 6 h1 h0)))) ?_
  refine Ok_seq (rs G (hN 1 e h0) ?_)
  refine cd hm (fun hm => ?_) (fun hm => ?_)
  ·refine rg G ?_
   cases hm
   exact rt [256] []
  ·refine X_skip (thN ?_)
   obtain ⟨r1, h2, hm⟩ := obind hm
   refine rs G (hN 2 e (hC 3 (yaba h2) h0)) ?_
   obtain ⟨r2, h3, hm⟩ := obind hm
   obtain ⟨u, h4, hm⟩ := obind hm
   obtain ⟨r3, h5, hm⟩ := obind hm
   refine rs G (hN 6 e (hC 9 (yaba h3) (hU 11 h4 (hC 12 (yamf h5) h0)))) ?_
   refine jn hm (fun (v, v1, v2, v3) => ⟨[(0, .ref 0 0), (1, .own 1), (7, .own 32)], [bX 0 [dV v, dV v1, kV .u64 v2], aX 1 35 blocks, aX 32 3 v3], 64⟩) (fun vv hm => ?_) ?_
   ·obtain ⟨r4, h6, hm⟩ := obind hm
    refine rs G (hC 1 (yaiw h6) h0) ?_
    refine cd hm (fun hm => ?_) (fun hm => ?_)
    ·obtain ⟨r5, h7, hm⟩ := obind hm
     obtain ⟨u1, h8, hm⟩ := obind hm
     refine re G (hC 2 (yaba h7) (hA 4 8 h8 h0)) ?_
     exact wJ G hm
    ·exact X_skip (wJ G hm)
   rintro ⟨v, v1, v2, v3⟩ hm
   refine rg G ?_
   cases hm
   exact rt [32] []
def yaoi : MS ((List UInt8)) (Timetable × Fleet × (List (List Int)) × Rules × (List Int) × (List Int)) := ⟨.r, zq42, fun y => .tup [dV y.1, dV y.2.1, .own 0, dV y.2.2.2.1, .own 1, .own 2], fun y => [arO 35 y.2.2.1, arO 3 y.2.2.2.2.1, arO 3 y.2.2.2.2.2], fun _ _ => []⟩
theorem yazv {code y} (hm : zq42 code = some y) : yaoi.C code y := yaoi.c code hm
theorem yawa : FnOK Tryz.prog 60 yaoi.S := by
 refine fm tt yaoi [fo yaqt, fo yaqs, fo yauu] Tryz.call60 Tryz.func60 rfl Tryz.results60 Tryz.ntmps60 ?_
 rintro code y cx G hm
 have hm : zq42 code = some y := hm
 unfold zq42 at hm
 refine rg G (rg G ?_)
 obtain ⟨r, h, hm⟩ := obind hm
 refine rs G (hC 1 (yaut h) h0) ?_
 obtain ⟨r4, h4, hm⟩ := obind hm
 obtain ⟨r5, h5, hm⟩ := obind hm
 obtain ⟨r6, h6, hm⟩ := obind hm
 refine ds G [(4, [144]), (7, [144, 192]), (10, [144, 192]), (11, [16]), (12, [32]), (14, [64])] (hC 4 (yaus h4) (hC 7 (yauv h5) (hC 10 (yauv h6) h0))) ?_
 cases hm
 exact rt [192, 464, 512] []
def yaok : MS ((IK .u64)) Int := ⟨.r, zq40, fun y => dV y, fun _ => [], fun _ _ => []⟩
theorem yazx {x y} (hm : zq40 x = some y) : yaok.C x y := yaok.c x hm
theorem yawc : FnOK Tryz.prog 247 yaok.S := by
 refine fm tt yaok [] Tryz.call247 Tryz.func247 rfl Tryz.results247 Tryz.ntmps247 ?_
 rintro x y cx G hm
 have hm : zq40 x = some y := hm
 unfold zq40 at hm
 refine rg G (jn hm (fun (x1, v) => ⟨[(0, kV .u64 x1), (2, dV v)], [], 32⟩) (fun vv2 hm => ?_) ?_)
 ·refine rg G (cd hm (fun hm => ?_) (fun hm => ?_))
  ·obtain ⟨u, h, hm⟩ := obind hm
   refine rs G (hK h h0) ?_
   exact rh G (wJ G hm)
  ·exact X_skip (wJ G hm)
 rintro ⟨x1, v⟩ hm
 refine jn hm (fun (x2, v1) => ⟨[(0, kV .u64 x2), (2, dV v1)], [], 32⟩) (fun vv1 hm => ?_) ?_
 ·refine rg G (cd hm (fun hm => ?_) (fun hm => ?_))
  ·obtain ⟨u1, h1, hm⟩ := obind hm
   refine rs G (hK h1 h0) ?_
   exact rh G (wJ G hm)
  ·exact X_skip (wJ G hm)
 rintro ⟨x2, v1⟩ hm
 refine jn hm (fun (x3, v2) => ⟨[(0, kV .u64 x3), (2, dV v2)], [], 32⟩) (fun vv hm => ?_) ?_
 ·refine rg G (cd hm (fun hm => ?_) (fun hm => ?_))
  ·obtain ⟨u2, h2, hm⟩ := obind hm
   refine rs G (hK h2 h0) ?_
   exact rh G (wJ G hm)
  ·exact X_skip (wJ G hm)
 rintro ⟨x3, v2⟩ hm
 obtain ⟨u3, h3, hm⟩ := obind hm
 refine rs G (hK h3 h0) ?_
 cases hm
 exact rt [] []
def yaol : MS ((IK .u64)) Int := ⟨.r, zq39, fun y => dV y, fun _ => [], fun _ _ => []⟩
theorem yawd {x y} (hm : zq39 x = some y) : yaol.C x y := yaol.c x hm
theorem yarg : FnOK Tryz.prog 225 yaol.S := by
 refine fm tt yaol [fo yawc] Tryz.call225 Tryz.func225 rfl Tryz.results225 Tryz.ntmps225 ?_
 rintro x y cx G hm
 have hm : zq39 x = some y := hm
 unfold zq39 at hm
 refine rg G (Ok_seq (cF (X_skip (thN ?_))))
 obtain ⟨r, h, hm⟩ := obind hm
 refine rs G (hC 1 (yazx h) h0) ?_
 cases hm
 exact rt [] []
def zq1_M : MS Int Bool := ⟨.r, zq1, fun y => dV y, fun _ => [], fun _ _ => []⟩
theorem zq1_c {x y} (hm : zq1 x = some y) : zq1_M.C x y := zq1_M.c x hm
theorem ybai : FnOK Tryz.prog 172 zq1_M.S := by
 refine fm tt zq1_M [] Tryz.call172 Tryz.func172 rfl Tryz.results172 Tryz.ntmps172 ?_
 rintro x y cx G hm
 have hm : zq1 x = some y := hm
 unfold zq1 at hm
 refine rg G (rg G ?_)
 cases hm
 exact rt [] []
def zq0_M : MS (Int × Int) Bool := ⟨.x .r .r, fun x => zq0 x.1 x.2, fun y => dV y, fun _ => [], fun _ _ => []⟩
theorem zq0_c {x y_ y} (hm : zq0 x y_ = some y) : zq0_M.C (x, y_) y := zq0_M.c (x, y_) hm
theorem yafo : FnOK Tryz.prog 254 zq0_M.S := by
 refine fm tt zq0_M [fo ybai] Tryz.call254 Tryz.func254 rfl Tryz.results254 Tryz.ntmps254 ?_
 rintro ⟨x, y_⟩ y cx G hm
 have hm : zq0 x y_ = some y := hm
 unfold zq0 at hm
 refine rg G ?_
 obtain ⟨r, h, hm⟩ := obind hm
 refine jn hm (fun v => ⟨[(4, dV v)], [], 32⟩) (fun v hm => ?_) ?_
 ·rcases bf hm with ⟨hb, hm⟩ | ⟨hb, hm⟩
  ·obtain ⟨r1, h1, hm⟩ := obind hm
   rcases bf hm with ⟨hb1, hm⟩ | ⟨hb1, hm⟩
   ·refine re G (hC 1 (zq1_c h) (hO 2 (.b true) (hP hb (hC 4 (zq1_c h1) (hO 7 (.b true) (hP hb1 h0)))))) ?_
    exact wJ G hm
   ·refine re G (hC 1 (zq1_c h) (hO 2 (.b true) (hP hb (hC 4 (zq1_c h1) (hO 7 (.b false) (hP hb1 h0)))))) ?_
    exact wJ G hm
  ·refine re G (hC 1 (zq1_c h) (hO 2 (.b false) (hP hb h0))) ?_
   exact wJ G hm
 rintro v hm
 cases hm
 exact rt [] []
def yahr : MS ((List Int) × Int × Int) ((List Int)) := ⟨.x (.s 3) (.x .r .r), fun x => zq122 x.1 x.2.1 x.2.2, fun _ => .tup [], fun _ => [], fun _ y => [arO 3 y]⟩
theorem yaxn {data a b y} (hm : zq122 data a b = some y) : yahr.C (data, a, b) y := yahr.c (data, a, b) hm
theorem yata : FnOK Tryz.prog 248 yahr.S := by
 refine fm tt yahr [fo yafo] Tryz.call248 Tryz.func248 rfl Tryz.results248 Tryz.ntmps248 ?_
 rintro ⟨data, a, b⟩ y cx G hm
 have hm : zq122 data a b = some y := hm
 unfold zq122 at hm
 refine rg G (Ok_block (lp G hm (fun (v, data1) => ⟨[(0, .own 0), (1, dV a), (2, dV b), (6, dV v)], [aX 0 3 data1], 48⟩) ?_))
 rintro ⟨v, data1⟩ r0 hb hm
 rw [yaec] at hm
 refine Ok_seq (rg G (cd hm (fun hm => ?_) (fun hm => ?_)))
 ·refine X_skip (thN (Ok_seq (Ok_block (rg G (tl hm (fun data3 => ⟨[(0, .own 0), (1, dV a), (2, dV b), (6, dV v)], [aX 0 3 data3], 48⟩) (fun data3 hm => ?_) ?_)))))
  ·refine Ok_block (lp G hm (fun (v1, data2) => ⟨[(0, .own 0), (1, dV a), (2, dV b), (6, dV v), (7, dV v1)], [aX 0 3 data2], 48⟩) ?_)
   rintro ⟨v1, data2⟩ r0 hb1 hm
   rw [yaed] at hm
   refine Ok_seq (jn hm (fun v2 => ⟨[(0, .own 0), (1, dV a), (2, dV b), (6, dV v), (7, dV v1), (30, dV v2)], [aX 0 3 data2], 48⟩) (fun v2 hm => ?_) ?_)
   ·rcases bf hm with ⟨hb2, hm⟩ | ⟨hb2, hm⟩
    ·obtain ⟨e2, h3, hm⟩ := obind hm
     obtain ⟨e3, h4, hm⟩ := obind hm
     obtain ⟨r1, h5, hm⟩ := obind hm
     refine de G [] (hO 3 (.b true) (hP hb2 (hD 6 h3 (hE 7 h3 (hD 11 h4 (hE 12 h4 (hC 13 (zq0_c h5) h0))))))) ?_
     exact wJ G hm
    ·refine de G [] (hO 3 (.b false) (hP hb2 h0)) ?_
     exact wJ G hm
   rintro v2 hm
   refine cd hm (fun hm => ?_) (fun hm => ?_)
   ·refine X_skip (thN (Ok_seq (Ok_block ?_)))
    obtain ⟨e8, h10, hm⟩ := obind hm
    obtain ⟨e9, h11, hm⟩ := obind hm
    obtain ⟨e10, h12, hm⟩ := obind hm
    obtain ⟨e11, h13, hm⟩ := obind hm
    refine de G [(15, [0]), (17, [0])] (hD 8 h10 (hE 9 h10 (hD 12 h11 (hE 13 h11 (hD 14 h12 (hS 15 h12 e8 (hD 16 h13 (hS 17 h13 e9 h0)))))))) ?_
    exact ibN (thN (rh G (wL G hm)))
   ·exact Ok_exit (thE (thE (ibE (wD G hm hb1))))
  rintro data3 hm s hw
  refine ibN (thN (Ok_weak hw ?_))
  exact rh G (wL G hm)
 ·have hm := eD hm hb
  refine Ok_exit (thE (thE (ibE ?_)))
  cases hm
  exact fN [] []
def yahg : MS ((List Int) × Int × Int × Int) ((List Int)) := ⟨.x (.s 3) (.x .r (.x .r .r)), fun x => zq132 x.1 x.2.1 x.2.2.1 x.2.2.2, fun _ => .tup [], fun _ => [], fun _ y => [arO 3 y]⟩
theorem yarn {data lo hi first y} (hm : zq132 data lo hi first = some y) : yahg.C (data, lo, hi, first) y := yahg.c (data, lo, hi, first) hm
theorem yasq : FnOK Tryz.prog 263 yahg.S := by
 refine fm tt yahg [fo yafo] Tryz.call263 Tryz.func263 rfl Tryz.results263 Tryz.ntmps263 ?_
 rintro ⟨data, lo, hi, first⟩ y cx G hm
 have hm : zq132 data lo hi first = some y := hm
 unfold zq132 at hm
 refine rg G (Ok_block (lp G hm (fun (v, data1) => ⟨[(0, .own 0), (2, dV hi), (3, dV first), (8, dV v)], [aX 0 3 data1], 48⟩) ?_))
 rintro ⟨v, data1⟩ r0 hb hm
 rw [yadn] at hm
 refine Ok_block (rg G (Ok_seq (rg G (cd hm (fun hm => ?_) (fun hm => ?_)))))
 ·have hm := eD hm hb
  refine Ok_exit (thE (ibX rfl (thE (ibE ?_))))
  cases hm
  exact fN [] []
 ·refine X_skip (thN (jn hm (fun v1 => ⟨[(0, .own 0), (2, dV hi), (3, dV first), (8, dV v), (9, dV v1)], [aX 0 3 data1], 48⟩) (fun v1 hm => ?_) ?_))
  ·refine jn hm (fun v2 => ⟨[(0, .own 0), (2, dV hi), (3, dV first), (8, dV v), (9, dV (w64 ((w64 (2 * v)) + 1))), (36, dV v2)], [aX 0 3 data1], 48⟩) (fun v2 hm => ?_) ?_
   ·rcases bf hm with ⟨hb1, hm⟩ | ⟨hb1, hm⟩
    ·obtain ⟨e3, h3, hm⟩ := obind hm
     obtain ⟨e4, h4, hm⟩ := obind hm
     obtain ⟨r2, h5, hm⟩ := obind hm
     refine de G [] (hO 4 (.b true) (hP hb1 (hD 9 h3 (hE 10 h3 (hD 16 h4 (hE 17 h4 (hC 18 (zq0_c h5) h0))))))) ?_
     exact wJ G hm
    ·refine de G [] (hO 4 (.b false) (hP hb1 h0)) ?_
     exact wJ G hm
   rintro v2 hm
   refine cd hm (fun hm => ?_) (fun hm => ?_)
   ·exact rh G (wJ G hm)
   ·exact X_skip (wJ G hm)
  rintro v1 hm
  refine Ok_seq ?_
  obtain ⟨e7, h9, hm⟩ := obind hm
  obtain ⟨e8, h10, hm⟩ := obind hm
  obtain ⟨r4, h11, hm⟩ := obind hm
  refine ds G [] (hD 4 h9 (hE 5 h9 (hD 10 h10 (hE 11 h10 (hC 12 (zq0_c h11) h0))))) ?_
  refine cd hm (fun hm => ?_) (fun hm => ?_)
  ·have hm := eD hm hb
   cases hm
   exact rt [] []
  ·refine X_skip (thN ?_)
   obtain ⟨e14, h16, hm⟩ := obind hm
   obtain ⟨e15, h17, hm⟩ := obind hm
   obtain ⟨e16, h18, hm⟩ := obind hm
   obtain ⟨e17, h19, hm⟩ := obind hm
   refine ds G [(21, [0]), (23, [0])] (hD 12 h16 (hE 13 h16 (hD 18 h17 (hE 19 h17 (hD 20 h18 (hS 21 h18 e14 (hD 22 h19 (hS 23 h19 e15 h0)))))))) ?_
   exact rh G (ibN (wL G hm))
def yahs : MS ((List Int) × Int × Int) ((List Int)) := ⟨.x (.s 3) (.x .r .r), fun x => zq121 x.1 x.2.1 x.2.2, fun _ => .tup [], fun _ => [], fun _ y => [arO 3 y]⟩
theorem yaxo {data a b y} (hm : zq121 data a b = some y) : yahs.C (data, a, b) y := yahs.c (data, a, b) hm
theorem yatb : FnOK Tryz.prog 249 yahs.S := by
 refine fm tt yahs [fo yasq] Tryz.call249 Tryz.func249 rfl Tryz.results249 Tryz.ntmps249 ?_
 rintro ⟨data, a, b⟩ y cx G hm
 have hm : zq121 data a b = some y := hm
 unfold zq121 at hm
 refine rg G (rg G (rg G (Ok_seq ?_)))
 obtain ⟨u, h, hm⟩ := obind hm
 refine rs G (hK h h0) ?_
 refine tl hm (fun data2 => ⟨[(0, .own 0), (6, dV a), (7, kV .i64 0), (8, dV (w64 (b - a)))], [aX 0 3 data2], 48⟩) (fun data2 hm => ?_) ?_
 ·refine Ok_block (lp G hm (fun (v, data1) => ⟨[(0, .own 0), (6, dV a), (7, kV .i64 0), (8, dV (w64 (b - a))), (9, dV v)], [aX 0 3 data1], 48⟩) ?_)
  rintro ⟨v, data1⟩ r0 hb hm
  rw [yaef] at hm
  refine Ok_seq (rg G (cd hm (fun hm => ?_) (fun hm => ?_)))
  ·refine X_skip (thN (Ok_seq (Ok_block ?_)))
   obtain ⟨r, h1, hm⟩ := obind hm
   refine re G (hC 4 (yarn h1) h0) ?_
   exact ibN (thN (rh G (wL G hm)))
  ·exact Ok_exit (thE (thE (ibE (wD G hm hb))))
 rintro data2 hm s hw
 refine thN (Ok_weak hw ?_)
 refine rg G (Ok_block (lp G hm (fun (v1, data3) => ⟨[(0, .own 0), (6, dV a), (7, kV .i64 0), (10, dV v1)], [aX 0 3 data3], 48⟩) ?_))
 rintro ⟨v1, data3⟩ r0 hb1 hm
 rw [yaee] at hm
 refine Ok_seq (rg G (cd hm (fun hm => ?_) (fun hm => ?_)))
 ·refine X_skip (thN (Ok_seq (Ok_block ?_)))
  obtain ⟨e4, h6, hm⟩ := obind hm
  obtain ⟨e5, h7, hm⟩ := obind hm
  obtain ⟨e6, h8, hm⟩ := obind hm
  obtain ⟨e7, h9, hm⟩ := obind hm
  refine ds G [(17, [0]), (19, [0])] (hD 10 h6 (hE 11 h6 (hD 14 h7 (hE 15 h7 (hD 16 h8 (hS 17 h8 e4 (hD 18 h9 (hS 19 h9 e5 h0)))))))) ?_
  obtain ⟨r1, h10, hm⟩ := obind hm
  refine re G (hC 4 (yarn h10) h0) ?_
  exact ibN (thN (rh G (wL G hm)))
 ·have hm := eD hm hb1
  refine Ok_exit (thE (thE (ibE ?_)))
  cases hm
  exact fN [] []
def yahn : MS ((List Int) × Int × Int × Int) (Int × Int × Int) := ⟨.x .r (.x .r (.x .r .b)), fun x => zq126 x.1 x.2.1 x.2.2.1 x.2.2.2, fun y => .tup [dV y.1, dV y.2.1], fun _ => [], fun _ y => [bxO y.2.2]⟩
theorem yakm {data a b swaps y} (hm : zq126 data a b swaps = some y) : yahn.C (data, a, b, swaps) y := yahn.c (data, a, b, swaps) hm
theorem yasx : FnOK Tryz.prog 268 yahn.S := by
 refine fm tt yahn [fo yafo] Tryz.call268 Tryz.func268 rfl Tryz.results268 Tryz.ntmps268 ?_
 rintro ⟨data, a, b, swaps⟩ y cx G hm
 have hm : zq126 data a b swaps = some y := hm
 unfold zq126 at hm
 refine rg G (Ok_seq ?_)
 obtain ⟨e2, h3, hm⟩ := obind hm
 obtain ⟨e3, h4, hm⟩ := obind hm
 obtain ⟨r1, h5, hm⟩ := obind hm
 refine ds G [] (hD 2 h3 (hD 6 h4 (hC 8 (zq0_c h5) h0))) ?_
 refine cd hm (fun hm => ?_) (fun hm => ?_)
 ·refine rg G (rg G ?_)
  cases hm
  exact rt [] []
 ·refine X_skip (thN (rg G ?_))
  cases hm
  exact rt [] []
def yahp : MS ((List Int) × Int × Int × Int × Int) (Int × Int) := ⟨.x .r (.x .r (.x .r (.x .r .b))), fun x => zq124 x.1 x.2.1 x.2.2.1 x.2.2.2.1 x.2.2.2.2, fun y => dV y.1, fun _ => [], fun _ y => [bxO y.2]⟩
theorem yaro {data a b c swaps y} (hm : zq124 data a b c swaps = some y) : yahp.C (data, a, b, c, swaps) y := yahp.c (data, a, b, c, swaps) hm
theorem yakn : FnOK Tryz.prog 265 yahp.S := by
 refine fm tt yahp [fo yasx] Tryz.call265 Tryz.func265 rfl Tryz.results265 Tryz.ntmps265 ?_
 rintro ⟨data, a, b, c, swaps⟩ y cx G hm
 have hm : zq124 data a b c swaps = some y := hm
 unfold zq124 at hm
 refine rg G ?_
 obtain ⟨r, h, hm⟩ := obind hm
 refine rs G (hC 4 (yakm h) h0) ?_
 obtain ⟨r1, h1, hm⟩ := obind hm
 refine rs G (hC 4 (yakm h1) h0) ?_
 obtain ⟨r2, h2, hm⟩ := obind hm
 refine rs G (hC 4 (yakm h2) h0) ?_
 refine rg G ?_
 cases hm
 exact rt [] []
def yahq : MS ((List Int) × Int × Int) (Int × Int) := ⟨.x .r (.x .r .b), fun x => zq123 x.1 x.2.1 x.2.2, fun y => dV y.1, fun _ => [], fun _ y => [bxO y.2]⟩
theorem yako {data a swaps y} (hm : zq123 data a swaps = some y) : yahq.C (data, a, swaps) y := yahq.c (data, a, swaps) hm
theorem yasz : FnOK Tryz.prog 264 yahq.S := by
 refine fm tt yahq [fo yakn] Tryz.call264 Tryz.func264 rfl Tryz.results264 Tryz.ntmps264 ?_
 rintro ⟨data, a, swaps⟩ y cx G hm
 have hm : zq123 data a swaps = some y := hm
 unfold zq123 at hm
 refine rg G ?_
 obtain ⟨r, h, hm⟩ := obind hm
 refine rs G (hC 7 (yaro h) h0) ?_
 cases hm
 exact rt [] []
def yaht : MS ((List Int) × Int × Int) (Int × Int) := ⟨.x .r (.x .r .r), fun x => zq120 x.1 x.2.1 x.2.2, fun y => .tup [dV y.1, dV y.2], fun _ => [], fun _ _ => []⟩
theorem yaxp {data a b y} (hm : zq120 data a b = some y) : yaht.C (data, a, b) y := yaht.c (data, a, b) hm
theorem yatc : FnOK Tryz.prog 251 yaht.S := by
 refine fm tt yaht [fo yasz, fo yakn] Tryz.call251 Tryz.func251 rfl Tryz.results251 Tryz.ntmps251 ?_
 rintro ⟨data, a, b⟩ y cx G hm
 have hm : zq120 data a b = some y := hm
 unfold zq120 at hm
 refine rg G (rg G (rg G ?_))
 obtain ⟨u, h, hm⟩ := obind hm
 refine rs G (hK h h0) ?_
 obtain ⟨u1, h1, hm⟩ := obind hm
 refine rs G (hK h1 h0) ?_
 obtain ⟨u2, h2, hm⟩ := obind hm
 refine rs G (hK h2 h0) ?_
 refine jn hm (fun (v, v1) => ⟨[(9, .ref 16 0), (11, dV v)], [bX 16 [dV v1]], 48⟩) (fun vv1 hm => ?_) ?_
 ·refine rg G (cd hm (fun hm => ?_) (fun hm => ?_))
  ·refine jn hm (fun (v2, v3, v4, v5) => ⟨[(0, dV data), (9, .ref 16 0), (10, dV v2), (11, dV v3), (12, dV v4)], [bX 16 [dV v5]], 48⟩) (fun vv hm => ?_) ?_
   ·refine rg G (cd hm (fun hm => ?_) (fun hm => ?_))
    ·obtain ⟨r, h3, hm⟩ := obind hm
     refine rs G (hC 2 (yako h3) h0) ?_
     obtain ⟨r1, h4, hm⟩ := obind hm
     refine rs G (hC 2 (yako h4) h0) ?_
     obtain ⟨r2, h5, hm⟩ := obind hm
     refine re G (hC 2 (yako h5) h0) ?_
     exact wJ G hm
    ·exact X_skip (wJ G hm)
   rintro ⟨v2, v3, v4, v5⟩ hm
   obtain ⟨r3, h6, hm⟩ := obind hm
   refine re G (hC 4 (yaro h6) h0) ?_
   exact wJ G hm
  ·exact X_skip (wJ G hm)
 rintro ⟨v, v1⟩ hm
 refine rg G (Ok_block (rg G (cd hm (fun hm => ?_) (fun hm => ?_))))
 ·refine rg G ?_
  cases hm
  exact rt [] []
 ·refine rg G (cd hm (fun hm => ?_) (fun hm => ?_))
  ·refine rg G ?_
   cases hm
   exact rt [] []
  ·refine rg G ?_
   cases hm
   exact rt [] []
def yahh : MS ((List Int) × Int × Int) ((List Int)) := ⟨.x (.s 3) (.x .r .r), fun x => zq131 x.1 x.2.1 x.2.2, fun _ => .tup [], fun _ => [], fun _ y => [arO 3 y]⟩
theorem yaxg {data a b y} (hm : zq131 data a b = some y) : yahh.C (data, a, b) y := yahh.c (data, a, b) hm
theorem yasr : FnOK Tryz.prog 252 yahh.S := by
 refine fm tt yahh [] Tryz.call252 Tryz.func252 rfl Tryz.results252 Tryz.ntmps252 ?_
 rintro ⟨data, a, b⟩ y cx G hm
 have hm : zq131 data a b = some y := hm
 unfold zq131 at hm
 refine rg G (rg G (Ok_block (lp G hm (fun (v, v1, data1) => ⟨[(0, .own 0), (6, dV v), (7, dV v1)], [aX 0 3 data1], 48⟩) ?_)))
 rintro ⟨v, v1, data1⟩ r0 hb hm
 rw [yado] at hm
 refine Ok_seq (rg G (cd hm (fun hm => ?_) (fun hm => ?_)))
 ·refine X_skip (thN (Ok_block ?_))
  obtain ⟨e4, h4, hm⟩ := obind hm
  obtain ⟨e5, h5, hm⟩ := obind hm
  obtain ⟨e6, h6, hm⟩ := obind hm
  obtain ⟨e7, h7, hm⟩ := obind hm
  refine ds G [(13, [0]), (15, [0])] (hD 6 h4 (hE 7 h4 (hD 10 h5 (hE 11 h5 (hD 12 h6 (hS 13 h6 e4 (hD 14 h7 (hS 15 h7 e5 h0)))))))) ?_
  exact rg G (rh G (ibN (wL G hm)))
 ·have hm := eD hm hb
  refine Ok_exit (thE (thE (ibE ?_)))
  cases hm
  exact fN [] []
def yahm : MS ((List Int) × Int × Int) (Bool × (List Int)) := ⟨.x (.s 3) (.x .r .r), fun x => zq127 x.1 x.2.1 x.2.2, fun y => dV y.1, fun _ => [], fun _ y => [arO 3 y.2]⟩
theorem yaxl {data a b y} (hm : zq127 data a b = some y) : yahm.C (data, a, b) y := yahm.c (data, a, b) hm
theorem yasw : FnOK Tryz.prog 253 yahm.S := by
 refine fm tt yahm [fo yafo] Tryz.call253 Tryz.func253 rfl Tryz.results253 Tryz.ntmps253 ?_
 rintro ⟨data, a, b⟩ y cx G hm
 have hm : zq127 data a b = some y := hm
 unfold zq127 at hm
 refine rg G (rg G (Ok_seq (rg G (tF hm (fun data8 => ⟨[(0, .own 0)], [aX 0 3 data8], 48⟩) (fun v5 hr hm => ?_) ?_))))
 ·refine Ok_block (lp G hm (fun (j, v, data1) => ⟨[(0, .own 0), (1, dV a), (2, dV b), (7, dV j), (8, dV v)], [aX 0 3 data1], 48⟩) ?_)
  rintro ⟨j, v, data1⟩ r0 hb hm
  rw [yady] at hm
  refine Ok_seq (rg G (cd hm (fun hm => ?_) (fun hm => ?_)))
  ·refine X_skip (thN (jF hm (fun (j1, data2) => ⟨[(0, .own 0), (1, dV a), (2, dV b), (7, dV j1), (8, dV v)], [aX 0 3 data2], 48⟩) (fun v4 hr1 hm => ?_) ?_))
   ·refine Ok_block (jn hm (fun j3 => ⟨[(0, .own 0), (1, dV a), (2, dV b), (7, dV j3), (8, dV v)], [aX 0 3 data1], 48⟩) (fun j3 hm => ?_) ?_)
    ·refine Ok_block (lp G hm (fun j2 => ⟨[(0, .own 0), (1, dV a), (2, dV b), (7, dV j2), (8, dV v)], [aX 0 3 data1], 48⟩) ?_)
     rintro j2 r0 hb1 hm
     rw [yaeb] at hm
     refine Ok_seq (jn hm (fun v1 => ⟨[(0, .own 0), (1, dV a), (2, dV b), (7, dV j2), (8, dV v), (32, dV v1)], [aX 0 3 data1], 48⟩) (fun v1 hm => ?_) ?_)
     ·rcases bf hm with ⟨hb2, hm⟩ | ⟨hb2, hm⟩
      ·obtain ⟨e2, h3, hm⟩ := obind hm
       obtain ⟨e3, h4, hm⟩ := obind hm
       obtain ⟨r1, h5, hm⟩ := obind hm
       refine de G [] (hO 3 (.b true) (hP hb2 (hD 6 h3 (hE 7 h3 (hD 11 h4 (hE 12 h4 (hC 13 (zq0_c h5) h0))))))) ?_
       exact wJ G hm
      ·refine de G [] (hO 3 (.b false) (hP hb2 h0)) ?_
       exact wJ G hm
     rintro v1 hm
     refine cd hm (fun hm => ?_) (fun hm => ?_)
     ·exact X_skip (thN (Ok_block (rh G (ibN (wL G hm)))))
     ·exact Ok_exit (thE (thE (ibE (wD G hm hb1))))
    rintro j3 hm
    refine Ok_seq (rg G (cd hm (fun hm => ?_) (fun hm => ?_)))
    ·refine rg G ?_
     have hm := eR hm hr1
     have hm := eL hm hb hr
     cases hm
     exact rt [] []
    ·refine X_skip (thN (Ok_seq (rg G (cd hm (fun hm => ?_) (fun hm => ?_)))))
     ·refine rg G ?_
      have hm := eR hm hr1
      have hm := eL hm hb hr
      cases hm
      exact rt [] []
     ·refine X_skip (thN ?_)
      obtain ⟨e12, h10, hm⟩ := obind hm
      obtain ⟨e13, h11, hm⟩ := obind hm
      obtain ⟨e14, h12, hm⟩ := obind hm
      obtain ⟨e15, h13, hm⟩ := obind hm
      refine ds G [(15, [0]), (17, [0])] (hD 8 h10 (hE 9 h10 (hD 12 h11 (hE 13 h11 (hD 14 h12 (hS 15 h12 e12 (hD 16 h13 (hS 17 h13 e13 h0)))))))) ?_
      refine jn hm (fun data3 => ⟨[(0, .own 0), (1, dV a), (2, dV b), (7, dV j3), (8, dV v)], [aX 0 3 data3], 48⟩) (fun data3 hm => ?_) ?_
      ·refine rg G (cd hm (fun hm => ?_) (fun hm => ?_))
       ·refine rg G (tl hm (fun data5 => ⟨[(0, .own 0), (1, dV a), (2, dV b), (7, dV j3), (8, dV v)], [aX 0 3 data5], 48⟩) (fun data5 hm => ?_) ?_)
        ·refine Ok_block (lp G hm (fun (v2, data4) => ⟨[(0, .own 0), (1, dV a), (2, dV b), (7, dV j3), (8, dV v), (9, dV v2)], [aX 0 3 data4], 48⟩) ?_)
         rintro ⟨v2, data4⟩ r0 hb3 hm
         rw [yaea] at hm
         refine Ok_seq (rg G (cd hm (fun hm => ?_) (fun hm => ?_)))
         ·refine X_skip (thN (Ok_seq (Ok_block (Ok_seq ?_))))
          obtain ⟨e18, h17, hm⟩ := obind hm
          obtain ⟨e19, h18, hm⟩ := obind hm
          obtain ⟨r7, h19, hm⟩ := obind hm
          refine ds G [] (hD 2 h17 (hE 3 h17 (hD 7 h18 (hE 8 h18 (hC 9 (zq0_c h19) h0))))) ?_
          refine cd hm (fun hm => ?_) (fun hm => ?_)
          ·exact Ok_exit (thE (ibX rfl (thE (thE (ibE (wD G hm hb3))))))
          ·refine X_skip (thN ?_)
           obtain ⟨e24, h24, hm⟩ := obind hm
           obtain ⟨e25, h25, hm⟩ := obind hm
           obtain ⟨e26, h26, hm⟩ := obind hm
           obtain ⟨e27, h27, hm⟩ := obind hm
           refine de G [(15, [0]), (17, [0])] (hD 8 h24 (hE 9 h24 (hD 12 h25 (hE 13 h25 (hD 14 h26 (hS 15 h26 e24 (hD 16 h27 (hS 17 h27 e25 h0)))))))) ?_
           exact ibN (thN (rh G (wL G hm)))
         ·exact Ok_exit (thE (thE (ibE (wD G hm hb3))))
        rintro data5 hm s hw
        exact wJp hm (Wk.trans hw (Wk_J G.hL ⟨[(0, []), (1, []), (2, []), (7, []), (8, [])], [(0, 0, [])], [], 48⟩ (by kernel_rfl)))
       ·exact X_skip (wJ G hm)
      rintro data3 hm
      refine rg G (cd hm (fun hm => ?_) (fun hm => ?_))
      ·refine rg G (tl hm (fun data7 => ⟨[(0, .own 0), (1, dV a), (2, dV b), (7, dV j3), (8, dV v)], [aX 0 3 data7], 48⟩) (fun data7 hm => ?_) ?_)
       ·refine Ok_block (lp G hm (fun (v3, data6) => ⟨[(0, .own 0), (1, dV a), (2, dV b), (7, dV j3), (8, dV v), (10, dV v3)], [aX 0 3 data6], 48⟩) ?_)
        rintro ⟨v3, data6⟩ r0 hb4 hm
        rw [yadz] at hm
        refine Ok_seq (rg G (cd hm (fun hm => ?_) (fun hm => ?_)))
        ·refine X_skip (thN (Ok_seq (Ok_block (Ok_seq ?_))))
         obtain ⟨e30, h31, hm⟩ := obind hm
         obtain ⟨e31, h32, hm⟩ := obind hm
         obtain ⟨r9, h33, hm⟩ := obind hm
         refine ds G [] (hD 2 h31 (hE 3 h31 (hD 7 h32 (hE 8 h32 (hC 9 (zq0_c h33) h0))))) ?_
         refine cd hm (fun hm => ?_) (fun hm => ?_)
         ·exact Ok_exit (thE (ibX rfl (thE (thE (ibE (wD G hm hb4))))))
         ·refine X_skip (thN ?_)
          obtain ⟨e36, h38, hm⟩ := obind hm
          obtain ⟨e37, h39, hm⟩ := obind hm
          obtain ⟨e38, h40, hm⟩ := obind hm
          obtain ⟨e39, h41, hm⟩ := obind hm
          refine de G [(15, [0]), (17, [0])] (hD 8 h38 (hE 9 h38 (hD 12 h39 (hE 13 h39 (hD 14 h40 (hS 15 h40 e36 (hD 16 h41 (hS 17 h41 e37 h0)))))))) ?_
          exact ibN (thN (rh G (wL G hm)))
        ·exact Ok_exit (thE (thE (ibE (wD G hm hb4))))
       rintro data7 hm s1 hw1
       exact ibN (wFp hm (Wk.trans hw1 (Wk_J G.hL ⟨[(0, []), (1, []), (2, []), (7, []), (8, [])], [(0, 0, [])], [], 48⟩ (by kernel_rfl))))
      ·exact X_skip (ibN (wF G hm))
   rintro ⟨j1, data2⟩ hm
   exact rh G (wL G hm)
  ·exact Ok_exit (thE (thE (ibE (wE G hm hb))))
 rintro data8 hm s2 hw2
 refine thN (Ok_weak hw2 ?_)
 refine rg G ?_
 cases hm
 exact rt [] []
def yahl : MS ((List Int) × Int × Int × Int) (Int × (List Int)) := ⟨.x (.s 3) (.x .r (.x .r .r)), fun x => zq128 x.1 x.2.1 x.2.2.1 x.2.2.2, fun y => dV y.1, fun _ => [], fun _ y => [arO 3 y.2]⟩
theorem yaxk {data a b pivot y} (hm : zq128 data a b pivot = some y) : yahl.C (data, a, b, pivot) y := yahl.c (data, a, b, pivot) hm
theorem yasv : FnOK Tryz.prog 255 yahl.S := by
 refine fm tt yahl [fo yafo] Tryz.call255 Tryz.func255 rfl Tryz.results255 Tryz.ntmps255 ?_
 rintro ⟨data, a, b, pivot⟩ y cx G hm
 have hm : zq128 data a b pivot = some y := hm
 unfold zq128 at hm
 refine rg G ?_
 obtain ⟨e4, h4, hm⟩ := obind hm
 obtain ⟨e5, h5, hm⟩ := obind hm
 obtain ⟨e6, h6, hm⟩ := obind hm
 obtain ⟨e7, h7, hm⟩ := obind hm
 refine ds G [(13, [0]), (15, [0])] (hD 6 h4 (hE 7 h4 (hD 10 h5 (hE 11 h5 (hD 12 h6 (hS 13 h6 e4 (hD 14 h7 (hS 15 h7 e5 h0)))))))) ?_
 refine rg G (jn hm (fun (v8, data2) => ⟨[(0, .own 0), (9, dV v8)], [aX 0 3 data2], 48⟩) (fun vv hm => ?_) ?_)
 ·refine Ok_block (lp G hm (fun (v, v1, data1) => ⟨[(0, .own 0), (1, dV a), (9, dV v), (10, dV v1)], [aX 0 3 data1], 48⟩) ?_)
  rintro ⟨v, v1, data1⟩ r0 hb hm
  rw [yadv] at hm
  refine Ok_block (jn hm (fun v4 => ⟨[(0, .own 0), (1, dV a), (9, dV v4), (10, dV v1)], [aX 0 3 data1], 48⟩) (fun v4 hm => ?_) ?_)
  ·refine Ok_block (lp G hm (fun v2 => ⟨[(0, .own 0), (1, dV a), (9, dV v2), (10, dV v1)], [aX 0 3 data1], 48⟩) ?_)
   rintro v2 r0 hb1 hm
   rw [yadx] at hm
   refine Ok_seq (jn hm (fun v3 => ⟨[(0, .own 0), (1, dV a), (9, dV v2), (10, dV v1), (43, dV v3)], [aX 0 3 data1], 48⟩) (fun v3 hm => ?_) ?_)
   ·rcases bf hm with ⟨hb2, hm⟩ | ⟨hb2, hm⟩
    ·obtain ⟨e10, h11, hm⟩ := obind hm
     obtain ⟨e11, h12, hm⟩ := obind hm
     obtain ⟨r1, h13, hm⟩ := obind hm
     refine de G [] (hO 3 (.b true) (hP hb2 (hD 6 h11 (hE 7 h11 (hD 10 h12 (hE 11 h12 (hC 12 (zq0_c h13) h0))))))) ?_
     exact wJ G hm
    ·refine de G [] (hO 3 (.b false) (hP hb2 h0)) ?_
     exact wJ G hm
   rintro v3 hm
   refine cd hm (fun hm => ?_) (fun hm => ?_)
   ·exact X_skip (thN (Ok_block (rh G (ibN (wL G hm)))))
   ·exact Ok_exit (thE (thE (ibE (wD G hm hb1))))
  rintro v4 hm
  refine jn hm (fun v7 => ⟨[(0, .own 0), (1, dV a), (9, dV v4), (10, dV v7)], [aX 0 3 data1], 48⟩) (fun v7 hm => ?_) ?_
  ·refine Ok_block (lp G hm (fun v5 => ⟨[(0, .own 0), (1, dV a), (9, dV v4), (10, dV v5)], [aX 0 3 data1], 48⟩) ?_)
   rintro v5 r0 hb3 hm
   rw [yadw] at hm
   refine Ok_seq (jn hm (fun v6 => ⟨[(0, .own 0), (1, dV a), (9, dV v4), (10, dV v5), (59, dV v6)], [aX 0 3 data1], 48⟩) (fun v6 hm => ?_) ?_)
   ·rcases bf hm with ⟨hb4, hm⟩ | ⟨hb4, hm⟩
    ·obtain ⟨e14, h17, hm⟩ := obind hm
     obtain ⟨e15, h18, hm⟩ := obind hm
     obtain ⟨r3, h19, hm⟩ := obind hm
     refine de G [] (hO 3 (.b true) (hP hb4 (hD 6 h17 (hE 7 h17 (hD 10 h18 (hE 11 h18 (hC 12 (zq0_c h19) h0))))))) ?_
     exact wJ G hm
    ·refine de G [] (hO 3 (.b false) (hP hb4 h0)) ?_
     exact wJ G hm
   rintro v6 hm
   refine cd hm (fun hm => ?_) (fun hm => ?_)
   ·exact X_skip (thN (Ok_block (rh G (ibN (wL G hm)))))
   ·exact Ok_exit (thE (thE (ibE (wD G hm hb3))))
  rintro v7 hm
  refine Ok_seq (rg G (cd hm (fun hm => ?_) (fun hm => ?_)))
  ·exact Ok_exit (thE (ibX rfl (thE (ibE (wD G hm hb)))))
  ·refine X_skip (thN ?_)
   obtain ⟨e20, h24, hm⟩ := obind hm
   obtain ⟨e21, h25, hm⟩ := obind hm
   obtain ⟨e22, h26, hm⟩ := obind hm
   obtain ⟨e23, h27, hm⟩ := obind hm
   refine ds G [(13, [0]), (15, [0])] (hD 6 h24 (hE 7 h24 (hD 10 h25 (hE 11 h25 (hD 12 h26 (hS 13 h26 e20 (hD 14 h27 (hS 15 h27 e21 h0)))))))) ?_
   exact rg G (rh G (ibN (wL G hm)))
 rintro ⟨v8, data2⟩ hm
 refine rg G ?_
 cases hm
 exact rt [] []
def yahk : MS ((List Int) × Int × Int × Int) (Int × Bool × (List Int)) := ⟨.x (.s 3) (.x .r (.x .r .r)), fun x => zq129 x.1 x.2.1 x.2.2.1 x.2.2.2, fun y => .tup [dV y.1, dV y.2.1], fun _ => [], fun _ y => [arO 3 y.2.2]⟩
theorem yaxj {data a b pivot y} (hm : zq129 data a b pivot = some y) : yahk.C (data, a, b, pivot) y := yahk.c (data, a, b, pivot) hm
theorem yasu : FnOK Tryz.prog 256 yahk.S := by
 refine fm tt yahk [fo yafo] Tryz.call256 Tryz.func256 rfl Tryz.results256 Tryz.ntmps256 ?_
 rintro ⟨data, a, b, pivot⟩ y cx G hm
 have hm : zq129 data a b pivot = some y := hm
 unfold zq129 at hm
 refine rg G ?_
 obtain ⟨e4, h4, hm⟩ := obind hm
 obtain ⟨e5, h5, hm⟩ := obind hm
 obtain ⟨e6, h6, hm⟩ := obind hm
 obtain ⟨e7, h7, hm⟩ := obind hm
 refine ds G [(13, [0]), (15, [0])] (hD 6 h4 (hE 7 h4 (hD 10 h5 (hE 11 h5 (hD 12 h6 (hS 13 h6 e4 (hD 14 h7 (hS 15 h7 e5 h0)))))))) ?_
 refine rg G (jn hm (fun v2 => ⟨[(0, .own 0), (1, dV a), (10, dV v2), (11, dV (w64 (b - 1)))], [aX 0 3 ((data.set a.toNat e4).set pivot.toNat e5)], 48⟩) (fun v2 hm => ?_) ?_)
 ·refine Ok_block (lp G hm (fun v => ⟨[(0, .own 0), (1, dV a), (10, dV v), (11, dV (w64 (b - 1)))], [aX 0 3 ((data.set a.toNat e4).set pivot.toNat e5)], 48⟩) ?_)
  rintro v r0 hb hm
  rw [yadu] at hm
  refine Ok_seq (jn hm (fun v1 => ⟨[(0, .own 0), (1, dV a), (10, dV v), (11, dV (w64 (b - 1))), (43, dV v1)], [aX 0 3 ((data.set a.toNat e4).set pivot.toNat e5)], 48⟩) (fun v1 hm => ?_) ?_)
  ·rcases bf hm with ⟨hb1, hm⟩ | ⟨hb1, hm⟩
   ·obtain ⟨e10, h11, hm⟩ := obind hm
    obtain ⟨e11, h12, hm⟩ := obind hm
    obtain ⟨r1, h13, hm⟩ := obind hm
    refine de G [] (hO 3 (.b true) (hP hb1 (hD 6 h11 (hE 7 h11 (hD 10 h12 (hE 11 h12 (hC 12 (zq0_c h13) h0))))))) ?_
    exact wJ G hm
   ·refine de G [] (hO 3 (.b false) (hP hb1 h0)) ?_
    exact wJ G hm
  rintro v1 hm
  refine cd hm (fun hm => ?_) (fun hm => ?_)
  ·exact X_skip (thN (Ok_block (rh G (ibN (wL G hm)))))
  ·exact Ok_exit (thE (thE (ibE (wD G hm hb))))
 rintro v2 hm
 refine jn hm (fun v5 => ⟨[(0, .own 0), (1, dV a), (10, dV v2), (11, dV v5)], [aX 0 3 ((data.set a.toNat e4).set pivot.toNat e5)], 48⟩) (fun v5 hm => ?_) ?_
 ·refine Ok_block (lp G hm (fun v3 => ⟨[(0, .own 0), (1, dV a), (10, dV v2), (11, dV v3)], [aX 0 3 ((data.set a.toNat e4).set pivot.toNat e5)], 48⟩) ?_)
  rintro v3 r0 hb2 hm
  rw [yadt] at hm
  refine Ok_seq (jn hm (fun v4 => ⟨[(0, .own 0), (1, dV a), (10, dV v2), (11, dV v3), (60, dV v4)], [aX 0 3 ((data.set a.toNat e4).set pivot.toNat e5)], 48⟩) (fun v4 hm => ?_) ?_)
  ·rcases bf hm with ⟨hb3, hm⟩ | ⟨hb3, hm⟩
   ·obtain ⟨e14, h17, hm⟩ := obind hm
    obtain ⟨e15, h18, hm⟩ := obind hm
    obtain ⟨r3, h19, hm⟩ := obind hm
    refine de G [] (hO 3 (.b true) (hP hb3 (hD 6 h17 (hE 7 h17 (hD 10 h18 (hE 11 h18 (hC 12 (zq0_c h19) h0))))))) ?_
    exact wJ G hm
   ·refine de G [] (hO 3 (.b false) (hP hb3 h0)) ?_
    exact wJ G hm
  rintro v4 hm
  refine cd hm (fun hm => ?_) (fun hm => ?_)
  ·exact X_skip (thN (Ok_block (rh G (ibN (wL G hm)))))
  ·exact Ok_exit (thE (thE (ibE (wD G hm hb2))))
 rintro v5 hm
 refine Ok_seq (rg G (cd hm (fun hm => ?_) (fun hm => ?_)))
 ·obtain ⟨e20, h24, hm⟩ := obind hm
  obtain ⟨e21, h25, hm⟩ := obind hm
  obtain ⟨e22, h26, hm⟩ := obind hm
  obtain ⟨e23, h27, hm⟩ := obind hm
  refine ds G [(13, [0]), (15, [0])] (hD 6 h24 (hE 7 h24 (hD 10 h25 (hE 11 h25 (hD 12 h26 (hS 13 h26 e20 (hD 14 h27 (hS 15 h27 e21 h0)))))))) ?_
  refine rg G ?_
  cases hm
  exact rt [] []
 ·refine X_skip (thN ?_)
  obtain ⟨e28, h32, hm⟩ := obind hm
  obtain ⟨e29, h33, hm⟩ := obind hm
  obtain ⟨e30, h34, hm⟩ := obind hm
  obtain ⟨e31, h35, hm⟩ := obind hm
  refine ds G [(13, [0]), (15, [0])] (hD 6 h32 (hE 7 h32 (hD 10 h33 (hE 11 h33 (hD 12 h34 (hS 13 h34 e28 (hD 14 h35 (hS 15 h35 e29 h0)))))))) ?_
  refine rg G (rg G (jn hm (fun (v14, data2) => ⟨[(0, .own 0), (1, dV a), (11, dV v14)], [aX 0 3 data2], 48⟩) (fun vv hm => ?_) ?_))
  ·refine Ok_block (lp G hm (fun (v6, v7, data1) => ⟨[(0, .own 0), (1, dV a), (10, dV v6), (11, dV v7)], [aX 0 3 data1], 48⟩) ?_)
   rintro ⟨v6, v7, data1⟩ r0 hb4 hm
   rw [yadq] at hm
   refine Ok_block (jn hm (fun v10 => ⟨[(0, .own 0), (1, dV a), (10, dV v10), (11, dV v7)], [aX 0 3 data1], 48⟩) (fun v10 hm => ?_) ?_)
   ·refine Ok_block (lp G hm (fun v8 => ⟨[(0, .own 0), (1, dV a), (10, dV v8), (11, dV v7)], [aX 0 3 data1], 48⟩) ?_)
    rintro v8 r0 hb5 hm
    rw [yads] at hm
    refine Ok_seq (jn hm (fun v9 => ⟨[(0, .own 0), (1, dV a), (10, dV v8), (11, dV v7), (112, dV v9)], [aX 0 3 data1], 48⟩) (fun v9 hm => ?_) ?_)
    ·rcases bf hm with ⟨hb6, hm⟩ | ⟨hb6, hm⟩
     ·obtain ⟨e34, h39, hm⟩ := obind hm
      obtain ⟨e35, h40, hm⟩ := obind hm
      obtain ⟨r5, h41, hm⟩ := obind hm
      refine de G [] (hO 3 (.b true) (hP hb6 (hD 6 h39 (hE 7 h39 (hD 10 h40 (hE 11 h40 (hC 12 (zq0_c h41) h0))))))) ?_
      exact wJ G hm
     ·refine de G [] (hO 3 (.b false) (hP hb6 h0)) ?_
      exact wJ G hm
    rintro v9 hm
    refine cd hm (fun hm => ?_) (fun hm => ?_)
    ·exact X_skip (thN (Ok_block (rh G (ibN (wL G hm)))))
    ·exact Ok_exit (thE (thE (ibE (wD G hm hb5))))
   rintro v10 hm
   refine jn hm (fun v13 => ⟨[(0, .own 0), (1, dV a), (10, dV v10), (11, dV v13)], [aX 0 3 data1], 48⟩) (fun v13 hm => ?_) ?_
   ·refine Ok_block (lp G hm (fun v11 => ⟨[(0, .own 0), (1, dV a), (10, dV v10), (11, dV v11)], [aX 0 3 data1], 48⟩) ?_)
    rintro v11 r0 hb7 hm
    rw [yadr] at hm
    refine Ok_seq (jn hm (fun v12 => ⟨[(0, .own 0), (1, dV a), (10, dV v10), (11, dV v11), (129, dV v12)], [aX 0 3 data1], 48⟩) (fun v12 hm => ?_) ?_)
    ·rcases bf hm with ⟨hb8, hm⟩ | ⟨hb8, hm⟩
     ·obtain ⟨e38, h45, hm⟩ := obind hm
      obtain ⟨e39, h46, hm⟩ := obind hm
      obtain ⟨r7, h47, hm⟩ := obind hm
      refine de G [] (hO 3 (.b true) (hP hb8 (hD 6 h45 (hE 7 h45 (hD 10 h46 (hE 11 h46 (hC 12 (zq0_c h47) h0))))))) ?_
      exact wJ G hm
     ·refine de G [] (hO 3 (.b false) (hP hb8 h0)) ?_
      exact wJ G hm
    rintro v12 hm
    refine cd hm (fun hm => ?_) (fun hm => ?_)
    ·exact X_skip (thN (Ok_block (rh G (ibN (wL G hm)))))
    ·exact Ok_exit (thE (thE (ibE (wD G hm hb7))))
   rintro v13 hm
   refine Ok_seq (rg G (cd hm (fun hm => ?_) (fun hm => ?_)))
   ·exact Ok_exit (thE (ibX rfl (thE (ibE (wD G hm hb4)))))
   ·refine X_skip (thN ?_)
    obtain ⟨e44, h52, hm⟩ := obind hm
    obtain ⟨e45, h53, hm⟩ := obind hm
    obtain ⟨e46, h54, hm⟩ := obind hm
    obtain ⟨e47, h55, hm⟩ := obind hm
    refine ds G [(13, [0]), (15, [0])] (hD 6 h52 (hE 7 h52 (hD 10 h53 (hE 11 h53 (hD 12 h54 (hS 13 h54 e44 (hD 14 h55 (hS 15 h55 e45 h0)))))))) ?_
    exact rg G (rh G (ibN (wL G hm)))
  rintro ⟨v14, data2⟩ hm
  obtain ⟨e52, h60, hm⟩ := obind hm
  obtain ⟨e53, h61, hm⟩ := obind hm
  obtain ⟨e54, h62, hm⟩ := obind hm
  obtain ⟨e55, h63, hm⟩ := obind hm
  refine ds G [(13, [0]), (15, [0])] (hD 6 h60 (hE 7 h60 (hD 10 h61 (hE 11 h61 (hD 12 h62 (hS 13 h62 e52 (hD 14 h63 (hS 15 h63 e53 h0)))))))) ?_
  refine rg G ?_
  cases hm
  exact rt [] []
def yaho : MS Int ((IK .u64)) := ⟨.r, zq125, fun y => dV y, fun _ => [], fun _ _ => []⟩
theorem yaxm {length y} (hm : zq125 length = some y) : yaho.C length y := yaho.c length hm
theorem yasy : FnOK Tryz.prog 259 yaho.S := by
 refine fm tt yaho [fo yarg] Tryz.call259 Tryz.func259 rfl Tryz.results259 Tryz.ntmps259 ?_
 rintro length y cx G hm
 have hm : zq125 length = some y := hm
 unfold zq125 at hm
 refine rg G ?_
 obtain ⟨r, h, hm⟩ := obind hm
 obtain ⟨u, h1, hm⟩ := obind hm
 refine rs G (hC 2 (yawd h) (hK h1 h0)) ?_
 cases hm
 exact rt [] []
def yahf : MS ((IK .u64)) ((IK .u64) × (IK .u64)) := ⟨.b, zq133, fun y => dV y.1, fun _ => [], fun _ y => [bxO y.2]⟩
theorem yaxf {r y} (hm : zq133 r = some y) : yahf.C r y := yahf.c r hm
theorem yasp : FnOK Tryz.prog 260 yahf.S := by
 refine fm tt yahf [] Tryz.call260 Tryz.func260 rfl Tryz.results260 Tryz.ntmps260 ?_
 rintro r y cx G hm
 have hm : zq133 r = some y := hm
 unfold zq133 at hm
 refine rg G ?_
 obtain ⟨u1, h1, hm⟩ := obind hm
 refine ds G [(9, [0])] (hK h1 h0) ?_
 obtain ⟨u3, h3, hm⟩ := obind hm
 refine ds G [(9, [0])] (hK h3 h0) ?_
 obtain ⟨u5, h5, hm⟩ := obind hm
 refine ds G [(9, [0])] (hK h5 h0) ?_
 refine rg G ?_
 cases hm
 exact rt [] []
def yahu : MS ((List Int) × Int × Int) ((List Int)) := ⟨.x (.s 3) (.x .r .r), fun x => zq119 x.1 x.2.1 x.2.2, fun _ => .tup [], fun _ => [], fun _ y => [arO 3 y]⟩
theorem yaxr {data a b y} (hm : zq119 data a b = some y) : yahu.C (data, a, b) y := yahu.c (data, a, b) hm
theorem yatd : FnOK Tryz.prog 250 yahu.S := by
 refine fm tt yahu [fo yasy, fo yasp] Tryz.call250 Tryz.func250 rfl Tryz.results250 Tryz.ntmps250 ?_
 rintro ⟨data, a, b⟩ y cx G hm
 have hm : zq119 data a b = some y := hm
 unfold zq119 at hm
 refine rg G (rg G (cd hm (fun hm => ?_) (fun hm => ?_)))
 ·refine rg G ?_
  obtain ⟨r, h, hm⟩ := obind hm
  refine rs G (hC 1 (yaxm h) h0) ?_
  obtain ⟨u, h1, hm⟩ := obind hm
  refine rs G (hK h1 h0) ?_
  refine Ok_block (lp G hm (fun (v, data1, v1) => ⟨[(0, .own 0), (1, dV a), (6, dV (w64 (b - a))), (7, .ref 32 0), (8, kV .u64 r.v), (9, dV v)], [aX 0 3 data1, bX 32 [kV .u64 v1]], 64⟩) ?_)
  rintro ⟨v, data1, v1⟩ r0 hb hm
  rw [yaeg] at hm
  refine Ok_seq ?_
  obtain ⟨u1, h2, hm⟩ := obind hm
  refine rs G (hK h2 h0) ?_
  refine cd hm (fun hm => ?_) (fun hm => ?_)
  ·refine X_skip (thN (Ok_seq (Ok_block ?_)))
   obtain ⟨r1, h3, hm⟩ := obind hm
   refine rs G (hC 0 (yaxf h3) h0) ?_
   refine jn hm (fun v2 => ⟨[(0, .own 0), (1, dV a), (6, dV (w64 (b - a))), (7, .ref 32 0), (8, kV .u64 r.v), (9, dV v), (10, dV v2)], [aX 0 3 data1, bX 32 [kV .u64 r1.2.v]], 64⟩) (fun v2 hm => ?_) ?_
   ·refine rg G (cd hm (fun hm => ?_) (fun hm => ?_))
    ·exact rh G (wJ G hm)
    ·exact X_skip (wJ G hm)
   rintro v2 hm
   obtain ⟨e4, h8, hm⟩ := obind hm
   obtain ⟨e5, h9, hm⟩ := obind hm
   obtain ⟨e6, h10, hm⟩ := obind hm
   obtain ⟨e7, h11, hm⟩ := obind hm
   refine de G [(17, [0]), (19, [0])] (hD 10 h8 (hE 11 h8 (hD 14 h9 (hE 15 h9 (hD 16 h10 (hS 17 h10 e4 (hD 18 h11 (hS 19 h11 e5 h0)))))))) ?_
   exact ibN (thN (rh G (wL G hm)))
  ·have hm := eD hm hb
   refine Ok_exit (thE (thE (ibE ?_)))
   cases hm
   exact fN [] []
 ·refine X_skip ?_
  cases hm
  exact fN [] []
def yabz (rec_ : (List Int) → Int → Int → Int → Option ((List Int))) : MS ((List Int) × Int × Int × Int) ((List Int)) := ⟨.x (.s 3) (.x .r (.x .r .r)), fun x => rec_ x.1 x.2.1 x.2.2.1 x.2.2.2, fun _ => .tup [], fun _ => [], fun _ y => [arO 3 y]⟩
def yakl : MS ((List Int) × Int × Int × Int) ((List Int)) := yabz zq130
theorem yaxh {data a b limit y} (hm : zq130 data a b limit = some y) : yakl.C (data, a, b, limit) y := yakl.c (data, a, b, limit) hm
theorem yakk {rec_ : (List Int) → Int → Int → Int → Option ((List Int))} {data a b limit y} (hm : rec_ data a b limit = some y) : (yabz rec_).C (data, a, b, limit) y := (yabz rec_).c (data, a, b, limit) hm
theorem yapm {rec_ : (List Int) → Int → Int → Int → Option ((List Int))} (hrec : FnOK Tryz.prog 229 (yabz rec_).S) : FnOK Tryz.prog 229 (yabz (yacf rec_)).S := by
 refine fm tt (yabz (yacf rec_)) [fo hrec, fo yata, fo yatb, fo yatd, fo yatc, fo yasr, fo yasw, fo yafo, fo yasv, fo yasu] Tryz.call229 Tryz.func229 rfl Tryz.results229 Tryz.ntmps229 ?_
 rintro ⟨data, a, b, limit⟩ y cx G hm
 have hm : yacf rec_ data a b limit = some y := hm
 unfold yacf at hm
 refine rg G (rg G (Ok_block (lp G hm (fun (a1, b1, limit1, hint, mid, data1) => ⟨[(0, .own 0), (1, dV a1), (2, dV b1), (3, dV limit1), (8, dV hint), (9, dV mid)], [aX 0 3 data1], 48⟩) ?_)))
 rintro ⟨a1, b1, limit1, hint, mid, data1⟩ r0 hb hm
 rw [yadp] at hm
 refine Ok_block (rg G (Ok_seq (rg G (cd hm (fun hm => ?_) (fun hm => ?_)))))
 ·obtain ⟨r, h, hm⟩ := obind hm
  refine rs G (hC 3 (yaxn h) h0) ?_
  have hm := eD hm hb
  cases hm
  exact rt [] []
 ·refine X_skip (thN (Ok_seq (rg G (cd hm (fun hm => ?_) (fun hm => ?_)))))
  ·obtain ⟨r2, h1, hm⟩ := obind hm
   refine rs G (hC 3 (yaxo h1) h0) ?_
   have hm := eD hm hb
   cases hm
   exact rt [] []
  ·refine X_skip (thN (jn hm (fun (limit2, data2) => ⟨[(0, .own 0), (1, dV a1), (2, dV b1), (3, dV limit2), (8, dV hint), (9, dV mid), (10, dV (w64 (b1 - a1)))], [aX 0 3 data2], 48⟩) (fun vv1 hm => ?_) ?_))
   ·refine rg G (cd hm (fun hm => ?_) (fun hm => ?_))
    ·obtain ⟨r4, h2, hm⟩ := obind hm
     refine rs G (hC 3 (yaxr h2) h0) ?_
     exact rh G (wJ G hm)
    ·exact X_skip (wJ G hm)
   rintro ⟨limit2, data2⟩ hm
   obtain ⟨r5, h3, hm⟩ := obind hm
   refine rs G (hC 3 (yaxp h3) h0) ?_
   refine jn hm (fun (alreadyPartitioned, leftLen, data3) => ⟨[(0, .own 0), (1, dV a1), (2, dV b1), (3, dV limit2), (8, dV hint), (9, dV mid), (10, dV (w64 (b1 - a1))), (11, dV alreadyPartitioned), (12, dV leftLen)], [aX 0 3 data3], 48⟩) (fun vv hm => ?_) ?_
   ·refine rg G (cd hm (fun hm => ?_) (fun hm => ?_))
    ·obtain ⟨r6, h4, hm⟩ := obind hm
     refine rs G (hC 3 (yaxg h4) h0) ?_
     exact rg G (rh G (wJ G hm))
    ·exact X_skip (wJ G hm)
   rintro ⟨alreadyPartitioned, leftLen, data3⟩ hm
   refine jF hm (fun data4 => ⟨[(0, .own 0), (1, dV a1), (2, dV b1), (3, dV limit2), (8, dV hint), (9, dV mid), (10, dV (w64 (b1 - a1))), (11, dV alreadyPartitioned)], [aX 0 3 data4], 48⟩) (fun v2 hr3 hm => ?_) ?_
   ·refine jn hm (fun v => ⟨[(0, .own 0), (1, dV a1), (2, dV b1), (3, dV limit2), (8, dV hint), (9, dV mid), (10, dV (w64 (b1 - a1))), (11, dV alreadyPartitioned), (68, dV v)], [aX 0 3 data3], 48⟩) (fun v hm => ?_) ?_
    ·rcases bf hm with ⟨hb1, hm⟩ | ⟨hb1, hm⟩
     ·rcases bf hm with ⟨hb2, hm⟩ | ⟨hb2, hm⟩
      ·refine re G (hO 1 (.b true) (hP hb1 (hO 4 (.b true) (hP hb2 h0)))) ?_
       exact wJ G hm
      ·refine re G (hO 1 (.b true) (hP hb1 (hO 4 (.b false) (hP hb2 h0)))) ?_
       exact wJ G hm
     ·refine re G (hO 1 (.b false) (hP hb1 h0)) ?_
      exact wJ G hm
    rintro v hm
    refine cd hm (fun hm => ?_) (fun hm => ?_)
    ·obtain ⟨r7, h5, hm⟩ := obind hm
     refine rs G (hC 3 (yaxl h5) h0) ?_
     refine cd hm (fun hm => ?_) (fun hm => ?_)
     ·have hm := eR hm hr3
      have hm := eD hm hb
      cases hm
      exact rt [] []
     ·exact X_skip (wF G hm)
    ·exact X_skip (wF G hm)
   rintro data4 hm
   refine Ok_seq (jn hm (fun v1 => ⟨[(0, .own 0), (1, dV a1), (2, dV b1), (3, dV limit2), (8, dV hint), (9, dV mid), (10, dV (w64 (b1 - a1))), (11, dV alreadyPartitioned), (87, dV v1)], [aX 0 3 data4], 48⟩) (fun v1 hm => ?_) ?_)
   ·rcases bf hm with ⟨hb3, hm⟩ | ⟨hb3, hm⟩
    ·obtain ⟨e6, h9, hm⟩ := obind hm
     obtain ⟨e7, h10, hm⟩ := obind hm
     obtain ⟨r11, h11, hm⟩ := obind hm
     refine de G [] (hO 2 (.b true) (hP hb3 (hD 6 h9 (hE 7 h9 (hD 10 h10 (hE 11 h10 (hC 12 (zq0_c h11) h0))))))) ?_
     exact wJ G hm
    ·refine de G [] (hO 2 (.b false) (hP hb3 h0)) ?_
     exact wJ G hm
   rintro v1 hm
   refine cd hm (fun hm => ?_) (fun hm => ?_)
   ·obtain ⟨r12, h12, hm⟩ := obind hm
    refine rs G (hC 4 (yaxk h12) h0) ?_
    exact rg G (Ok_exit (thE (ibE (wL G hm))))
   ·refine X_skip (thN ?_)
    obtain ⟨r13, h13, hm⟩ := obind hm
    refine rs G (hC 4 (yaxj h13) h0) ?_
    refine rg G (rg G ?_)
    obtain ⟨u, h14, hm⟩ := obind hm
    refine rs G (hK h14 h0) ?_
    refine rg G (cd hm (fun hm => ?_) (fun hm => ?_))
    ·refine rg G ?_
     obtain ⟨r14, h15, hm⟩ := obind hm
     refine rs G (hC 4 (yakk h15) h0) ?_
     exact rh G (ibN (wL G hm))
    ·refine rg G ?_
     obtain ⟨r15, h16, hm⟩ := obind hm
     refine rs G (hC 5 (yakk h16) h0) ?_
     exact rh G (ibN (wL G hm))
theorem yahi : ∀ k, FnOK Tryz.prog 229 (yabz (yaew k)).S
 | 0 => ⟨fun args w => Tryz.call229 args w, fun vs w F ds obs κ hp => by obtain ⟨x, y, _, _, h⟩ := hp; cases h⟩
 | k + 1 => yapm (yahi k)
theorem yass : FnOK Tryz.prog 229 yakl.S := yahi 4294967296
def yahv : MS ((List Int)) ((List Int)) := ⟨.s 3, zq118, fun _ => .tup [], fun _ => [], fun _ y => [arO 3 y]⟩
theorem yaxs {x y} (hm : zq118 x = some y) : yahv.C x y := yahv.c x hm
theorem yate : FnOK Tryz.prog 197 yahv.S := by
 refine fm tt yahv [fo yarg, fo yass] Tryz.call197 Tryz.func197 rfl Tryz.results197 Tryz.ntmps197 ?_
 rintro x y cx G hm
 have hm : zq118 x = some y := hm
 unfold zq118 at hm
 refine rs G (hN 1 x h0) ?_
 obtain ⟨r, h, hm⟩ := obind hm
 obtain ⟨r1, h1, hm⟩ := obind hm
 refine re G (hC 4 (yawd h) (hC 5 (yaxh h1) h0)) ?_
 cases hm
 exact fN [] []
def yakq : MS ((List Int)) ((List Int)) := ⟨.m 3, zq112, fun _ => .own 0, fun y => [arO 3 y], fun _ _ => []⟩
theorem yaxw {s y} (hm : zq112 s = some y) : yakq.C s y := yakq.c s hm
def yarq : Go.Shelf.Ren := ⟨fun x => bif Nat.beq x 20 then 198 else x, fun x => bif Nat.beq x 22 then 35 else bif Nat.beq x 3 then 3 else bif Nat.beq x 4 then 4 else x, fun x => x⟩
theorem yaxx : Tryz.f198 = Go.Proofs.Body2.n20 yarq := by kernel_rfl
theorem yati : FnOK Tryz.prog 198 yakq.S := comOK tt yarq Tryz.call198 (Tryz.func198.trans (congrArg some yaxx)) (b0 := 0) (e0 := false) ⟨Tryz.underlying0, Tryz.t0, Tryz.type0, rfl, rfl, rfl, fun h => by cases h⟩ (by kernel_rfl) (by kernel_rfl) (by kernel_rfl)
def yape : MS (Timetable × Fleet × (List (List Int))) ((List Int)) := ⟨.x .r (.x .r .r), fun x => zq20 x.1 x.2.1 x.2.2, fun _ => .own 0, fun y => [arO 3 y], fun _ _ => []⟩
theorem ybah {t f pieces y} (hm : zq20 t f pieces = some y) : yape.C (t, f, pieces) y := yape.c (t, f, pieces) hm
theorem yaww : FnOK Tryz.prog 132 yape.S := by
 refine fm tt yape [fo yagw, fo yakd, fo yarl] Tryz.call132 Tryz.func132 rfl Tryz.results132 Tryz.ntmps132 ?_
 rintro ⟨t, f, pieces⟩ y cx G hm
 have hm : zq20 t f pieces = some y := hm
 unfold zq20 at hm
 refine rg G (rg G (Ok_seq (rg G (tl hm (fun b1 => ⟨[(7, .own 16)], [aX 16 3 b1], 48⟩) (fun b1 hm => ?_) ?_))))
 ·refine Ok_block (lpP hm (fun (v, b) => ⟨[(2, dV pieces), (3, .ref 16 0), (4, .ref 32 0), (7, .own 48), (8, dV v)], [bX 16 [dV t.Network.Stops, dV t.Network.Lines, dV t.Trips], bX 32 [dV f.Dead, dV f.Turn], aX 48 3 b], 80⟩) (Wk_J G.hL ⟨[(2, []), (3, []), (4, []), (7, [.o 48]), (8, [])], [(16, 16, []), (32, 32, [])], [(48, 3, 1, [])], 80⟩ (by kernel_rfl)) ?_)
  rintro ⟨v, b⟩ r0 hb hm
  rw [yakg] at hm
  refine Ok_seq (rs G (hN 2 pieces h0) ?_)
  refine cd hm (fun hm => ?_) (fun hm => ?_)
  ·refine X_skip (thN (Ok_seq (Ok_block ?_)))
   obtain ⟨e2, h2, hm⟩ := obind hm
   obtain ⟨e3, h3, hm⟩ := obind hm
   refine ds G [] (hD 3 h2 (hD 7 h3 h0)) ?_
   obtain ⟨r5, h12, hm⟩ := obind hm
   obtain ⟨r6, h13, hm⟩ := obind hm
   obtain ⟨e6, h14, hm⟩ := obind hm
   obtain ⟨r7, h15, hm⟩ := obind hm
   obtain ⟨e7, h16, hm⟩ := obind hm
   obtain ⟨r8, h17, hm⟩ := obind hm
   obtain ⟨r9, h18, hm⟩ := obind hm
   obtain ⟨u1, h19, hm⟩ := obind hm
   refine de G [(28, [48, 752])] (hC 3 (yaix h12) (hC 7 (yaix h13) (hN 15 e2 (hD 17 h14 (hC 19 (yake h15) (hD 22 h16 (hC 24 (yake h17) (hC 25 (yawy h18) (hA 28 8 h19 h0))))))))) ?_
   exact ibN (thN (rh G (wL G hm)))
  ·exact Ok_exit (thE (thE (ibE (wD G hm hb))))
 rintro b1 hm s hw
 refine thN (Ok_weak hw ?_)
 refine rg G ?_
 cases hm
 exact rt [16] []
def yaov : MS (Timetable × Rules × Duty) Int := ⟨.x .r (.x .r .r), fun x => zq29 x.1 x.2.1 x.2.2, fun y => dV y, fun _ => [], fun _ _ => []⟩
theorem ybad {t r d y} (hm : zq29 t r d = some y) : yaov.C (t, r, d) y := yaov.c (t, r, d) hm
theorem yawk : FnOK Tryz.prog 130 yaov.S := by
 refine fm tt yaov [fo yagw] Tryz.call130 Tryz.func130 rfl Tryz.results130 Tryz.ntmps130 ?_
 rintro ⟨t, r, d⟩ y cx G hm
 have hm : zq29 t r d = some y := hm
 unfold zq29 at hm
 refine rg G ?_
 obtain ⟨e2, h4, hm⟩ := obind hm
 obtain ⟨r3, h5, hm⟩ := obind hm
 obtain ⟨e3, h6, hm⟩ := obind hm
 obtain ⟨r4, h7, hm⟩ := obind hm
 refine ds G [] (hN 7 d.Pieces (hD 9 h4 (hC 11 (yaix h5) (hD 17 h6 (hC 19 (yaix h7) h0))))) ?_
 cases hm
 exact rt [] []
def yapj : MS (Timetable × Fleet × (List (List Int)) × Rules × Duty) Int := ⟨.x .r (.x .r (.x .r (.x .r .r))), fun x => zq15 x.1 x.2.1 x.2.2.1 x.2.2.2.1 x.2.2.2.2, fun y => dV y, fun _ => [], fun _ _ => []⟩
theorem yaxa {t f blocks r d y} (hm : zq15 t f blocks r d = some y) : yapj.C (t, f, blocks, r, d) y := yapj.c (t, f, blocks, r, d) hm
theorem yarm : FnOK Tryz.prog 125 yapj.S := by
 refine fm tt yapj [fo yadb, fo yark, fo yate, fo yakr, fo yati, fo yagw, fo yaww, fo yawk] Tryz.call125 Tryz.func125 rfl Tryz.results125 Tryz.ntmps125 ?_
 rintro ⟨t, f, blocks, r, d⟩ y cx G hm
 have hm : zq15 t f blocks r d = some y := hm
 unfold zq15 at hm
 refine rg G (Ok_seq ?_)
 obtain ⟨r1, h, hm⟩ := obind hm
 refine rs G (hN 2 d.Pieces (hC 3 (yaby h) h0)) ?_
 refine cd hm (fun hm => ?_) (fun hm => ?_)
 ·refine rg G ?_
  cases hm
  exact rt [] []
 ·refine X_skip (thN (rg G (Ok_seq (rs G (hN 2 d.Pieces h0) ?_))))
  refine tF hm (fun s1 => ⟨[(5, .ref 16 0), (6, .ref 32 0), (8, .ref 48 0), (9, .ref 64 0), (11, .own 80)], [bX 16 [dV t.Network.Stops, dV t.Network.Lines, dV t.Trips], bX 32 [dV f.Dead, dV f.Turn], bX 48 [dV r.SignOn, dV r.SignOff, dV r.MaxDrive, dV r.MinBreak, dV r.PaidBreak, dV r.MaxLength], bX 64 [dV d.Pieces], aX 80 3 s1], 112⟩) (fun v5 hr hm => ?_) ?_
  ·refine Ok_block (lpP hm (fun (v, s) => ⟨[(2, dV blocks), (5, .ref 16 0), (6, .ref 32 0), (8, .ref 48 0), (9, .ref 64 0), (11, .own 80), (25, dV d.Pieces), (26, dV (d.Pieces.length : Int)), (27, dV v)], [bX 16 [dV t.Network.Stops, dV t.Network.Lines, dV t.Trips], bX 32 [dV f.Dead, dV f.Turn], bX 48 [dV r.SignOn, dV r.SignOff, dV r.MaxDrive, dV r.MinBreak, dV r.PaidBreak, dV r.MaxLength], bX 64 [dV d.Pieces], aX 80 3 s], 112⟩) (Wk_J G.hL ⟨[(2, []), (5, []), (6, []), (8, []), (9, []), (11, [.o 80]), (25, []), (26, []), (27, [])], [(16, 16, []), (32, 32, []), (48, 48, []), (64, 64, [])], [(80, 3, 1, [])], 112⟩ (by kernel_rfl)) ?_)
   rintro ⟨v, s⟩ r0 hb hm
   rw [yahb] at hm
   refine rg G (Ok_seq (cd hm (fun hm => ?_) (fun hm => ?_)))
   ·refine X_skip (thN (Ok_seq (Ok_block ?_)))
    obtain ⟨e, h1, hm⟩ := obind hm
    refine rs G (hD 0 h1 h0) ?_
    refine Ok_seq ?_
    obtain ⟨r2, h2, hm⟩ := obind hm
    refine rs G (hC 2 (yawr h2) h0) ?_
    refine cd hm (fun hm => ?_) (fun hm => ?_)
    ·refine rg G ?_
     have hm := eL hm hb hr
     cases hm
     exact rt [] []
    ·refine X_skip (thN ?_)
     obtain ⟨u, h3, hm⟩ := obind hm
     refine re G (hA 2 8 h3 h0) ?_
     exact ibN (thN (rh G (wL G hm)))
   ·exact Ok_exit (thE (thE (ibE (wE G hm hb))))
  rintro s1 hm s2 hw
  refine thN (Ok_weak hw ?_)
  obtain ⟨r4, h4, hm⟩ := obind hm
  refine rs G (hC 1 (yaxs h4) h0) ?_
  refine Ok_seq ?_
  obtain ⟨r5, h5, hm⟩ := obind hm
  obtain ⟨r6, h6, hm⟩ := obind hm
  refine rs G (hF 1 (yarr h5) ⟨(flat_cons flat_arr flat_nil), flat_nil⟩ (hC 2 (yaxw h6) (hN 3 r6 (hN 5 r4 h0)))) ?_
  refine cd hm (fun hm => ?_) (fun hm => ?_)
  ·refine rg G ?_
   cases hm
   exact rt [] []
  ·refine X_skip (thN (Ok_seq (rs G (hN 2 d.Pieces h0) ?_)))
   refine tF hm (fun _ => ⟨[(5, .ref 16 0), (6, .ref 32 0), (8, .ref 48 0), (9, .ref 64 0)], [bX 16 [dV t.Network.Stops, dV t.Network.Lines, dV t.Trips], bX 32 [dV f.Dead, dV f.Turn], bX 48 [dV r.SignOn, dV r.SignOff, dV r.MaxDrive, dV r.MinBreak, dV r.PaidBreak, dV r.MaxLength], bX 64 [dV d.Pieces]], 96⟩) (fun v4 hr1 hm => ?_) ?_
   ·refine Ok_block (lp G hm (fun v1 => ⟨[(5, .ref 16 0), (6, .ref 32 0), (8, .ref 48 0), (9, .ref 64 0), (49, dV d.Pieces), (50, dV (d.Pieces.length : Int)), (51, dV v1)], [bX 16 [dV t.Network.Stops, dV t.Network.Lines, dV t.Trips], bX 32 [dV f.Dead, dV f.Turn], bX 48 [dV r.SignOn, dV r.SignOff, dV r.MaxDrive, dV r.MinBreak, dV r.PaidBreak, dV r.MaxLength], bX 64 [dV d.Pieces]], 96⟩) ?_)
    rintro v1 r0 hb1 hm
    rw [yade] at hm
    refine rg G (Ok_seq (cd hm (fun hm => ?_) (fun hm => ?_)))
    ·refine X_skip (thN (Ok_seq (Ok_block ?_)))
     obtain ⟨e2, h7, hm⟩ := obind hm
     refine rs G (hD 0 h7 h0) ?_
     obtain ⟨r7, h8, hm⟩ := obind hm
     refine rs G (hC 2 (yaix h8) h0) ?_
     refine rg G (cd hm (fun hm => ?_) (fun hm => ?_))
     ·refine rg G ?_
      have hm := eL hm hb1 hr1
      cases hm
      exact rt [] []
     ·exact X_skip (ibN (thN (rh G (wL G hm))))
    ·exact Ok_exit (thE (thE (ibE (wE G hm hb1))))
   rintro ⟨⟩ hm s3 hw1
   refine thN (Ok_weak hw1 ?_)
   refine Ok_seq ?_
   obtain ⟨r9, h9, hm⟩ := obind hm
   refine rs G (hC 4 (ybah h9) (hN 5 r9 h0)) ?_
   refine tF hm (fun _ => ⟨[(5, .ref 16 0), (8, .ref 32 0), (9, .ref 48 0)], [bX 16 [dV t.Network.Stops, dV t.Network.Lines, dV t.Trips], bX 32 [dV r.SignOn, dV r.SignOff, dV r.MaxDrive, dV r.MinBreak, dV r.PaidBreak, dV r.MaxLength], bX 48 [dV d.Pieces]], 80⟩) (fun v3 hr2 hm => ?_) ?_
   ·refine Ok_block (lp G hm (fun v2 => ⟨[(5, .ref 16 0), (8, .ref 32 0), (9, .ref 48 0), (71, .own 64), (72, dV (r9.length : Int)), (73, dV v2)], [bX 16 [dV t.Network.Stops, dV t.Network.Lines, dV t.Trips], bX 32 [dV r.SignOn, dV r.SignOff, dV r.MaxDrive, dV r.MinBreak, dV r.PaidBreak, dV r.MaxLength], bX 48 [dV d.Pieces], aX 64 3 r9], 96⟩) ?_)
    rintro v2 r0 hb2 hm
    rw [yadd] at hm
    refine rg G (Ok_seq (cd hm (fun hm => ?_) (fun hm => ?_)))
    ·refine X_skip (thN (Ok_seq (Ok_block ?_)))
     obtain ⟨e4, h10, hm⟩ := obind hm
     refine rs G (hD 0 h10 (hE 1 h10 h0)) ?_
     refine rg G (cd hm (fun hm => ?_) (fun hm => ?_))
     ·refine rg G ?_
      have hm := eL hm hb2 hr2
      cases hm
      exact rt [] []
     ·exact X_skip (ibN (thN (rh G (wL G hm))))
    ·exact Ok_exit (thE (thE (ibE (wE G hm hb2))))
   rintro ⟨⟩ hm s4 hw2
   refine thN (Ok_weak hw2 ?_)
   refine Ok_seq ?_
   obtain ⟨r12, h12, hm⟩ := obind hm
   refine ds G [] (hC 3 (ybad h12) h0) ?_
   refine cd hm (fun hm => ?_) (fun hm => ?_)
   ·refine rg G ?_
    cases hm
    exact rt [] []
   ·refine X_skip (thN (rg G ?_))
    cases hm
    exact rt [] []
def zq3_M : MS (Timetable × Fleet × (List (List Int)) × Rules × (List Int) × (List Int)) (Bool × Bool) := ⟨.x .r (.x .r (.x .r (.x .r (.x .r .r)))), fun x => zq3 x.1 x.2.1 x.2.2.1 x.2.2.2.1 x.2.2.2.2.1 x.2.2.2.2.2, fun y => .tup [dV y.1, dV y.2], fun _ => [], fun _ _ => []⟩
theorem zq3_c {t f blocks r a b y} (hm : zq3 t f blocks r a b = some y) : zq3_M.C (t, f, blocks, r, a, b) y := zq3_M.c (t, f, blocks, r, a, b) hm
theorem yazy : FnOK Tryz.prog 61 zq3_M.S := by
 refine fm tt zq3_M [fo yakj, fo yarm] Tryz.call61 Tryz.func61 rfl Tryz.results61 Tryz.ntmps61 ?_
 rintro ⟨t, f, blocks, r, a, b⟩ y cx G hm
 have hm : zq3 t f blocks r a b = some y := hm
 unfold zq3 at hm
 refine rg G (Ok_seq ?_)
 obtain ⟨r1, h, hm⟩ := obind hm
 refine rs G (hC 4 (yasl h) h0) ?_
 refine cd hm (fun hm => ?_) (fun hm => ?_)
 ·refine rg G ?_
  cases hm
  exact rt [] []
 ·refine X_skip (thN ?_)
  obtain ⟨r2, h1, hm⟩ := obind hm
  refine rs G (hC 8 (yaxa h1) h0) ?_
  cases hm
  exact rt [] []
def zq2_M : MS (Timetable × Fleet × (List (List Int)) × Rules × Duty) (Int × Bool) := ⟨.x .r (.x .r (.x .r (.x .r .r))), fun x => zq2 x.1 x.2.1 x.2.2.1 x.2.2.2.1 x.2.2.2.2, fun y => .tup [dV y.1, dV y.2], fun _ => [], fun _ _ => []⟩
theorem zq2_c {t f blocks r d y} (hm : zq2 t f blocks r d = some y) : zq2_M.C (t, f, blocks, r, d) y := zq2_M.c (t, f, blocks, r, d) hm
theorem ybac : FnOK Tryz.prog 48 zq2_M.S := by
 refine fm tt zq2_M [fo yakj, fo yarm] Tryz.call48 Tryz.func48 rfl Tryz.results48 Tryz.ntmps48 ?_
 rintro ⟨t, f, blocks, r, d⟩ y cx G hm
 have hm : zq2 t f blocks r d = some y := hm
 unfold zq2 at hm
 refine rg G (Ok_seq ?_)
 obtain ⟨r1, h, hm⟩ := obind hm
 refine rs G (hC 4 (yasl h) h0) ?_
 refine cd hm (fun hm => ?_) (fun hm => ?_)
 ·refine rg G ?_
  cases hm
  exact rt [] []
 ·refine X_skip (thN ?_)
  obtain ⟨r2, h1, hm⟩ := obind hm
  refine rs G (hC 5 (yaxa h1) h0) ?_
  cases hm
  exact rt [] []
def yamd : MS ((List Int) × (List Int)) Bool := ⟨.x .r .r, fun x => zq92 x.1 x.2, fun y => dV y, fun _ => [], fun _ _ => []⟩
theorem yayw {a b y} (hm : zq92 a b = some y) : yamd.C (a, b) y := yamd.c (a, b) hm
theorem yaul : FnOK Tryz.prog 228 yamd.S := by
 refine fm tt yamd [] Tryz.call228 Tryz.func228 rfl Tryz.results228 Tryz.ntmps228 ?_
 rintro ⟨a, b⟩ y cx G hm
 have hm : zq92 a b = some y := hm
 unfold zq92 at hm
 refine rg G (Ok_seq (rs G (hN 1 a (hN 3 b h0)) ?_))
 refine cd hm (fun hm => ?_) (fun hm => ?_)
 ·refine rg G ?_
  cases hm
  exact rt [] []
 ·refine X_skip (thN (Ok_seq (rg G (tF hm (fun _ => ⟨[], [], 32⟩) (fun v1 hr hm => ?_) ?_))))
  ·refine Ok_block (lp G hm (fun v => ⟨[(0, dV a), (1, dV b), (5, dV v)], [], 32⟩) ?_)
   rintro v r0 hb hm
   rw [yaeu] at hm
   refine Ok_seq (rs G (hN 2 a h0) ?_)
   refine cd hm (fun hm => ?_) (fun hm => ?_)
   ·refine X_skip (thN (Ok_seq (Ok_block ?_)))
    obtain ⟨e2, h2, hm⟩ := obind hm
    obtain ⟨e3, h3, hm⟩ := obind hm
    refine ds G [] (hD 2 h2 (hD 6 h3 h0)) ?_
    refine cd hm (fun hm => ?_) (fun hm => ?_)
    ·refine rg G ?_
     have hm := eL hm hb hr
     cases hm
     exact rt [] []
    ·exact X_skip (ibN (thN (rh G (wL G hm))))
   ·exact Ok_exit (thE (thE (ibE (wE G hm hb))))
  rintro ⟨⟩ hm s hw
  refine thN (Ok_weak hw ?_)
  refine rg G ?_
  cases hm
  exact rt [] []
def yanm : MS ((List (List Int)) × (List Int)) Bool := ⟨.x .r .r, fun x => zq61 x.1 x.2, fun y => dV y, fun _ => [], fun _ _ => []⟩
theorem yazk {blocks piece y} (hm : zq61 blocks piece = some y) : yanm.C (blocks, piece) y := yanm.c (blocks, piece) hm
theorem yavk : FnOK Tryz.prog 196 yanm.S := by
 refine fm tt yanm [fo yare, fo yaul] Tryz.call196 Tryz.func196 rfl Tryz.results196 Tryz.ntmps196 ?_
 rintro ⟨blocks, piece⟩ y cx G hm
 have hm : zq61 blocks piece = some y := hm
 unfold zq61 at hm
 refine rg G (Ok_seq (rs G (hN 1 piece h0) ?_))
 refine cd hm (fun hm => ?_) (fun hm => ?_)
 ·refine rg G ?_
  cases hm
  exact rt [] []
 ·refine X_skip (thN ?_)
  obtain ⟨e, h, hm⟩ := obind hm
  obtain ⟨r, h1, hm⟩ := obind hm
  refine rs G (hD 2 h (hC 4 (yavt h1) h0)) ?_
  refine Ok_seq (jn hm (fun v => ⟨[(0, dV blocks), (1, dV piece), (5, dV r.1), (6, dV r.2), (31, dV v)], [], 32⟩) (fun v hm => ?_) ?_)
  ·rcases bf hm with ⟨hb, hm⟩ | ⟨hb, hm⟩
   ·refine re G (hO 2 (.b true) (hP hb h0)) ?_
    exact wJ G hm
   ·obtain ⟨e1, h2, hm⟩ := obind hm
    refine re G (hO 2 (.b false) (hP hb (hN 5 piece (hD 9 h2 (hN 11 e1 h0))))) ?_
    exact wJ G hm
  rintro v hm
  refine cd hm (fun hm => ?_) (fun hm => ?_)
  ·refine rg G ?_
   cases hm
   exact rt [] []
  ·refine X_skip (thN ?_)
   obtain ⟨e2, h3, hm⟩ := obind hm
   obtain ⟨u, h4, hm⟩ := obind hm
   obtain ⟨r1, h5, hm⟩ := obind hm
   refine rs G (hD 2 h3 (hN 7 piece (hU 9 h4 (hC 11 (yayw h5) h0)))) ?_
   cases hm
   exact rt [] []
def yanl : MS ((List (List Int)) × Duty) Bool := ⟨.x .r .r, fun x => zq62 x.1 x.2, fun y => dV y, fun _ => [], fun _ _ => []⟩
theorem yazj {blocks d y} (hm : zq62 blocks d = some y) : yanl.C (blocks, d) y := yanl.c (blocks, d) hm
theorem yavj : FnOK Tryz.prog 199 yanl.S := by
 refine fm tt yanl [fo yavk, fo yaqr, fo yace] Tryz.call199 Tryz.func199 rfl Tryz.results199 Tryz.ntmps199 ?_
 rintro ⟨blocks, d⟩ y cx G hm
 have hm : zq62 blocks d = some y := hm
 unfold zq62 at hm
 refine rg G (rg G (Ok_seq (rg G (tF hm (fun _ => ⟨[(3, .ref 16 0)], [bX 16 [dV d.Pieces]], 48⟩) (fun v3 hr hm => ?_) ?_))))
 ·refine Ok_block (lp G hm (fun (v, k) => ⟨[(0, dV blocks), (3, .ref 16 0), (5, .own 32), (6, dV v)], [bX 16 [dV d.Pieces], aX 32 3 k], 64⟩) ?_)
  rintro ⟨v, k⟩ r0 hb hm
  rw [yagm] at hm
  refine Ok_seq (rs G (hN 3 d.Pieces h0) ?_)
  refine cd hm (fun hm => ?_) (fun hm => ?_)
  ·refine X_skip (thN (Ok_seq (Ok_block (Ok_seq ?_))))
   obtain ⟨e, h, hm⟩ := obind hm
   obtain ⟨r, h1, hm⟩ := obind hm
   refine rs G (hD 4 h (hC 6 (yazk h1) h0)) ?_
   refine cd hm (fun hm => ?_) (fun hm => ?_)
   ·refine rg G ?_
    have hm := eL hm hb hr
    cases hm
    exact rt [] []
   ·refine X_skip (thN (rg G (tF hm (fun k2 => ⟨[(0, dV blocks), (3, .ref 16 0), (5, .own 32), (6, dV v)], [bX 16 [dV d.Pieces], aX 32 3 k2], 64⟩) (fun v2 hr1 hm => ?_) ?_)))
    ·refine Ok_block (lp G hm (fun (v1, k1) => ⟨[(0, dV blocks), (3, .ref 16 0), (5, .own 32), (6, dV v), (7, dV v1)], [bX 16 [dV d.Pieces], aX 32 3 k1], 64⟩) ?_)
     rintro ⟨v1, k1⟩ r0 hb1 hm
     rw [yagn] at hm
     refine Ok_seq ?_
     obtain ⟨e2, h2, hm⟩ := obind hm
     refine rs G (hD 4 h2 (hN 6 e2 h0)) ?_
     refine cd hm (fun hm => ?_) (fun hm => ?_)
     ·refine X_skip (thN (Ok_seq (Ok_block (Ok_seq ?_))))
      obtain ⟨e3, h3, hm⟩ := obind hm
      obtain ⟨e4, h4, hm⟩ := obind hm
      obtain ⟨r2, h5, hm⟩ := obind hm
      refine rs G (hD 4 h3 (hD 7 h4 (hC 9 (yaml h5) h0))) ?_
      refine cd hm (fun hm => ?_) (fun hm => ?_)
      ·refine rg G ?_
       have hm := eL hm hb1 hr1
       have hm := eL hm hb hr
       cases hm
       exact rt [] []
      ·refine X_skip (thN ?_)
       obtain ⟨e7, h6, hm⟩ := obind hm
       obtain ⟨e8, h7, hm⟩ := obind hm
       obtain ⟨u, h8, hm⟩ := obind hm
       refine re G (hD 4 h6 (hD 7 h7 (hA 10 8 h8 h0))) ?_
       exact ibN (thN (rh G (wL G hm)))
     ·exact Ok_exit (thE (thE (ibE (wE G hm hb1))))
    rintro k2 hm s hw
    refine ibN (thN (Ok_weak hw ?_))
    exact rh G (wL G hm)
  ·exact Ok_exit (thE (thE (ibE (wE G hm hb))))
 rintro ⟨⟩ hm s1 hw1
 refine thN (Ok_weak hw1 ?_)
 obtain ⟨r5, h9, hm⟩ := obind hm
 refine rs G (hN 2 d.Pieces (hC 3 (yabi h9) h0)) ?_
 cases hm
 exact rt [] []
def yanp : MS (Timetable × Fleet × (List Int) × (List Int)) Int := ⟨.x .r (.x .r (.x .r .r)), fun x => zq58 x.1 x.2.1 x.2.2.1 x.2.2.2, fun y => dV y, fun _ => [], fun _ _ => []⟩
theorem yazm {t f a b y} (hm : zq58 t f a b = some y) : yanp.C (t, f, a, b) y := yanp.c (t, f, a, b) hm
theorem yavo : FnOK Tryz.prog 200 yanp.S := by
 refine fm tt yanp [fo yagl, fo yago, fo yaek, fo yags] Tryz.call200 Tryz.func200 rfl Tryz.results200 Tryz.ntmps200 ?_
 rintro ⟨t, f, a, b⟩ y cx G hm
 have hm : zq58 t f a b = some y := hm
 unfold zq58 at hm
 refine rg G ?_
 obtain ⟨r5, h7, hm⟩ := obind hm
 obtain ⟨r6, h8, hm⟩ := obind hm
 obtain ⟨e2, h9, hm⟩ := obind hm
 obtain ⟨r7, h10, hm⟩ := obind hm
 obtain ⟨e3, h11, hm⟩ := obind hm
 obtain ⟨r8, h12, hm⟩ := obind hm
 obtain ⟨r9, h13, hm⟩ := obind hm
 refine ds G [] (hC 2 (yani h7) (hC 5 (yanq h8) (hN 12 a (hD 14 h9 (hC 16 (yadg h10) (hD 19 h11 (hC 21 (yadg h12) (hC 22 (yanz h13) h0)))))))) ?_
 cases hm
 exact rt [] []
def yano : MS (Timetable × Rules × Duty) Int := ⟨.x .r (.x .r .r), fun x => zq59 x.1 x.2.1 x.2.2, fun y => dV y, fun _ => [], fun _ _ => []⟩
theorem yazl {t r d y} (hm : zq59 t r d = some y) : yano.C (t, r, d) y := yano.c (t, r, d) hm
theorem yavn : FnOK Tryz.prog 201 yano.S := by
 refine fm tt yano [fo yago, fo yagl] Tryz.call201 Tryz.func201 rfl Tryz.results201 Tryz.ntmps201 ?_
 rintro ⟨t, r, d⟩ y cx G hm
 have hm : zq59 t r d = some y := hm
 unfold zq59 at hm
 refine rg G ?_
 obtain ⟨e2, h4, hm⟩ := obind hm
 obtain ⟨r3, h5, hm⟩ := obind hm
 obtain ⟨e3, h6, hm⟩ := obind hm
 obtain ⟨r4, h7, hm⟩ := obind hm
 refine ds G [] (hN 7 d.Pieces (hD 9 h4 (hC 11 (yanq h5) (hD 16 h6 (hC 18 (yani h7) h0))))) ?_
 cases hm
 exact rt [] []
def yans : MS (Timetable × Fleet × (List (List Int)) × Rules × Duty) Int := ⟨.x .r (.x .r (.x .r (.x .r .r))), fun x => zq56 x.1 x.2.1 x.2.2.1 x.2.2.2.1 x.2.2.2.2, fun y => dV y, fun _ => [], fun _ _ => []⟩
theorem yazn {t f blocks r d y} (hm : zq56 t f blocks r d = some y) : yans.C (t, f, blocks, r, d) y := yans.c (t, f, blocks, r, d) hm
theorem yavp : FnOK Tryz.prog 127 yans.S := by
 refine fm tt yans [fo yavj, fo yago, fo yagl, fo yavo, fo yavn] Tryz.call127 Tryz.func127 rfl Tryz.results127 Tryz.ntmps127 ?_
 rintro ⟨t, f, blocks, r, d⟩ y cx G hm
 have hm : zq56 t f blocks r d = some y := hm
 unfold zq56 at hm
 refine rg G (Ok_seq ?_)
 obtain ⟨r1, h, hm⟩ := obind hm
 refine rs G (hC 2 (yazj h) h0) ?_
 refine cd hm (fun hm => ?_) (fun hm => ?_)
 ·refine rg G ?_
  cases hm
  exact rt [] []
 ·refine X_skip (thN (Ok_seq (rg G (tF hm (fun _ => ⟨[(5, .ref 16 0), (6, .ref 32 0), (8, .ref 48 0), (9, .ref 64 0)], [bX 16 [dV t.Network.Stops, dV t.Network.Lines, dV t.Trips], bX 32 [dV f.Dead, dV f.Turn], bX 48 [dV r.SignOn, dV r.SignOff, dV r.MaxDrive, dV r.MinBreak, dV r.PaidBreak, dV r.MaxLength], bX 64 [dV d.Pieces]], 96⟩) (fun v3 hr hm => ?_) ?_))))
  ·refine Ok_block (lp G hm (fun v => ⟨[(5, .ref 16 0), (6, .ref 32 0), (8, .ref 48 0), (9, .ref 64 0), (11, dV v)], [bX 16 [dV t.Network.Stops, dV t.Network.Lines, dV t.Trips], bX 32 [dV f.Dead, dV f.Turn], bX 48 [dV r.SignOn, dV r.SignOff, dV r.MaxDrive, dV r.MinBreak, dV r.PaidBreak, dV r.MaxLength], bX 64 [dV d.Pieces]], 96⟩) ?_)
   rintro v r0 hb hm
   rw [yacz] at hm
   refine Ok_seq (rs G (hN 3 d.Pieces h0) ?_)
   refine cd hm (fun hm => ?_) (fun hm => ?_)
   ·refine X_skip (thN (Ok_seq (Ok_block ?_)))
    obtain ⟨e2, h5, hm⟩ := obind hm
    obtain ⟨r4, h6, hm⟩ := obind hm
    obtain ⟨e3, h7, hm⟩ := obind hm
    obtain ⟨r5, h8, hm⟩ := obind hm
    refine ds G [] (hD 4 h5 (hC 6 (yanq h6) (hD 11 h7 (hC 13 (yani h8) h0)))) ?_
    refine cd hm (fun hm => ?_) (fun hm => ?_)
    ·refine rg G ?_
     have hm := eL hm hb hr
     cases hm
     exact rt [] []
    ·exact X_skip (ibN (thN (rh G (wL G hm))))
   ·exact Ok_exit (thE (thE (ibE (wE G hm hb))))
  rintro ⟨⟩ hm s hw
  refine thN (Ok_weak hw ?_)
  refine Ok_seq (rg G (tF hm (fun _ => ⟨[(5, .ref 16 0), (8, .ref 32 0), (9, .ref 48 0)], [bX 16 [dV t.Network.Stops, dV t.Network.Lines, dV t.Trips], bX 32 [dV r.SignOn, dV r.SignOff, dV r.MaxDrive, dV r.MinBreak, dV r.PaidBreak, dV r.MaxLength], bX 48 [dV d.Pieces]], 80⟩) (fun v2 hr1 hm => ?_) ?_))
  ·refine Ok_block (lp G hm (fun v1 => ⟨[(5, .ref 16 0), (6, .ref 32 0), (8, .ref 48 0), (9, .ref 64 0), (12, dV v1)], [bX 16 [dV t.Network.Stops, dV t.Network.Lines, dV t.Trips], bX 32 [dV f.Dead, dV f.Turn], bX 48 [dV r.SignOn, dV r.SignOff, dV r.MaxDrive, dV r.MinBreak, dV r.PaidBreak, dV r.MaxLength], bX 64 [dV d.Pieces]], 96⟩) ?_)
   rintro v1 r0 hb1 hm
   rw [yacy] at hm
   refine Ok_seq (rs G (hN 3 d.Pieces h0) ?_)
   refine cd hm (fun hm => ?_) (fun hm => ?_)
   ·refine X_skip (thN (Ok_seq (Ok_block ?_)))
    obtain ⟨e7, h12, hm⟩ := obind hm
    obtain ⟨e8, h13, hm⟩ := obind hm
    obtain ⟨r8, h14, hm⟩ := obind hm
    refine ds G [] (hD 6 h12 (hD 11 h13 (hC 13 (yazm h14) h0))) ?_
    refine cd hm (fun hm => ?_) (fun hm => ?_)
    ·refine rg G ?_
     have hm := eL hm hb1 hr1
     cases hm
     exact rt [] []
    ·exact X_skip (ibN (thN (rh G (wL G hm))))
   ·exact Ok_exit (thE (thE (ibE (wE G hm hb1))))
  rintro ⟨⟩ hm s1 hw1
  refine thN (Ok_weak hw1 ?_)
  refine Ok_seq ?_
  obtain ⟨r11, h16, hm⟩ := obind hm
  refine ds G [] (hC 3 (yazl h16) h0) ?_
  refine cd hm (fun hm => ?_) (fun hm => ?_)
  ·refine rg G ?_
   cases hm
   exact rt [] []
  ·refine X_skip (thN (rg G ?_))
   cases hm
   exact rt [] []
def yaoj : MS (Timetable × Fleet × (List (List Int)) × Rules × (List Int) × (List Int)) (Bool × Bool) := ⟨.x .r (.x .r (.x .r (.x .r (.x .r .r)))), fun x => zq41 x.1 x.2.1 x.2.2.1 x.2.2.2.1 x.2.2.2.2.1 x.2.2.2.2.2, fun y => .tup [dV y.1, dV y.2], fun _ => [], fun _ _ => []⟩
theorem yazw {t f blocks r a b y} (hm : zq41 t f blocks r a b = some y) : yaoj.C (t, f, blocks, r, a, b) y := yaoj.c (t, f, blocks, r, a, b) hm
theorem yawb : FnOK Tryz.prog 62 yaoj.S := by
 refine fm tt yaoj [fo yarc, fo yavp] Tryz.call62 Tryz.func62 rfl Tryz.results62 Tryz.ntmps62 ?_
 rintro ⟨t, f, blocks, r, a, b⟩ y cx G hm
 have hm : zq41 t f blocks r a b = some y := hm
 unfold zq41 at hm
 refine rg G (Ok_seq ?_)
 obtain ⟨r1, h, hm⟩ := obind hm
 refine rs G (hC 4 (yasf h) h0) ?_
 refine cd hm (fun hm => ?_) (fun hm => ?_)
 ·refine rg G ?_
  cases hm
  exact rt [] []
 ·refine X_skip (thN ?_)
  obtain ⟨r2, h1, hm⟩ := obind hm
  refine rs G (hC 8 (yazn h1) h0) ?_
  cases hm
  exact rt [] []
def yaco : MS ((List UInt8)) Bool := ⟨.r, yabt, fun y => dV y, fun _ => [], fun _ _ => []⟩
theorem v_FnPieces_ok : FnOK Tryz.prog 8 yaco.S := by
 refine fm tt yaco [fo yaso, fo yavz, fo yaxy, fo yavy, fo yasm, fo yazp, fo yawa, fo yazy, fo ybac, fo yawb] Tryz.call8 Tryz.func8 rfl Tryz.results8 Tryz.ntmps8 ?_
 rintro code y cx G hm
 have hm : yabt code = some y := hm
 unfold yabt at hm
 refine rg G (Ok_seq ?_)
 obtain ⟨r, h, hm⟩ := obind hm
 refine rs G (hC 1 (yaxe h) h0) ?_
 refine cd hm (fun hm => ?_) (fun hm => ?_)
 ·refine rg G ?_
  cases hm
  exact rt [] []
 ·refine X_skip (thN ?_)
  obtain ⟨r1, h1, hm⟩ := obind hm
  refine rs G (hC 1 (yazu h1) h0) ?_
  obtain ⟨r2, h2, hm⟩ := obind hm
  refine rs G (hO 5 (.fz [80] [] []) (hC 5 (yban h2) h0)) ?_
  refine Ok_seq ?_
  obtain ⟨r3, h3, hm⟩ := obind hm
  refine rs G (hC 5 (yazt h3) h0) ?_
  refine jn hm (fun v => ⟨[(0, dV code), (3, .ref 16 0), (4, .ref 32 0), (5, dV r1.2.2.1), (7, dV r1.2.2.2.2), (8, dV r2.1), (63, dV v)], [bX 16 [dV r1.1.Network.Stops, dV r1.1.Network.Lines, dV r1.1.Trips], bX 32 [dV r1.2.1.Dead, dV r1.2.1.Turn]], 64⟩) (fun v hm => ?_) ?_
  ·rcases bf hm with ⟨hb, hm⟩ | ⟨hb, hm⟩
   ·refine re G (hO 3 (.b true) (hP hb h0)) ?_
    exact wJ G hm
   ·obtain ⟨r4, h4, hm⟩ := obind hm
    refine re G (hO 3 (.b false) (hP hb (hC 6 (yaxc h4) h0))) ?_
    exact wJ G hm
  rintro v hm
  refine cd hm (fun hm => ?_) (fun hm => ?_)
  ·refine rg G ?_
   cases hm
   exact rt [] []
  ·refine X_skip (thN (Ok_seq (rg G (tF hm (fun _ => ⟨[(0, dV code)], [], 32⟩) (fun v2 hr hm => ?_) ?_))))
   ·refine Ok_block (lp G hm (fun yes => ⟨[(0, dV code), (3, .ref 16 0), (4, .ref 32 0), (5, dV r1.2.2.1), (7, dV r1.2.2.2.2), (8, dV r2.1), (12, dV yes)], [bX 16 [dV r1.1.Network.Stops, dV r1.1.Network.Lines, dV r1.1.Trips], bX 32 [dV r1.2.1.Dead, dV r1.2.1.Turn]], 64⟩) ?_)
    rintro yes r0 hb1 hm
    rw [yabf] at hm
    refine Ok_seq (rs G (hN 2 r2.1 h0) ?_)
    refine cd hm (fun hm => ?_) (fun hm => ?_)
    ·refine X_skip (thN (Ok_seq (Ok_block ?_)))
     obtain ⟨e1, h7, hm⟩ := obind hm
     obtain ⟨r6, h8, hm⟩ := obind hm
     refine ds G [] (hD 5 h7 (hC 7 (zq4_c h8) h0)) ?_
     refine jn hm (fun v1 => ⟨[(0, dV code), (3, .ref 16 0), (4, .ref 32 0), (5, dV r1.2.2.1), (7, dV r1.2.2.2.2), (8, dV r2.1), (12, dV yes), (104, dV v1)], [bX 16 [dV r1.1.Network.Stops, dV r1.1.Network.Lines, dV r1.1.Trips], bX 32 [dV r1.2.1.Dead, dV r1.2.1.Turn]], 64⟩) (fun v1 hm => ?_) ?_
     ·rcases bf hm with ⟨hb2, hm⟩ | ⟨hb2, hm⟩
      ·refine re G (hO 2 (.b true) (hP hb2 h0)) ?_
       exact wJ G hm
      ·rcases bf hm with ⟨hb3, hm⟩ | ⟨hb3, hm⟩
       ·refine re G (hO 2 (.b false) (hP hb2 (hO 6 (.b true) (hP hb3 h0)))) ?_
        exact wJ G hm
       ·obtain ⟨e2, h9, hm⟩ := obind hm
        rcases bf hm with ⟨hb4, hm⟩ | ⟨hb4, hm⟩
        ·refine re G (hO 2 (.b false) (hP hb2 (hO 6 (.b false) (hP hb3 (hD 9 h9 (hN 11 e2 (hO 14 (.b true) (hP hb4 h0)))))))) ?_
         exact wJ G hm
        ·obtain ⟨e3, h10, hm⟩ := obind hm
         obtain ⟨e4, h11, hm⟩ := obind hm
         refine re G (hO 2 (.b false) (hP hb2 (hO 6 (.b false) (hP hb3 (hD 9 h9 (hN 11 e2 (hO 14 (.b false) (hP hb4 (hD 17 h10 (hD 19 h11 h0)))))))))) ?_
         exact wJ G hm
     rintro v1 hm
     refine cd hm (fun hm => ?_) (fun hm => ?_)
     ·refine rg G ?_
      have hm := eL hm hb1 hr
      cases hm
      exact rt [] []
     ·exact X_skip (ibN (thN (rh G (wL G hm))))
    ·exact Ok_exit (thE (thE (ibE (wE G hm hb1))))
   rintro ⟨⟩ hm s hw
   refine thN (Ok_weak hw ?_)
   obtain ⟨r8, h12, hm⟩ := obind hm
   refine rs G (hC 1 (yazv h12) h0) ?_
   obtain ⟨r9, h13, hm⟩ := obind hm
   refine rs G (hC 6 (zq3_c h13) h0) ?_
   obtain ⟨r10, h14, hm⟩ := obind hm
   refine rs G (hO 6 (.fz [49, 50] [] []) (hC 8 (zq2_c h14) h0)) ?_
   obtain ⟨r11, h15, hm⟩ := obind hm
   refine rs G (hC 6 (yazw h15) h0) ?_
   refine jn hm (fun t => ⟨[(2, dV t)], [], 32⟩) (fun t hm => ?_) ?_
   ·rcases bf hm with ⟨hb5, hm⟩ | ⟨hb5, hm⟩
    ·rcases bf hm with ⟨hb6, hm⟩ | ⟨hb6, hm⟩
     ·rcases bf hm with ⟨hb7, hm⟩ | ⟨hb7, hm⟩
      ·rcases bf hm with ⟨hb8, hm⟩ | ⟨hb8, hm⟩
       ·refine re G (hO 3 (.b true) (hP hb5 (hO 8 (.b true) (hP hb6 (hO 13 (.b true) (hP hb7 (hO 16 (.b true) (hP hb8 h0)))))))) ?_
        exact wJ G hm
       ·refine re G (hO 3 (.b true) (hP hb5 (hO 8 (.b true) (hP hb6 (hO 13 (.b true) (hP hb7 (hO 16 (.b false) (hP hb8 h0)))))))) ?_
        exact wJ G hm
      ·refine re G (hO 3 (.b true) (hP hb5 (hO 8 (.b true) (hP hb6 (hO 13 (.b false) (hP hb7 h0)))))) ?_
       exact wJ G hm
     ·refine re G (hO 3 (.b true) (hP hb5 (hO 8 (.b false) (hP hb6 h0)))) ?_
      exact wJ G hm
    ·refine re G (hO 3 (.b false) (hP hb5 h0)) ?_
     exact wJ G hm
   rintro t hm
   cases hm
   exact rt [] []
end
end Go.Proofs.YtaegkodcjpgndaaGreat
