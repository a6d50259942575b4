/- Each function computes what its model says. Made by program (dec.py). -/
import Derived.Test.YtmpgpfekekobfaaRrW1
namespace Go.Proofs.Ytmpgpfekekobfaa
open Go Go.Ab
set_option maxRecDepth 100000
set_option maxHeartbeats 4000000
set_option linter.unusedVariables false
set_option linter.unusedSimpArgs false
abbrev slices_Clone_int_f_r (y : (List Int)) : AV := .dat (Enc.e y)
abbrev slices_Clone_int_f_n (y : (List Int)) : List Obj' := []
abbrev slices_Clone_int_f_o (x : (List Int)) (y : (List Int)) : List Obj' := []
noncomputable def slices_Clone_int_f_S : FnSpec := modS [none] (fun x : (List Int) => [Enc.e x]) (fun x : (List Int) => []) (fun x : (List Int) => slices_Clone_int_f x) slices_Clone_int_f_r slices_Clone_int_f_n slices_Clone_int_f_o
theorem slices_Clone_int_f_c {s : List Int} {y : (List Int)} (h : slices_Clone_int_f s = some y) : CallOK slices_Clone_int_f_S [Enc.e s] [] (slices_Clone_int_f_r y) (slices_Clone_int_f_n y) (slices_Clone_int_f_o s y) :=
  modS_call (by
    rintro a0 b0 h hO
    simp only [List.cons.injEq, and_true] at h
    try simp only [List.cons.injEq, and_true, Obj'.box.injEq, Obj'.arr.injEq, true_and, AV.dat.injEq] at hO
    have h0 := h
    have q0 := Enc.inj _ _ h0
    subst q0; rfl) (x := s) h
theorem slices_Clone_int_f_ok : FnOK Try.prog 52 slices_Clone_int_f_S := by
  have Γok : ∀ f S, lookF f [] = some S → FnOK Try.prog f S := lookF_ok allF_nil
  have Γlive : Live (fun f => lookF f []) := lookF_live allL_nil
  refine fnOK_mod ty_ok (fun args w => Try.call52 args w) Try.func52 rfl [.tmp 2] (by rw [Try.results52]) 8 Try.ntmps52 16 rfl (fun _ => by first | exact Nat.zero_le _ | (simp)) (fun _ => rfl) ?_
  rintro s y cx hm hL
  have hm : slices_Clone_int_f s = some y := hm
  have hL : cx.L = 0 := hL
  unfold slices_Clone_int_f at hm
  obtain ⟨u, h, hm⟩ := obind hm
  obtain rfl := some_inj hm
  refine X_reg_seq ty_ok Γok hL [] .nil (by kernel_rfl) ?_
  refine Ok_seq ?_
  refine X_nil_seq ty_ok Γok 1 (ds := List.map Enc.e s) (es := 1) [] .nil (by kernel_rfl) (by rfl) (by rfl) (by kernel_rfl) ?_
  intro b hb
  refine X_cond b (by kernel_rfl) (fun hc => ?_) (fun hc => ?_)
  · have hl : s = [] := by
      cases s with
      | nil => rfl
      | cons a r => have := hb (by simp); rw [hc] at this; cases this
    subst hl
    refine X_reg_seq ty_ok Γok hL [] .nil (by kernel_rfl) ?_
    refine Ok_weak (Wk_J (x' := ⟨[(2, .own 16)], [(16, some (.arr 3 1 []))], 32⟩) hL ⟨[(2, [.o 16])], [], [(16, 3, 1, [])], 32⟩ (by kernel_rfl)) ?_
    refine Ok_ret ?_
    repeat (first | refine thR ?_ | refine ibR ?_)
    exact X_fin [] [] (by kernel_rfl) trivial
  · refine X_skip ?_
    refine thN ?_
    refine X_reg_seq ty_ok Γok hL [(2, .l (List.map Enc.e (([] : List Int) ++ s)))] (.cons (app_p (f := Enc.e) (g := Enc.e) (l := ([] : List Int)) (r := s) (b := 8) (chk_t h) rfl) (.cons (app_m Enc.e ([] : List Int) s) .nil)) (by kernel_rfl) ?_
    refine Ok_ret ?_
    repeat (first | refine thR ?_ | refine ibR ?_)
    exact X_fin [] [] (by kernel_rfl) trivial
abbrev i_TurnRoster_r (y : Roster × Bool) : AV := .tup [.dat (Enc.e y.1), .dat (Enc.e y.2)]
abbrev i_TurnRoster_n (y : Roster × Bool) : List Obj' := []
abbrev i_TurnRoster_o (x : Roster × Int) (y : Roster × Bool) : List Obj' := []
noncomputable def i_TurnRoster_S : FnSpec := modS [none, none] (fun x : Roster × Int => [Enc.e x.1, Enc.e x.2]) (fun x : Roster × Int => []) (fun x : Roster × Int => i_TurnRoster x.1 x.2) i_TurnRoster_r i_TurnRoster_n i_TurnRoster_o
theorem i_TurnRoster_c {r : Roster} {turns : Int} {y : Roster × Bool} (h : i_TurnRoster r turns = some y) : CallOK i_TurnRoster_S [Enc.e r, Enc.e turns] [] (i_TurnRoster_r y) (i_TurnRoster_n y) (i_TurnRoster_o (r, turns) y) :=
  modS_call (by
    rintro ⟨a0, a1⟩ ⟨b0, b1⟩ h hO
    simp only [List.cons.injEq, and_true] at h
    try simp only [List.cons.injEq, and_true, Obj'.box.injEq, Obj'.arr.injEq, true_and, AV.dat.injEq] at hO
    obtain ⟨h0, h1⟩ := h
    have q0 := Enc.inj _ _ h0
    have q1 := Enc.inj _ _ h1
    subst q0; subst q1; rfl) (x := (r, turns)) h
theorem i_TurnRoster_ok : FnOK Try.prog 13 i_TurnRoster_S := by
  have Γok : ∀ f S, lookF f [(42, i_IsValidRoster_S), (50, i_within_S), (51, i_copyRoster_S), (52, slices_Clone_int_f_S)] = some S → FnOK Try.prog f S := lookF_ok (allF_cons i_IsValidRoster_ok (allF_cons i_within_ok (allF_cons i_copyRoster_ok (allF_cons slices_Clone_int_f_ok allF_nil))))
  have Γlive : Live (fun f => lookF f [(42, i_IsValidRoster_S), (50, i_within_S), (51, i_copyRoster_S), (52, slices_Clone_int_f_S)]) := lookF_live (allL_cons modS_live (allL_cons modS_live (allL_cons modS_live (allL_cons modS_live allL_nil))))
  refine fnOK_mod ty_ok (fun args w => Try.call13 args w) Try.func13 rfl [.cell 4 29, .tmp 5] (by rw [Try.results13]) 43 Try.ntmps13 16 rfl (fun _ => by first | exact Nat.zero_le _ | (simp)) (fun _ => rfl) ?_
  rintro ⟨r, turns⟩ y cx hm hL
  have hm : i_TurnRoster r turns = some y := hm
  have hL : cx.L = 0 := hL
  unfold i_TurnRoster at hm
  refine X_reg_seq ty_ok Γok hL [] .nil (by kernel_rfl) ?_
  refine Ok_seq ?_
  obtain ⟨r1, h, hm⟩ := obind hm
  obtain ⟨v, hv, hk⟩ := obind hm
  refine X_join (n := 43) (fun (v : Bool) => (⟨[(1, .dat (.sc (.int .i64 turns))), (2, .ref 16 0), (4, .ref 32 0), (15, .dat (.sc (.bool v)))], [(16, some (.box [.dat (Enc.e r.Shifts), .dat (.sc (.int .i64 r.Rules.MinRest)), .dat (.sc (.int .i64 r.Rules.MaxRow)), .dat (.sc (.int .i64 r.Rules.MaxWeek)), .dat (Enc.e r.Plan)])), (32, some (.box [.dat (.sc (.slice none 0 0)), .dat (.sc (.int .i64 0)), .dat (.sc (.int .i64 0)), .dat (.sc (.int .i64 0)), .dat (.sc (.slice none 0 0))]))], 64⟩ : X)) v ?_ ?_
  · have hm := hv
    rcases btf (!r1) with hb | hb
    · have hm := it hb hm
      obtain rfl := some_inj hm
      refine X_reg ty_ok Γok hL [(1, .c (i_IsValidRoster_r r1) (i_IsValidRoster_n r1) (i_IsValidRoster_o r r1)), (3, .b true)] (.cons (i_IsValidRoster_c h) (.cons hb .nil)) (by kernel_rfl) ?_
      exact thN (Wk_J hL ⟨[(1, []), (2, []), (4, []), (15, [])], [(16, 16, []), (32, 32, [])], [], 64⟩ (by kernel_rfl))
    · have hm := ie hb hm
      obtain ⟨r2, h1, hm⟩ := obind hm
      obtain rfl := some_inj hm
      refine X_reg ty_ok Γok hL [(1, .c (i_IsValidRoster_r r1) (i_IsValidRoster_n r1) (i_IsValidRoster_o r r1)), (3, .b false), (5, .c (i_within_r r2) (i_within_n r2) (i_within_o (turns, 0, 100) r2))] (.cons (i_IsValidRoster_c h) (.cons hb (.cons (i_within_c h1) .nil))) (by kernel_rfl) ?_
      exact thN (Wk_J hL ⟨[(1, []), (2, []), (4, []), (15, [])], [(16, 16, []), (32, 32, [])], [], 64⟩ (by kernel_rfl))
  have hm := hk
  refine X_cond v (by kernel_rfl) (fun hc => ?_) (fun hc => ?_)
  · have hm := it hc hm
    refine X_reg_seq ty_ok Γok hL [] .nil (by kernel_rfl) ?_
    obtain rfl := some_inj hm
    refine Ok_ret ?_
    repeat (first | refine thR ?_ | refine ibR ?_)
    exact X_fin [] [[.z 2, .k, .k, .k, .z 1]] (by kernel_rfl) trivial
  · have hm := ie hc hm
    refine X_skip ?_
    refine thN ?_
    obtain ⟨r3, h2, hm⟩ := obind hm
    refine X_reg_seq ty_ok Γok hL [(1, .c (i_copyRoster_r r3) (i_copyRoster_n r3) (i_copyRoster_o r r3))] (.cons (i_copyRoster_c h2) .nil) (by kernel_rfl) ?_
    refine Ok_seq ?_
    refine X_reg_seq ty_ok Γok hL [(2, .n (r3.Plan.length : Int))] (.cons (len_m Enc.e r3.Plan) .nil) (by kernel_rfl) ?_
    obtain ⟨v3, hv1, hk1⟩ := obind hm
    refine X_tail (n := 43) (fun (v3 : List (List Int)) => (⟨[(4, .ref 16 0), (6, .ref 32 0)], [(16, some (.box [.dat (.sc (.slice none 0 0)), .dat (.sc (.int .i64 0)), .dat (.sc (.int .i64 0)), .dat (.sc (.int .i64 0)), .dat (.sc (.slice none 0 0))])), (32, some (.box [.own 48, .dat (.sc (.int .i64 r3.Rules.MinRest)), .dat (.sc (.int .i64 r3.Rules.MaxRow)), .dat (.sc (.int .i64 r3.Rules.MaxWeek)), .own 64])), (48, some (.arr 121 2 (List.map Enc.e r3.Shifts))), (64, some (.arr 33 1 (List.map Enc.e v3)))], 96⟩ : X)) v3 ?_ ?_
    · have hm := hv1
      refine Ok_block ?_
      refine X_loop (n := 43) (step := i_TurnRoster_L1 r turns r3) (fun ((v1, v2) : Int × (List (List Int))) => (⟨[(1, .dat (.sc (.int .i64 turns))), (2, .ref 16 0), (4, .ref 32 0), (6, .ref 48 0), (21, .dat (.sc (.int .i64 (r3.Plan.length : Int)))), (22, .dat (.sc (.int .i64 v1)))], [(16, some (.box [.dat (Enc.e r.Shifts), .dat (.sc (.int .i64 r.Rules.MinRest)), .dat (.sc (.int .i64 r.Rules.MaxRow)), .dat (.sc (.int .i64 r.Rules.MaxWeek)), .dat (Enc.e r.Plan)])), (32, some (.box [.dat (.sc (.slice none 0 0)), .dat (.sc (.int .i64 0)), .dat (.sc (.int .i64 0)), .dat (.sc (.int .i64 0)), .dat (.sc (.slice none 0 0))])), (48, some (.box [.own 64, .dat (.sc (.int .i64 r3.Rules.MinRest)), .dat (.sc (.int .i64 r3.Rules.MaxRow)), .dat (.sc (.int .i64 r3.Rules.MaxWeek)), .own 80])), (64, some (.arr 121 2 (List.map Enc.e r3.Shifts))), (80, some (.arr 33 1 (List.map Enc.e v2)))], 112⟩ : X)) hm (Wk_J hL ⟨[(1, []), (2, []), (4, []), (6, []), (21, []), (22, [])], [(16, 16, []), (32, 32, []), (48, 96, []), (64, 80, []), (80, 81, [])], [], 112⟩ (by kernel_rfl)) ?_
      rintro ⟨v1, v2⟩ r0 hm hb1
      rw [i_TurnRoster_L1] at hm
      refine X_reg_seq ty_ok Γok hL [] .nil (by kernel_rfl) ?_
      refine Ok_seq ?_
      refine X_cond (decide (v1 < (r3.Plan.length : Int))) (by kernel_rfl) (fun hc1 => ?_) (fun hc1 => ?_)
      · have hm := it hc1 hm
        refine X_skip ?_
        refine thN ?_
        refine Ok_seq ?_
        refine Ok_block ?_
        refine X_reg_seq ty_ok Γok hL [] .nil (by kernel_rfl) ?_
        obtain ⟨u1, h7, hm⟩ := obind hm
        obtain ⟨e2, h8, hm⟩ := obind hm
        obtain ⟨r5, h9, hm⟩ := obind hm
        obtain ⟨e3, h10, hm⟩ := obind hm
        refine X_draw mixed ty_ok Γok Γlive [(16, [80])] (by kernel_rfl) [(10, .n (r.Plan.length : Int)), (12, .d (Enc.e e2)), (14, .c (slices_Clone_int_f_r r5) (slices_Clone_int_f_n r5) (slices_Clone_int_f_o e2 r5)), (15, .d (Enc.e e3)), (16, .sd (Enc.e e3) (List.map Enc.e (v2.set v1.toNat r5)))] (.cons (len_m Enc.e r.Plan) (.cons (chk_t h7) (.cons (idx_m (f := Enc.e) h8) (.cons (slices_Clone_int_f_c h9) (.cons (idx_m (f := Enc.e) h10) (.cons (idx_m2 (f := Enc.e) h10) (.cons (set_m Enc.e v2 v1.toNat r5) .nil))))))) (by kernel_rfl) ?_
        refine ibN ?_
        refine thN ?_
        refine X_reg ty_ok Γok hL [] .nil (by kernel_rfl) ?_
        obtain rfl := some_inj hm
        exact thN ⟨_, rfl, Wk_J hL ⟨[(1, []), (2, []), (4, []), (6, []), (21, []), (22, [])], [(16, 16, []), (32, 32, []), (48, 48, []), (64, 64, []), (80, 80, [])], [], 112⟩ (by kernel_rfl)⟩
      · have hm := ie hc1 hm
        obtain rfl := some_inj hm
        obtain rfl := hb1 _ rfl
        refine Ok_exit ?_
        refine thE ?_
        refine thE ?_
        refine ibE ?_
        exact thN (Wk_J hL ⟨[(4, []), (6, [])], [(16, 32, []), (32, 48, []), (48, 64, []), (64, 80, [])], [], 96⟩ (by kernel_rfl))
    intro s hw
    have hm := hk1
    refine thN ?_
    refine Ok_weak hw ?_
    refine X_reg_seq ty_ok Γok hL [] .nil (by kernel_rfl) ?_
    obtain rfl := some_inj hm
    refine Ok_ret ?_
    repeat (first | refine thR ?_ | refine ibR ?_)
    exact X_fin [] [] (by kernel_rfl) trivial
abbrev v_rInts_r (y : Bool) : AV := .dat (Enc.e y)
abbrev v_rInts_n (y : Bool) : List Obj' := []
abbrev v_rInts_o (x : (List Int) × (List Int)) (y : Bool) : List Obj' := []
noncomputable def v_rInts_S : FnSpec := modS [none, none] (fun x : (List Int) × (List Int) => [Enc.e x.1, Enc.e x.2]) (fun x : (List Int) × (List Int) => []) (fun x : (List Int) × (List Int) => v_rInts x.1 x.2) v_rInts_r v_rInts_n v_rInts_o
theorem v_rInts_c {a : List Int} {b : List Int} {y : Bool} (h : v_rInts a b = some y) : CallOK v_rInts_S [Enc.e a, Enc.e b] [] (v_rInts_r y) (v_rInts_n y) (v_rInts_o (a, b) y) :=
  modS_call (by
    rintro ⟨a0, a1⟩ ⟨b0, b1⟩ h hO
    simp only [List.cons.injEq, and_true] at h
    try simp only [List.cons.injEq, and_true, Obj'.box.injEq, Obj'.arr.injEq, true_and, AV.dat.injEq] at hO
    obtain ⟨h0, h1⟩ := h
    have q0 := Enc.inj _ _ h0
    have q1 := Enc.inj _ _ h1
    subst q0; subst q1; rfl) (x := (a, b)) h
theorem v_rInts_ok : FnOK Try.prog 19 v_rInts_S := by
  have Γok : ∀ f S, lookF f [] = some S → FnOK Try.prog f S := lookF_ok allF_nil
  have Γlive : Live (fun f => lookF f []) := lookF_live allL_nil
  refine fnOK_mod ty_ok (fun args w => Try.call19 args w) Try.func19 rfl [.tmp 4] (by rw [Try.results19]) 26 Try.ntmps19 16 rfl (fun _ => by first | exact Nat.zero_le _ | (simp)) (fun _ => rfl) ?_
  rintro ⟨a, b⟩ y cx hm hL
  have hm : v_rInts a b = some y := hm
  have hL : cx.L = 0 := hL
  unfold v_rInts at hm
  refine X_reg_seq ty_ok Γok hL [] .nil (by kernel_rfl) ?_
  refine Ok_seq ?_
  refine X_reg_seq ty_ok Γok hL [(1, .n (a.length : Int)), (3, .n (b.length : Int))] (.cons (len_m Enc.e a) (.cons (len_m Enc.e b) .nil)) (by kernel_rfl) ?_
  refine X_cond ((a.length : Int) != (b.length : Int)) (by kernel_rfl) (fun hc => ?_) (fun hc => ?_)
  · have hm := it hc hm
    refine X_reg_seq ty_ok Γok hL [] .nil (by kernel_rfl) ?_
    obtain rfl := some_inj hm
    refine Ok_ret ?_
    repeat (first | refine thR ?_ | refine ibR ?_)
    exact X_fin [] [] (by kernel_rfl) trivial
  · have hm := ie hc hm
    refine X_skip ?_
    refine thN ?_
    refine Ok_seq ?_
    refine X_reg_seq ty_ok Γok hL [] .nil (by kernel_rfl) ?_
    obtain ⟨v1, hv, hr, hk⟩ := flb_t hm
    refine X_tailF (n := 26) (fun (_ : Unit) => (⟨[], [], 32⟩ : X)) v1 ?_ ?_
    · have hm := hv
      refine Ok_block ?_
      refine X_loop (n := 26) (step := v_rInts_L1 a b) (fun (v : Int) => (⟨[(0, .dat (Enc.e a)), (1, .dat (Enc.e b)), (5, .dat (.sc (.int .i64 v)))], [], 32⟩ : X)) hm (Wk_J hL ⟨[(0, []), (1, []), (5, [])], [], [], 32⟩ (by kernel_rfl)) ?_
      rintro v r0 hm hb
      rw [v_rInts_L1] at hm
      refine Ok_seq ?_
      refine X_reg_seq ty_ok Γok hL [(2, .n (a.length : Int))] (.cons (len_m Enc.e a) .nil) (by kernel_rfl) ?_
      refine X_cond (decide (v < (a.length : Int))) (by kernel_rfl) (fun hc1 => ?_) (fun hc1 => ?_)
      · have hm := it hc1 hm
        refine X_skip ?_
        refine thN ?_
        refine Ok_seq ?_
        refine Ok_block ?_
        obtain ⟨e2, h2, hm⟩ := obind hm
        obtain ⟨e3, h3, hm⟩ := obind hm
        refine X_draw_seq mixed ty_ok Γok Γlive [] (by kernel_rfl) [(2, .d (Enc.e e2)), (6, .d (Enc.e e3))] (.cons (idx_m (f := Enc.e) h2) (.cons (idx_m (f := Enc.e) h3) .nil)) (by kernel_rfl) ?_
        refine X_cond (e2 != e3) (by kernel_rfl) (fun hc2 => ?_) (fun hc2 => ?_)
        · have hm := it hc2 hm
          refine X_reg_seq ty_ok Γok hL [] .nil (by kernel_rfl) ?_
          obtain rfl := some_inj hm
          obtain rfl := hb _ rfl
          have hm := congrArg some (hr _ rfl)
          obtain rfl := some_inj hm
          refine Ok_ret ?_
          repeat (first | refine thR ?_ | refine ibR ?_)
          exact X_fin [] [] (by kernel_rfl) trivial
        · have hm := ie hc2 hm
          refine X_skip ?_
          refine ibN ?_
          refine thN ?_
          refine X_reg ty_ok Γok hL [] .nil (by kernel_rfl) ?_
          obtain rfl := some_inj hm
          exact thN ⟨_, rfl, Wk_J hL ⟨[(0, []), (1, []), (5, [])], [], [], 32⟩ (by kernel_rfl)⟩
      · have hm := ie hc1 hm
        obtain rfl := some_inj hm
        obtain rfl := hb _ rfl
        refine Ok_exit ?_
        refine thE ?_
        refine thE ?_
        refine ibE ?_
        exact thN ⟨_, rfl, Wk_J hL ⟨[], [], [], 32⟩ (by kernel_rfl)⟩
    rintro ⟨⟩ hu s hw
    have hm := hk _ hu
    refine thN ?_
    refine Ok_weak hw ?_
    refine X_reg_seq ty_ok Γok hL [] .nil (by kernel_rfl) ?_
    obtain rfl := some_inj hm
    refine Ok_ret ?_
    repeat (first | refine thR ?_ | refine ibR ?_)
    exact X_fin [] [] (by kernel_rfl) trivial
abbrev v_rTable_r (y : Bool) : AV := .dat (Enc.e y)
abbrev v_rTable_n (y : Bool) : List Obj' := []
abbrev v_rTable_o (x : (List (List Int)) × (List (List Int))) (y : Bool) : List Obj' := []
noncomputable def v_rTable_S : FnSpec := modS [none, none] (fun x : (List (List Int)) × (List (List Int)) => [Enc.e x.1, Enc.e x.2]) (fun x : (List (List Int)) × (List (List Int)) => []) (fun x : (List (List Int)) × (List (List Int)) => v_rTable x.1 x.2) v_rTable_r v_rTable_n v_rTable_o
theorem v_rTable_c {a : List (List Int)} {b : List (List Int)} {y : Bool} (h : v_rTable a b = some y) : CallOK v_rTable_S [Enc.e a, Enc.e b] [] (v_rTable_r y) (v_rTable_n y) (v_rTable_o (a, b) y) :=
  modS_call (by
    rintro ⟨a0, a1⟩ ⟨b0, b1⟩ h hO
    simp only [List.cons.injEq, and_true] at h
    try simp only [List.cons.injEq, and_true, Obj'.box.injEq, Obj'.arr.injEq, true_and, AV.dat.injEq] at hO
    obtain ⟨h0, h1⟩ := h
    have q0 := Enc.inj _ _ h0
    have q1 := Enc.inj _ _ h1
    subst q0; subst q1; rfl) (x := (a, b)) h
theorem v_rTable_ok : FnOK Try.prog 14 v_rTable_S := by
  have Γok : ∀ f S, lookF f [(19, v_rInts_S)] = some S → FnOK Try.prog f S := lookF_ok (allF_cons v_rInts_ok allF_nil)
  have Γlive : Live (fun f => lookF f [(19, v_rInts_S)]) := lookF_live (allL_cons modS_live allL_nil)
  refine fnOK_mod ty_ok (fun args w => Try.call14 args w) Try.func14 rfl [.tmp 4] (by rw [Try.results14]) 27 Try.ntmps14 16 rfl (fun _ => by first | exact Nat.zero_le _ | (simp)) (fun _ => rfl) ?_
  rintro ⟨a, b⟩ y cx hm hL
  have hm : v_rTable a b = some y := hm
  have hL : cx.L = 0 := hL
  unfold v_rTable at hm
  refine X_reg_seq ty_ok Γok hL [] .nil (by kernel_rfl) ?_
  refine Ok_seq ?_
  refine X_reg_seq ty_ok Γok hL [(1, .n (a.length : Int)), (3, .n (b.length : Int))] (.cons (len_m Enc.e a) (.cons (len_m Enc.e b) .nil)) (by kernel_rfl) ?_
  refine X_cond ((a.length : Int) != (b.length : Int)) (by kernel_rfl) (fun hc => ?_) (fun hc => ?_)
  · have hm := it hc hm
    refine X_reg_seq ty_ok Γok hL [] .nil (by kernel_rfl) ?_
    obtain rfl := some_inj hm
    refine Ok_ret ?_
    repeat (first | refine thR ?_ | refine ibR ?_)
    exact X_fin [] [] (by kernel_rfl) trivial
  · have hm := ie hc hm
    refine X_skip ?_
    refine thN ?_
    refine Ok_seq ?_
    refine X_reg_seq ty_ok Γok hL [] .nil (by kernel_rfl) ?_
    obtain ⟨v1, hv, hr, hk⟩ := flb_t hm
    refine X_tailF (n := 27) (fun (_ : Unit) => (⟨[], [], 32⟩ : X)) v1 ?_ ?_
    · have hm := hv
      refine Ok_block ?_
      refine X_loop (n := 27) (step := v_rTable_L1 a b) (fun (v : Int) => (⟨[(0, .dat (Enc.e a)), (1, .dat (Enc.e b)), (5, .dat (.sc (.int .i64 v)))], [], 32⟩ : X)) hm (Wk_J hL ⟨[(0, []), (1, []), (5, [])], [], [], 32⟩ (by kernel_rfl)) ?_
      rintro v r0 hm hb
      rw [v_rTable_L1] at hm
      refine Ok_seq ?_
      refine X_reg_seq ty_ok Γok hL [(2, .n (a.length : Int))] (.cons (len_m Enc.e a) .nil) (by kernel_rfl) ?_
      refine X_cond (decide (v < (a.length : Int))) (by kernel_rfl) (fun hc1 => ?_) (fun hc1 => ?_)
      · have hm := it hc1 hm
        refine X_skip ?_
        refine thN ?_
        refine Ok_seq ?_
        refine Ok_block ?_
        obtain ⟨e2, h3, hm⟩ := obind hm
        obtain ⟨e3, h4, hm⟩ := obind hm
        obtain ⟨r1, h5, hm⟩ := obind hm
        refine X_draw_seq mixed ty_ok Γok Γlive [] (by kernel_rfl) [(2, .d (Enc.e e2)), (6, .d (Enc.e e3)), (8, .c (v_rInts_r r1) (v_rInts_n r1) (v_rInts_o (e2, e3) r1))] (.cons (idx_m (f := Enc.e) h3) (.cons (idx_m (f := Enc.e) h4) (.cons (v_rInts_c h5) .nil))) (by kernel_rfl) ?_
        refine X_cond (!r1) (by kernel_rfl) (fun hc2 => ?_) (fun hc2 => ?_)
        · have hm := it hc2 hm
          refine X_reg_seq ty_ok Γok hL [] .nil (by kernel_rfl) ?_
          obtain rfl := some_inj hm
          obtain rfl := hb _ rfl
          have hm := congrArg some (hr _ rfl)
          obtain rfl := some_inj hm
          refine Ok_ret ?_
          repeat (first | refine thR ?_ | refine ibR ?_)
          exact X_fin [] [] (by kernel_rfl) trivial
        · have hm := ie hc2 hm
          refine X_skip ?_
          refine ibN ?_
          refine thN ?_
          refine X_reg ty_ok Γok hL [] .nil (by kernel_rfl) ?_
          obtain rfl := some_inj hm
          exact thN ⟨_, rfl, Wk_J hL ⟨[(0, []), (1, []), (5, [])], [], [], 32⟩ (by kernel_rfl)⟩
      · have hm := ie hc1 hm
        obtain rfl := some_inj hm
        obtain rfl := hb _ rfl
        refine Ok_exit ?_
        refine thE ?_
        refine thE ?_
        refine ibE ?_
        exact thN ⟨_, rfl, Wk_J hL ⟨[], [], [], 32⟩ (by kernel_rfl)⟩
    rintro ⟨⟩ hu s hw
    have hm := hk _ hu
    refine thN ?_
    refine Ok_weak hw ?_
    refine X_reg_seq ty_ok Γok hL [] .nil (by kernel_rfl) ?_
    obtain rfl := some_inj hm
    refine Ok_ret ?_
    repeat (first | refine thR ?_ | refine ibR ?_)
    exact X_fin [] [] (by kernel_rfl) trivial
abbrev s_DrawTurnRoster_r (y : Roster × Int) : AV := .tup [.aggv [.own 0, .dat (.sc (.int .i64 y.1.Rules.MinRest)), .dat (.sc (.int .i64 y.1.Rules.MaxRow)), .dat (.sc (.int .i64 y.1.Rules.MaxWeek)), .own 1], .dat (Enc.e y.2)]
abbrev s_DrawTurnRoster_n (y : Roster × Int) : List Obj' := [.arr 121 2 (List.map Enc.e y.1.Shifts), .tab 33 1 [some 3] (List.map Enc.e y.1.Plan) 0 none]
abbrev s_DrawTurnRoster_o (x : (List UInt8)) (y : Roster × Int) : List Obj' := []
noncomputable def s_DrawTurnRoster_S : FnSpec := modS [none] (fun x : (List UInt8) => [Enc.e x]) (fun x : (List UInt8) => []) (fun x : (List UInt8) => s_DrawTurnRoster x) s_DrawTurnRoster_r s_DrawTurnRoster_n s_DrawTurnRoster_o
theorem s_DrawTurnRoster_c {code : List UInt8} {y : Roster × Int} (h : s_DrawTurnRoster code = some y) : CallOK s_DrawTurnRoster_S [Enc.e code] [] (s_DrawTurnRoster_r y) (s_DrawTurnRoster_n y) (s_DrawTurnRoster_o code y) :=
  modS_call (by
    rintro a0 b0 h hO
    simp only [List.cons.injEq, and_true] at h
    try simp only [List.cons.injEq, and_true, Obj'.box.injEq, Obj'.arr.injEq, true_and, AV.dat.injEq] at hO
    have h0 := h
    have q0 := Enc.inj _ _ h0
    subst q0; rfl) (x := code) h
theorem s_DrawTurnRoster_ok : FnOK Try.prog 15 s_DrawTurnRoster_S := by
  have Γok : ∀ f S, lookF f [(53, s_l1Cur_roster_S), (55, s_l1Cur_pick_S), (54, s_l1Cur_among_S)] = some S → FnOK Try.prog f S := lookF_ok (allF_cons s_l1Cur_roster_ok (allF_cons s_l1Cur_pick_ok (allF_cons s_l1Cur_among_ok allF_nil)))
  have Γlive : Live (fun f => lookF f [(53, s_l1Cur_roster_S), (55, s_l1Cur_pick_S), (54, s_l1Cur_among_S)]) := lookF_live (allL_cons modS_live (allL_cons modS_live (allL_cons modS_live allL_nil)))
  refine fnOK_mod ty_ok (fun args w => Try.call15 args w) Try.func15 rfl [.cell 2 29, .tmp 3] (by rw [Try.results15]) 20 Try.ntmps15 16 rfl (fun _ => by first | exact Nat.zero_le _ | (simp)) (fun _ => rfl) ?_
  rintro code y cx hm hL
  have hm : s_DrawTurnRoster code = some y := hm
  have hL : cx.L = 0 := hL
  unfold s_DrawTurnRoster at hm
  refine X_reg_seq ty_ok Γok hL [] .nil (by kernel_rfl) ?_
  refine X_reg_seq ty_ok Γok hL [] .nil (by kernel_rfl) ?_
  obtain ⟨r, h, hm⟩ := obind hm
  refine X_reg_seq ty_ok Γok hL [(1, .c (s_l1Cur_roster_r r) (s_l1Cur_roster_n r) (s_l1Cur_roster_o (⟨code, 0, (⟨0⟩ : IK .u64)⟩ : l1Cur) r))] (.cons (s_l1Cur_roster_c h) .nil) (by kernel_rfl) ?_
  obtain ⟨r3, h5, hm⟩ := obind hm
  obtain ⟨u2, h6, hm⟩ := obind hm
  obtain ⟨u3, h7, hm⟩ := obind hm
  obtain ⟨r4, h8, hm⟩ := obind hm
  refine X_draw_seq mixed ty_ok Γok Γlive [(4, [80]), (7, [208]), (8, [80]), (9, [16, 128, 129])] (by kernel_rfl) [(4, .c (s_l1Cur_pick_r r3) (s_l1Cur_pick_n r3) (s_l1Cur_pick_o (r.2, 24) r3)), (7, .l (List.map Enc.e ((([0, 1, 2, 3, 100, (-1), 101] : List Int).take (w64 (5 + (w64 (r3.1.tdiv 11)))).toNat).drop (0 : Int).toNat))), (8, .c (s_l1Cur_among_r r4) (s_l1Cur_among_n r4) (s_l1Cur_among_o (r3.2, ((([0, 1, 2, 3, 100, (-1), 101] : List Int).take (w64 (5 + (w64 (r3.1.tdiv 11)))).toNat).drop (0 : Int).toNat)) r4))] (.cons (s_l1Cur_pick_c h5) (.cons (chk_t h6) (.cons (cut_p (f := Enc.e) (l := ([0, 1, 2, 3, 100, (-1), 101] : List Int)) (lo := 0) (hi := (w64 (5 + (w64 (r3.1.tdiv 11))))) (chk_t h7)) (.cons (cut_m Enc.e ([0, 1, 2, 3, 100, (-1), 101] : List Int) (0 : Int).toNat (w64 (5 + (w64 (r3.1.tdiv 11)))).toNat) (.cons (s_l1Cur_among_c h8) .nil))))) (by kernel_rfl) ?_
  obtain rfl := some_inj hm
  refine Ok_ret ?_
  repeat (first | refine thR ?_ | refine ibR ?_)
  exact X_fin [128, 129] [] (by kernel_rfl) trivial
abbrev s_l1Own_r (y : (List Int)) : AV := .own 0
abbrev s_l1Own_n (y : (List Int)) : List Obj' := [.arr 3 1 (List.map Enc.e y)]
abbrev s_l1Own_o (x : (List Int)) (y : (List Int)) : List Obj' := []
noncomputable def s_l1Own_S : FnSpec := modS [none] (fun x : (List Int) => [Enc.e x]) (fun x : (List Int) => []) (fun x : (List Int) => s_l1Own x) s_l1Own_r s_l1Own_n s_l1Own_o
theorem s_l1Own_c {l : List Int} {y : (List Int)} (h : s_l1Own l = some y) : CallOK s_l1Own_S [Enc.e l] [] (s_l1Own_r y) (s_l1Own_n y) (s_l1Own_o l y) :=
  modS_call (by
    rintro a0 b0 h hO
    simp only [List.cons.injEq, and_true] at h
    try simp only [List.cons.injEq, and_true, Obj'.box.injEq, Obj'.arr.injEq, true_and, AV.dat.injEq] at hO
    have h0 := h
    have q0 := Enc.inj _ _ h0
    subst q0; rfl) (x := l) h
theorem s_l1Own_ok : FnOK Try.prog 57 s_l1Own_S := by
  have Γok : ∀ f S, lookF f [] = some S → FnOK Try.prog f S := lookF_ok allF_nil
  have Γlive : Live (fun f => lookF f []) := lookF_live allL_nil
  refine fnOK_mod ty_ok (fun args w => Try.call57 args w) Try.func57 rfl [.tmp 2] (by rw [Try.results57]) 6 Try.ntmps57 16 rfl (fun _ => by first | exact Nat.zero_le _ | (simp)) (fun _ => rfl) ?_
  rintro l y cx hm hL
  have hm : s_l1Own l = some y := hm
  have hL : cx.L = 0 := hL
  unfold s_l1Own at hm
  refine X_reg_seq ty_ok Γok hL [] .nil (by kernel_rfl) ?_
  obtain ⟨u, h, hm⟩ := obind hm
  refine X_reg_seq ty_ok Γok hL [(2, .l (List.map Enc.e (([] : List Int) ++ l)))] (.cons (app_p (f := Enc.e) (g := Enc.e) (l := ([] : List Int)) (r := l) (b := 8) (chk_t h) rfl) (.cons (app_m Enc.e ([] : List Int) l) .nil)) (by kernel_rfl) ?_
  obtain rfl := some_inj hm
  refine Ok_ret ?_
  repeat (first | refine thR ?_ | refine ibR ?_)
  exact X_fin [64] [] (by kernel_rfl) trivial
abbrev s_l1Own_f_r (y : (List Int)) : AV := .dat (Enc.e y)
abbrev s_l1Own_f_n (y : (List Int)) : List Obj' := []
abbrev s_l1Own_f_o (x : (List Int)) (y : (List Int)) : List Obj' := []
noncomputable def s_l1Own_f_S : FnSpec := modS [none] (fun x : (List Int) => [Enc.e x]) (fun x : (List Int) => []) (fun x : (List Int) => s_l1Own_f x) s_l1Own_f_r s_l1Own_f_n s_l1Own_f_o
theorem s_l1Own_f_c {l : List Int} {y : (List Int)} (h : s_l1Own_f l = some y) : CallOK s_l1Own_f_S [Enc.e l] [] (s_l1Own_f_r y) (s_l1Own_f_n y) (s_l1Own_f_o l y) :=
  modS_call (by
    rintro a0 b0 h hO
    simp only [List.cons.injEq, and_true] at h
    try simp only [List.cons.injEq, and_true, Obj'.box.injEq, Obj'.arr.injEq, true_and, AV.dat.injEq] at hO
    have h0 := h
    have q0 := Enc.inj _ _ h0
    subst q0; rfl) (x := l) h
theorem s_l1Own_f_ok : FnOK Try.prog 57 s_l1Own_f_S := by
  have Γok : ∀ f S, lookF f [] = some S → FnOK Try.prog f S := lookF_ok allF_nil
  have Γlive : Live (fun f => lookF f []) := lookF_live allL_nil
  refine fnOK_mod ty_ok (fun args w => Try.call57 args w) Try.func57 rfl [.tmp 2] (by rw [Try.results57]) 6 Try.ntmps57 16 rfl (fun _ => by first | exact Nat.zero_le _ | (simp)) (fun _ => rfl) ?_
  rintro l y cx hm hL
  have hm : s_l1Own_f l = some y := hm
  have hL : cx.L = 0 := hL
  unfold s_l1Own_f at hm
  refine X_reg_seq ty_ok Γok hL [] .nil (by kernel_rfl) ?_
  obtain ⟨u, h, hm⟩ := obind hm
  refine X_reg_seq ty_ok Γok hL [(2, .l (List.map Enc.e (([] : List Int) ++ l)))] (.cons (app_p (f := Enc.e) (g := Enc.e) (l := ([] : List Int)) (r := l) (b := 8) (chk_t h) rfl) (.cons (app_m Enc.e ([] : List Int) l) .nil)) (by kernel_rfl) ?_
  obtain rfl := some_inj hm
  refine Ok_ret ?_
  repeat (first | refine thR ?_ | refine ibR ?_)
  exact X_fin [] [] (by kernel_rfl) trivial
abbrev s_TurnRoster_r (y : Roster × Bool) : AV := .tup [.dat (Enc.e y.1), .dat (Enc.e y.2)]
abbrev s_TurnRoster_n (y : Roster × Bool) : List Obj' := []
abbrev s_TurnRoster_o (x : Roster × Int) (y : Roster × Bool) : List Obj' := []
noncomputable def s_TurnRoster_S : FnSpec := modS [none, none] (fun x : Roster × Int => [Enc.e x.1, Enc.e x.2]) (fun x : Roster × Int => []) (fun x : Roster × Int => s_TurnRoster x.1 x.2) s_TurnRoster_r s_TurnRoster_n s_TurnRoster_o
theorem s_TurnRoster_c {r : Roster} {turns : Int} {y : Roster × Bool} (h : s_TurnRoster r turns = some y) : CallOK s_TurnRoster_S [Enc.e r, Enc.e turns] [] (s_TurnRoster_r y) (s_TurnRoster_n y) (s_TurnRoster_o (r, turns) y) :=
  modS_call (by
    rintro ⟨a0, a1⟩ ⟨b0, b1⟩ h hO
    simp only [List.cons.injEq, and_true] at h
    try simp only [List.cons.injEq, and_true, Obj'.box.injEq, Obj'.arr.injEq, true_and, AV.dat.injEq] at hO
    obtain ⟨h0, h1⟩ := h
    have q0 := Enc.inj _ _ h0
    have q1 := Enc.inj _ _ h1
    subst q0; subst q1; rfl) (x := (r, turns)) h
theorem s_TurnRoster_ok : FnOK Try.prog 16 s_TurnRoster_S := by
  have Γok : ∀ f S, lookF f [(44, s_l14Good_S), (56, s_l1In_S), (57, s_l1Own_f_S)] = some S → FnOK Try.prog f S := lookF_ok (allF_cons s_l14Good_ok (allF_cons s_l1In_ok (allF_cons s_l1Own_f_ok allF_nil)))
  have Γlive : Live (fun f => lookF f [(44, s_l14Good_S), (56, s_l1In_S), (57, s_l1Own_f_S)]) := lookF_live (allL_cons modS_live (allL_cons modS_live (allL_cons modS_live allL_nil)))
  refine fnOK_mod ty_ok (fun args w => Try.call16 args w) Try.func16 rfl [.cell 4 29, .tmp 5] (by rw [Try.results16]) 49 Try.ntmps16 16 rfl (fun _ => by first | exact Nat.zero_le _ | (simp)) (fun _ => rfl) ?_
  rintro ⟨r, turns⟩ y cx hm hL
  have hm : s_TurnRoster r turns = some y := hm
  have hL : cx.L = 0 := hL
  unfold s_TurnRoster at hm
  refine X_reg_seq ty_ok Γok hL [] .nil (by kernel_rfl) ?_
  refine Ok_seq ?_
  obtain ⟨r1, h, hm⟩ := obind hm
  obtain ⟨v, hv, hk⟩ := obind hm
  refine X_join (n := 49) (fun (v : Bool) => (⟨[(1, .dat (.sc (.int .i64 turns))), (2, .ref 16 0), (4, .ref 32 0), (15, .dat (.sc (.bool v)))], [(16, some (.box [.dat (Enc.e r.Shifts), .dat (.sc (.int .i64 r.Rules.MinRest)), .dat (.sc (.int .i64 r.Rules.MaxRow)), .dat (.sc (.int .i64 r.Rules.MaxWeek)), .dat (Enc.e r.Plan)])), (32, some (.box [.dat (.sc (.slice none 0 0)), .dat (.sc (.int .i64 0)), .dat (.sc (.int .i64 0)), .dat (.sc (.int .i64 0)), .dat (.sc (.slice none 0 0))]))], 64⟩ : X)) v ?_ ?_
  · have hm := hv
    rcases btf (!r1) with hb | hb
    · have hm := it hb hm
      obtain rfl := some_inj hm
      refine X_reg ty_ok Γok hL [(1, .c (s_l14Good_r r1) (s_l14Good_n r1) (s_l14Good_o r r1)), (3, .b true)] (.cons (s_l14Good_c h) (.cons hb .nil)) (by kernel_rfl) ?_
      exact thN (Wk_J hL ⟨[(1, []), (2, []), (4, []), (15, [])], [(16, 16, []), (32, 32, [])], [], 64⟩ (by kernel_rfl))
    · have hm := ie hb hm
      obtain ⟨r2, h1, hm⟩ := obind hm
      obtain rfl := some_inj hm
      refine X_reg ty_ok Γok hL [(1, .c (s_l14Good_r r1) (s_l14Good_n r1) (s_l14Good_o r r1)), (3, .b false), (5, .c (s_l1In_r r2) (s_l1In_n r2) (s_l1In_o (turns, 0, 100) r2))] (.cons (s_l14Good_c h) (.cons hb (.cons (s_l1In_c h1) .nil))) (by kernel_rfl) ?_
      exact thN (Wk_J hL ⟨[(1, []), (2, []), (4, []), (15, [])], [(16, 16, []), (32, 32, [])], [], 64⟩ (by kernel_rfl))
  have hm := hk
  refine X_cond v (by kernel_rfl) (fun hc => ?_) (fun hc => ?_)
  · have hm := it hc hm
    refine X_reg_seq ty_ok Γok hL [] .nil (by kernel_rfl) ?_
    obtain rfl := some_inj hm
    refine Ok_ret ?_
    repeat (first | refine thR ?_ | refine ibR ?_)
    exact X_fin [] [[.z 2, .k, .k, .k, .z 1]] (by kernel_rfl) trivial
  · have hm := ie hc hm
    refine X_skip ?_
    refine thN ?_
    obtain ⟨u1, h3, hm⟩ := obind hm
    refine X_draw_seq mixed ty_ok Γok Γlive [(3, [64]), (8, [112, 176])] (by kernel_rfl) [(3, .l (List.map Enc.e (([] : List Span) ++ r.Shifts)))] (.cons (app_p (f := Enc.e) (g := Enc.e) (l := ([] : List Span)) (r := r.Shifts) (b := 16) (chk_t h3) rfl) (.cons (app_m Enc.e ([] : List Span) r.Shifts) .nil)) (by kernel_rfl) ?_
    refine Ok_seq ?_
    refine X_reg_seq ty_ok Γok hL [] .nil (by kernel_rfl) ?_
    obtain ⟨v3, hv1, hk1⟩ := obind hm
    refine X_tail (n := 49) (fun (v3 : List (List Int)) => (⟨[(4, .ref 16 0), (6, .ref 32 0)], [(16, some (.box [.dat (.sc (.slice none 0 0)), .dat (.sc (.int .i64 0)), .dat (.sc (.int .i64 0)), .dat (.sc (.int .i64 0)), .dat (.sc (.slice none 0 0))])), (32, some (.box [.own 48, .dat (.sc (.int .i64 r.Rules.MinRest)), .dat (.sc (.int .i64 r.Rules.MaxRow)), .dat (.sc (.int .i64 r.Rules.MaxWeek)), .own 64])), (48, some (.arr 121 2 (List.map Enc.e (([] : List Span) ++ r.Shifts)))), (64, some (.arr 33 1 (List.map Enc.e v3)))], 96⟩ : X)) v3 ?_ ?_
    · have hm := hv1
      refine Ok_block ?_
      refine X_loop (n := 49) (step := s_TurnRoster_L1 r turns) (fun ((v1, v2) : Int × (List (List Int))) => (⟨[(1, .dat (.sc (.int .i64 turns))), (2, .ref 16 0), (4, .ref 32 0), (6, .ref 48 0), (7, .dat (.sc (.int .i64 v1)))], [(16, some (.box [.dat (Enc.e r.Shifts), .dat (.sc (.int .i64 r.Rules.MinRest)), .dat (.sc (.int .i64 r.Rules.MaxRow)), .dat (.sc (.int .i64 r.Rules.MaxWeek)), .dat (Enc.e r.Plan)])), (32, some (.box [.dat (.sc (.slice none 0 0)), .dat (.sc (.int .i64 0)), .dat (.sc (.int .i64 0)), .dat (.sc (.int .i64 0)), .dat (.sc (.slice none 0 0))])), (48, some (.box [.own 64, .dat (.sc (.int .i64 r.Rules.MinRest)), .dat (.sc (.int .i64 r.Rules.MaxRow)), .dat (.sc (.int .i64 r.Rules.MaxWeek)), .own 80])), (64, some (.arr 121 2 (List.map Enc.e (([] : List Span) ++ r.Shifts)))), (80, some (.arr 33 1 (List.map Enc.e v2)))], 112⟩ : X)) hm (Wk_J hL ⟨[(1, []), (2, []), (4, []), (6, []), (7, [])], [(16, 16, []), (32, 32, []), (48, 176, [.k, .k, .k, .k, .o 80]), (64, 112, [])], [(80, 33, 1, [])], 112⟩ (by kernel_rfl)) ?_
      rintro ⟨v1, v2⟩ r0 hm hb1
      rw [s_TurnRoster_L1] at hm
      refine Ok_seq ?_
      refine X_reg_seq ty_ok Γok hL [(3, .n (r.Plan.length : Int))] (.cons (len_m Enc.e r.Plan) .nil) (by kernel_rfl) ?_
      refine X_cond (decide (v1 < (r.Plan.length : Int))) (by kernel_rfl) (fun hc1 => ?_) (fun hc1 => ?_)
      · have hm := it hc1 hm
        refine X_skip ?_
        refine thN ?_
        refine Ok_seq ?_
        refine Ok_block ?_
        obtain ⟨u4, h8, hm⟩ := obind hm
        obtain ⟨e1, h9, hm⟩ := obind hm
        obtain ⟨r4, h10, hm⟩ := obind hm
        obtain ⟨u5, h11, hm⟩ := obind hm
        refine X_draw mixed ty_ok Γok Γlive [(14, []), (15, [80, 416]), (17, [48, 432])] (by kernel_rfl) [(9, .n (r.Plan.length : Int)), (11, .d (Enc.e e1)), (13, .c (s_l1Own_f_r r4) (s_l1Own_f_n r4) (s_l1Own_f_o e1 r4)), (15, .l (List.map Enc.e (v2 ++ ([r4] : List (List Int)))))] (.cons (len_m Enc.e r.Plan) (.cons (chk_t h8) (.cons (idx_m (f := Enc.e) h9) (.cons (s_l1Own_f_c h10) (.cons (app_p (f := Enc.e) (g := Enc.e) (l := v2) (r := ([r4] : List (List Int))) (b := 24) (chk_t h11) rfl) (.cons (app_m Enc.e v2 ([r4] : List (List Int))) .nil)))))) (by kernel_rfl) ?_
        refine ibN ?_
        refine thN ?_
        refine X_reg ty_ok Γok hL [] .nil (by kernel_rfl) ?_
        obtain rfl := some_inj hm
        exact thN ⟨_, rfl, Wk_J hL ⟨[(1, []), (2, []), (4, []), (6, []), (7, [])], [(16, 16, []), (32, 32, []), (48, 48, []), (64, 64, []), (80, 432, [])], [], 112⟩ (by kernel_rfl)⟩
      · have hm := ie hc1 hm
        obtain rfl := some_inj hm
        obtain rfl := hb1 _ rfl
        refine Ok_exit ?_
        refine thE ?_
        refine thE ?_
        refine ibE ?_
        exact thN (Wk_J hL ⟨[(4, []), (6, [])], [(16, 32, []), (32, 48, []), (48, 64, []), (64, 80, [])], [], 96⟩ (by kernel_rfl))
    intro s hw
    have hm := hk1
    refine thN ?_
    refine Ok_weak hw ?_
    refine X_reg_seq ty_ok Γok hL [] .nil (by kernel_rfl) ?_
    obtain rfl := some_inj hm
    refine Ok_ret ?_
    repeat (first | refine thR ?_ | refine ibR ?_)
    exact X_fin [] [] (by kernel_rfl) trivial
abbrev s_DrawWorkedMinutes_r (y : Roster × Int) : AV := .tup [.aggv [.own 0, .dat (.sc (.int .i64 y.1.Rules.MinRest)), .dat (.sc (.int .i64 y.1.Rules.MaxRow)), .dat (.sc (.int .i64 y.1.Rules.MaxWeek)), .own 1], .dat (Enc.e y.2)]
abbrev s_DrawWorkedMinutes_n (y : Roster × Int) : List Obj' := [.arr 121 2 (List.map Enc.e y.1.Shifts), .tab 33 1 [some 3] (List.map Enc.e y.1.Plan) 0 none]
abbrev s_DrawWorkedMinutes_o (x : (List UInt8)) (y : Roster × Int) : List Obj' := []
noncomputable def s_DrawWorkedMinutes_S : FnSpec := modS [none] (fun x : (List UInt8) => [Enc.e x]) (fun x : (List UInt8) => []) (fun x : (List UInt8) => s_DrawWorkedMinutes x) s_DrawWorkedMinutes_r s_DrawWorkedMinutes_n s_DrawWorkedMinutes_o
theorem s_DrawWorkedMinutes_c {code : List UInt8} {y : Roster × Int} (h : s_DrawWorkedMinutes code = some y) : CallOK s_DrawWorkedMinutes_S [Enc.e code] [] (s_DrawWorkedMinutes_r y) (s_DrawWorkedMinutes_n y) (s_DrawWorkedMinutes_o code y) :=
  modS_call (by
    rintro a0 b0 h hO
    simp only [List.cons.injEq, and_true] at h
    try simp only [List.cons.injEq, and_true, Obj'.box.injEq, Obj'.arr.injEq, true_and, AV.dat.injEq] at hO
    have h0 := h
    have q0 := Enc.inj _ _ h0
    subst q0; rfl) (x := code) h
theorem s_DrawWorkedMinutes_ok : FnOK Try.prog 58 s_DrawWorkedMinutes_S := by
  have Γok : ∀ f S, lookF f [(53, s_l1Cur_roster_S), (55, s_l1Cur_pick_S)] = some S → FnOK Try.prog f S := lookF_ok (allF_cons s_l1Cur_roster_ok (allF_cons s_l1Cur_pick_ok allF_nil))
  have Γlive : Live (fun f => lookF f [(53, s_l1Cur_roster_S), (55, s_l1Cur_pick_S)]) := lookF_live (allL_cons modS_live (allL_cons modS_live allL_nil))
  refine fnOK_mod ty_ok (fun args w => Try.call58 args w) Try.func58 rfl [.cell 2 29, .tmp 3] (by rw [Try.results58]) 22 Try.ntmps58 16 rfl (fun _ => by first | exact Nat.zero_le _ | (simp)) (fun _ => rfl) ?_
  rintro code y cx hm hL
  have hm : s_DrawWorkedMinutes code = some y := hm
  have hL : cx.L = 0 := hL
  unfold s_DrawWorkedMinutes at hm
  refine X_reg_seq ty_ok Γok hL [] .nil (by kernel_rfl) ?_
  refine X_reg_seq ty_ok Γok hL [] .nil (by kernel_rfl) ?_
  obtain ⟨r, h, hm⟩ := obind hm
  refine X_reg_seq ty_ok Γok hL [(1, .c (s_l1Cur_roster_r r) (s_l1Cur_roster_n r) (s_l1Cur_roster_o (⟨code, 0, (⟨0⟩ : IK .u64)⟩ : l1Cur) r))] (.cons (s_l1Cur_roster_c h) .nil) (by kernel_rfl) ?_
  obtain ⟨r3, h4, hm⟩ := obind hm
  obtain ⟨r4, h5, hm⟩ := obind hm
  obtain ⟨u1, h6, hm⟩ := obind hm
  refine X_draw_seq mixed ty_ok Γok Γlive [(6, [80]), (8, [80]), (11, [16, 128, 129])] (by kernel_rfl) [(4, .n (r.1.Plan.length : Int)), (6, .c (s_l1Cur_pick_r r3) (s_l1Cur_pick_n r3) (s_l1Cur_pick_o (r.2, (w64 ((r.1.Plan.length : Int) + 1))) r3)), (8, .c (s_l1Cur_pick_r r4) (s_l1Cur_pick_n r4) (s_l1Cur_pick_o (r3.2, 12) r4))] (.cons (len_m Enc.e r.1.Plan) (.cons (s_l1Cur_pick_c h4) (.cons (s_l1Cur_pick_c h5) (.cons (chk_t h6) .nil)))) (by kernel_rfl) ?_
  obtain rfl := some_inj hm
  refine Ok_ret ?_
  repeat (first | refine thR ?_ | refine ibR ?_)
  exact X_fin [128, 129] [] (by kernel_rfl) trivial
abbrev s_DrawBrokenRests_r (y : Roster × Int) : AV := .tup [.aggv [.own 0, .dat (.sc (.int .i64 y.1.Rules.MinRest)), .dat (.sc (.int .i64 y.1.Rules.MaxRow)), .dat (.sc (.int .i64 y.1.Rules.MaxWeek)), .own 1], .dat (Enc.e y.2)]
abbrev s_DrawBrokenRests_n (y : Roster × Int) : List Obj' := [.arr 121 2 (List.map Enc.e y.1.Shifts), .tab 33 1 [some 3] (List.map Enc.e y.1.Plan) 0 none]
abbrev s_DrawBrokenRests_o (x : (List UInt8)) (y : Roster × Int) : List Obj' := []
noncomputable def s_DrawBrokenRests_S : FnSpec := modS [none] (fun x : (List UInt8) => [Enc.e x]) (fun x : (List UInt8) => []) (fun x : (List UInt8) => s_DrawBrokenRests x) s_DrawBrokenRests_r s_DrawBrokenRests_n s_DrawBrokenRests_o
theorem s_DrawBrokenRests_c {code : List UInt8} {y : Roster × Int} (h : s_DrawBrokenRests code = some y) : CallOK s_DrawBrokenRests_S [Enc.e code] [] (s_DrawBrokenRests_r y) (s_DrawBrokenRests_n y) (s_DrawBrokenRests_o code y) :=
  modS_call (by
    rintro a0 b0 h hO
    simp only [List.cons.injEq, and_true] at h
    try simp only [List.cons.injEq, and_true, Obj'.box.injEq, Obj'.arr.injEq, true_and, AV.dat.injEq] at hO
    have h0 := h
    have q0 := Enc.inj _ _ h0
    subst q0; rfl) (x := code) h
theorem s_DrawBrokenRests_ok : FnOK Try.prog 17 s_DrawBrokenRests_S := by
  have Γok : ∀ f S, lookF f [(58, s_DrawWorkedMinutes_S)] = some S → FnOK Try.prog f S := lookF_ok (allF_cons s_DrawWorkedMinutes_ok allF_nil)
  have Γlive : Live (fun f => lookF f [(58, s_DrawWorkedMinutes_S)]) := lookF_live (allL_cons modS_live allL_nil)
  refine fnOK_mod ty_ok (fun args w => Try.call17 args w) Try.func17 rfl [.cell 2 29, .tmp 3] (by rw [Try.results17]) 8 Try.ntmps17 16 rfl (fun _ => by first | exact Nat.zero_le _ | (simp)) (fun _ => rfl) ?_
  rintro code y cx hm hL
  have hm : s_DrawBrokenRests code = some y := hm
  have hL : cx.L = 0 := hL
  unfold s_DrawBrokenRests at hm
  refine X_reg_seq ty_ok Γok hL [] .nil (by kernel_rfl) ?_
  obtain ⟨r, h, hm⟩ := obind hm
  refine X_reg_seq ty_ok Γok hL [(1, .c (s_DrawWorkedMinutes_r r) (s_DrawWorkedMinutes_n r) (s_DrawWorkedMinutes_o code r))] (.cons (s_DrawWorkedMinutes_c h) .nil) (by kernel_rfl) ?_
  obtain rfl := some_inj hm
  refine Ok_ret ?_
  repeat (first | refine thR ?_ | refine ibR ?_)
  exact X_fin [64, 65] [] (by kernel_rfl) trivial
abbrev s_l14Asked_r (y : Bool) : AV := .dat (Enc.e y)
abbrev s_l14Asked_n (y : Bool) : List Obj' := []
abbrev s_l14Asked_o (x : Roster × Int) (y : Bool) : List Obj' := []
noncomputable def s_l14Asked_S : FnSpec := modS [none, none] (fun x : Roster × Int => [Enc.e x.1, Enc.e x.2]) (fun x : Roster × Int => []) (fun x : Roster × Int => s_l14Asked x.1 x.2) s_l14Asked_r s_l14Asked_n s_l14Asked_o
theorem s_l14Asked_c {r : Roster} {driver : Int} {y : Bool} (h : s_l14Asked r driver = some y) : CallOK s_l14Asked_S [Enc.e r, Enc.e driver] [] (s_l14Asked_r y) (s_l14Asked_n y) (s_l14Asked_o (r, driver) y) :=
  modS_call (by
    rintro ⟨a0, a1⟩ ⟨b0, b1⟩ h hO
    simp only [List.cons.injEq, and_true] at h
    try simp only [List.cons.injEq, and_true, Obj'.box.injEq, Obj'.arr.injEq, true_and, AV.dat.injEq] at hO
    obtain ⟨h0, h1⟩ := h
    have q0 := Enc.inj _ _ h0
    have q1 := Enc.inj _ _ h1
    subst q0; subst q1; rfl) (x := (r, driver)) h
theorem s_l14Asked_ok : FnOK Try.prog 59 s_l14Asked_S := by
  have Γok : ∀ f S, lookF f [(44, s_l14Good_S), (56, s_l1In_S)] = some S → FnOK Try.prog f S := lookF_ok (allF_cons s_l14Good_ok (allF_cons s_l1In_ok allF_nil))
  have Γlive : Live (fun f => lookF f [(44, s_l14Good_S), (56, s_l1In_S)]) := lookF_live (allL_cons modS_live (allL_cons modS_live allL_nil))
  refine fnOK_mod ty_ok (fun args w => Try.call59 args w) Try.func59 rfl [.tmp 4] (by rw [Try.results59]) 15 Try.ntmps59 16 rfl (fun _ => by first | exact Nat.zero_le _ | (simp)) (fun _ => rfl) ?_
  rintro ⟨r, driver⟩ y cx hm hL
  have hm : s_l14Asked r driver = some y := hm
  have hL : cx.L = 0 := hL
  unfold s_l14Asked at hm
  refine X_reg_seq ty_ok Γok hL [] .nil (by kernel_rfl) ?_
  obtain ⟨r1, h, hm⟩ := obind hm
  obtain ⟨v, hv, hk⟩ := obind hm
  refine X_join (n := 15) (fun (v : Bool) => (⟨[(4, .dat (.sc (.bool v)))], [], 32⟩ : X)) v ?_ ?_
  · have hm := hv
    rcases btf r1 with hb | hb
    · have hm := it hb hm
      obtain ⟨r2, h1, hm⟩ := obind hm
      obtain rfl := some_inj hm
      refine X_reg ty_ok Γok hL [(1, .c (s_l14Good_r r1) (s_l14Good_n r1) (s_l14Good_o r r1)), (2, .b true), (6, .n (r.Plan.length : Int)), (8, .c (s_l1In_r r2) (s_l1In_n r2) (s_l1In_o (driver, 0, (w64 ((r.Plan.length : Int) - 1))) r2))] (.cons (s_l14Good_c h) (.cons hb (.cons (len_m Enc.e r.Plan) (.cons (s_l1In_c h1) .nil)))) (by kernel_rfl) ?_
      exact thN (Wk_J hL ⟨[(4, [])], [], [], 32⟩ (by kernel_rfl))
    · have hm := ie hb hm
      obtain rfl := some_inj hm
      refine X_reg ty_ok Γok hL [(1, .c (s_l14Good_r r1) (s_l14Good_n r1) (s_l14Good_o r r1)), (2, .b false)] (.cons (s_l14Good_c h) (.cons hb .nil)) (by kernel_rfl) ?_
      exact thN (Wk_J hL ⟨[(4, [])], [], [], 32⟩ (by kernel_rfl))
  have hm := hk
  obtain rfl := some_inj hm
  refine Ok_ret ?_
  repeat (first | refine thR ?_ | refine ibR ?_)
  exact X_fin [] [] (by kernel_rfl) trivial
abbrev s_BrokenRests_r (y : (List Int) × Bool) : AV := .tup [.own 0, .dat (Enc.e y.2)]
abbrev s_BrokenRests_n (y : (List Int) × Bool) : List Obj' := [.arr 3 1 (List.map Enc.e y.1)]
abbrev s_BrokenRests_o (x : Roster × Int) (y : (List Int) × Bool) : List Obj' := []
noncomputable def s_BrokenRests_S : FnSpec := modS [none, none] (fun x : Roster × Int => [Enc.e x.1, Enc.e x.2]) (fun x : Roster × Int => []) (fun x : Roster × Int => s_BrokenRests x.1 x.2) s_BrokenRests_r s_BrokenRests_n s_BrokenRests_o
theorem s_BrokenRests_c {r : Roster} {driver : Int} {y : (List Int) × Bool} (h : s_BrokenRests r driver = some y) : CallOK s_BrokenRests_S [Enc.e r, Enc.e driver] [] (s_BrokenRests_r y) (s_BrokenRests_n y) (s_BrokenRests_o (r, driver) y) :=
  modS_call (by
    rintro ⟨a0, a1⟩ ⟨b0, b1⟩ h hO
    simp only [List.cons.injEq, and_true] at h
    try simp only [List.cons.injEq, and_true, Obj'.box.injEq, Obj'.arr.injEq, true_and, AV.dat.injEq] at hO
    obtain ⟨h0, h1⟩ := h
    have q0 := Enc.inj _ _ h0
    have q1 := Enc.inj _ _ h1
    subst q0; subst q1; rfl) (x := (r, driver)) h
theorem s_BrokenRests_ok : FnOK Try.prog 18 s_BrokenRests_S := by
  have Γok : ∀ f S, lookF f [(59, s_l14Asked_S), (60, s_l14Rests_S)] = some S → FnOK Try.prog f S := lookF_ok (allF_cons s_l14Asked_ok (allF_cons s_l14Rests_ok allF_nil))
  have Γlive : Live (fun f => lookF f [(59, s_l14Asked_S), (60, s_l14Rests_S)]) := lookF_live (allL_cons modS_live (allL_cons modS_live allL_nil))
  refine fnOK_mod ty_ok (fun args w => Try.call18 args w) Try.func18 rfl [.tmp 4, .tmp 5] (by rw [Try.results18]) 14 Try.ntmps18 16 rfl (fun _ => by first | exact Nat.zero_le _ | (simp)) (fun _ => rfl) ?_
  rintro ⟨r, driver⟩ y cx hm hL
  have hm : s_BrokenRests r driver = some y := hm
  have hL : cx.L = 0 := hL
  unfold s_BrokenRests at hm
  refine X_reg_seq ty_ok Γok hL [] .nil (by kernel_rfl) ?_
  refine Ok_seq ?_
  obtain ⟨r1, h, hm⟩ := obind hm
  refine X_reg_seq ty_ok Γok hL [(2, .c (s_l14Asked_r r1) (s_l14Asked_n r1) (s_l14Asked_o (r, driver) r1))] (.cons (s_l14Asked_c h) .nil) (by kernel_rfl) ?_
  refine X_cond (!r1) (by kernel_rfl) (fun hc => ?_) (fun hc => ?_)
  · have hm := it hc hm
    refine X_reg_seq ty_ok Γok hL [] .nil (by kernel_rfl) ?_
    obtain rfl := some_inj hm
    refine Ok_ret ?_
    repeat (first | refine thR ?_ | refine ibR ?_)
    exact X_fin [128] [] (by kernel_rfl) trivial
  · have hm := ie hc hm
    refine X_skip ?_
    refine thN ?_
    obtain ⟨r2, h1, hm⟩ := obind hm
    refine X_reg_seq ty_ok Γok hL [(2, .c (s_l14Rests_r r2) (s_l14Rests_n r2) (s_l14Rests_o (r, driver) r2))] (.cons (s_l14Rests_c h1) .nil) (by kernel_rfl) ?_
    obtain rfl := some_inj hm
    refine Ok_ret ?_
    repeat (first | refine thR ?_ | refine ibR ?_)
    exact X_fin [160] [] (by kernel_rfl) trivial
abbrev v_FnRosterRules_r (y : Bool) : AV := .dat (Enc.e y)
abbrev v_FnRosterRules_n (y : Bool) : List Obj' := []
abbrev v_FnRosterRules_o (x : (List UInt8)) (y : Bool) : List Obj' := []
noncomputable def v_FnRosterRules_S : FnSpec := modS [none] (fun x : (List UInt8) => [Enc.e x]) (fun x : (List UInt8) => []) (fun x : (List UInt8) => v_FnRosterRules x) v_FnRosterRules_r v_FnRosterRules_n v_FnRosterRules_o
theorem v_FnRosterRules_c {code : List UInt8} {y : Bool} (h : v_FnRosterRules code = some y) : CallOK v_FnRosterRules_S [Enc.e code] [] (v_FnRosterRules_r y) (v_FnRosterRules_n y) (v_FnRosterRules_o code y) :=
  modS_call (by
    rintro a0 b0 h hO
    simp only [List.cons.injEq, and_true] at h
    try simp only [List.cons.injEq, and_true, Obj'.box.injEq, Obj'.arr.injEq, true_and, AV.dat.injEq] at hO
    have h0 := h
    have q0 := Enc.inj _ _ h0
    subst q0; rfl) (x := code) h
theorem v_FnRosterRules_ok : FnOK Try.prog 3 v_FnRosterRules_S := by
  have Γok : ∀ f S, lookF f [(6, v_rBig_S), (7, s_DrawKeepsRules_S), (8, i_KeepsRules_S), (9, s_KeepsRules_S), (10, i_BrokenRests_S), (11, i_LongestRow_S), (12, i_BusiestWeek_S), (13, i_TurnRoster_S), (14, v_rTable_S), (15, s_DrawTurnRoster_S), (16, s_TurnRoster_S), (17, s_DrawBrokenRests_S), (18, s_BrokenRests_S), (19, v_rInts_S)] = some S → FnOK Try.prog f S := lookF_ok (allF_cons v_rBig_ok (allF_cons s_DrawKeepsRules_ok (allF_cons i_KeepsRules_ok (allF_cons s_KeepsRules_ok (allF_cons i_BrokenRests_ok (allF_cons i_LongestRow_ok (allF_cons i_BusiestWeek_ok (allF_cons i_TurnRoster_ok (allF_cons v_rTable_ok (allF_cons s_DrawTurnRoster_ok (allF_cons s_TurnRoster_ok (allF_cons s_DrawBrokenRests_ok (allF_cons s_BrokenRests_ok (allF_cons v_rInts_ok allF_nil))))))))))))))
  have Γlive : Live (fun f => lookF f [(6, v_rBig_S), (7, s_DrawKeepsRules_S), (8, i_KeepsRules_S), (9, s_KeepsRules_S), (10, i_BrokenRests_S), (11, i_LongestRow_S), (12, i_BusiestWeek_S), (13, i_TurnRoster_S), (14, v_rTable_S), (15, s_DrawTurnRoster_S), (16, s_TurnRoster_S), (17, s_DrawBrokenRests_S), (18, s_BrokenRests_S), (19, v_rInts_S)]) := lookF_live (allL_cons modS_live (allL_cons modS_live (allL_cons modS_live (allL_cons modS_live (allL_cons modS_live (allL_cons modS_live (allL_cons modS_live (allL_cons modS_live (allL_cons modS_live (allL_cons modS_live (allL_cons modS_live (allL_cons modS_live (allL_cons modS_live (allL_cons modS_live allL_nil))))))))))))))
  refine fnOK_mod ty_ok (fun args w => Try.call3 args w) Try.func3 rfl [.tmp 2] (by rw [Try.results3]) 187 Try.ntmps3 16 rfl (fun _ => by first | exact Nat.zero_le _ | (simp)) (fun _ => rfl) ?_
  rintro code y cx hm hL
  have hm : v_FnRosterRules code = some y := hm
  have hL : cx.L = 0 := hL
  unfold v_FnRosterRules at hm
  refine X_reg_seq ty_ok Γok hL [] .nil (by kernel_rfl) ?_
  refine Ok_seq ?_
  obtain ⟨r, h, hm⟩ := obind hm
  refine X_reg_seq ty_ok Γok hL [(1, .c (v_rBig_r r) (v_rBig_n r) (v_rBig_o code r))] (.cons (v_rBig_c h) .nil) (by kernel_rfl) ?_
  refine X_cond r (by kernel_rfl) (fun hc => ?_) (fun hc => ?_)
  · have hm := it hc hm
    refine X_reg_seq ty_ok Γok hL [] .nil (by kernel_rfl) ?_
    obtain rfl := some_inj hm
    refine Ok_ret ?_
    repeat (first | refine thR ?_ | refine ibR ?_)
    exact X_fin [] [] (by kernel_rfl) trivial
  · have hm := ie hc hm
    refine X_skip ?_
    refine thN ?_
    obtain ⟨r1, h1, hm⟩ := obind hm
    refine X_reg_seq ty_ok Γok hL [(1, .c (s_DrawKeepsRules_r r1) (s_DrawKeepsRules_n r1) (s_DrawKeepsRules_o code r1))] (.cons (s_DrawKeepsRules_c h1) .nil) (by kernel_rfl) ?_
    obtain ⟨r2, h2, hm⟩ := obind hm
    refine X_reg_seq ty_ok Γok hL [(1, .c (i_KeepsRules_r r2) (i_KeepsRules_n r2) (i_KeepsRules_o (⟨r1.Shifts, r1.Rules, r1.Plan⟩ : Roster) r2))] (.cons (i_KeepsRules_c h2) .nil) (by kernel_rfl) ?_
    refine Ok_seq ?_
    obtain ⟨r3, h3, hm⟩ := obind hm
    refine X_reg_seq ty_ok Γok hL [(1, .c (s_KeepsRules_r r3) (s_KeepsRules_n r3) (s_KeepsRules_o (⟨r1.Shifts, r1.Rules, r1.Plan⟩ : Roster) r3))] (.cons (s_KeepsRules_c h3) .nil) (by kernel_rfl) ?_
    obtain ⟨v, hv, hk⟩ := obind hm
    refine X_join (n := 187) (fun (v : Bool) => (⟨[(0, .dat (Enc.e code)), (3, .ref 16 0), (4, .dat (.sc (.bool r2.1))), (5, .dat (.sc (.bool r2.2))), (52, .dat (.sc (.bool v)))], [(16, some (.box [.own 32, .dat (.sc (.int .i64 r1.Rules.MinRest)), .dat (.sc (.int .i64 r1.Rules.MaxRow)), .dat (.sc (.int .i64 r1.Rules.MaxWeek)), .own 48])), (32, some (.arr 121 2 (List.map Enc.e r1.Shifts))), (48, some (.tab 33 1 [some 3] (List.map Enc.e r1.Plan) 48 none))], 80⟩ : X)) v ?_ ?_
    · have hm := hv
      rcases btf (!(r2.1 == r3.1)) with hb | hb
      · have hm := it hb hm
        obtain rfl := some_inj hm
        refine X_reg ty_ok Γok hL [(3, .b true)] (.cons hb .nil) (by kernel_rfl) ?_
        exact thN (Wk_J hL ⟨[(0, []), (3, []), (4, []), (5, []), (52, [])], [(16, 96, []), (32, 80, []), (48, 81, [])], [], 80⟩ (by kernel_rfl))
      · have hm := ie hb hm
        obtain rfl := some_inj hm
        refine X_reg ty_ok Γok hL [(3, .b false)] (.cons hb .nil) (by kernel_rfl) ?_
        exact thN (Wk_J hL ⟨[(0, []), (3, []), (4, []), (5, []), (52, [])], [(16, 96, []), (32, 80, []), (48, 81, [])], [], 80⟩ (by kernel_rfl))
    have hm := hk
    refine X_cond v (by kernel_rfl) (fun hc1 => ?_) (fun hc1 => ?_)
    · have hm := it hc1 hm
      refine X_reg_seq ty_ok Γok hL [] .nil (by kernel_rfl) ?_
      obtain rfl := some_inj hm
      refine Ok_ret ?_
      repeat (first | refine thR ?_ | refine ibR ?_)
      exact X_fin [] [] (by kernel_rfl) trivial
    · have hm := ie hc1 hm
      refine X_skip ?_
      refine thN ?_
      obtain ⟨v4, hv1, hr, hk1⟩ := flb_t hm
      refine X_joinF (n := 187) (fun (_ : Unit) => (⟨[(0, .dat (Enc.e code))], [], 32⟩ : X)) v4 ?_ ?_
      · have hm := hv1
        refine X_reg_seq ty_ok Γok hL [] .nil (by kernel_rfl) ?_
        refine X_cond r2.2 (by kernel_rfl) (fun hc2 => ?_) (fun hc2 => ?_)
        · have hm := it hc2 hm
          refine X_reg_seq ty_ok Γok hL [] .nil (by kernel_rfl) ?_
          refine Ok_seq ?_
          refine X_reg_seq ty_ok Γok hL [] .nil (by kernel_rfl) ?_
          obtain ⟨v3, hv3, hr1, hk3⟩ := flb_t hm
          refine X_tailF (n := 187) (fun (i1 : Bool) => (⟨[(0, .dat (Enc.e code)), (3, .ref 16 0), (4, .dat (.sc (.bool r2.1))), (8, .dat (.sc (.bool i1)))], [(16, some (.box [.dat (Enc.e r1.Shifts), .dat (.sc (.int .i64 r1.Rules.MinRest)), .dat (.sc (.int .i64 r1.Rules.MaxRow)), .dat (.sc (.int .i64 r1.Rules.MaxWeek)), .dat (Enc.e r1.Plan)]))], 48⟩ : X)) v3 ?_ ?_
          · have hm := hv3
            refine Ok_block ?_
            refine X_loop (n := 187) (step := v_FnRosterRules_L1 r1) (fun ((i, rests) : Bool × Int) => (⟨[(0, .dat (Enc.e code)), (3, .ref 16 0), (4, .dat (.sc (.bool r2.1))), (8, .dat (.sc (.bool i))), (9, .dat (.sc (.int .i64 rests)))], [(16, some (.box [.dat (Enc.e r1.Shifts), .dat (.sc (.int .i64 r1.Rules.MinRest)), .dat (.sc (.int .i64 r1.Rules.MaxRow)), .dat (.sc (.int .i64 r1.Rules.MaxWeek)), .dat (Enc.e r1.Plan)]))], 48⟩ : X)) hm (Wk_J hL ⟨[(0, []), (3, []), (4, []), (8, []), (9, [])], [(16, 16, [])], [], 48⟩ (by kernel_rfl)) ?_
            rintro ⟨i, rests⟩ r0 hm hb1
            rw [v_FnRosterRules_L1] at hm
            refine Ok_seq ?_
            refine X_reg_seq ty_ok Γok hL [(3, .n (r1.Plan.length : Int))] (.cons (len_m Enc.e r1.Plan) .nil) (by kernel_rfl) ?_
            refine X_cond (decide (rests < (r1.Plan.length : Int))) (by kernel_rfl) (fun hc3 => ?_) (fun hc3 => ?_)
            · have hm := it hc3 hm
              refine X_skip ?_
              refine thN ?_
              refine Ok_seq ?_
              refine Ok_block ?_
              obtain ⟨r4, h4, hm⟩ := obind hm
              refine X_reg_seq ty_ok Γok hL [(2, .c (i_BrokenRests_r r4) (i_BrokenRests_n r4) (i_BrokenRests_o (r1, rests) r4))] (.cons (i_BrokenRests_c h4) .nil) (by kernel_rfl) ?_
              obtain ⟨r5, h5, hm⟩ := obind hm
              refine X_reg_seq ty_ok Γok hL [(2, .c (i_LongestRow_r r5) (i_LongestRow_n r5) (i_LongestRow_o (r1, rests) r5))] (.cons (i_LongestRow_c h5) .nil) (by kernel_rfl) ?_
              obtain ⟨r6, h6, hm⟩ := obind hm
              refine X_reg_seq ty_ok Γok hL [(2, .c (i_BusiestWeek_r r6) (i_BusiestWeek_n r6) (i_BusiestWeek_o (r1, rests) r6))] (.cons (i_BusiestWeek_c h6) .nil) (by kernel_rfl) ?_
              refine Ok_seq ?_
              obtain ⟨v1, hv2, hk2⟩ := obind hm
              refine X_join (n := 187) (fun (v1 : Bool) => (⟨[(0, .dat (Enc.e code)), (3, .ref 16 0), (4, .dat (.sc (.bool r2.1))), (8, .dat (.sc (.bool i))), (9, .dat (.sc (.int .i64 rests))), (10, .dat (Enc.e r4.1)), (12, .dat (.sc (.int .i64 r5.1))), (15, .dat (.sc (.int .i64 r6.2.1))), (89, .dat (.sc (.bool v1)))], [(16, some (.box [.dat (Enc.e r1.Shifts), .dat (.sc (.int .i64 r1.Rules.MinRest)), .dat (.sc (.int .i64 r1.Rules.MaxRow)), .dat (.sc (.int .i64 r1.Rules.MaxWeek)), .dat (Enc.e r1.Plan)]))], 48⟩ : X)) v1 ?_ ?_
              · have hm := hv2
                rcases btf (!r4.2) with hb2 | hb2
                · have hm := it hb2 hm
                  obtain rfl := some_inj hm
                  refine X_reg ty_ok Γok hL [(2, .b true)] (.cons hb2 .nil) (by kernel_rfl) ?_
                  exact thN (Wk_J hL ⟨[(0, []), (3, []), (4, []), (8, []), (9, []), (10, []), (12, []), (15, []), (89, [])], [(16, 16, [])], [], 48⟩ (by kernel_rfl))
                · have hm := ie hb2 hm
                  rcases btf (!r5.2) with hb3 | hb3
                  · have hm := it hb3 hm
                    obtain rfl := some_inj hm
                    refine X_reg ty_ok Γok hL [(2, .b false), (6, .b true)] (.cons hb2 (.cons hb3 .nil)) (by kernel_rfl) ?_
                    exact thN (Wk_J hL ⟨[(0, []), (3, []), (4, []), (8, []), (9, []), (10, []), (12, []), (15, []), (89, [])], [(16, 16, [])], [], 48⟩ (by kernel_rfl))
                  · have hm := ie hb3 hm
                    obtain rfl := some_inj hm
                    refine X_reg ty_ok Γok hL [(2, .b false), (6, .b false)] (.cons hb2 (.cons hb3 .nil)) (by kernel_rfl) ?_
                    exact thN (Wk_J hL ⟨[(0, []), (3, []), (4, []), (8, []), (9, []), (10, []), (12, []), (15, []), (89, [])], [(16, 16, [])], [], 48⟩ (by kernel_rfl))
              have hm := hk2
              refine X_cond v1 (by kernel_rfl) (fun hc4 => ?_) (fun hc4 => ?_)
              · have hm := it hc4 hm
                refine X_reg_seq ty_ok Γok hL [] .nil (by kernel_rfl) ?_
                obtain rfl := some_inj hm
                obtain rfl := hb1 _ rfl
                have hm := congrArg some (hr1 _ rfl)
                obtain rfl := some_inj hm
                have hm := congrArg some (hr _ rfl)
                obtain rfl := some_inj hm
                refine Ok_ret ?_
                repeat (first | refine thR ?_ | refine ibR ?_)
                exact X_fin [] [] (by kernel_rfl) trivial
              · have hm := ie hc4 hm
                refine X_skip ?_
                refine thN ?_
                rcases btf i with hb4 | hb4
                · have hm := it hb4 hm
                  rcases btf ((r4.1.length : Int) == 0) with hb5 | hb5
                  · have hm := it hb5 hm
                    rcases btf (decide (r5.1 ≤ r1.Rules.MaxRow)) with hb6 | hb6
                    · have hm := it hb6 hm
                      refine X_reg ty_ok Γok hL [(1, .b true), (3, .n (r4.1.length : Int)), (6, .b true), (13, .b true)] (.cons hb4 (.cons (len_m Enc.e r4.1) (.cons hb5 (.cons hb6 .nil)))) (by kernel_rfl) ?_
                      refine ibN ?_
                      refine thN ?_
                      refine X_reg ty_ok Γok hL [] .nil (by kernel_rfl) ?_
                      obtain rfl := some_inj hm
                      exact thN ⟨_, rfl, Wk_J hL ⟨[(0, []), (3, []), (4, []), (8, []), (9, [])], [(16, 16, [])], [], 48⟩ (by kernel_rfl)⟩
                    · have hm := ie hb6 hm
                      refine X_reg ty_ok Γok hL [(1, .b true), (3, .n (r4.1.length : Int)), (6, .b true), (13, .b false)] (.cons hb4 (.cons (len_m Enc.e r4.1) (.cons hb5 (.cons hb6 .nil)))) (by kernel_rfl) ?_
                      refine ibN ?_
                      refine thN ?_
                      refine X_reg ty_ok Γok hL [] .nil (by kernel_rfl) ?_
                      obtain rfl := some_inj hm
                      exact thN ⟨_, rfl, Wk_J hL ⟨[(0, []), (3, []), (4, []), (8, []), (9, [])], [(16, 16, [])], [], 48⟩ (by kernel_rfl)⟩
                  · have hm := ie hb5 hm
                    refine X_reg ty_ok Γok hL [(1, .b true), (3, .n (r4.1.length : Int)), (6, .b false)] (.cons hb4 (.cons (len_m Enc.e r4.1) (.cons hb5 .nil))) (by kernel_rfl) ?_
                    refine ibN ?_
                    refine thN ?_
                    refine X_reg ty_ok Γok hL [] .nil (by kernel_rfl) ?_
                    obtain rfl := some_inj hm
                    exact thN ⟨_, rfl, Wk_J hL ⟨[(0, []), (3, []), (4, []), (8, []), (9, [])], [(16, 16, [])], [], 48⟩ (by kernel_rfl)⟩
                · have hm := ie hb4 hm
                  refine X_reg ty_ok Γok hL [(1, .b false)] (.cons hb4 .nil) (by kernel_rfl) ?_
                  refine ibN ?_
                  refine thN ?_
                  refine X_reg ty_ok Γok hL [] .nil (by kernel_rfl) ?_
                  obtain rfl := some_inj hm
                  exact thN ⟨_, rfl, Wk_J hL ⟨[(0, []), (3, []), (4, []), (8, []), (9, [])], [(16, 16, [])], [], 48⟩ (by kernel_rfl)⟩
            · have hm := ie hc3 hm
              obtain rfl := some_inj hm
              obtain rfl := hb1 _ rfl
              refine Ok_exit ?_
              refine thE ?_
              refine thE ?_
              refine ibE ?_
              exact thN ⟨_, rfl, Wk_J hL ⟨[(0, []), (3, []), (4, []), (8, [])], [(16, 16, [])], [], 48⟩ (by kernel_rfl)⟩
          rintro i1 hu s hw
          have hm := hk3 _ hu
          refine thN ?_
          refine Ok_weak hw ?_
          obtain ⟨r9, h7, hm⟩ := obind hm
          refine X_reg_seq ty_ok Γok hL [(3, .n (r1.Plan.length : Int)), (4, .c (i_TurnRoster_r r9) (i_TurnRoster_n r9) (i_TurnRoster_o (r1, (r1.Plan.length : Int)) r9))] (.cons (len_m Enc.e r1.Plan) (.cons (i_TurnRoster_c h7) .nil)) (by kernel_rfl) ?_
          obtain ⟨v2, hv4, hk4⟩ := obind hm
          refine X_join (n := 187) (fun (v2 : Bool) => (⟨[(0, .dat (Enc.e code)), (132, .dat (.sc (.bool v2)))], [], 32⟩ : X)) v2 ?_ ?_
          · have hm := hv4
            rcases btf (!(i1 == r2.1)) with hb7 | hb7
            · have hm := it hb7 hm
              obtain rfl := some_inj hm
              refine X_reg ty_ok Γok hL [(3, .b true)] (.cons hb7 .nil) (by kernel_rfl) ?_
              exact thN (Wk_J hL ⟨[(0, []), (132, [])], [], [], 32⟩ (by kernel_rfl))
            · have hm := ie hb7 hm
              rcases btf (!r9.2) with hb8 | hb8
              · have hm := it hb8 hm
                obtain rfl := some_inj hm
                refine X_reg ty_ok Γok hL [(3, .b false), (7, .b true)] (.cons hb7 (.cons hb8 .nil)) (by kernel_rfl) ?_
                exact thN (Wk_J hL ⟨[(0, []), (132, [])], [], [], 32⟩ (by kernel_rfl))
              · have hm := ie hb8 hm
                obtain ⟨r10, h8, hm⟩ := obind hm
                obtain rfl := some_inj hm
                refine X_reg ty_ok Γok hL [(3, .b false), (7, .b false), (12, .c (v_rTable_r r10) (v_rTable_n r10) (v_rTable_o (r9.1.Plan, r1.Plan) r10))] (.cons hb7 (.cons hb8 (.cons (v_rTable_c h8) .nil))) (by kernel_rfl) ?_
                exact thN (Wk_J hL ⟨[(0, []), (132, [])], [], [], 32⟩ (by kernel_rfl))
          have hm := hk4
          refine X_cond v2 (by kernel_rfl) (fun hc5 => ?_) (fun hc5 => ?_)
          · have hm := it hc5 hm
            refine X_reg_seq ty_ok Γok hL [] .nil (by kernel_rfl) ?_
            obtain rfl := some_inj hm
            have hm := congrArg some (hr _ rfl)
            obtain rfl := some_inj hm
            refine Ok_ret ?_
            repeat (first | refine thR ?_ | refine ibR ?_)
            exact X_fin [] [] (by kernel_rfl) trivial
          · have hm := ie hc5 hm
            refine X_skip ?_
            obtain rfl := some_inj hm
            exact thN ⟨_, rfl, Wk_J hL ⟨[(0, [])], [], [], 32⟩ (by kernel_rfl)⟩
        · have hm := ie hc2 hm
          refine X_skip ?_
          obtain rfl := some_inj hm
          exact thN ⟨_, rfl, Wk_J hL ⟨[(0, [])], [], [], 32⟩ (by kernel_rfl)⟩
      rintro ⟨⟩ hu1
      have hm := hk1 _ hu1
      obtain ⟨r12, h9, hm⟩ := obind hm
      refine X_reg_seq ty_ok Γok hL [(1, .c (s_DrawTurnRoster_r r12) (s_DrawTurnRoster_n r12) (s_DrawTurnRoster_o code r12))] (.cons (s_DrawTurnRoster_c h9) .nil) (by kernel_rfl) ?_
      obtain ⟨r13, h10, hm⟩ := obind hm
      refine X_reg_seq ty_ok Γok hL [(2, .fz [48, 49] [] []), (2, .c (i_TurnRoster_r r13) (i_TurnRoster_n r13) (i_TurnRoster_o (r12.1, r12.2) r13))] (.cons (i_TurnRoster_c h10) .nil) (by kernel_rfl) ?_
      obtain ⟨r14, h11, hm⟩ := obind hm
      refine X_reg_seq ty_ok Γok hL [(2, .c (s_TurnRoster_r r14) (s_TurnRoster_n r14) (s_TurnRoster_o (r12.1, r12.2) r14))] (.cons (s_TurnRoster_c h11) .nil) (by kernel_rfl) ?_
      obtain ⟨r15, h12, hm⟩ := obind hm
      refine X_reg_seq ty_ok Γok hL [(1, .c (s_DrawBrokenRests_r r15) (s_DrawBrokenRests_n r15) (s_DrawBrokenRests_o code r15))] (.cons (s_DrawBrokenRests_c h12) .nil) (by kernel_rfl) ?_
      obtain ⟨r16, h13, hm⟩ := obind hm
      refine X_reg_seq ty_ok Γok hL [(2, .fz [464, 465] [] []), (2, .c (i_BrokenRests_r r16) (i_BrokenRests_n r16) (i_BrokenRests_o (r15.1, r15.2) r16))] (.cons (i_BrokenRests_c h13) .nil) (by kernel_rfl) ?_
      obtain ⟨r17, h14, hm⟩ := obind hm
      refine X_reg_seq ty_ok Γok hL [(2, .c (s_BrokenRests_r r17) (s_BrokenRests_n r17) (s_BrokenRests_o (r15.1, r15.2) r17))] (.cons (s_BrokenRests_c h14) .nil) (by kernel_rfl) ?_
      obtain ⟨r20, hv5, hk5⟩ := obind hm
      refine X_join (n := 187) (fun (r20 : Bool) => (⟨[(2, .dat (.sc (.bool r20)))], [], 32⟩ : X)) r20 ?_ ?_
      · have hm := hv5
        rcases btf (r13.2 == r14.2) with hb9 | hb9
        · have hm := it hb9 hm
          obtain ⟨r18, h15, hm⟩ := obind hm
          rcases btf r18 with hb10 | hb10
          · have hm := it hb10 hm
            rcases btf (r16.2 == r17.2) with hb11 | hb11
            · have hm := it hb11 hm
              obtain ⟨r19, h16, hm⟩ := obind hm
              obtain rfl := some_inj hm
              refine X_reg ty_ok Γok hL [(3, .b true), (8, .c (v_rTable_r r18) (v_rTable_n r18) (v_rTable_o (r13.1.Plan, r14.1.Plan) r18)), (10, .b true), (15, .b true), (18, .c (v_rInts_r r19) (v_rInts_n r19) (v_rInts_o (r16.1, r17.1) r19))] (.cons hb9 (.cons (v_rTable_c h15) (.cons hb10 (.cons hb11 (.cons (v_rInts_c h16) .nil))))) (by kernel_rfl) ?_
              exact thN (Wk_J hL ⟨[(2, [])], [], [], 32⟩ (by kernel_rfl))
            · have hm := ie hb11 hm
              obtain rfl := some_inj hm
              refine X_reg ty_ok Γok hL [(3, .b true), (8, .c (v_rTable_r r18) (v_rTable_n r18) (v_rTable_o (r13.1.Plan, r14.1.Plan) r18)), (10, .b true), (15, .b false)] (.cons hb9 (.cons (v_rTable_c h15) (.cons hb10 (.cons hb11 .nil)))) (by kernel_rfl) ?_
              exact thN (Wk_J hL ⟨[(2, [])], [], [], 32⟩ (by kernel_rfl))
          · have hm := ie hb10 hm
            obtain rfl := some_inj hm
            refine X_reg ty_ok Γok hL [(3, .b true), (8, .c (v_rTable_r r18) (v_rTable_n r18) (v_rTable_o (r13.1.Plan, r14.1.Plan) r18)), (10, .b false)] (.cons hb9 (.cons (v_rTable_c h15) (.cons hb10 .nil))) (by kernel_rfl) ?_
            exact thN (Wk_J hL ⟨[(2, [])], [], [], 32⟩ (by kernel_rfl))
        · have hm := ie hb9 hm
          obtain rfl := some_inj hm
          refine X_reg ty_ok Γok hL [(3, .b false)] (.cons hb9 .nil) (by kernel_rfl) ?_
          exact thN (Wk_J hL ⟨[(2, [])], [], [], 32⟩ (by kernel_rfl))
      have hm := hk5
      obtain rfl := some_inj hm
      refine Ok_ret ?_
      repeat (first | refine thR ?_ | refine ibR ?_)
      exact X_fin [] [] (by kernel_rfl) trivial
end Go.Proofs.Ytmpgpfekekobfaa
