/- Each function computes what its model says. Made by program (dec.py). -/
import Derived.Test.YtepdapiceklppaaRoW1
namespace Go.Proofs.Ytepdapiceklppaa
open Go Go.Ab
set_option maxRecDepth 100000
set_option maxHeartbeats 4000000
set_option linter.unusedVariables false
set_option linter.unusedSimpArgs false
abbrev s_l14Missing_r (y : (List Int)) : AV := .own 0
abbrev s_l14Missing_n (y : (List Int)) : List Obj' := [.arr 3 1 (List.map Enc.e y)]
abbrev s_l14Missing_o (x : Roster × Int) (y : (List Int)) : List Obj' := []
noncomputable def s_l14Missing_S : FnSpec := modS [.rd, .rd] (fun x : Roster × Int => [Enc.e x.1, Enc.e x.2]) (fun x : Roster × Int => []) (fun x : Roster × Int => s_l14Missing x.1 x.2) s_l14Missing_r s_l14Missing_n s_l14Missing_o
theorem s_l14Missing_c {r : Roster} {day : Int} {y : (List Int)} (h : s_l14Missing r day = some y) : CallOK s_l14Missing_S [Enc.e r, Enc.e day] [] (s_l14Missing_r y) (s_l14Missing_n y) (s_l14Missing_o (r, day) y) :=
  modS_call (by
    rintro ⟨a0, a1⟩ ⟨b0, b1⟩ h hO
    have q0 : a0 = b0 := Enc.inj _ _ (congrArg (fun l => List.getD l 0 (.sc undef)) h)
    have q1 : a1 = b1 := Enc.inj _ _ (congrArg (fun l => List.getD l 1 (.sc undef)) h)
    subst q0; subst q1; rfl) (x := (r, day)) h
theorem s_l14Missing_ok : FnOK Try.prog 90 s_l14Missing_S := by
  have Γok : ∀ f S, lookF f [] = some S → FnOK Try.prog f S := lookF_ok allF_nil
  have Γlive : Live (fun f => lookF f []) := lookF_live allL_nil
  refine fnOK_mod ty_ok (fun args w => Try.call90 args w) Try.func90 rfl [.tmp 4] (by rw [Try.results90]) 44 Try.ntmps90 16 rfl (fun _ => by first | exact Nat.zero_le _ | (simp)) ?_
  rintro ⟨r, day⟩ y cx hm hL
  have hm : s_l14Missing r day = some y := hm
  have hL : cx.L = 0 := hL
  unfold s_l14Missing at hm
  refine X_reg_seq ty_ok Γok hL [] .nil (by kernel_rfl) ?_
  refine X_reg_seq ty_ok Γok hL [] .nil (by kernel_rfl) ?_
  refine Ok_seq ?_
  refine X_reg_seq ty_ok Γok hL [] .nil (by kernel_rfl) ?_
  obtain ⟨have_2, hv2, hk2⟩ := obind hm
  refine X_tail (n := 44) (fun (have_2 : List Int) => (⟨[(5, .own 16)], [(16, some (.arr 3 1 (List.map Enc.e have_2)))], 48⟩ : X)) have_2 ?_ ?_
  · have hm := hv2
    refine Ok_block ?_
    refine X_loop (n := 44) (step := s_l14Missing_L2 r day) (fun ((i, have_) : Int × (List Int)) => (⟨[(1, .dat (.sc (.int .i64 day))), (2, .ref 16 0), (5, .own 32), (6, .dat (.sc (.int .i64 i)))], [(16, some (.box [.dat (Enc.e r.Shifts), .dat (.sc (.int .i64 r.Rules.MinRest)), .dat (.sc (.int .i64 r.Rules.MaxRow)), .dat (.sc (.int .i64 r.Rules.MaxWeek)), .dat (Enc.e r.Plan)])), (32, some (.arr 3 1 (List.map Enc.e have_)))], 64⟩ : X)) hm (Wk_J hL ⟨[(1, []), (2, []), (5, []), (6, [])], [(16, 16, []), (32, 48, [])], [], 64⟩ (by kernel_rfl)) ?_
    rintro ⟨i, have_⟩ r0 hm hb
    rw [s_l14Missing_L2] at hm
    refine Ok_seq ?_
    refine X_reg_seq ty_ok Γok hL [(3, .n (r.Shifts.length : Int))] (.cons (len_m Enc.e r.Shifts) .nil) (by kernel_rfl) ?_
    refine X_cond (decide (i < (r.Shifts.length : Int))) (by kernel_rfl) (fun hc => ?_) (fun hc => ?_)
    · have hm := it hc hm
      refine X_skip ?_
      refine thN ?_
      obtain ⟨have_1, hv, hk⟩ := obind hm
      refine X_join (n := 44) (fun (have_1 : List Int) => (⟨[(1, .dat (.sc (.int .i64 day))), (2, .ref 16 0), (5, .own 32), (6, .dat (.sc (.int .i64 i)))], [(16, some (.box [.dat (Enc.e r.Shifts), .dat (.sc (.int .i64 r.Rules.MinRest)), .dat (.sc (.int .i64 r.Rules.MaxRow)), .dat (.sc (.int .i64 r.Rules.MaxWeek)), .dat (Enc.e r.Plan)])), (32, some (.arr 3 1 (List.map Enc.e have_1)))], 64⟩ : X)) have_1 ?_ ?_
      · have hm := hv
        refine Ok_block ?_
        refine X_reg_seq ty_ok Γok hL [] .nil (by kernel_rfl) ?_
        refine Ok_seq ?_
        refine X_reg_seq ty_ok Γok hL [] .nil (by kernel_rfl) ?_
        obtain ⟨v2, hv1, hk1⟩ := obind hm
        refine X_tail (n := 44) (fun (v2 : Bool) => (⟨[(1, .dat (.sc (.int .i64 day))), (2, .ref 16 0), (5, .own 32), (6, .dat (.sc (.int .i64 i))), (7, .dat (.sc (.bool v2)))], [(16, some (.box [.dat (Enc.e r.Shifts), .dat (.sc (.int .i64 r.Rules.MinRest)), .dat (.sc (.int .i64 r.Rules.MaxRow)), .dat (.sc (.int .i64 r.Rules.MaxWeek)), .dat (Enc.e r.Plan)])), (32, some (.arr 3 1 (List.map Enc.e have_)))], 64⟩ : X)) v2 ?_ ?_
        · have hm := hv1
          refine Ok_block ?_
          refine X_loop (n := 44) (step := s_l14Missing_L1 r day i) (fun ((v, v1) : Bool × Int) => (⟨[(1, .dat (.sc (.int .i64 day))), (2, .ref 16 0), (5, .own 32), (6, .dat (.sc (.int .i64 i))), (7, .dat (.sc (.bool v))), (8, .dat (.sc (.int .i64 v1)))], [(16, some (.box [.dat (Enc.e r.Shifts), .dat (.sc (.int .i64 r.Rules.MinRest)), .dat (.sc (.int .i64 r.Rules.MaxRow)), .dat (.sc (.int .i64 r.Rules.MaxWeek)), .dat (Enc.e r.Plan)])), (32, some (.arr 3 1 (List.map Enc.e have_)))], 64⟩ : X)) hm (Wk_J hL ⟨[(1, []), (2, []), (5, []), (6, []), (7, []), (8, [])], [(16, 16, []), (32, 32, [])], [], 64⟩ (by kernel_rfl)) ?_
          rintro ⟨v, v1⟩ r0 hm hb1
          rw [s_l14Missing_L1] at hm
          refine Ok_seq ?_
          refine X_reg_seq ty_ok Γok hL [(3, .n (r.Plan.length : Int))] (.cons (len_m Enc.e r.Plan) .nil) (by kernel_rfl) ?_
          refine X_cond (decide (v1 < (r.Plan.length : Int))) (by kernel_rfl) (fun hc1 => ?_) (fun hc1 => ?_)
          · have hm := it hc1 hm
            refine X_skip ?_
            refine thN ?_
            refine Ok_seq ?_
            refine Ok_block ?_
            rcases btf v with hb2 | hb2
            · have hm := it hb2 hm
              refine X_reg ty_ok Γok hL [(1, .b true)] (.cons hb2 .nil) (by kernel_rfl) ?_
              refine ibN ?_
              refine thN ?_
              refine X_reg ty_ok Γok hL [] .nil (by kernel_rfl) ?_
              obtain rfl := some_inj hm
              exact thN ⟨_, rfl, Wk_J hL ⟨[(1, []), (2, []), (5, []), (6, []), (7, []), (8, [])], [(16, 16, []), (32, 32, [])], [], 64⟩ (by kernel_rfl)⟩
            · have hm := ie hb2 hm
              obtain ⟨e, h, hm⟩ := obind hm
              obtain ⟨e1, h1, hm⟩ := obind hm
              refine X_reg ty_ok Γok hL [(1, .b false), (5, .d (Enc.e e)), (8, .d (Enc.e e1))] (.cons hb2 (.cons (idx_m (f := Enc.e) h) (.cons (idx_m (f := Enc.e) h1) .nil))) (by kernel_rfl) ?_
              refine ibN ?_
              refine thN ?_
              refine X_reg ty_ok Γok hL [] .nil (by kernel_rfl) ?_
              obtain rfl := some_inj hm
              exact thN ⟨_, rfl, Wk_J hL ⟨[(1, []), (2, []), (5, []), (6, []), (7, []), (8, [])], [(16, 16, []), (32, 32, [])], [], 64⟩ (by kernel_rfl)⟩
          · have hm := ie hc1 hm
            obtain rfl := some_inj hm
            obtain rfl := hb1 _ rfl
            refine Ok_exit ?_
            refine thE ?_
            refine thE ?_
            refine ibE ?_
            exact thN (Wk_J hL ⟨[(1, []), (2, []), (5, []), (6, []), (7, [])], [(16, 16, []), (32, 32, [])], [], 64⟩ (by kernel_rfl))
        intro s hw
        have hm := hk1
        refine thN ?_
        refine Ok_weak hw ?_
        refine X_reg_seq ty_ok Γok hL [] .nil (by kernel_rfl) ?_
        refine X_cond (!v2) (by kernel_rfl) (fun hc2 => ?_) (fun hc2 => ?_)
        · have hm := it hc2 hm
          obtain ⟨u, h2, hm⟩ := obind hm
          refine X_reg ty_ok Γok hL [(3, .l (List.map Enc.e (have_ ++ ([i] : List Int))))] (.cons (app_p (f := Enc.e) (g := Enc.e) (l := have_) (r := ([i] : List Int)) (b := 8) (chk_t h2) rfl) (.cons (app_m Enc.e have_ ([i] : List Int)) .nil)) (by kernel_rfl) ?_
          refine ibN ?_
          obtain rfl := some_inj hm
          exact thN (Wk_J hL ⟨[(1, []), (2, []), (5, []), (6, [])], [(16, 16, []), (32, 144, [])], [], 64⟩ (by kernel_rfl))
        · have hm := ie hc2 hm
          refine X_skip ?_
          refine ibN ?_
          obtain rfl := some_inj hm
          exact thN (Wk_J hL ⟨[(1, []), (2, []), (5, []), (6, [])], [(16, 16, []), (32, 32, [])], [], 64⟩ (by kernel_rfl))
      have hm := hk
      refine X_reg ty_ok Γok hL [] .nil (by kernel_rfl) ?_
      obtain rfl := some_inj hm
      exact thN ⟨_, rfl, Wk_J hL ⟨[(1, []), (2, []), (5, []), (6, [])], [(16, 16, []), (32, 32, [])], [], 64⟩ (by kernel_rfl)⟩
    · have hm := ie hc hm
      obtain rfl := some_inj hm
      obtain rfl := hb _ rfl
      refine Ok_exit ?_
      refine thE ?_
      refine thE ?_
      refine ibE ?_
      exact thN (Wk_J hL ⟨[(5, [])], [(16, 32, [])], [], 48⟩ (by kernel_rfl))
  intro s1 hw1
  have hm := hk2
  refine thN ?_
  refine Ok_weak hw1 ?_
  refine X_reg_seq ty_ok Γok hL [] .nil (by kernel_rfl) ?_
  obtain rfl := some_inj hm
  refine Ok_ret ?_
  repeat (first | refine thR ?_ | refine ibR ?_)
  exact X_fin [16] [] (by kernel_rfl) trivial
abbrev s_l14Own_t_r (y : Roster) : AV := .aggv [.own 0, .dat (.sc (.int .i64 y.Rules.MinRest)), .dat (.sc (.int .i64 y.Rules.MaxRow)), .dat (.sc (.int .i64 y.Rules.MaxWeek)), .own 1]
abbrev s_l14Own_t_n (y : Roster) : List Obj' := [.arr 49 2 (List.map Enc.e y.Shifts), .tab 32 1 [some 3] (List.map Enc.e y.Plan) 0 none]
abbrev s_l14Own_t_o (x : Roster) (y : Roster) : List Obj' := []
noncomputable def s_l14Own_t_S : FnSpec := modS [.rd] (fun x : Roster => [Enc.e x]) (fun x : Roster => []) (fun x : Roster => s_l14Own_t x) s_l14Own_t_r s_l14Own_t_n s_l14Own_t_o
theorem s_l14Own_t_c {r : Roster} {y : Roster} (h : s_l14Own_t r = some y) : CallOK s_l14Own_t_S [Enc.e r] [] (s_l14Own_t_r y) (s_l14Own_t_n y) (s_l14Own_t_o r y) :=
  modS_call (by
    rintro a0 b0 h hO
    have q0 : a0 = b0 := Enc.inj _ _ (congrArg (fun l => List.getD l 0 (.sc undef)) h)
    subst q0; rfl) (x := r) h
theorem s_l14Own_t_ok : FnOK Try.prog 89 s_l14Own_t_S := by
  have Γok : ∀ f S, lookF f [(190, s_l1Own_S)] = some S → FnOK Try.prog f S := lookF_ok (allF_cons s_l1Own_ok allF_nil)
  have Γlive : Live (fun f => lookF f [(190, s_l1Own_S)]) := lookF_live (allL_cons modS_live allL_nil)
  refine fnOK_mod ty_ok (fun args w => Try.call89 args w) Try.func89 rfl [.cell 2 29] (by rw [Try.results89]) 31 Try.ntmps89 16 rfl (fun _ => by first | exact Nat.zero_le _ | (simp)) ?_
  rintro r y cx hm hL
  have hm : s_l14Own_t r = some y := hm
  have hL : cx.L = 0 := hL
  unfold s_l14Own_t at hm
  refine X_reg_seq ty_ok Γok hL [] .nil (by kernel_rfl) ?_
  obtain ⟨u1, h1, hm⟩ := obind hm
  refine X_draw_seq mixed ty_ok Γok Γlive [(3, [48]), (8, [96, 160])] (by kernel_rfl) [(3, .l (List.map Enc.e (([] : List Span) ++ r.Shifts)))] (.cons (app_p (f := Enc.e) (g := Enc.e) (l := ([] : List Span)) (r := r.Shifts) (b := 16) (chk_t h1) rfl) (.cons (app_m Enc.e ([] : List Span) r.Shifts) .nil)) (by kernel_rfl) ?_
  refine Ok_seq ?_
  refine X_reg_seq ty_ok Γok hL [] .nil (by kernel_rfl) ?_
  obtain ⟨v2, hv, hk⟩ := obind hm
  refine X_tail (n := 31) (fun (v2 : List (List Int)) => (⟨[(2, .ref 16 0), (3, .ref 32 0)], [(16, some (.box [.dat (.sc (.slice none 0 0)), .dat (.sc (.int .i64 0)), .dat (.sc (.int .i64 0)), .dat (.sc (.int .i64 0)), .dat (.sc (.slice none 0 0))])), (32, some (.box [.own 48, .dat (.sc (.int .i64 r.Rules.MinRest)), .dat (.sc (.int .i64 r.Rules.MaxRow)), .dat (.sc (.int .i64 r.Rules.MaxWeek)), .own 64])), (48, some (.arr 49 2 (List.map Enc.e (([] : List Span) ++ r.Shifts)))), (64, some (.tab 32 1 [some 3] (List.map Enc.e v2) 64 none))], 96⟩ : X)) v2 ?_ ?_
  · have hm := hv
    refine Ok_block ?_
    refine X_loop (n := 31) (step := s_l14Own_t_L1 r) (fun ((v, v1) : Int × (List (List Int))) => (⟨[(1, .ref 16 0), (2, .ref 32 0), (3, .ref 48 0), (4, .dat (.sc (.int .i64 v)))], [(16, some (.box [.dat (Enc.e r.Shifts), .dat (.sc (.int .i64 r.Rules.MinRest)), .dat (.sc (.int .i64 r.Rules.MaxRow)), .dat (.sc (.int .i64 r.Rules.MaxWeek)), .dat (Enc.e r.Plan)])), (32, some (.box [.dat (.sc (.slice none 0 0)), .dat (.sc (.int .i64 0)), .dat (.sc (.int .i64 0)), .dat (.sc (.int .i64 0)), .dat (.sc (.slice none 0 0))])), (48, some (.box [.own 64, .dat (.sc (.int .i64 r.Rules.MinRest)), .dat (.sc (.int .i64 r.Rules.MaxRow)), .dat (.sc (.int .i64 r.Rules.MaxWeek)), .own 80])), (64, some (.arr 49 2 (List.map Enc.e (([] : List Span) ++ r.Shifts)))), (80, some (.tab 32 1 [some 3] (List.map Enc.e v1) 80 none))], 112⟩ : X)) hm (Wk_J hL ⟨[(1, []), (2, []), (3, []), (4, [])], [(16, 16, []), (32, 32, []), (48, 160, [.k, .k, .k, .k, .o 80]), (64, 96, [])], [(80, 32, 1, [some 3])], 112⟩ (by kernel_rfl)) ?_
    rintro ⟨v, v1⟩ r0 hm hb
    rw [s_l14Own_t_L1] at hm
    refine Ok_seq ?_
    refine X_reg_seq ty_ok Γok hL [(3, .n (r.Plan.length : Int))] (.cons (len_m Enc.e r.Plan) .nil) (by kernel_rfl) ?_
    refine X_cond (decide (v < (r.Plan.length : Int))) (by kernel_rfl) (fun hc => ?_) (fun hc => ?_)
    · have hm := it hc hm
      refine X_skip ?_
      refine thN ?_
      refine Ok_seq ?_
      refine Ok_block ?_
      obtain ⟨e1, h5, hm⟩ := obind hm
      obtain ⟨r2, h6, hm⟩ := obind hm
      obtain ⟨u3, h7, hm⟩ := obind hm
      refine X_draw mixed ty_ok Γok Γlive [(8, [304]), (9, [80, 320]), (11, [48, 336])] (by kernel_rfl) [(5, .d (Enc.e e1)), (7, .c (s_l1Own_r r2) (s_l1Own_n r2) (s_l1Own_o e1 r2)), (9, .l (List.map Enc.e (v1 ++ ([r2] : List (List Int)))))] (.cons (idx_m (f := Enc.e) h5) (.cons (s_l1Own_c h6) (.cons (nodupB_ok (l := [304]) rfl) (.cons (app_p (f := Enc.e) (g := Enc.e) (l := v1) (r := ([r2] : List (List Int))) (b := 24) (chk_t h7) rfl) (.cons (app_m Enc.e v1 ([r2] : List (List Int))) .nil))))) (by kernel_rfl) ?_
      refine ibN ?_
      refine thN ?_
      refine X_reg ty_ok Γok hL [] .nil (by kernel_rfl) ?_
      obtain rfl := some_inj hm
      exact thN ⟨_, rfl, Wk_J hL ⟨[(1, []), (2, []), (3, []), (4, [])], [(16, 16, []), (32, 32, []), (48, 48, []), (64, 64, []), (80, 336, [])], [], 112⟩ (by kernel_rfl)⟩
    · have hm := ie hc hm
      obtain rfl := some_inj hm
      obtain rfl := hb _ rfl
      refine Ok_exit ?_
      refine thE ?_
      refine thE ?_
      refine ibE ?_
      exact thN (Wk_J hL ⟨[(2, []), (3, [])], [(16, 32, []), (32, 48, []), (48, 64, []), (64, 80, [])], [], 96⟩ (by kernel_rfl))
  intro s hw
  have hm := hk
  refine thN ?_
  refine Ok_weak hw ?_
  refine X_reg_seq ty_ok Γok hL [] .nil (by kernel_rfl) ?_
  obtain rfl := some_inj hm
  refine Ok_ret ?_
  repeat (first | refine thR ?_ | refine ibR ?_)
  exact X_fin [48, 64] [] (by kernel_rfl) trivial
abbrev s_l1Least_r (y : Int) : AV := .dat (Enc.e y)
abbrev s_l1Least_n (y : Int) : List Obj' := []
abbrev s_l1Least_o (x : Int × Int) (y : Int) : List Obj' := []
noncomputable def s_l1Least_S : FnSpec := modS [.rd, .rd] (fun x : Int × Int => [Enc.e x.1, Enc.e x.2]) (fun x : Int × Int => []) (fun x : Int × Int => s_l1Least x.1 x.2) s_l1Least_r s_l1Least_n s_l1Least_o
theorem s_l1Least_c {a : Int} {b : Int} {y : Int} (h : s_l1Least a b = some y) : CallOK s_l1Least_S [Enc.e a, Enc.e b] [] (s_l1Least_r y) (s_l1Least_n y) (s_l1Least_o (a, b) y) :=
  modS_call (by
    rintro ⟨a0, a1⟩ ⟨b0, b1⟩ h hO
    have q0 : a0 = b0 := Enc.inj _ _ (congrArg (fun l => List.getD l 0 (.sc undef)) h)
    have q1 : a1 = b1 := Enc.inj _ _ (congrArg (fun l => List.getD l 1 (.sc undef)) h)
    subst q0; subst q1; rfl) (x := (a, b)) h
theorem s_l1Least_ok : FnOK Try.prog 182 s_l1Least_S := by
  have Γok : ∀ f S, lookF f [] = some S → FnOK Try.prog f S := lookF_ok allF_nil
  have Γlive : Live (fun f => lookF f []) := lookF_live allL_nil
  refine fnOK_mod ty_ok (fun args w => Try.call182 args w) Try.func182 rfl [.tmp 4] (by rw [Try.results182]) 10 Try.ntmps182 16 rfl (fun _ => by first | exact Nat.zero_le _ | (simp)) ?_
  rintro ⟨a, b⟩ y cx hm hL
  have hm : s_l1Least a b = some y := hm
  have hL : cx.L = 0 := hL
  unfold s_l1Least at hm
  refine X_reg_seq ty_ok Γok hL [] .nil (by kernel_rfl) ?_
  refine Ok_seq ?_
  refine X_reg_seq ty_ok Γok hL [] .nil (by kernel_rfl) ?_
  refine X_cond (decide (a < b)) (by kernel_rfl) (fun hc => ?_) (fun hc => ?_)
  · have hm := it hc hm
    refine X_reg_seq ty_ok Γok hL [] .nil (by kernel_rfl) ?_
    obtain rfl := some_inj hm
    refine Ok_ret ?_
    repeat (first | refine thR ?_ | refine ibR ?_)
    exact X_fin [] [] (by kernel_rfl) trivial
  · have hm := ie hc hm
    refine X_skip ?_
    refine thN ?_
    refine X_reg_seq ty_ok Γok hL [] .nil (by kernel_rfl) ?_
    obtain rfl := some_inj hm
    refine Ok_ret ?_
    repeat (first | refine thR ?_ | refine ibR ?_)
    exact X_fin [] [] (by kernel_rfl) trivial
abbrev s_l14Length_r (y : Int) : AV := .dat (Enc.e y)
abbrev s_l14Length_n (y : Int) : List Obj' := []
abbrev s_l14Length_o (x : Roster × Int × Int) (y : Int) : List Obj' := []
noncomputable def s_l14Length_S : FnSpec := modS [.rd, .rd, .rd] (fun x : Roster × Int × Int => [Enc.e x.1, Enc.e x.2.1, Enc.e x.2.2]) (fun x : Roster × Int × Int => []) (fun x : Roster × Int × Int => s_l14Length x.1 x.2.1 x.2.2) s_l14Length_r s_l14Length_n s_l14Length_o
theorem s_l14Length_c {r : Roster} {driver : Int} {day : Int} {y : Int} (h : s_l14Length r driver day = some y) : CallOK s_l14Length_S [Enc.e r, Enc.e driver, Enc.e day] [] (s_l14Length_r y) (s_l14Length_n y) (s_l14Length_o (r, driver, day) y) :=
  modS_call (by
    rintro ⟨a0, a1, a2⟩ ⟨b0, b1, b2⟩ h hO
    have q0 : a0 = b0 := Enc.inj _ _ (congrArg (fun l => List.getD l 0 (.sc undef)) h)
    have q1 : a1 = b1 := Enc.inj _ _ (congrArg (fun l => List.getD l 1 (.sc undef)) h)
    have q2 : a2 = b2 := Enc.inj _ _ (congrArg (fun l => List.getD l 2 (.sc undef)) h)
    subst q0; subst q1; subst q2; rfl) (x := (r, driver, day)) h
theorem s_l14Length_ok : FnOK Try.prog 193 s_l14Length_S := by
  have Γok : ∀ f S, lookF f [] = some S → FnOK Try.prog f S := lookF_ok allF_nil
  have Γlive : Live (fun f => lookF f []) := lookF_live allL_nil
  refine fnOK_mod ty_ok (fun args w => Try.call193 args w) Try.func193 rfl [.tmp 6] (by rw [Try.results193]) 31 Try.ntmps193 16 rfl (fun _ => by first | exact Nat.zero_le _ | (simp)) ?_
  rintro ⟨r, driver, day⟩ y cx hm hL
  have hm : s_l14Length r driver day = some y := hm
  have hL : cx.L = 0 := hL
  unfold s_l14Length at hm
  refine X_reg_seq ty_ok Γok hL [] .nil (by kernel_rfl) ?_
  obtain ⟨e, h, hm⟩ := obind hm
  obtain ⟨e1, h1, hm⟩ := obind hm
  refine X_reg_seq ty_ok Γok hL [(3, .d (Enc.e e)), (6, .d (Enc.e e1))] (.cons (idx_m (f := Enc.e) h) (.cons (idx_m (f := Enc.e) h1) .nil)) (by kernel_rfl) ?_
  refine Ok_seq ?_
  refine X_reg_seq ty_ok Γok hL [] .nil (by kernel_rfl) ?_
  refine X_cond (decide (e1 < 0)) (by kernel_rfl) (fun hc => ?_) (fun hc => ?_)
  · have hm := it hc hm
    refine X_reg_seq ty_ok Γok hL [] .nil (by kernel_rfl) ?_
    obtain rfl := some_inj hm
    refine Ok_ret ?_
    repeat (first | refine thR ?_ | refine ibR ?_)
    exact X_fin [] [] (by kernel_rfl) trivial
  · have hm := ie hc hm
    refine X_skip ?_
    refine thN ?_
    obtain ⟨e4, h4, hm⟩ := obind hm
    obtain ⟨e5, h5, hm⟩ := obind hm
    refine X_draw_seq mixed ty_ok Γok Γlive [] (by kernel_rfl) [(3, .d (Enc.e e4)), (9, .d (Enc.e e5))] (.cons (idx_m (f := Enc.e) h4) (.cons (idx_m (f := Enc.e) h5) .nil)) (by kernel_rfl) ?_
    obtain rfl := some_inj hm
    refine Ok_ret ?_
    repeat (first | refine thR ?_ | refine ibR ?_)
    exact X_fin [] [] (by kernel_rfl) trivial
abbrev s_l14Week_r (y : Int × Int) : AV := .tup [.dat (Enc.e y.1), .dat (Enc.e y.2)]
abbrev s_l14Week_n (y : Int × Int) : List Obj' := []
abbrev s_l14Week_o (x : Roster × Int) (y : Int × Int) : List Obj' := []
noncomputable def s_l14Week_S : FnSpec := modS [.rd, .rd] (fun x : Roster × Int => [Enc.e x.1, Enc.e x.2]) (fun x : Roster × Int => []) (fun x : Roster × Int => s_l14Week x.1 x.2) s_l14Week_r s_l14Week_n s_l14Week_o
theorem s_l14Week_c {r : Roster} {driver : Int} {y : Int × Int} (h : s_l14Week r driver = some y) : CallOK s_l14Week_S [Enc.e r, Enc.e driver] [] (s_l14Week_r y) (s_l14Week_n y) (s_l14Week_o (r, driver) y) :=
  modS_call (by
    rintro ⟨a0, a1⟩ ⟨b0, b1⟩ h hO
    have q0 : a0 = b0 := Enc.inj _ _ (congrArg (fun l => List.getD l 0 (.sc undef)) h)
    have q1 : a1 = b1 := Enc.inj _ _ (congrArg (fun l => List.getD l 1 (.sc undef)) h)
    subst q0; subst q1; rfl) (x := (r, driver)) h
theorem s_l14Week_ok : FnOK Try.prog 100 s_l14Week_S := by
  have Γok : ∀ f S, lookF f [(182, s_l1Least_S), (193, s_l14Length_S)] = some S → FnOK Try.prog f S := lookF_ok (allF_cons s_l1Least_ok (allF_cons s_l14Length_ok allF_nil))
  have Γlive : Live (fun f => lookF f [(182, s_l1Least_S), (193, s_l14Length_S)]) := lookF_live (allL_cons modS_live (allL_cons modS_live allL_nil))
  refine fnOK_mod ty_ok (fun args w => Try.call100 args w) Try.func100 rfl [.tmp 4, .tmp 5] (by rw [Try.results100]) 50 Try.ntmps100 16 rfl (fun _ => by first | exact Nat.zero_le _ | (simp)) ?_
  rintro ⟨r, driver⟩ y cx hm hL
  have hm : s_l14Week r driver = some y := hm
  have hL : cx.L = 0 := hL
  unfold s_l14Week at hm
  refine X_reg_seq ty_ok Γok hL [] .nil (by kernel_rfl) ?_
  refine X_reg_seq ty_ok Γok hL [] .nil (by kernel_rfl) ?_
  obtain ⟨e, h, hm⟩ := obind hm
  refine X_reg_seq ty_ok Γok hL [(3, .d (Enc.e e)), (5, .n (e.length : Int))] (.cons (idx_m (f := Enc.e) h) (.cons (len_m Enc.e e) .nil)) (by kernel_rfl) ?_
  refine Ok_seq ?_
  refine X_reg_seq ty_ok Γok hL [] .nil (by kernel_rfl) ?_
  obtain ⟨vv1, hv3, hk3⟩ := obind hm
  refine X_tail (n := 50) (fun ((n2, d2) : Int × Int) => (⟨[(6, .dat (.sc (.int .i64 n2))), (7, .dat (.sc (.int .i64 d2)))], [], 32⟩ : X)) vv1 ?_ ?_
  · have hm := hv3
    refine Ok_block ?_
    refine X_loop (n := 50) (step := s_l14Week_L2 r driver e) (fun ((n, d, k) : Int × Int × Int) => (⟨[(1, .dat (.sc (.int .i64 driver))), (2, .ref 16 0), (6, .dat (.sc (.int .i64 n))), (7, .dat (.sc (.int .i64 d))), (8, .dat (.sc (.int .i64 (e.length : Int)))), (9, .dat (.sc (.int .i64 k)))], [(16, some (.box [.dat (Enc.e r.Shifts), .dat (.sc (.int .i64 r.Rules.MinRest)), .dat (.sc (.int .i64 r.Rules.MaxRow)), .dat (.sc (.int .i64 r.Rules.MaxWeek)), .dat (Enc.e r.Plan)]))], 48⟩ : X)) hm (Wk_J hL ⟨[(1, []), (2, []), (6, []), (7, []), (8, []), (9, [])], [(16, 16, [])], [], 48⟩ (by kernel_rfl)) ?_
    rintro ⟨n, d, k⟩ r0 hm hb
    rw [s_l14Week_L2] at hm
    refine Ok_seq ?_
    obtain ⟨v, hv, hk⟩ := obind hm
    refine X_join (n := 50) (fun (v : Bool) => (⟨[(1, .dat (.sc (.int .i64 driver))), (2, .ref 16 0), (6, .dat (.sc (.int .i64 n))), (7, .dat (.sc (.int .i64 d))), (8, .dat (.sc (.int .i64 (e.length : Int)))), (9, .dat (.sc (.int .i64 k))), (25, .dat (.sc (.bool v)))], [(16, some (.box [.dat (Enc.e r.Shifts), .dat (.sc (.int .i64 r.Rules.MinRest)), .dat (.sc (.int .i64 r.Rules.MaxRow)), .dat (.sc (.int .i64 r.Rules.MaxWeek)), .dat (Enc.e r.Plan)]))], 48⟩ : X)) v ?_ ?_
    · have hm := hv
      rcases btf (k == 0) with hb1 | hb1
      · have hm := it hb1 hm
        obtain rfl := some_inj hm
        refine X_reg ty_ok Γok hL [(2, .b true)] (.cons hb1 .nil) (by kernel_rfl) ?_
        exact thN (Wk_J hL ⟨[(1, []), (2, []), (6, []), (7, []), (8, []), (9, []), (25, [])], [(16, 16, [])], [], 48⟩ (by kernel_rfl))
      · have hm := ie hb1 hm
        obtain rfl := some_inj hm
        refine X_reg ty_ok Γok hL [(2, .b false)] (.cons hb1 .nil) (by kernel_rfl) ?_
        exact thN (Wk_J hL ⟨[(1, []), (2, []), (6, []), (7, []), (8, []), (9, []), (25, [])], [(16, 16, [])], [], 48⟩ (by kernel_rfl))
    have hm := hk
    refine X_cond v (by kernel_rfl) (fun hc => ?_) (fun hc => ?_)
    · have hm := it hc hm
      refine X_skip ?_
      refine thN ?_
      obtain ⟨vv, hv1, hk1⟩ := obind hm
      refine X_join (n := 50) (fun ((n1, d1) : Int × Int) => (⟨[(1, .dat (.sc (.int .i64 driver))), (2, .ref 16 0), (6, .dat (.sc (.int .i64 n1))), (7, .dat (.sc (.int .i64 d1))), (8, .dat (.sc (.int .i64 (e.length : Int)))), (9, .dat (.sc (.int .i64 k)))], [(16, some (.box [.dat (Enc.e r.Shifts), .dat (.sc (.int .i64 r.Rules.MinRest)), .dat (.sc (.int .i64 r.Rules.MaxRow)), .dat (.sc (.int .i64 r.Rules.MaxWeek)), .dat (Enc.e r.Plan)]))], 48⟩ : X)) vv ?_ ?_
      · have hm := hv1
        refine Ok_block ?_
        refine X_reg_seq ty_ok Γok hL [] .nil (by kernel_rfl) ?_
        refine Ok_seq ?_
        refine X_reg_seq ty_ok Γok hL [] .nil (by kernel_rfl) ?_
        obtain ⟨v3, hv2, hk2⟩ := obind hm
        refine X_tail (n := 50) (fun (v3 : Int) => (⟨[(1, .dat (.sc (.int .i64 driver))), (2, .ref 16 0), (6, .dat (.sc (.int .i64 n))), (7, .dat (.sc (.int .i64 d))), (8, .dat (.sc (.int .i64 (e.length : Int)))), (9, .dat (.sc (.int .i64 k))), (10, .dat (.sc (.int .i64 v3)))], [(16, some (.box [.dat (Enc.e r.Shifts), .dat (.sc (.int .i64 r.Rules.MinRest)), .dat (.sc (.int .i64 r.Rules.MaxRow)), .dat (.sc (.int .i64 r.Rules.MaxWeek)), .dat (Enc.e r.Plan)]))], 48⟩ : X)) v3 ?_ ?_
        · have hm := hv2
          refine Ok_block ?_
          refine X_loop (n := 50) (step := s_l14Week_L1 r driver e k) (fun ((v1, v2) : Int × Int) => (⟨[(1, .dat (.sc (.int .i64 driver))), (2, .ref 16 0), (6, .dat (.sc (.int .i64 n))), (7, .dat (.sc (.int .i64 d))), (8, .dat (.sc (.int .i64 (e.length : Int)))), (9, .dat (.sc (.int .i64 k))), (10, .dat (.sc (.int .i64 v1))), (11, .dat (.sc (.int .i64 v2)))], [(16, some (.box [.dat (Enc.e r.Shifts), .dat (.sc (.int .i64 r.Rules.MinRest)), .dat (.sc (.int .i64 r.Rules.MaxRow)), .dat (.sc (.int .i64 r.Rules.MaxWeek)), .dat (Enc.e r.Plan)]))], 48⟩ : X)) hm (Wk_J hL ⟨[(1, []), (2, []), (6, []), (7, []), (8, []), (9, []), (10, []), (11, [])], [(16, 16, [])], [], 48⟩ (by kernel_rfl)) ?_
          rintro ⟨v1, v2⟩ r0 hm hb2
          rw [s_l14Week_L1] at hm
          refine Ok_seq ?_
          obtain ⟨r1, h1, hm⟩ := obind hm
          refine X_reg_seq ty_ok Γok hL [(4, .c (s_l1Least_r r1) (s_l1Least_n r1) (s_l1Least_o ((w64 (k + 7)), (e.length : Int)) r1))] (.cons (s_l1Least_c h1) .nil) (by kernel_rfl) ?_
          refine X_cond (decide (v2 < r1)) (by kernel_rfl) (fun hc1 => ?_) (fun hc1 => ?_)
          · have hm := it hc1 hm
            refine X_skip ?_
            refine thN ?_
            refine Ok_seq ?_
            refine Ok_block ?_
            obtain ⟨r2, h2, hm⟩ := obind hm
            refine X_reg ty_ok Γok hL [(4, .c (s_l14Length_r r2) (s_l14Length_n r2) (s_l14Length_o (r, driver, v2) r2))] (.cons (s_l14Length_c h2) .nil) (by kernel_rfl) ?_
            refine ibN ?_
            refine thN ?_
            refine X_reg ty_ok Γok hL [] .nil (by kernel_rfl) ?_
            obtain rfl := some_inj hm
            exact thN ⟨_, rfl, Wk_J hL ⟨[(1, []), (2, []), (6, []), (7, []), (8, []), (9, []), (10, []), (11, [])], [(16, 16, [])], [], 48⟩ (by kernel_rfl)⟩
          · have hm := ie hc1 hm
            obtain rfl := some_inj hm
            obtain rfl := hb2 _ rfl
            refine Ok_exit ?_
            refine thE ?_
            refine thE ?_
            refine ibE ?_
            exact thN (Wk_J hL ⟨[(1, []), (2, []), (6, []), (7, []), (8, []), (9, []), (10, [])], [(16, 16, [])], [], 48⟩ (by kernel_rfl))
        intro s hw
        have hm := hk2
        refine thN ?_
        refine Ok_weak hw ?_
        refine X_reg_seq ty_ok Γok hL [] .nil (by kernel_rfl) ?_
        refine X_cond (decide (d < v3)) (by kernel_rfl) (fun hc2 => ?_) (fun hc2 => ?_)
        · have hm := it hc2 hm
          refine X_reg_seq ty_ok Γok hL [] .nil (by kernel_rfl) ?_
          refine X_reg ty_ok Γok hL [] .nil (by kernel_rfl) ?_
          refine ibN ?_
          obtain rfl := some_inj hm
          exact thN (Wk_J hL ⟨[(1, []), (2, []), (6, []), (7, []), (8, []), (9, [])], [(16, 16, [])], [], 48⟩ (by kernel_rfl))
        · have hm := ie hc2 hm
          refine X_skip ?_
          refine ibN ?_
          obtain rfl := some_inj hm
          exact thN (Wk_J hL ⟨[(1, []), (2, []), (6, []), (7, []), (8, []), (9, [])], [(16, 16, [])], [], 48⟩ (by kernel_rfl))
      obtain ⟨n1, d1⟩ := vv
      have hm := hk1
      refine X_reg ty_ok Γok hL [] .nil (by kernel_rfl) ?_
      obtain rfl := some_inj hm
      exact thN ⟨_, rfl, Wk_J hL ⟨[(1, []), (2, []), (6, []), (7, []), (8, []), (9, [])], [(16, 16, [])], [], 48⟩ (by kernel_rfl)⟩
    · have hm := ie hc hm
      obtain rfl := some_inj hm
      obtain rfl := hb _ rfl
      refine Ok_exit ?_
      refine thE ?_
      refine thE ?_
      refine ibE ?_
      exact thN (Wk_J hL ⟨[(6, []), (7, [])], [], [], 32⟩ (by kernel_rfl))
  obtain ⟨n2, d2⟩ := vv1
  intro s1 hw1
  have hm := hk3
  refine thN ?_
  refine Ok_weak hw1 ?_
  refine X_reg_seq ty_ok Γok hL [] .nil (by kernel_rfl) ?_
  obtain rfl := some_inj hm
  refine Ok_ret ?_
  repeat (first | refine thR ?_ | refine ibR ?_)
  exact X_fin [] [] (by kernel_rfl) trivial
abbrev s_l14Rests_r (y : (List Int)) : AV := .own 0
abbrev s_l14Rests_n (y : (List Int)) : List Obj' := [.arr 3 1 (List.map Enc.e y)]
abbrev s_l14Rests_o (x : Roster × Int) (y : (List Int)) : List Obj' := []
noncomputable def s_l14Rests_S : FnSpec := modS [.rd, .rd] (fun x : Roster × Int => [Enc.e x.1, Enc.e x.2]) (fun x : Roster × Int => []) (fun x : Roster × Int => s_l14Rests x.1 x.2) s_l14Rests_r s_l14Rests_n s_l14Rests_o
theorem s_l14Rests_c {r : Roster} {driver : Int} {y : (List Int)} (h : s_l14Rests r driver = some y) : CallOK s_l14Rests_S [Enc.e r, Enc.e driver] [] (s_l14Rests_r y) (s_l14Rests_n y) (s_l14Rests_o (r, driver) y) :=
  modS_call (by
    rintro ⟨a0, a1⟩ ⟨b0, b1⟩ h hO
    have q0 : a0 = b0 := Enc.inj _ _ (congrArg (fun l => List.getD l 0 (.sc undef)) h)
    have q1 : a1 = b1 := Enc.inj _ _ (congrArg (fun l => List.getD l 1 (.sc undef)) h)
    subst q0; subst q1; rfl) (x := (r, driver)) h
theorem s_l14Rests_ok : FnOK Try.prog 191 s_l14Rests_S := by
  have Γok : ∀ f S, lookF f [] = some S → FnOK Try.prog f S := lookF_ok allF_nil
  have Γlive : Live (fun f => lookF f []) := lookF_live allL_nil
  refine fnOK_mod ty_ok (fun args w => Try.call191 args w) Try.func191 rfl [.tmp 4] (by rw [Try.results191]) 59 Try.ntmps191 16 rfl (fun _ => by first | exact Nat.zero_le _ | (simp)) ?_
  rintro ⟨r, driver⟩ y cx hm hL
  have hm : s_l14Rests r driver = some y := hm
  have hL : cx.L = 0 := hL
  unfold s_l14Rests at hm
  refine X_reg_seq ty_ok Γok hL [] .nil (by kernel_rfl) ?_
  refine X_reg_seq ty_ok Γok hL [] .nil (by kernel_rfl) ?_
  refine X_reg_seq ty_ok Γok hL [] .nil (by kernel_rfl) ?_
  refine Ok_seq ?_
  refine X_reg_seq ty_ok Γok hL [] .nil (by kernel_rfl) ?_
  obtain ⟨d3, hv2, hk2⟩ := obind hm
  refine X_tail (n := 59) (fun (d3 : List Int) => (⟨[(5, .own 16)], [(16, some (.arr 3 1 (List.map Enc.e d3)))], 48⟩ : X)) d3 ?_ ?_
  · have hm := hv2
    refine Ok_block ?_
    refine X_loop (n := 59) (step := s_l14Rests_L1 r driver) (fun ((s, v, d) : Int × Int × (List Int)) => (⟨[(1, .dat (.sc (.int .i64 driver))), (2, .ref 16 0), (5, .own 32), (6, .dat (.sc (.int .i64 s))), (7, .dat (.sc (.int .i64 v)))], [(16, some (.box [.dat (Enc.e r.Shifts), .dat (.sc (.int .i64 r.Rules.MinRest)), .dat (.sc (.int .i64 r.Rules.MaxRow)), .dat (.sc (.int .i64 r.Rules.MaxWeek)), .dat (Enc.e r.Plan)])), (32, some (.arr 3 1 (List.map Enc.e d)))], 64⟩ : X)) hm (Wk_J hL ⟨[(1, []), (2, []), (5, []), (6, []), (7, [])], [(16, 16, []), (32, 48, [])], [], 64⟩ (by kernel_rfl)) ?_
    rintro ⟨s, v, d⟩ r0 hm hb
    rw [s_l14Rests_L1] at hm
    refine Ok_seq ?_
    obtain ⟨e, h, hm⟩ := obind hm
    refine X_reg_seq ty_ok Γok hL [(4, .d (Enc.e e)), (6, .n (e.length : Int))] (.cons (idx_m (f := Enc.e) h) (.cons (len_m Enc.e e) .nil)) (by kernel_rfl) ?_
    refine X_cond (decide (v < (e.length : Int))) (by kernel_rfl) (fun hc => ?_) (fun hc => ?_)
    · have hm := it hc hm
      refine X_skip ?_
      refine thN ?_
      obtain ⟨vv, hv, hk⟩ := obind hm
      refine X_join (n := 59) (fun ((s1, d1) : Int × (List Int)) => (⟨[(1, .dat (.sc (.int .i64 driver))), (2, .ref 16 0), (5, .own 32), (6, .dat (.sc (.int .i64 s1))), (7, .dat (.sc (.int .i64 v)))], [(16, some (.box [.dat (Enc.e r.Shifts), .dat (.sc (.int .i64 r.Rules.MinRest)), .dat (.sc (.int .i64 r.Rules.MaxRow)), .dat (.sc (.int .i64 r.Rules.MaxWeek)), .dat (Enc.e r.Plan)])), (32, some (.arr 3 1 (List.map Enc.e d1)))], 64⟩ : X)) vv ?_ ?_
      · have hm := hv
        refine Ok_block ?_
        obtain ⟨e1, h1, hm⟩ := obind hm
        obtain ⟨e2, h2, hm⟩ := obind hm
        refine X_reg_seq ty_ok Γok hL [(3, .d (Enc.e e1)), (6, .d (Enc.e e2))] (.cons (idx_m (f := Enc.e) h1) (.cons (idx_m (f := Enc.e) h2) .nil)) (by kernel_rfl) ?_
        refine Ok_seq ?_
        refine X_reg_seq ty_ok Γok hL [] .nil (by kernel_rfl) ?_
        refine X_cond (decide (e2 < 0)) (by kernel_rfl) (fun hc1 => ?_) (fun hc1 => ?_)
        · have hm := it hc1 hm
          refine Ok_exit ?_
          refine thE ?_
          refine ibE ?_
          obtain rfl := some_inj hm
          exact thN (Wk_J hL ⟨[(1, []), (2, []), (5, []), (6, []), (7, [])], [(16, 16, []), (32, 32, [])], [], 64⟩ (by kernel_rfl))
        · have hm := ie hc1 hm
          refine X_skip ?_
          refine thN ?_
          obtain ⟨d2, hv1, hk1⟩ := obind hm
          refine X_join (n := 59) (fun (d2 : List Int) => (⟨[(1, .dat (.sc (.int .i64 driver))), (2, .ref 16 0), (5, .own 32), (7, .dat (.sc (.int .i64 v))), (8, .dat (.sc (.int .i64 e2)))], [(16, some (.box [.dat (Enc.e r.Shifts), .dat (.sc (.int .i64 r.Rules.MinRest)), .dat (.sc (.int .i64 r.Rules.MaxRow)), .dat (.sc (.int .i64 r.Rules.MaxWeek)), .dat (Enc.e r.Plan)])), (32, some (.arr 3 1 (List.map Enc.e d2)))], 64⟩ : X)) d2 ?_ ?_
          · have hm := hv1
            obtain ⟨e4, h4, hm⟩ := obind hm
            refine X_draw_seq mixed ty_ok Γok Γlive [] (by kernel_rfl) [(5, .d (Enc.e e4))] (.cons (idx_m (f := Enc.e) h4) .nil) (by kernel_rfl) ?_
            refine X_cond (decide ((w64 ((w64 ((w64 (1440 * v)) + e4.From)) - s)) < r.Rules.MinRest)) (by kernel_rfl) (fun hc2 => ?_) (fun hc2 => ?_)
            · have hm := it hc2 hm
              obtain ⟨u, h5, hm⟩ := obind hm
              refine X_reg ty_ok Γok hL [(3, .l (List.map Enc.e (d ++ ([v] : List Int))))] (.cons (app_p (f := Enc.e) (g := Enc.e) (l := d) (r := ([v] : List Int)) (b := 8) (chk_t h5) rfl) (.cons (app_m Enc.e d ([v] : List Int)) .nil)) (by kernel_rfl) ?_
              obtain rfl := some_inj hm
              exact thN (Wk_J hL ⟨[(1, []), (2, []), (5, []), (7, []), (8, [])], [(16, 16, []), (32, 656, [])], [], 64⟩ (by kernel_rfl))
            · have hm := ie hc2 hm
              refine X_skip ?_
              obtain rfl := some_inj hm
              exact thN (Wk_J hL ⟨[(1, []), (2, []), (5, []), (7, []), (8, [])], [(16, 16, []), (32, 32, [])], [], 64⟩ (by kernel_rfl))
          have hm := hk1
          obtain ⟨e5, h6, hm⟩ := obind hm
          refine X_reg ty_ok Γok hL [(5, .d (Enc.e e5))] (.cons (idx_m (f := Enc.e) h6) .nil) (by kernel_rfl) ?_
          refine ibN ?_
          obtain rfl := some_inj hm
          exact thN (Wk_J hL ⟨[(1, []), (2, []), (5, []), (6, []), (7, [])], [(16, 16, []), (32, 32, [])], [], 64⟩ (by kernel_rfl))
      obtain ⟨s1, d1⟩ := vv
      have hm := hk
      refine X_reg ty_ok Γok hL [] .nil (by kernel_rfl) ?_
      obtain rfl := some_inj hm
      exact thN ⟨_, rfl, Wk_J hL ⟨[(1, []), (2, []), (5, []), (6, []), (7, [])], [(16, 16, []), (32, 32, [])], [], 64⟩ (by kernel_rfl)⟩
    · have hm := ie hc hm
      obtain rfl := some_inj hm
      obtain rfl := hb _ rfl
      refine Ok_exit ?_
      refine thE ?_
      refine thE ?_
      refine ibE ?_
      exact thN (Wk_J hL ⟨[(5, [])], [(16, 32, [])], [], 48⟩ (by kernel_rfl))
  intro s2 hw
  have hm := hk2
  refine thN ?_
  refine Ok_weak hw ?_
  refine X_reg_seq ty_ok Γok hL [] .nil (by kernel_rfl) ?_
  obtain rfl := some_inj hm
  refine Ok_ret ?_
  repeat (first | refine thR ?_ | refine ibR ?_)
  exact X_fin [16] [] (by kernel_rfl) trivial
abbrev s_l1Most_r (y : Int) : AV := .dat (Enc.e y)
abbrev s_l1Most_n (y : Int) : List Obj' := []
abbrev s_l1Most_o (x : Int × Int) (y : Int) : List Obj' := []
noncomputable def s_l1Most_S : FnSpec := modS [.rd, .rd] (fun x : Int × Int => [Enc.e x.1, Enc.e x.2]) (fun x : Int × Int => []) (fun x : Int × Int => s_l1Most x.1 x.2) s_l1Most_r s_l1Most_n s_l1Most_o
theorem s_l1Most_c {a : Int} {b : Int} {y : Int} (h : s_l1Most a b = some y) : CallOK s_l1Most_S [Enc.e a, Enc.e b] [] (s_l1Most_r y) (s_l1Most_n y) (s_l1Most_o (a, b) y) :=
  modS_call (by
    rintro ⟨a0, a1⟩ ⟨b0, b1⟩ h hO
    have q0 : a0 = b0 := Enc.inj _ _ (congrArg (fun l => List.getD l 0 (.sc undef)) h)
    have q1 : a1 = b1 := Enc.inj _ _ (congrArg (fun l => List.getD l 1 (.sc undef)) h)
    subst q0; subst q1; rfl) (x := (a, b)) h
theorem s_l1Most_ok : FnOK Try.prog 181 s_l1Most_S := by
  have Γok : ∀ f S, lookF f [] = some S → FnOK Try.prog f S := lookF_ok allF_nil
  have Γlive : Live (fun f => lookF f []) := lookF_live allL_nil
  refine fnOK_mod ty_ok (fun args w => Try.call181 args w) Try.func181 rfl [.tmp 4] (by rw [Try.results181]) 10 Try.ntmps181 16 rfl (fun _ => by first | exact Nat.zero_le _ | (simp)) ?_
  rintro ⟨a, b⟩ y cx hm hL
  have hm : s_l1Most a b = some y := hm
  have hL : cx.L = 0 := hL
  unfold s_l1Most at hm
  refine X_reg_seq ty_ok Γok hL [] .nil (by kernel_rfl) ?_
  refine Ok_seq ?_
  refine X_reg_seq ty_ok Γok hL [] .nil (by kernel_rfl) ?_
  refine X_cond (decide (b < a)) (by kernel_rfl) (fun hc => ?_) (fun hc => ?_)
  · have hm := it hc hm
    refine X_reg_seq ty_ok Γok hL [] .nil (by kernel_rfl) ?_
    obtain rfl := some_inj hm
    refine Ok_ret ?_
    repeat (first | refine thR ?_ | refine ibR ?_)
    exact X_fin [] [] (by kernel_rfl) trivial
  · have hm := ie hc hm
    refine X_skip ?_
    refine thN ?_
    refine X_reg_seq ty_ok Γok hL [] .nil (by kernel_rfl) ?_
    obtain rfl := some_inj hm
    refine Ok_ret ?_
    repeat (first | refine thR ?_ | refine ibR ?_)
    exact X_fin [] [] (by kernel_rfl) trivial
abbrev s_l14Row_r (y : Int) : AV := .dat (Enc.e y)
abbrev s_l14Row_n (y : Int) : List Obj' := []
abbrev s_l14Row_o (x : Roster × Int) (y : Int) : List Obj' := []
noncomputable def s_l14Row_S : FnSpec := modS [.rd, .rd] (fun x : Roster × Int => [Enc.e x.1, Enc.e x.2]) (fun x : Roster × Int => []) (fun x : Roster × Int => s_l14Row x.1 x.2) s_l14Row_r s_l14Row_n s_l14Row_o
theorem s_l14Row_c {r : Roster} {driver : Int} {y : Int} (h : s_l14Row r driver = some y) : CallOK s_l14Row_S [Enc.e r, Enc.e driver] [] (s_l14Row_r y) (s_l14Row_n y) (s_l14Row_o (r, driver) y) :=
  modS_call (by
    rintro ⟨a0, a1⟩ ⟨b0, b1⟩ h hO
    have q0 : a0 = b0 := Enc.inj _ _ (congrArg (fun l => List.getD l 0 (.sc undef)) h)
    have q1 : a1 = b1 := Enc.inj _ _ (congrArg (fun l => List.getD l 1 (.sc undef)) h)
    subst q0; subst q1; rfl) (x := (r, driver)) h
theorem s_l14Row_ok : FnOK Try.prog 192 s_l14Row_S := by
  have Γok : ∀ f S, lookF f [(181, s_l1Most_S)] = some S → FnOK Try.prog f S := lookF_ok (allF_cons s_l1Most_ok allF_nil)
  have Γlive : Live (fun f => lookF f [(181, s_l1Most_S)]) := lookF_live (allL_cons modS_live allL_nil)
  refine fnOK_mod ty_ok (fun args w => Try.call192 args w) Try.func192 rfl [.tmp 4] (by rw [Try.results192]) 33 Try.ntmps192 16 rfl (fun _ => by first | exact Nat.zero_le _ | (simp)) ?_
  rintro ⟨r, driver⟩ y cx hm hL
  have hm : s_l14Row r driver = some y := hm
  have hL : cx.L = 0 := hL
  unfold s_l14Row at hm
  refine X_reg_seq ty_ok Γok hL [] .nil (by kernel_rfl) ?_
  refine X_reg_seq ty_ok Γok hL [] .nil (by kernel_rfl) ?_
  refine Ok_seq ?_
  refine X_reg_seq ty_ok Γok hL [] .nil (by kernel_rfl) ?_
  obtain ⟨d1, hv1, hk1⟩ := obind hm
  refine X_tail (n := 33) (fun (d1 : Int) => (⟨[(5, .dat (.sc (.int .i64 d1)))], [], 32⟩ : X)) d1 ?_ ?_
  · have hm := hv1
    refine Ok_block ?_
    refine X_loop (n := 33) (step := s_l14Row_L1 r driver) (fun ((d, v, v1) : Int × Int × Int) => (⟨[(1, .dat (.sc (.int .i64 driver))), (2, .ref 16 0), (5, .dat (.sc (.int .i64 d))), (6, .dat (.sc (.int .i64 v))), (7, .dat (.sc (.int .i64 v1)))], [(16, some (.box [.dat (Enc.e r.Shifts), .dat (.sc (.int .i64 r.Rules.MinRest)), .dat (.sc (.int .i64 r.Rules.MaxRow)), .dat (.sc (.int .i64 r.Rules.MaxWeek)), .dat (Enc.e r.Plan)]))], 48⟩ : X)) hm (Wk_J hL ⟨[(1, []), (2, []), (5, []), (6, []), (7, [])], [(16, 16, [])], [], 48⟩ (by kernel_rfl)) ?_
    rintro ⟨d, v, v1⟩ r0 hm hb
    rw [s_l14Row_L1] at hm
    refine Ok_seq ?_
    obtain ⟨e, h, hm⟩ := obind hm
    refine X_reg_seq ty_ok Γok hL [(4, .d (Enc.e e)), (6, .n (e.length : Int))] (.cons (idx_m (f := Enc.e) h) (.cons (len_m Enc.e e) .nil)) (by kernel_rfl) ?_
    refine X_cond (decide (v1 < (e.length : Int))) (by kernel_rfl) (fun hc => ?_) (fun hc => ?_)
    · have hm := it hc hm
      refine X_skip ?_
      refine thN ?_
      refine Ok_seq ?_
      refine Ok_block ?_
      refine X_reg_seq ty_ok Γok hL [] .nil (by kernel_rfl) ?_
      obtain ⟨v2, hv, hk⟩ := obind hm
      refine X_join (n := 33) (fun (v2 : Int) => (⟨[(1, .dat (.sc (.int .i64 driver))), (2, .ref 16 0), (5, .dat (.sc (.int .i64 d))), (6, .dat (.sc (.int .i64 v2))), (7, .dat (.sc (.int .i64 v1)))], [(16, some (.box [.dat (Enc.e r.Shifts), .dat (.sc (.int .i64 r.Rules.MinRest)), .dat (.sc (.int .i64 r.Rules.MaxRow)), .dat (.sc (.int .i64 r.Rules.MaxWeek)), .dat (Enc.e r.Plan)]))], 48⟩ : X)) v2 ?_ ?_
      · have hm := hv
        obtain ⟨e1, h1, hm⟩ := obind hm
        obtain ⟨e2, h2, hm⟩ := obind hm
        refine X_reg_seq ty_ok Γok hL [(3, .d (Enc.e e1)), (6, .d (Enc.e e2))] (.cons (idx_m (f := Enc.e) h1) (.cons (idx_m (f := Enc.e) h2) .nil)) (by kernel_rfl) ?_
        refine X_cond (decide (e2 < 0)) (by kernel_rfl) (fun hc1 => ?_) (fun hc1 => ?_)
        · have hm := it hc1 hm
          refine X_reg ty_ok Γok hL [] .nil (by kernel_rfl) ?_
          obtain rfl := some_inj hm
          exact thN (Wk_J hL ⟨[(1, []), (2, []), (5, []), (6, []), (7, [])], [(16, 16, [])], [], 48⟩ (by kernel_rfl))
        · have hm := ie hc1 hm
          refine X_skip ?_
          obtain rfl := some_inj hm
          exact thN (Wk_J hL ⟨[(1, []), (2, []), (5, []), (6, []), (7, [])], [(16, 16, [])], [], 48⟩ (by kernel_rfl))
      have hm := hk
      obtain ⟨r1, h3, hm⟩ := obind hm
      refine X_reg ty_ok Γok hL [(2, .c (s_l1Most_r r1) (s_l1Most_n r1) (s_l1Most_o (d, v2) r1))] (.cons (s_l1Most_c h3) .nil) (by kernel_rfl) ?_
      refine ibN ?_
      refine thN ?_
      refine X_reg ty_ok Γok hL [] .nil (by kernel_rfl) ?_
      obtain rfl := some_inj hm
      exact thN ⟨_, rfl, Wk_J hL ⟨[(1, []), (2, []), (5, []), (6, []), (7, [])], [(16, 16, [])], [], 48⟩ (by kernel_rfl)⟩
    · have hm := ie hc hm
      obtain rfl := some_inj hm
      obtain rfl := hb _ rfl
      refine Ok_exit ?_
      refine thE ?_
      refine thE ?_
      refine ibE ?_
      exact thN (Wk_J hL ⟨[(5, [])], [], [], 32⟩ (by kernel_rfl))
  intro s hw
  have hm := hk1
  refine thN ?_
  refine Ok_weak hw ?_
  refine X_reg_seq ty_ok Γok hL [] .nil (by kernel_rfl) ?_
  obtain rfl := some_inj hm
  refine Ok_ret ?_
  repeat (first | refine thR ?_ | refine ibR ?_)
  exact X_fin [] [] (by kernel_rfl) trivial
abbrev s_l14Keeps_r (y : Bool) : AV := .dat (Enc.e y)
abbrev s_l14Keeps_n (y : Bool) : List Obj' := []
abbrev s_l14Keeps_o (x : Roster × Int) (y : Bool) : List Obj' := []
noncomputable def s_l14Keeps_S : FnSpec := modS [.rd, .rd] (fun x : Roster × Int => [Enc.e x.1, Enc.e x.2]) (fun x : Roster × Int => []) (fun x : Roster × Int => s_l14Keeps x.1 x.2) s_l14Keeps_r s_l14Keeps_n s_l14Keeps_o
theorem s_l14Keeps_c {r : Roster} {driver : Int} {y : Bool} (h : s_l14Keeps r driver = some y) : CallOK s_l14Keeps_S [Enc.e r, Enc.e driver] [] (s_l14Keeps_r y) (s_l14Keeps_n y) (s_l14Keeps_o (r, driver) y) :=
  modS_call (by
    rintro ⟨a0, a1⟩ ⟨b0, b1⟩ h hO
    have q0 : a0 = b0 := Enc.inj _ _ (congrArg (fun l => List.getD l 0 (.sc undef)) h)
    have q1 : a1 = b1 := Enc.inj _ _ (congrArg (fun l => List.getD l 1 (.sc undef)) h)
    subst q0; subst q1; rfl) (x := (r, driver)) h
theorem s_l14Keeps_ok : FnOK Try.prog 91 s_l14Keeps_S := by
  have Γok : ∀ f S, lookF f [(100, s_l14Week_S), (191, s_l14Rests_S), (192, s_l14Row_S)] = some S → FnOK Try.prog f S := lookF_ok (allF_cons s_l14Week_ok (allF_cons s_l14Rests_ok (allF_cons s_l14Row_ok allF_nil)))
  have Γlive : Live (fun f => lookF f [(100, s_l14Week_S), (191, s_l14Rests_S), (192, s_l14Row_S)]) := lookF_live (allL_cons modS_live (allL_cons modS_live (allL_cons modS_live allL_nil)))
  refine fnOK_mod ty_ok (fun args w => Try.call91 args w) Try.func91 rfl [.tmp 4] (by rw [Try.results91]) 34 Try.ntmps91 16 rfl (fun _ => by first | exact Nat.zero_le _ | (simp)) ?_
  rintro ⟨r, driver⟩ y cx hm hL
  have hm : s_l14Keeps r driver = some y := hm
  have hL : cx.L = 0 := hL
  unfold s_l14Keeps at hm
  refine X_reg_seq ty_ok Γok hL [] .nil (by kernel_rfl) ?_
  obtain ⟨r1, h, hm⟩ := obind hm
  refine X_reg_seq ty_ok Γok hL [(2, .c (s_l14Week_r r1) (s_l14Week_n r1) (s_l14Week_o (r, driver) r1))] (.cons (s_l14Week_c h) .nil) (by kernel_rfl) ?_
  obtain ⟨r4, h3, hm⟩ := obind hm
  obtain ⟨sum, hv, hk⟩ := obind hm
  refine X_join (n := 34) (fun (sum : Bool) => (⟨[(4, .dat (.sc (.bool sum)))], [], 32⟩ : X)) sum ?_ ?_
  · have hm := hv
    rcases btf ((r4.length : Int) == 0) with hb | hb
    · have hm := it hb hm
      obtain ⟨r5, h4, hm⟩ := obind hm
      rcases btf (decide (r5 ≤ r.Rules.MaxRow)) with hb1 | hb1
      · have hm := it hb1 hm
        obtain rfl := some_inj hm
        refine X_draw mixed ty_ok Γok Γlive [] (by kernel_rfl) [(2, .c (s_l14Rests_r r4) (s_l14Rests_n r4) (s_l14Rests_o (r, driver) r4)), (3, .n (r4.length : Int)), (5, .b true), (8, .c (s_l14Row_r r5) (s_l14Row_n r5) (s_l14Row_o (r, driver) r5)), (14, .b true)] (.cons (s_l14Rests_c h3) (.cons (len_m Enc.e r4) (.cons hb (.cons (s_l14Row_c h4) (.cons hb1 .nil))))) (by kernel_rfl) ?_
        exact thN (Wk_J hL ⟨[(4, [])], [], [], 32⟩ (by kernel_rfl))
      · have hm := ie hb1 hm
        obtain rfl := some_inj hm
        refine X_draw mixed ty_ok Γok Γlive [] (by kernel_rfl) [(2, .c (s_l14Rests_r r4) (s_l14Rests_n r4) (s_l14Rests_o (r, driver) r4)), (3, .n (r4.length : Int)), (5, .b true), (8, .c (s_l14Row_r r5) (s_l14Row_n r5) (s_l14Row_o (r, driver) r5)), (14, .b false)] (.cons (s_l14Rests_c h3) (.cons (len_m Enc.e r4) (.cons hb (.cons (s_l14Row_c h4) (.cons hb1 .nil))))) (by kernel_rfl) ?_
        exact thN (Wk_J hL ⟨[(4, [])], [], [], 32⟩ (by kernel_rfl))
    · have hm := ie hb hm
      obtain rfl := some_inj hm
      refine X_draw mixed ty_ok Γok Γlive [] (by kernel_rfl) [(2, .c (s_l14Rests_r r4) (s_l14Rests_n r4) (s_l14Rests_o (r, driver) r4)), (3, .n (r4.length : Int)), (5, .b false)] (.cons (s_l14Rests_c h3) (.cons (len_m Enc.e r4) (.cons hb .nil))) (by kernel_rfl) ?_
      exact thN (Wk_J hL ⟨[(4, [])], [], [], 32⟩ (by kernel_rfl))
  have hm := hk
  obtain rfl := some_inj hm
  refine Ok_ret ?_
  repeat (first | refine thR ?_ | refine ibR ?_)
  exact X_fin [] [] (by kernel_rfl) trivial
abbrev s_l14Worked_r (y : Int) : AV := .dat (Enc.e y)
abbrev s_l14Worked_n (y : Int) : List Obj' := []
abbrev s_l14Worked_o (x : Roster × Int) (y : Int) : List Obj' := []
noncomputable def s_l14Worked_S : FnSpec := modS [.rd, .rd] (fun x : Roster × Int => [Enc.e x.1, Enc.e x.2]) (fun x : Roster × Int => []) (fun x : Roster × Int => s_l14Worked x.1 x.2) s_l14Worked_r s_l14Worked_n s_l14Worked_o
theorem s_l14Worked_c {r : Roster} {driver : Int} {y : Int} (h : s_l14Worked r driver = some y) : CallOK s_l14Worked_S [Enc.e r, Enc.e driver] [] (s_l14Worked_r y) (s_l14Worked_n y) (s_l14Worked_o (r, driver) y) :=
  modS_call (by
    rintro ⟨a0, a1⟩ ⟨b0, b1⟩ h hO
    have q0 : a0 = b0 := Enc.inj _ _ (congrArg (fun l => List.getD l 0 (.sc undef)) h)
    have q1 : a1 = b1 := Enc.inj _ _ (congrArg (fun l => List.getD l 1 (.sc undef)) h)
    subst q0; subst q1; rfl) (x := (r, driver)) h
theorem s_l14Worked_ok : FnOK Try.prog 92 s_l14Worked_S := by
  have Γok : ∀ f S, lookF f [(193, s_l14Length_S)] = some S → FnOK Try.prog f S := lookF_ok (allF_cons s_l14Length_ok allF_nil)
  have Γlive : Live (fun f => lookF f [(193, s_l14Length_S)]) := lookF_live (allL_cons modS_live allL_nil)
  refine fnOK_mod ty_ok (fun args w => Try.call92 args w) Try.func92 rfl [.tmp 4] (by rw [Try.results92]) 24 Try.ntmps92 16 rfl (fun _ => by first | exact Nat.zero_le _ | (simp)) ?_
  rintro ⟨r, driver⟩ y cx hm hL
  have hm : s_l14Worked r driver = some y := hm
  have hL : cx.L = 0 := hL
  unfold s_l14Worked at hm
  refine X_reg_seq ty_ok Γok hL [] .nil (by kernel_rfl) ?_
  refine X_reg_seq ty_ok Γok hL [] .nil (by kernel_rfl) ?_
  refine Ok_seq ?_
  refine X_reg_seq ty_ok Γok hL [] .nil (by kernel_rfl) ?_
  obtain ⟨v2, hv, hk⟩ := obind hm
  refine X_tail (n := 24) (fun (v2 : Int) => (⟨[(5, .dat (.sc (.int .i64 v2)))], [], 32⟩ : X)) v2 ?_ ?_
  · have hm := hv
    refine Ok_block ?_
    refine X_loop (n := 24) (step := s_l14Worked_L1 r driver) (fun ((v, v1) : Int × Int) => (⟨[(1, .dat (.sc (.int .i64 driver))), (2, .ref 16 0), (5, .dat (.sc (.int .i64 v))), (6, .dat (.sc (.int .i64 v1)))], [(16, some (.box [.dat (Enc.e r.Shifts), .dat (.sc (.int .i64 r.Rules.MinRest)), .dat (.sc (.int .i64 r.Rules.MaxRow)), .dat (.sc (.int .i64 r.Rules.MaxWeek)), .dat (Enc.e r.Plan)]))], 48⟩ : X)) hm (Wk_J hL ⟨[(1, []), (2, []), (5, []), (6, [])], [(16, 16, [])], [], 48⟩ (by kernel_rfl)) ?_
    rintro ⟨v, v1⟩ r0 hm hb
    rw [s_l14Worked_L1] at hm
    refine Ok_seq ?_
    obtain ⟨e, h, hm⟩ := obind hm
    refine X_reg_seq ty_ok Γok hL [(4, .d (Enc.e e)), (6, .n (e.length : Int))] (.cons (idx_m (f := Enc.e) h) (.cons (len_m Enc.e e) .nil)) (by kernel_rfl) ?_
    refine X_cond (decide (v1 < (e.length : Int))) (by kernel_rfl) (fun hc => ?_) (fun hc => ?_)
    · have hm := it hc hm
      refine X_skip ?_
      refine thN ?_
      refine Ok_seq ?_
      refine Ok_block ?_
      obtain ⟨r1, h1, hm⟩ := obind hm
      refine X_reg ty_ok Γok hL [(4, .c (s_l14Length_r r1) (s_l14Length_n r1) (s_l14Length_o (r, driver, v1) r1))] (.cons (s_l14Length_c h1) .nil) (by kernel_rfl) ?_
      refine ibN ?_
      refine thN ?_
      refine X_reg ty_ok Γok hL [] .nil (by kernel_rfl) ?_
      obtain rfl := some_inj hm
      exact thN ⟨_, rfl, Wk_J hL ⟨[(1, []), (2, []), (5, []), (6, [])], [(16, 16, [])], [], 48⟩ (by kernel_rfl)⟩
    · have hm := ie hc hm
      obtain rfl := some_inj hm
      obtain rfl := hb _ rfl
      refine Ok_exit ?_
      refine thE ?_
      refine thE ?_
      refine ibE ?_
      exact thN (Wk_J hL ⟨[(5, [])], [], [], 32⟩ (by kernel_rfl))
  intro s hw
  have hm := hk
  refine thN ?_
  refine Ok_weak hw ?_
  refine X_reg_seq ty_ok Γok hL [] .nil (by kernel_rfl) ?_
  obtain rfl := some_inj hm
  refine Ok_ret ?_
  repeat (first | refine thR ?_ | refine ibR ?_)
  exact X_fin [] [] (by kernel_rfl) trivial
abbrev s_FillDay_r (y : Roster × (List Int) × Bool) : AV := .tup [.dat (Enc.e y.1), .own 0, .dat (Enc.e y.2.2)]
abbrev s_FillDay_n (y : Roster × (List Int) × Bool) : List Obj' := [.arr 3 1 (List.map Enc.e y.2.1)]
abbrev s_FillDay_o (x : Roster × Int) (y : Roster × (List Int) × Bool) : List Obj' := []
noncomputable def s_FillDay_S : FnSpec := modS [.rd, .rd] (fun x : Roster × Int => [Enc.e x.1, Enc.e x.2]) (fun x : Roster × Int => []) (fun x : Roster × Int => s_FillDay x.1 x.2) s_FillDay_r s_FillDay_n s_FillDay_o
theorem s_FillDay_c {r : Roster} {day : Int} {y : Roster × (List Int) × Bool} (h : s_FillDay r day = some y) : CallOK s_FillDay_S [Enc.e r, Enc.e day] [] (s_FillDay_r y) (s_FillDay_n y) (s_FillDay_o (r, day) y) :=
  modS_call (by
    rintro ⟨a0, a1⟩ ⟨b0, b1⟩ h hO
    have q0 : a0 = b0 := Enc.inj _ _ (congrArg (fun l => List.getD l 0 (.sc undef)) h)
    have q1 : a1 = b1 := Enc.inj _ _ (congrArg (fun l => List.getD l 1 (.sc undef)) h)
    subst q0; subst q1; rfl) (x := (r, day)) h
theorem s_FillDay_ok : FnOK Try.prog 12 s_FillDay_S := by
  have Γok : ∀ f S, lookF f [(87, s_l14Good_S), (88, s_l1In_S), (89, s_l14Own_t_S), (90, s_l14Missing_S), (91, s_l14Keeps_S), (92, s_l14Worked_S)] = some S → FnOK Try.prog f S := lookF_ok (allF_cons s_l14Good_ok (allF_cons s_l1In_ok (allF_cons s_l14Own_t_ok (allF_cons s_l14Missing_ok (allF_cons s_l14Keeps_ok (allF_cons s_l14Worked_ok allF_nil))))))
  have Γlive : Live (fun f => lookF f [(87, s_l14Good_S), (88, s_l1In_S), (89, s_l14Own_t_S), (90, s_l14Missing_S), (91, s_l14Keeps_S), (92, s_l14Worked_S)]) := lookF_live (allL_cons modS_live (allL_cons modS_live (allL_cons modS_live (allL_cons modS_live (allL_cons modS_live (allL_cons modS_live allL_nil))))))
  refine fnOK_mod ty_ok (fun args w => Try.call12 args w) Try.func12 rfl [.cell 4 29, .tmp 5, .tmp 6] (by rw [Try.results12]) 110 Try.ntmps12 16 rfl (fun _ => by first | exact Nat.zero_le _ | (simp)) ?_
  rintro ⟨r, day⟩ y cx hm hL
  have hm : s_FillDay r day = some y := hm
  have hL : cx.L = 0 := hL
  unfold s_FillDay at hm
  refine X_reg_seq ty_ok Γok hL [] .nil (by kernel_rfl) ?_
  refine X_reg_seq ty_ok Γok hL [] .nil (by kernel_rfl) ?_
  refine Ok_seq ?_
  obtain ⟨r1, h, hm⟩ := obind hm
  obtain ⟨v, hv, hk⟩ := obind hm
  refine X_join (n := 110) (fun (v : Bool) => (⟨[(1, .dat (.sc (.int .i64 day))), (2, .ref 16 0), (4, .ref 32 0), (7, .own 48), (28, .dat (.sc (.bool v)))], [(16, some (.box [.dat (Enc.e r.Shifts), .dat (.sc (.int .i64 r.Rules.MinRest)), .dat (.sc (.int .i64 r.Rules.MaxRow)), .dat (.sc (.int .i64 r.Rules.MaxWeek)), .dat (Enc.e r.Plan)])), (32, some (.box [.dat (.sc (.slice none 0 0)), .dat (.sc (.int .i64 0)), .dat (.sc (.int .i64 0)), .dat (.sc (.int .i64 0)), .dat (.sc (.slice none 0 0))])), (48, some (.arr 3 1 (List.map Enc.e ([] : List Int))))], 80⟩ : X)) v ?_ ?_
  · have hm := hv
    rcases btf (!r1) with hb | hb
    · have hm := it hb hm
      obtain rfl := some_inj hm
      refine X_reg ty_ok Γok hL [(1, .c (s_l14Good_r r1) (s_l14Good_n r1) (s_l14Good_o r r1)), (3, .b true)] (.cons (s_l14Good_c h) (.cons hb .nil)) (by kernel_rfl) ?_
      exact thN (Wk_J hL ⟨[(1, []), (2, []), (4, []), (7, []), (28, [])], [(16, 16, []), (32, 32, []), (48, 80, [])], [], 80⟩ (by kernel_rfl))
    · have hm := ie hb hm
      obtain ⟨e, h1, hm⟩ := obind hm
      obtain ⟨r2, h2, hm⟩ := obind hm
      obtain rfl := some_inj hm
      refine X_reg ty_ok Γok hL [(1, .c (s_l14Good_r r1) (s_l14Good_n r1) (s_l14Good_o r r1)), (3, .b false), (7, .d (Enc.e e)), (9, .n (e.length : Int)), (11, .c (s_l1In_r r2) (s_l1In_n r2) (s_l1In_o (day, 0, (w64 ((e.length : Int) - 1))) r2))] (.cons (s_l14Good_c h) (.cons hb (.cons (idx_m (f := Enc.e) h1) (.cons (len_m Enc.e e) (.cons (s_l1In_c h2) .nil))))) (by kernel_rfl) ?_
      exact thN (Wk_J hL ⟨[(1, []), (2, []), (4, []), (7, []), (28, [])], [(16, 16, []), (32, 32, []), (48, 80, [])], [], 80⟩ (by kernel_rfl))
  have hm := hk
  refine X_cond v (by kernel_rfl) (fun hc => ?_) (fun hc => ?_)
  · have hm := it hc hm
    refine X_reg_seq ty_ok Γok hL [] .nil (by kernel_rfl) ?_
    obtain rfl := some_inj hm
    refine Ok_ret ?_
    repeat (first | refine thR ?_ | refine ibR ?_)
    exact X_fin [48] [[.z 2, .k, .k, .k, .z 1]] (by kernel_rfl) trivial
  · have hm := ie hc hm
    refine X_skip ?_
    refine thN ?_
    obtain ⟨r3, h3, hm⟩ := obind hm
    refine X_reg_seq ty_ok Γok hL [(1, .c (s_l14Own_t_r r3) (s_l14Own_t_n r3) (s_l14Own_t_o r r3))] (.cons (s_l14Own_t_c h3) .nil) (by kernel_rfl) ?_
    obtain ⟨r4, h4, hm⟩ := obind hm
    refine X_reg_seq ty_ok Γok hL [(2, .c (s_l14Missing_r r4) (s_l14Missing_n r4) (s_l14Missing_o (r, day) r4))] (.cons (s_l14Missing_c h4) .nil) (by kernel_rfl) ?_
    refine Ok_seq ?_
    refine X_reg_seq ty_ok Γok hL [] .nil (by kernel_rfl) ?_
    obtain ⟨vv1, hv5, hk5⟩ := obind hm
    refine X_tail (n := 110) (fun ((missing2, v5) : (List Int) × (List (List Int))) => (⟨[(4, .ref 16 0), (7, .own 32), (8, .ref 48 0)], [(16, some (.box [.dat (.sc (.slice none 0 0)), .dat (.sc (.int .i64 0)), .dat (.sc (.int .i64 0)), .dat (.sc (.int .i64 0)), .dat (.sc (.slice none 0 0))])), (32, some (.arr 3 1 (List.map Enc.e missing2))), (48, some (.box [.own 64, .dat (.sc (.int .i64 r3.Rules.MinRest)), .dat (.sc (.int .i64 r3.Rules.MaxRow)), .dat (.sc (.int .i64 r3.Rules.MaxWeek)), .own 80])), (64, some (.arr 49 2 (List.map Enc.e r3.Shifts))), (80, some (.tab 32 1 [some 3] (List.map Enc.e v5) 80 none))], 112⟩ : X)) vv1 ?_ ?_
    · have hm := hv5
      refine Ok_block ?_
      refine X_loop (n := 110) (step := s_FillDay_L2 day r3 r4) (fun ((i, missing, v1) : Int × (List Int) × (List (List Int))) => (⟨[(1, .dat (.sc (.int .i64 day))), (4, .ref 16 0), (7, .own 32), (8, .ref 48 0), (9, .own 64), (10, .dat (.sc (.int .i64 i)))], [(16, some (.box [.dat (.sc (.slice none 0 0)), .dat (.sc (.int .i64 0)), .dat (.sc (.int .i64 0)), .dat (.sc (.int .i64 0)), .dat (.sc (.slice none 0 0))])), (32, some (.arr 3 1 (List.map Enc.e missing))), (48, some (.box [.own 80, .dat (.sc (.int .i64 r3.Rules.MinRest)), .dat (.sc (.int .i64 r3.Rules.MaxRow)), .dat (.sc (.int .i64 r3.Rules.MaxWeek)), .own 96])), (64, some (.arr 3 1 (List.map Enc.e r4))), (80, some (.arr 49 2 (List.map Enc.e r3.Shifts))), (96, some (.tab 32 1 [some 3] (List.map Enc.e v1) 96 none))], 128⟩ : X)) hm (Wk_J hL ⟨[(1, []), (4, []), (7, []), (8, []), (9, []), (10, [])], [(16, 32, []), (32, 48, []), (48, 112, []), (64, 176, []), (80, 96, []), (96, 97, [])], [], 128⟩ (by kernel_rfl)) ?_
      rintro ⟨i, missing, v1⟩ r0 hm hb1
      rw [s_FillDay_L2] at hm
      refine Ok_seq ?_
      refine X_reg_seq ty_ok Γok hL [(2, .n (r4.length : Int))] (.cons (len_m Enc.e r4) .nil) (by kernel_rfl) ?_
      refine X_cond (decide (i < (r4.length : Int))) (by kernel_rfl) (fun hc1 => ?_) (fun hc1 => ?_)
      · have hm := it hc1 hm
        refine X_skip ?_
        refine thN ?_
        obtain ⟨vv, hv1, hk1⟩ := obind hm
        refine X_join (n := 110) (fun ((missing1, v2) : (List Int) × (List (List Int))) => (⟨[(1, .dat (.sc (.int .i64 day))), (4, .ref 16 0), (7, .own 32), (8, .ref 48 0), (9, .own 64), (10, .dat (.sc (.int .i64 i)))], [(16, some (.box [.dat (.sc (.slice none 0 0)), .dat (.sc (.int .i64 0)), .dat (.sc (.int .i64 0)), .dat (.sc (.int .i64 0)), .dat (.sc (.slice none 0 0))])), (32, some (.arr 3 1 (List.map Enc.e missing1))), (48, some (.box [.own 80, .dat (.sc (.int .i64 r3.Rules.MinRest)), .dat (.sc (.int .i64 r3.Rules.MaxRow)), .dat (.sc (.int .i64 r3.Rules.MaxWeek)), .own 96])), (64, some (.arr 3 1 (List.map Enc.e r4))), (80, some (.arr 49 2 (List.map Enc.e r3.Shifts))), (96, some (.tab 32 1 [some 3] (List.map Enc.e v2) 96 none))], 128⟩ : X)) vv ?_ ?_
        · have hm := hv1
          refine Ok_block ?_
          refine X_reg_seq ty_ok Γok hL [] .nil (by kernel_rfl) ?_
          refine Ok_seq ?_
          refine X_reg_seq ty_ok Γok hL [] .nil (by kernel_rfl) ?_
          obtain ⟨try_2, hv4, hk4⟩ := obind hm
          refine X_tail (n := 110) (fun (try_2 : Int) => (⟨[(1, .dat (.sc (.int .i64 day))), (4, .ref 16 0), (7, .own 32), (8, .ref 48 0), (9, .own 64), (10, .dat (.sc (.int .i64 i))), (11, .dat (.sc (.int .i64 try_2)))], [(16, some (.box [.dat (.sc (.slice none 0 0)), .dat (.sc (.int .i64 0)), .dat (.sc (.int .i64 0)), .dat (.sc (.int .i64 0)), .dat (.sc (.slice none 0 0))])), (32, some (.arr 3 1 (List.map Enc.e missing))), (48, some (.box [.own 80, .dat (.sc (.int .i64 r3.Rules.MinRest)), .dat (.sc (.int .i64 r3.Rules.MaxRow)), .dat (.sc (.int .i64 r3.Rules.MaxWeek)), .own 96])), (64, some (.arr 3 1 (List.map Enc.e r4))), (80, some (.arr 49 2 (List.map Enc.e r3.Shifts))), (96, some (.tab 32 1 [some 3] (List.map Enc.e v1) 96 none))], 128⟩ : X)) try_2 ?_ ?_
          · have hm := hv4
            refine Ok_block ?_
            refine X_loop (n := 110) (step := s_FillDay_L1 day r3 r4 i v1) (fun ((try_, v3) : Int × Int) => (⟨[(1, .dat (.sc (.int .i64 day))), (4, .ref 16 0), (7, .own 32), (8, .ref 48 0), (9, .own 64), (10, .dat (.sc (.int .i64 i))), (11, .dat (.sc (.int .i64 try_))), (12, .dat (.sc (.int .i64 v3)))], [(16, some (.box [.dat (.sc (.slice none 0 0)), .dat (.sc (.int .i64 0)), .dat (.sc (.int .i64 0)), .dat (.sc (.int .i64 0)), .dat (.sc (.slice none 0 0))])), (32, some (.arr 3 1 (List.map Enc.e missing))), (48, some (.box [.own 80, .dat (.sc (.int .i64 r3.Rules.MinRest)), .dat (.sc (.int .i64 r3.Rules.MaxRow)), .dat (.sc (.int .i64 r3.Rules.MaxWeek)), .own 96])), (64, some (.arr 3 1 (List.map Enc.e r4))), (80, some (.arr 49 2 (List.map Enc.e r3.Shifts))), (96, some (.tab 32 1 [some 3] (List.map Enc.e v1) 96 none))], 128⟩ : X)) hm (Wk_J hL ⟨[(1, []), (4, []), (7, []), (8, []), (9, []), (10, []), (11, []), (12, [])], [(16, 16, []), (32, 32, []), (48, 48, []), (64, 64, []), (80, 80, []), (96, 96, [])], [], 128⟩ (by kernel_rfl)) ?_
            rintro ⟨try_, v3⟩ r0 hm hb2
            rw [s_FillDay_L1] at hm
            refine Ok_seq ?_
            refine X_reg_seq ty_ok Γok hL [(3, .n (v1.length : Int))] (.cons (len_m Enc.e v1) .nil) (by kernel_rfl) ?_
            refine X_cond (decide (v3 < (v1.length : Int))) (by kernel_rfl) (fun hc2 => ?_) (fun hc2 => ?_)
            · have hm := it hc2 hm
              refine X_skip ?_
              refine thN ?_
              obtain ⟨try_1, hv2, hk2⟩ := obind hm
              refine X_join (n := 110) (fun (try_1 : Int) => (⟨[(1, .dat (.sc (.int .i64 day))), (4, .ref 16 0), (7, .own 32), (8, .ref 48 0), (9, .own 64), (10, .dat (.sc (.int .i64 i))), (11, .dat (.sc (.int .i64 try_1))), (12, .dat (.sc (.int .i64 v3)))], [(16, some (.box [.dat (.sc (.slice none 0 0)), .dat (.sc (.int .i64 0)), .dat (.sc (.int .i64 0)), .dat (.sc (.int .i64 0)), .dat (.sc (.slice none 0 0))])), (32, some (.arr 3 1 (List.map Enc.e missing))), (48, some (.box [.own 80, .dat (.sc (.int .i64 r3.Rules.MinRest)), .dat (.sc (.int .i64 r3.Rules.MaxRow)), .dat (.sc (.int .i64 r3.Rules.MaxWeek)), .own 96])), (64, some (.arr 3 1 (List.map Enc.e r4))), (80, some (.arr 49 2 (List.map Enc.e r3.Shifts))), (96, some (.tab 32 1 [some 3] (List.map Enc.e v1) 96 none))], 128⟩ : X)) try_1 ?_ ?_
              · have hm := hv2
                refine Ok_block ?_
                refine Ok_seq ?_
                obtain ⟨e1, h5, hm⟩ := obind hm
                obtain ⟨e2, h6, hm⟩ := obind hm
                refine X_reg_seq ty_ok Γok hL [(3, .d (Enc.e e1)), (4, .d (Enc.e e1)), (6, .d (Enc.e e1)), (7, .d2 (Enc.e e1) (Enc.e e2))] (.cons (idx_m (f := Enc.e) h5) (.cons (idx_m2 (f := Enc.e) h5) (.cons (idx_m2 (f := Enc.e) h5) (.cons (idx_b (f := Enc.e) h6) (.cons (idx_m2 (f := Enc.e) h5) (.cons (idx_m2 (f := Enc.e) h6) .nil)))))) (by kernel_rfl) ?_
                refine X_cond (decide (0 ≤ e2)) (by kernel_rfl) (fun hc3 => ?_) (fun hc3 => ?_)
                · have hm := it hc3 hm
                  refine Ok_exit ?_
                  refine thE ?_
                  refine ibE ?_
                  obtain rfl := some_inj hm
                  exact thN (Wk_J hL ⟨[(1, []), (4, []), (7, []), (8, []), (9, []), (10, []), (11, []), (12, [])], [(16, 16, []), (32, 32, []), (48, 48, []), (64, 64, []), (80, 80, []), (96, 96, [])], [], 128⟩ (by kernel_rfl))
                · have hm := ie hc3 hm
                  refine X_skip ?_
                  refine thN ?_
                  obtain ⟨r5, h7, hm⟩ := obind hm
                  refine X_reg_seq ty_ok Γok hL [(1, .cf (s_l14Own_t_r r5) (s_l14Own_t_n r5) (s_l14Own_t_o (⟨r3.Shifts, r3.Rules, v1⟩ : Roster) r5))] (.cons (s_l14Own_t_c h7) (.cons (show FlatRes (s_l14Own_t_n r5) (s_l14Own_t_o (⟨r3.Shifts, r3.Rules, v1⟩ : Roster) r5) from ⟨(flat_cons flat_arr (flat_cons flat_rows flat_nil)), flat_nil⟩) .nil)) (by kernel_rfl) ?_
                  obtain ⟨e6, h11, hm⟩ := obind hm
                  obtain ⟨e7, h12, hm⟩ := obind hm
                  obtain ⟨e8, h13, hm⟩ := obind hm
                  refine X_draw_seq mixed ty_ok Γok Γlive [(11, [369])] (by kernel_rfl) [(3, .d (Enc.e e6)), (4, .d (Enc.e e6)), (8, .d (Enc.e e7)), (9, .d (Enc.e e7)), (10, .d (Enc.e e6)), (11, .sd2 (Enc.e e6) (Enc.e e8) (List.map Enc.e (e6.set day.toNat e7)) (List.map Enc.e (r5.Plan.set v3.toNat (e6.set day.toNat e7))))] (.cons (idx_m (f := Enc.e) h11) (.cons (idx_m2 (f := Enc.e) h11) (.cons (idx_m (f := Enc.e) h12) (.cons (idx_m2 (f := Enc.e) h12) (.cons (idx_m2 (f := Enc.e) h11) (.cons (idx_b (f := Enc.e) h13) (.cons (idx_m2 (f := Enc.e) h11) (.cons (idx_m2 (f := Enc.e) h13) (.cons (set_m Enc.e e6 day.toNat e7) (.cons (set_m Enc.e r5.Plan v3.toNat (e6.set day.toNat e7)) .nil)))))))))) (by kernel_rfl) ?_
                  obtain ⟨r9, h17, hm⟩ := obind hm
                  obtain ⟨v4, hv3, hk3⟩ := obind hm
                  refine X_join (n := 110) (fun (v4 : Bool) => (⟨[(1, .dat (.sc (.int .i64 day))), (4, .ref 16 0), (7, .own 32), (8, .ref 48 0), (9, .own 64), (10, .dat (.sc (.int .i64 i))), (11, .dat (.sc (.int .i64 try_))), (12, .dat (.sc (.int .i64 v3))), (86, .dat (.sc (.bool v4)))], [(16, some (.box [.dat (.sc (.slice none 0 0)), .dat (.sc (.int .i64 0)), .dat (.sc (.int .i64 0)), .dat (.sc (.int .i64 0)), .dat (.sc (.slice none 0 0))])), (32, some (.arr 3 1 (List.map Enc.e missing))), (48, some (.box [.own 80, .dat (.sc (.int .i64 r3.Rules.MinRest)), .dat (.sc (.int .i64 r3.Rules.MaxRow)), .dat (.sc (.int .i64 r3.Rules.MaxWeek)), .own 96])), (64, some (.arr 3 1 (List.map Enc.e r4))), (80, some (.arr 49 2 (List.map Enc.e r3.Shifts))), (96, some (.tab 32 1 [some 3] (List.map Enc.e v1) 96 none))], 128⟩ : X)) v4 ?_ ?_
                  · have hm := hv3
                    rcases btf r9 with hb3 | hb3
                    · have hm := it hb3 hm
                      rcases btf (decide (try_ < 0)) with hb4 | hb4
                      · have hm := it hb4 hm
                        obtain rfl := some_inj hm
                        refine X_draw mixed ty_ok Γok Γlive [] (by kernel_rfl) [(2, .c (s_l14Keeps_r r9) (s_l14Keeps_n r9) (s_l14Keeps_o ((⟨r5.Shifts, r5.Rules, (r5.Plan.set v3.toNat (e6.set day.toNat e7))⟩ : Roster), v3) r9)), (3, .b true), (6, .b true)] (.cons (s_l14Keeps_c h17) (.cons hb3 (.cons hb4 .nil))) (by kernel_rfl) ?_
                        exact thN (Wk_J hL ⟨[(1, []), (4, []), (7, []), (8, []), (9, []), (10, []), (11, []), (12, []), (86, [])], [(16, 16, []), (32, 32, []), (48, 48, []), (64, 64, []), (80, 80, []), (96, 96, [])], [], 128⟩ (by kernel_rfl))
                      · have hm := ie hb4 hm
                        obtain ⟨r10, h18, hm⟩ := obind hm
                        obtain ⟨r11, h19, hm⟩ := obind hm
                        obtain rfl := some_inj hm
                        refine X_draw mixed ty_ok Γok Γlive [] (by kernel_rfl) [(2, .c (s_l14Keeps_r r9) (s_l14Keeps_n r9) (s_l14Keeps_o ((⟨r5.Shifts, r5.Rules, (r5.Plan.set v3.toNat (e6.set day.toNat e7))⟩ : Roster), v3) r9)), (3, .b true), (6, .b false), (9, .c (s_l14Worked_r r10) (s_l14Worked_n r10) (s_l14Worked_o ((⟨r3.Shifts, r3.Rules, v1⟩ : Roster), v3) r10)), (12, .c (s_l14Worked_r r11) (s_l14Worked_n r11) (s_l14Worked_o ((⟨r3.Shifts, r3.Rules, v1⟩ : Roster), try_) r11))] (.cons (s_l14Keeps_c h17) (.cons hb3 (.cons hb4 (.cons (s_l14Worked_c h18) (.cons (s_l14Worked_c h19) .nil))))) (by kernel_rfl) ?_
                        exact thN (Wk_J hL ⟨[(1, []), (4, []), (7, []), (8, []), (9, []), (10, []), (11, []), (12, []), (86, [])], [(16, 16, []), (32, 32, []), (48, 48, []), (64, 64, []), (80, 80, []), (96, 96, [])], [], 128⟩ (by kernel_rfl))
                    · have hm := ie hb3 hm
                      obtain rfl := some_inj hm
                      refine X_draw mixed ty_ok Γok Γlive [] (by kernel_rfl) [(2, .c (s_l14Keeps_r r9) (s_l14Keeps_n r9) (s_l14Keeps_o ((⟨r5.Shifts, r5.Rules, (r5.Plan.set v3.toNat (e6.set day.toNat e7))⟩ : Roster), v3) r9)), (3, .b false)] (.cons (s_l14Keeps_c h17) (.cons hb3 .nil)) (by kernel_rfl) ?_
                      exact thN (Wk_J hL ⟨[(1, []), (4, []), (7, []), (8, []), (9, []), (10, []), (11, []), (12, []), (86, [])], [(16, 16, []), (32, 32, []), (48, 48, []), (64, 64, []), (80, 80, []), (96, 96, [])], [], 128⟩ (by kernel_rfl))
                  have hm := hk3
                  refine X_cond v4 (by kernel_rfl) (fun hc4 => ?_) (fun hc4 => ?_)
                  · have hm := it hc4 hm
                    refine X_reg ty_ok Γok hL [] .nil (by kernel_rfl) ?_
                    refine ibN ?_
                    obtain rfl := some_inj hm
                    exact thN (Wk_J hL ⟨[(1, []), (4, []), (7, []), (8, []), (9, []), (10, []), (11, []), (12, [])], [(16, 16, []), (32, 32, []), (48, 48, []), (64, 64, []), (80, 80, []), (96, 96, [])], [], 128⟩ (by kernel_rfl))
                  · have hm := ie hc4 hm
                    refine X_skip ?_
                    refine ibN ?_
                    obtain rfl := some_inj hm
                    exact thN (Wk_J hL ⟨[(1, []), (4, []), (7, []), (8, []), (9, []), (10, []), (11, []), (12, [])], [(16, 16, []), (32, 32, []), (48, 48, []), (64, 64, []), (80, 80, []), (96, 96, [])], [], 128⟩ (by kernel_rfl))
              have hm := hk2
              refine X_reg ty_ok Γok hL [] .nil (by kernel_rfl) ?_
              obtain rfl := some_inj hm
              exact thN ⟨_, rfl, Wk_J hL ⟨[(1, []), (4, []), (7, []), (8, []), (9, []), (10, []), (11, []), (12, [])], [(16, 16, []), (32, 32, []), (48, 48, []), (64, 64, []), (80, 80, []), (96, 96, [])], [], 128⟩ (by kernel_rfl)⟩
            · have hm := ie hc2 hm
              obtain rfl := some_inj hm
              obtain rfl := hb2 _ rfl
              refine Ok_exit ?_
              refine thE ?_
              refine thE ?_
              refine ibE ?_
              exact thN (Wk_J hL ⟨[(1, []), (4, []), (7, []), (8, []), (9, []), (10, []), (11, [])], [(16, 16, []), (32, 32, []), (48, 48, []), (64, 64, []), (80, 80, []), (96, 96, [])], [], 128⟩ (by kernel_rfl))
          intro s hw
          have hm := hk4
          refine thN ?_
          refine Ok_weak hw ?_
          refine X_reg_seq ty_ok Γok hL [] .nil (by kernel_rfl) ?_
          refine X_cond (decide (try_2 < 0)) (by kernel_rfl) (fun hc5 => ?_) (fun hc5 => ?_)
          · have hm := it hc5 hm
            obtain ⟨e9, h20, hm⟩ := obind hm
            obtain ⟨u, h21, hm⟩ := obind hm
            refine X_reg ty_ok Γok hL [(3, .d (Enc.e e9)), (4, .d (Enc.e e9)), (6, .l (List.map Enc.e (missing ++ ([e9] : List Int))))] (.cons (idx_m (f := Enc.e) h20) (.cons (idx_m2 (f := Enc.e) h20) (.cons (app_p (f := Enc.e) (g := Enc.e) (l := missing) (r := ([e9] : List Int)) (b := 8) (chk_t h21) rfl) (.cons (app_m Enc.e missing ([e9] : List Int)) .nil)))) (by kernel_rfl) ?_
            refine ibN ?_
            obtain rfl := some_inj hm
            exact thN (Wk_J hL ⟨[(1, []), (4, []), (7, []), (8, []), (9, []), (10, [])], [(16, 16, []), (32, 256, []), (48, 48, []), (64, 64, []), (80, 80, []), (96, 96, [])], [], 128⟩ (by kernel_rfl))
          · have hm := ie hc5 hm
            obtain ⟨e13, h25, hm⟩ := obind hm
            obtain ⟨e14, h26, hm⟩ := obind hm
            obtain ⟨e15, h27, hm⟩ := obind hm
            refine X_draw mixed ty_ok Γok Γlive [(11, [96])] (by kernel_rfl) [(3, .d (Enc.e e13)), (4, .d (Enc.e e13)), (8, .d (Enc.e e14)), (9, .d (Enc.e e14)), (10, .d (Enc.e e13)), (11, .sd2 (Enc.e e13) (Enc.e e15) (List.map Enc.e (e13.set day.toNat e14)) (List.map Enc.e (v1.set try_2.toNat (e13.set day.toNat e14))))] (.cons (idx_m (f := Enc.e) h25) (.cons (idx_m2 (f := Enc.e) h25) (.cons (idx_m (f := Enc.e) h26) (.cons (idx_m2 (f := Enc.e) h26) (.cons (idx_m2 (f := Enc.e) h25) (.cons (idx_b (f := Enc.e) h27) (.cons (idx_m2 (f := Enc.e) h25) (.cons (idx_m2 (f := Enc.e) h27) (.cons (set_m Enc.e e13 day.toNat e14) (.cons (set_m Enc.e v1 try_2.toNat (e13.set day.toNat e14)) .nil)))))))))) (by kernel_rfl) ?_
            refine ibN ?_
            obtain rfl := some_inj hm
            exact thN (Wk_J hL ⟨[(1, []), (4, []), (7, []), (8, []), (9, []), (10, [])], [(16, 16, []), (32, 32, []), (48, 48, []), (64, 64, []), (80, 80, []), (96, 96, [])], [], 128⟩ (by kernel_rfl))
        obtain ⟨missing1, v2⟩ := vv
        have hm := hk1
        refine X_reg ty_ok Γok hL [] .nil (by kernel_rfl) ?_
        obtain rfl := some_inj hm
        exact thN ⟨_, rfl, Wk_J hL ⟨[(1, []), (4, []), (7, []), (8, []), (9, []), (10, [])], [(16, 16, []), (32, 32, []), (48, 48, []), (64, 64, []), (80, 80, []), (96, 96, [])], [], 128⟩ (by kernel_rfl)⟩
      · have hm := ie hc1 hm
        obtain rfl := some_inj hm
        obtain rfl := hb1 _ rfl
        refine Ok_exit ?_
        refine thE ?_
        refine thE ?_
        refine ibE ?_
        exact thN (Wk_J hL ⟨[(4, []), (7, []), (8, [])], [(16, 16, []), (32, 32, []), (48, 48, []), (64, 80, []), (80, 96, [])], [], 112⟩ (by kernel_rfl))
    obtain ⟨missing2, v5⟩ := vv1
    intro s1 hw1
    have hm := hk5
    refine thN ?_
    refine Ok_weak hw1 ?_
    refine X_reg_seq ty_ok Γok hL [] .nil (by kernel_rfl) ?_
    obtain rfl := some_inj hm
    refine Ok_ret ?_
    repeat (first | refine thR ?_ | refine ibR ?_)
    exact X_fin [32] [] (by kernel_rfl) trivial
abbrev v_rInts_r (y : Bool) : AV := .dat (Enc.e y)
abbrev v_rInts_n (y : Bool) : List Obj' := []
abbrev v_rInts_o (x : (List Int) × (List Int)) (y : Bool) : List Obj' := []
noncomputable def v_rInts_S : FnSpec := modS [.rd, .rd] (fun x : (List Int) × (List Int) => [Enc.e x.1, Enc.e x.2]) (fun x : (List Int) × (List Int) => []) (fun x : (List Int) × (List Int) => v_rInts x.1 x.2) v_rInts_r v_rInts_n v_rInts_o
theorem v_rInts_c {a : List Int} {b : List Int} {y : Bool} (h : v_rInts a b = some y) : CallOK v_rInts_S [Enc.e a, Enc.e b] [] (v_rInts_r y) (v_rInts_n y) (v_rInts_o (a, b) y) :=
  modS_call (by
    rintro ⟨a0, a1⟩ ⟨b0, b1⟩ h hO
    have q0 : a0 = b0 := Enc.inj _ _ (congrArg (fun l => List.getD l 0 (.sc undef)) h)
    have q1 : a1 = b1 := Enc.inj _ _ (congrArg (fun l => List.getD l 1 (.sc undef)) h)
    subst q0; subst q1; rfl) (x := (a, b)) h
theorem v_rInts_ok : FnOK Try.prog 13 v_rInts_S := by
  have Γok : ∀ f S, lookF f [] = some S → FnOK Try.prog f S := lookF_ok allF_nil
  have Γlive : Live (fun f => lookF f []) := lookF_live allL_nil
  refine fnOK_mod ty_ok (fun args w => Try.call13 args w) Try.func13 rfl [.tmp 4] (by rw [Try.results13]) 26 Try.ntmps13 16 rfl (fun _ => by first | exact Nat.zero_le _ | (simp)) ?_
  rintro ⟨a, b⟩ y cx hm hL
  have hm : v_rInts a b = some y := hm
  have hL : cx.L = 0 := hL
  unfold v_rInts at hm
  refine X_reg_seq ty_ok Γok hL [] .nil (by kernel_rfl) ?_
  refine Ok_seq ?_
  refine X_reg_seq ty_ok Γok hL [(1, .n (a.length : Int)), (3, .n (b.length : Int))] (.cons (len_m Enc.e a) (.cons (len_m Enc.e b) .nil)) (by kernel_rfl) ?_
  refine X_cond ((a.length : Int) != (b.length : Int)) (by kernel_rfl) (fun hc => ?_) (fun hc => ?_)
  · have hm := it hc hm
    refine X_reg_seq ty_ok Γok hL [] .nil (by kernel_rfl) ?_
    obtain rfl := some_inj hm
    refine Ok_ret ?_
    repeat (first | refine thR ?_ | refine ibR ?_)
    exact X_fin [] [] (by kernel_rfl) trivial
  · have hm := ie hc hm
    refine X_skip ?_
    refine thN ?_
    refine Ok_seq ?_
    refine X_reg_seq ty_ok Γok hL [] .nil (by kernel_rfl) ?_
    obtain ⟨v1, hv, hr, hk⟩ := flb_t hm
    refine X_tailF (n := 26) (fun (_ : Unit) => (⟨[], [], 32⟩ : X)) v1 ?_ ?_
    · have hm := hv
      refine Ok_block ?_
      refine X_loop (n := 26) (step := v_rInts_L1 a b) (fun (v : Int) => (⟨[(0, .dat (Enc.e a)), (1, .dat (Enc.e b)), (5, .dat (.sc (.int .i64 v)))], [], 32⟩ : X)) hm (Wk_J hL ⟨[(0, []), (1, []), (5, [])], [], [], 32⟩ (by kernel_rfl)) ?_
      rintro v r0 hm hb
      rw [v_rInts_L1] at hm
      refine Ok_seq ?_
      refine X_reg_seq ty_ok Γok hL [(2, .n (a.length : Int))] (.cons (len_m Enc.e a) .nil) (by kernel_rfl) ?_
      refine X_cond (decide (v < (a.length : Int))) (by kernel_rfl) (fun hc1 => ?_) (fun hc1 => ?_)
      · have hm := it hc1 hm
        refine X_skip ?_
        refine thN ?_
        refine Ok_seq ?_
        refine Ok_block ?_
        obtain ⟨e2, h2, hm⟩ := obind hm
        obtain ⟨e3, h3, hm⟩ := obind hm
        refine X_draw_seq mixed ty_ok Γok Γlive [] (by kernel_rfl) [(2, .d (Enc.e e2)), (6, .d (Enc.e e3))] (.cons (idx_m (f := Enc.e) h2) (.cons (idx_m (f := Enc.e) h3) .nil)) (by kernel_rfl) ?_
        refine X_cond (e2 != e3) (by kernel_rfl) (fun hc2 => ?_) (fun hc2 => ?_)
        · have hm := it hc2 hm
          refine X_reg_seq ty_ok Γok hL [] .nil (by kernel_rfl) ?_
          obtain rfl := some_inj hm
          obtain rfl := hb _ rfl
          have hm := congrArg some (hr _ rfl)
          obtain rfl := some_inj hm
          refine Ok_ret ?_
          repeat (first | refine thR ?_ | refine ibR ?_)
          exact X_fin [] [] (by kernel_rfl) trivial
        · have hm := ie hc2 hm
          refine X_skip ?_
          refine ibN ?_
          refine thN ?_
          refine X_reg ty_ok Γok hL [] .nil (by kernel_rfl) ?_
          obtain rfl := some_inj hm
          exact thN ⟨_, rfl, Wk_J hL ⟨[(0, []), (1, []), (5, [])], [], [], 32⟩ (by kernel_rfl)⟩
      · have hm := ie hc1 hm
        obtain rfl := some_inj hm
        obtain rfl := hb _ rfl
        refine Ok_exit ?_
        refine thE ?_
        refine thE ?_
        refine ibE ?_
        exact thN ⟨_, rfl, Wk_J hL ⟨[], [], [], 32⟩ (by kernel_rfl)⟩
    rintro ⟨⟩ hu s hw
    have hm := hk _ hu
    refine thN ?_
    refine Ok_weak hw ?_
    refine X_reg_seq ty_ok Γok hL [] .nil (by kernel_rfl) ?_
    obtain rfl := some_inj hm
    refine Ok_ret ?_
    repeat (first | refine thR ?_ | refine ibR ?_)
    exact X_fin [] [] (by kernel_rfl) trivial
abbrev v_rTable_r (y : Bool) : AV := .dat (Enc.e y)
abbrev v_rTable_n (y : Bool) : List Obj' := []
abbrev v_rTable_o (x : (List (List Int)) × (List (List Int))) (y : Bool) : List Obj' := []
noncomputable def v_rTable_S : FnSpec := modS [.rd, .rd] (fun x : (List (List Int)) × (List (List Int)) => [Enc.e x.1, Enc.e x.2]) (fun x : (List (List Int)) × (List (List Int)) => []) (fun x : (List (List Int)) × (List (List Int)) => v_rTable x.1 x.2) v_rTable_r v_rTable_n v_rTable_o
theorem v_rTable_c {a : List (List Int)} {b : List (List Int)} {y : Bool} (h : v_rTable a b = some y) : CallOK v_rTable_S [Enc.e a, Enc.e b] [] (v_rTable_r y) (v_rTable_n y) (v_rTable_o (a, b) y) :=
  modS_call (by
    rintro ⟨a0, a1⟩ ⟨b0, b1⟩ h hO
    have q0 : a0 = b0 := Enc.inj _ _ (congrArg (fun l => List.getD l 0 (.sc undef)) h)
    have q1 : a1 = b1 := Enc.inj _ _ (congrArg (fun l => List.getD l 1 (.sc undef)) h)
    subst q0; subst q1; rfl) (x := (a, b)) h
theorem v_rTable_ok : FnOK Try.prog 14 v_rTable_S := by
  have Γok : ∀ f S, lookF f [(13, v_rInts_S)] = some S → FnOK Try.prog f S := lookF_ok (allF_cons v_rInts_ok allF_nil)
  have Γlive : Live (fun f => lookF f [(13, v_rInts_S)]) := lookF_live (allL_cons modS_live allL_nil)
  refine fnOK_mod ty_ok (fun args w => Try.call14 args w) Try.func14 rfl [.tmp 4] (by rw [Try.results14]) 27 Try.ntmps14 16 rfl (fun _ => by first | exact Nat.zero_le _ | (simp)) ?_
  rintro ⟨a, b⟩ y cx hm hL
  have hm : v_rTable a b = some y := hm
  have hL : cx.L = 0 := hL
  unfold v_rTable at hm
  refine X_reg_seq ty_ok Γok hL [] .nil (by kernel_rfl) ?_
  refine Ok_seq ?_
  refine X_reg_seq ty_ok Γok hL [(1, .n (a.length : Int)), (3, .n (b.length : Int))] (.cons (len_m Enc.e a) (.cons (len_m Enc.e b) .nil)) (by kernel_rfl) ?_
  refine X_cond ((a.length : Int) != (b.length : Int)) (by kernel_rfl) (fun hc => ?_) (fun hc => ?_)
  · have hm := it hc hm
    refine X_reg_seq ty_ok Γok hL [] .nil (by kernel_rfl) ?_
    obtain rfl := some_inj hm
    refine Ok_ret ?_
    repeat (first | refine thR ?_ | refine ibR ?_)
    exact X_fin [] [] (by kernel_rfl) trivial
  · have hm := ie hc hm
    refine X_skip ?_
    refine thN ?_
    refine Ok_seq ?_
    refine X_reg_seq ty_ok Γok hL [] .nil (by kernel_rfl) ?_
    obtain ⟨v1, hv, hr, hk⟩ := flb_t hm
    refine X_tailF (n := 27) (fun (_ : Unit) => (⟨[], [], 32⟩ : X)) v1 ?_ ?_
    · have hm := hv
      refine Ok_block ?_
      refine X_loop (n := 27) (step := v_rTable_L1 a b) (fun (v : Int) => (⟨[(0, .dat (Enc.e a)), (1, .dat (Enc.e b)), (5, .dat (.sc (.int .i64 v)))], [], 32⟩ : X)) hm (Wk_J hL ⟨[(0, []), (1, []), (5, [])], [], [], 32⟩ (by kernel_rfl)) ?_
      rintro v r0 hm hb
      rw [v_rTable_L1] at hm
      refine Ok_seq ?_
      refine X_reg_seq ty_ok Γok hL [(2, .n (a.length : Int))] (.cons (len_m Enc.e a) .nil) (by kernel_rfl) ?_
      refine X_cond (decide (v < (a.length : Int))) (by kernel_rfl) (fun hc1 => ?_) (fun hc1 => ?_)
      · have hm := it hc1 hm
        refine X_skip ?_
        refine thN ?_
        refine Ok_seq ?_
        refine Ok_block ?_
        obtain ⟨e2, h3, hm⟩ := obind hm
        obtain ⟨e3, h4, hm⟩ := obind hm
        obtain ⟨r1, h5, hm⟩ := obind hm
        refine X_draw_seq mixed ty_ok Γok Γlive [] (by kernel_rfl) [(2, .d (Enc.e e2)), (6, .d (Enc.e e3)), (8, .c (v_rInts_r r1) (v_rInts_n r1) (v_rInts_o (e2, e3) r1))] (.cons (idx_m (f := Enc.e) h3) (.cons (idx_m (f := Enc.e) h4) (.cons (v_rInts_c h5) .nil))) (by kernel_rfl) ?_
        refine X_cond (!r1) (by kernel_rfl) (fun hc2 => ?_) (fun hc2 => ?_)
        · have hm := it hc2 hm
          refine X_reg_seq ty_ok Γok hL [] .nil (by kernel_rfl) ?_
          obtain rfl := some_inj hm
          obtain rfl := hb _ rfl
          have hm := congrArg some (hr _ rfl)
          obtain rfl := some_inj hm
          refine Ok_ret ?_
          repeat (first | refine thR ?_ | refine ibR ?_)
          exact X_fin [] [] (by kernel_rfl) trivial
        · have hm := ie hc2 hm
          refine X_skip ?_
          refine ibN ?_
          refine thN ?_
          refine X_reg ty_ok Γok hL [] .nil (by kernel_rfl) ?_
          obtain rfl := some_inj hm
          exact thN ⟨_, rfl, Wk_J hL ⟨[(0, []), (1, []), (5, [])], [], [], 32⟩ (by kernel_rfl)⟩
      · have hm := ie hc1 hm
        obtain rfl := some_inj hm
        obtain rfl := hb _ rfl
        refine Ok_exit ?_
        refine thE ?_
        refine thE ?_
        refine ibE ?_
        exact thN ⟨_, rfl, Wk_J hL ⟨[], [], [], 32⟩ (by kernel_rfl)⟩
    rintro ⟨⟩ hu s hw
    have hm := hk _ hu
    refine thN ?_
    refine Ok_weak hw ?_
    refine X_reg_seq ty_ok Γok hL [] .nil (by kernel_rfl) ?_
    obtain rfl := some_inj hm
    refine Ok_ret ?_
    repeat (first | refine thR ?_ | refine ibR ?_)
    exact X_fin [] [] (by kernel_rfl) trivial
abbrev i_MissingShifts_r (y : (List Int) × Bool) : AV := .tup [.dat (Enc.e y.1), .dat (Enc.e y.2)]
abbrev i_MissingShifts_n (y : (List Int) × Bool) : List Obj' := []
abbrev i_MissingShifts_o (x : Roster × Int) (y : (List Int) × Bool) : List Obj' := []
noncomputable def i_MissingShifts_S : FnSpec := modS [.rd, .rd] (fun x : Roster × Int => [Enc.e x.1, Enc.e x.2]) (fun x : Roster × Int => []) (fun x : Roster × Int => i_MissingShifts x.1 x.2) i_MissingShifts_r i_MissingShifts_n i_MissingShifts_o
theorem i_MissingShifts_c {r : Roster} {day : Int} {y : (List Int) × Bool} (h : i_MissingShifts r day = some y) : CallOK i_MissingShifts_S [Enc.e r, Enc.e day] [] (i_MissingShifts_r y) (i_MissingShifts_n y) (i_MissingShifts_o (r, day) y) :=
  modS_call (by
    rintro ⟨a0, a1⟩ ⟨b0, b1⟩ h hO
    have q0 : a0 = b0 := Enc.inj _ _ (congrArg (fun l => List.getD l 0 (.sc undef)) h)
    have q1 : a1 = b1 := Enc.inj _ _ (congrArg (fun l => List.getD l 1 (.sc undef)) h)
    subst q0; subst q1; rfl) (x := (r, day)) h
theorem i_MissingShifts_ok : FnOK Try.prog 15 i_MissingShifts_S := by
  have Γok : ∀ f S, lookF f [(16, i_IsValidRoster_S), (84, i_isRosterDay_S), (93, i_missingShifts_S)] = some S → FnOK Try.prog f S := lookF_ok (allF_cons i_IsValidRoster_ok (allF_cons i_isRosterDay_ok (allF_cons i_missingShifts_ok allF_nil)))
  have Γlive : Live (fun f => lookF f [(16, i_IsValidRoster_S), (84, i_isRosterDay_S), (93, i_missingShifts_S)]) := lookF_live (allL_cons modS_live (allL_cons modS_live (allL_cons modS_live allL_nil)))
  refine fnOK_mod ty_ok (fun args w => Try.call15 args w) Try.func15 rfl [.tmp 4, .tmp 5] (by rw [Try.results15]) 18 Try.ntmps15 16 rfl (fun _ => by first | exact Nat.zero_le _ | (simp)) ?_
  rintro ⟨r, day⟩ y cx hm hL
  have hm : i_MissingShifts r day = some y := hm
  have hL : cx.L = 0 := hL
  unfold i_MissingShifts at hm
  refine X_reg_seq ty_ok Γok hL [] .nil (by kernel_rfl) ?_
  refine Ok_seq ?_
  obtain ⟨r1, h, hm⟩ := obind hm
  obtain ⟨v, hv, hk⟩ := obind hm
  refine X_join (n := 18) (fun (v : Bool) => (⟨[(1, .dat (.sc (.int .i64 day))), (2, .ref 16 0), (14, .dat (.sc (.bool v)))], [(16, some (.box [.dat (Enc.e r.Shifts), .dat (.sc (.int .i64 r.Rules.MinRest)), .dat (.sc (.int .i64 r.Rules.MaxRow)), .dat (.sc (.int .i64 r.Rules.MaxWeek)), .dat (Enc.e r.Plan)]))], 48⟩ : X)) v ?_ ?_
  · have hm := hv
    rcases btf (!r1) with hb | hb
    · have hm := it hb hm
      obtain rfl := some_inj hm
      refine X_reg ty_ok Γok hL [(1, .c (i_IsValidRoster_r r1) (i_IsValidRoster_n r1) (i_IsValidRoster_o r r1)), (3, .b true)] (.cons (i_IsValidRoster_c h) (.cons hb .nil)) (by kernel_rfl) ?_
      exact thN (Wk_J hL ⟨[(1, []), (2, []), (14, [])], [(16, 16, [])], [], 48⟩ (by kernel_rfl))
    · have hm := ie hb hm
      obtain ⟨r2, h1, hm⟩ := obind hm
      obtain rfl := some_inj hm
      refine X_reg ty_ok Γok hL [(1, .c (i_IsValidRoster_r r1) (i_IsValidRoster_n r1) (i_IsValidRoster_o r r1)), (3, .b false), (6, .c (i_isRosterDay_r r2) (i_isRosterDay_n r2) (i_isRosterDay_o (r, day) r2))] (.cons (i_IsValidRoster_c h) (.cons hb (.cons (i_isRosterDay_c h1) .nil))) (by kernel_rfl) ?_
      exact thN (Wk_J hL ⟨[(1, []), (2, []), (14, [])], [(16, 16, [])], [], 48⟩ (by kernel_rfl))
  have hm := hk
  refine X_cond v (by kernel_rfl) (fun hc => ?_) (fun hc => ?_)
  · have hm := it hc hm
    refine X_reg_seq ty_ok Γok hL [] .nil (by kernel_rfl) ?_
    obtain rfl := some_inj hm
    refine Ok_ret ?_
    repeat (first | refine thR ?_ | refine ibR ?_)
    exact X_fin [] [[.z 1]] (by kernel_rfl) trivial
  · have hm := ie hc hm
    refine X_skip ?_
    refine thN ?_
    obtain ⟨r3, h2, hm⟩ := obind hm
    refine X_reg_seq ty_ok Γok hL [(2, .c (i_missingShifts_r r3) (i_missingShifts_n r3) (i_missingShifts_o (r, day) r3))] (.cons (i_missingShifts_c h2) .nil) (by kernel_rfl) ?_
    obtain rfl := some_inj hm
    refine Ok_ret ?_
    repeat (first | refine thR ?_ | refine ibR ?_)
    exact X_fin [] [] (by kernel_rfl) trivial
abbrev s_DrawWorkedMinutes_r (y : Roster × Int) : AV := .tup [.aggv [.own 0, .dat (.sc (.int .i64 y.1.Rules.MinRest)), .dat (.sc (.int .i64 y.1.Rules.MaxRow)), .dat (.sc (.int .i64 y.1.Rules.MaxWeek)), .own 1], .dat (Enc.e y.2)]
abbrev s_DrawWorkedMinutes_n (y : Roster × Int) : List Obj' := [.arr 49 2 (List.map Enc.e y.1.Shifts), .tab 32 1 [some 3] (List.map Enc.e y.1.Plan) 0 none]
abbrev s_DrawWorkedMinutes_o (x : (List UInt8)) (y : Roster × Int) : List Obj' := []
noncomputable def s_DrawWorkedMinutes_S : FnSpec := modS [.rd] (fun x : (List UInt8) => [Enc.e x]) (fun x : (List UInt8) => []) (fun x : (List UInt8) => s_DrawWorkedMinutes x) s_DrawWorkedMinutes_r s_DrawWorkedMinutes_n s_DrawWorkedMinutes_o
theorem s_DrawWorkedMinutes_c {code : List UInt8} {y : Roster × Int} (h : s_DrawWorkedMinutes code = some y) : CallOK s_DrawWorkedMinutes_S [Enc.e code] [] (s_DrawWorkedMinutes_r y) (s_DrawWorkedMinutes_n y) (s_DrawWorkedMinutes_o code y) :=
  modS_call (by
    rintro a0 b0 h hO
    have q0 : a0 = b0 := Enc.inj _ _ (congrArg (fun l => List.getD l 0 (.sc undef)) h)
    subst q0; rfl) (x := code) h
theorem s_DrawWorkedMinutes_ok : FnOK Try.prog 96 s_DrawWorkedMinutes_S := by
  have Γok : ∀ f S, lookF f [(102, s_l1Cur_roster_S), (103, s_l1Cur_pick_S)] = some S → FnOK Try.prog f S := lookF_ok (allF_cons s_l1Cur_roster_ok (allF_cons s_l1Cur_pick_ok allF_nil))
  have Γlive : Live (fun f => lookF f [(102, s_l1Cur_roster_S), (103, s_l1Cur_pick_S)]) := lookF_live (allL_cons modS_live (allL_cons modS_live allL_nil))
  refine fnOK_mod ty_ok (fun args w => Try.call96 args w) Try.func96 rfl [.cell 2 29, .tmp 3] (by rw [Try.results96]) 22 Try.ntmps96 16 rfl (fun _ => by first | exact Nat.zero_le _ | (simp)) ?_
  rintro code y cx hm hL
  have hm : s_DrawWorkedMinutes code = some y := hm
  have hL : cx.L = 0 := hL
  unfold s_DrawWorkedMinutes at hm
  refine X_reg_seq ty_ok Γok hL [] .nil (by kernel_rfl) ?_
  refine X_reg_seq ty_ok Γok hL [] .nil (by kernel_rfl) ?_
  obtain ⟨r, h, hm⟩ := obind hm
  refine X_reg_seq ty_ok Γok hL [(1, .c (s_l1Cur_roster_r r) (s_l1Cur_roster_n r) (s_l1Cur_roster_o (⟨code, 0, (⟨0⟩ : IK .u64)⟩ : l1Cur) r))] (.cons (s_l1Cur_roster_c h) .nil) (by kernel_rfl) ?_
  obtain ⟨r3, h4, hm⟩ := obind hm
  obtain ⟨r4, h5, hm⟩ := obind hm
  obtain ⟨u1, h6, hm⟩ := obind hm
  refine X_draw_seq mixed ty_ok Γok Γlive [(6, [80]), (8, [80]), (11, [16, 128, 129])] (by kernel_rfl) [(4, .n (r.1.Plan.length : Int)), (6, .c (s_l1Cur_pick_r r3) (s_l1Cur_pick_n r3) (s_l1Cur_pick_o (r.2, (w64 ((r.1.Plan.length : Int) + 1))) r3)), (8, .c (s_l1Cur_pick_r r4) (s_l1Cur_pick_n r4) (s_l1Cur_pick_o (r3.2, 12) r4))] (.cons (len_m Enc.e r.1.Plan) (.cons (s_l1Cur_pick_c h4) (.cons (s_l1Cur_pick_c h5) (.cons (chk_t h6) .nil)))) (by kernel_rfl) ?_
  obtain rfl := some_inj hm
  refine Ok_ret ?_
  repeat (first | refine thR ?_ | refine ibR ?_)
  exact X_fin [128, 129] [] (by kernel_rfl) trivial
abbrev s_DrawBusiestWeek_r (y : Roster × Int) : AV := .tup [.aggv [.own 0, .dat (.sc (.int .i64 y.1.Rules.MinRest)), .dat (.sc (.int .i64 y.1.Rules.MaxRow)), .dat (.sc (.int .i64 y.1.Rules.MaxWeek)), .own 1], .dat (Enc.e y.2)]
abbrev s_DrawBusiestWeek_n (y : Roster × Int) : List Obj' := [.arr 49 2 (List.map Enc.e y.1.Shifts), .tab 32 1 [some 3] (List.map Enc.e y.1.Plan) 0 none]
abbrev s_DrawBusiestWeek_o (x : (List UInt8)) (y : Roster × Int) : List Obj' := []
noncomputable def s_DrawBusiestWeek_S : FnSpec := modS [.rd] (fun x : (List UInt8) => [Enc.e x]) (fun x : (List UInt8) => []) (fun x : (List UInt8) => s_DrawBusiestWeek x) s_DrawBusiestWeek_r s_DrawBusiestWeek_n s_DrawBusiestWeek_o
theorem s_DrawBusiestWeek_c {code : List UInt8} {y : Roster × Int} (h : s_DrawBusiestWeek code = some y) : CallOK s_DrawBusiestWeek_S [Enc.e code] [] (s_DrawBusiestWeek_r y) (s_DrawBusiestWeek_n y) (s_DrawBusiestWeek_o code y) :=
  modS_call (by
    rintro a0 b0 h hO
    have q0 : a0 = b0 := Enc.inj _ _ (congrArg (fun l => List.getD l 0 (.sc undef)) h)
    subst q0; rfl) (x := code) h
theorem s_DrawBusiestWeek_ok : FnOK Try.prog 17 s_DrawBusiestWeek_S := by
  have Γok : ∀ f S, lookF f [(96, s_DrawWorkedMinutes_S)] = some S → FnOK Try.prog f S := lookF_ok (allF_cons s_DrawWorkedMinutes_ok allF_nil)
  have Γlive : Live (fun f => lookF f [(96, s_DrawWorkedMinutes_S)]) := lookF_live (allL_cons modS_live allL_nil)
  refine fnOK_mod ty_ok (fun args w => Try.call17 args w) Try.func17 rfl [.cell 2 29, .tmp 3] (by rw [Try.results17]) 8 Try.ntmps17 16 rfl (fun _ => by first | exact Nat.zero_le _ | (simp)) ?_
  rintro code y cx hm hL
  have hm : s_DrawBusiestWeek code = some y := hm
  have hL : cx.L = 0 := hL
  unfold s_DrawBusiestWeek at hm
  refine X_reg_seq ty_ok Γok hL [] .nil (by kernel_rfl) ?_
  obtain ⟨r, h, hm⟩ := obind hm
  refine X_reg_seq ty_ok Γok hL [(1, .c (s_DrawWorkedMinutes_r r) (s_DrawWorkedMinutes_n r) (s_DrawWorkedMinutes_o code r))] (.cons (s_DrawWorkedMinutes_c h) .nil) (by kernel_rfl) ?_
  obtain rfl := some_inj hm
  refine Ok_ret ?_
  repeat (first | refine thR ?_ | refine ibR ?_)
  exact X_fin [64, 65] [] (by kernel_rfl) trivial
abbrev i_isDriver_r (y : Bool) : AV := .dat (Enc.e y)
abbrev i_isDriver_n (y : Bool) : List Obj' := []
abbrev i_isDriver_o (x : Roster × Int) (y : Bool) : List Obj' := []
noncomputable def i_isDriver_S : FnSpec := modS [.rd, .rd] (fun x : Roster × Int => [Enc.e x.1, Enc.e x.2]) (fun x : Roster × Int => []) (fun x : Roster × Int => i_isDriver x.1 x.2) i_isDriver_r i_isDriver_n i_isDriver_o
theorem i_isDriver_c {r : Roster} {driver : Int} {y : Bool} (h : i_isDriver r driver = some y) : CallOK i_isDriver_S [Enc.e r, Enc.e driver] [] (i_isDriver_r y) (i_isDriver_n y) (i_isDriver_o (r, driver) y) :=
  modS_call (by
    rintro ⟨a0, a1⟩ ⟨b0, b1⟩ h hO
    have q0 : a0 = b0 := Enc.inj _ _ (congrArg (fun l => List.getD l 0 (.sc undef)) h)
    have q1 : a1 = b1 := Enc.inj _ _ (congrArg (fun l => List.getD l 1 (.sc undef)) h)
    subst q0; subst q1; rfl) (x := (r, driver)) h
theorem i_isDriver_ok : FnOK Try.prog 97 i_isDriver_S := by
  have Γok : ∀ f S, lookF f [] = some S → FnOK Try.prog f S := lookF_ok allF_nil
  have Γlive : Live (fun f => lookF f []) := lookF_live allL_nil
  refine fnOK_mod ty_ok (fun args w => Try.call97 args w) Try.func97 rfl [.tmp 4] (by rw [Try.results97]) 14 Try.ntmps97 16 rfl (fun _ => by first | exact Nat.zero_le _ | (simp)) ?_
  rintro ⟨r, driver⟩ y cx hm hL
  have hm : i_isDriver r driver = some y := hm
  have hL : cx.L = 0 := hL
  unfold i_isDriver at hm
  refine X_reg_seq ty_ok Γok hL [] .nil (by kernel_rfl) ?_
  obtain ⟨v, hv, hk⟩ := obind hm
  refine X_join (n := 14) (fun (v : Bool) => (⟨[(4, .dat (.sc (.bool v)))], [], 32⟩ : X)) v ?_ ?_
  · have hm := hv
    rcases btf (decide (0 ≤ driver)) with hb | hb
    · have hm := it hb hm
      obtain rfl := some_inj hm
      refine X_reg ty_ok Γok hL [(2, .b true), (6, .n (r.Plan.length : Int))] (.cons hb (.cons (len_m Enc.e r.Plan) .nil)) (by kernel_rfl) ?_
      exact thN (Wk_J hL ⟨[(4, [])], [], [], 32⟩ (by kernel_rfl))
    · have hm := ie hb hm
      obtain rfl := some_inj hm
      refine X_reg ty_ok Γok hL [(2, .b false)] (.cons hb .nil) (by kernel_rfl) ?_
      exact thN (Wk_J hL ⟨[(4, [])], [], [], 32⟩ (by kernel_rfl))
  have hm := hk
  obtain rfl := some_inj hm
  refine Ok_ret ?_
  repeat (first | refine thR ?_ | refine ibR ?_)
  exact X_fin [] [] (by kernel_rfl) trivial
abbrev i_BusiestWeek_r (y : Int × Int × Bool) : AV := .tup [.dat (Enc.e y.1), .dat (Enc.e y.2.1), .dat (Enc.e y.2.2)]
abbrev i_BusiestWeek_n (y : Int × Int × Bool) : List Obj' := []
abbrev i_BusiestWeek_o (x : Roster × Int) (y : Int × Int × Bool) : List Obj' := []
noncomputable def i_BusiestWeek_S : FnSpec := modS [.rd, .rd] (fun x : Roster × Int => [Enc.e x.1, Enc.e x.2]) (fun x : Roster × Int => []) (fun x : Roster × Int => i_BusiestWeek x.1 x.2) i_BusiestWeek_r i_BusiestWeek_n i_BusiestWeek_o
theorem i_BusiestWeek_c {r : Roster} {driver : Int} {y : Int × Int × Bool} (h : i_BusiestWeek r driver = some y) : CallOK i_BusiestWeek_S [Enc.e r, Enc.e driver] [] (i_BusiestWeek_r y) (i_BusiestWeek_n y) (i_BusiestWeek_o (r, driver) y) :=
  modS_call (by
    rintro ⟨a0, a1⟩ ⟨b0, b1⟩ h hO
    have q0 : a0 = b0 := Enc.inj _ _ (congrArg (fun l => List.getD l 0 (.sc undef)) h)
    have q1 : a1 = b1 := Enc.inj _ _ (congrArg (fun l => List.getD l 1 (.sc undef)) h)
    subst q0; subst q1; rfl) (x := (r, driver)) h
theorem i_BusiestWeek_ok : FnOK Try.prog 18 i_BusiestWeek_S := by
  have Γok : ∀ f S, lookF f [(16, i_IsValidRoster_S), (97, i_isDriver_S), (98, i_busiestWeek_S)] = some S → FnOK Try.prog f S := lookF_ok (allF_cons i_IsValidRoster_ok (allF_cons i_isDriver_ok (allF_cons i_busiestWeek_ok allF_nil)))
  have Γlive : Live (fun f => lookF f [(16, i_IsValidRoster_S), (97, i_isDriver_S), (98, i_busiestWeek_S)]) := lookF_live (allL_cons modS_live (allL_cons modS_live (allL_cons modS_live allL_nil)))
  refine fnOK_mod ty_ok (fun args w => Try.call18 args w) Try.func18 rfl [.tmp 4, .tmp 5, .tmp 6] (by rw [Try.results18]) 26 Try.ntmps18 16 rfl (fun _ => by first | exact Nat.zero_le _ | (simp)) ?_
  rintro ⟨r, driver⟩ y cx hm hL
  have hm : i_BusiestWeek r driver = some y := hm
  have hL : cx.L = 0 := hL
  unfold i_BusiestWeek at hm
  refine X_reg_seq ty_ok Γok hL [] .nil (by kernel_rfl) ?_
  refine Ok_seq ?_
  obtain ⟨r1, h, hm⟩ := obind hm
  obtain ⟨v, hv, hk⟩ := obind hm
  refine X_join (n := 26) (fun (v : Bool) => (⟨[(1, .dat (.sc (.int .i64 driver))), (2, .ref 16 0), (17, .dat (.sc (.bool v)))], [(16, some (.box [.dat (Enc.e r.Shifts), .dat (.sc (.int .i64 r.Rules.MinRest)), .dat (.sc (.int .i64 r.Rules.MaxRow)), .dat (.sc (.int .i64 r.Rules.MaxWeek)), .dat (Enc.e r.Plan)]))], 48⟩ : X)) v ?_ ?_
  · have hm := hv
    rcases btf (!r1) with hb | hb
    · have hm := it hb hm
      obtain rfl := some_inj hm
      refine X_reg ty_ok Γok hL [(1, .c (i_IsValidRoster_r r1) (i_IsValidRoster_n r1) (i_IsValidRoster_o r r1)), (3, .b true)] (.cons (i_IsValidRoster_c h) (.cons hb .nil)) (by kernel_rfl) ?_
      exact thN (Wk_J hL ⟨[(1, []), (2, []), (17, [])], [(16, 16, [])], [], 48⟩ (by kernel_rfl))
    · have hm := ie hb hm
      obtain ⟨r2, h1, hm⟩ := obind hm
      obtain rfl := some_inj hm
      refine X_reg ty_ok Γok hL [(1, .c (i_IsValidRoster_r r1) (i_IsValidRoster_n r1) (i_IsValidRoster_o r r1)), (3, .b false), (6, .c (i_isDriver_r r2) (i_isDriver_n r2) (i_isDriver_o (r, driver) r2))] (.cons (i_IsValidRoster_c h) (.cons hb (.cons (i_isDriver_c h1) .nil))) (by kernel_rfl) ?_
      exact thN (Wk_J hL ⟨[(1, []), (2, []), (17, [])], [(16, 16, [])], [], 48⟩ (by kernel_rfl))
  have hm := hk
  refine X_cond v (by kernel_rfl) (fun hc => ?_) (fun hc => ?_)
  · have hm := it hc hm
    refine X_reg_seq ty_ok Γok hL [] .nil (by kernel_rfl) ?_
    obtain rfl := some_inj hm
    refine Ok_ret ?_
    repeat (first | refine thR ?_ | refine ibR ?_)
    exact X_fin [] [] (by kernel_rfl) trivial
  · have hm := ie hc hm
    refine X_skip ?_
    refine thN ?_
    obtain ⟨r3, h2, hm⟩ := obind hm
    refine X_reg_seq ty_ok Γok hL [(2, .c (i_busiestWeek_r r3) (i_busiestWeek_n r3) (i_busiestWeek_o (r, driver) r3))] (.cons (i_busiestWeek_c h2) .nil) (by kernel_rfl) ?_
    refine X_reg_seq ty_ok Γok hL [] .nil (by kernel_rfl) ?_
    obtain rfl := some_inj hm
    refine Ok_ret ?_
    repeat (first | refine thR ?_ | refine ibR ?_)
    exact X_fin [] [] (by kernel_rfl) trivial
abbrev s_l14Asked_r (y : Bool) : AV := .dat (Enc.e y)
abbrev s_l14Asked_n (y : Bool) : List Obj' := []
abbrev s_l14Asked_o (x : Roster × Int) (y : Bool) : List Obj' := []
noncomputable def s_l14Asked_S : FnSpec := modS [.rd, .rd] (fun x : Roster × Int => [Enc.e x.1, Enc.e x.2]) (fun x : Roster × Int => []) (fun x : Roster × Int => s_l14Asked x.1 x.2) s_l14Asked_r s_l14Asked_n s_l14Asked_o
theorem s_l14Asked_c {r : Roster} {driver : Int} {y : Bool} (h : s_l14Asked r driver = some y) : CallOK s_l14Asked_S [Enc.e r, Enc.e driver] [] (s_l14Asked_r y) (s_l14Asked_n y) (s_l14Asked_o (r, driver) y) :=
  modS_call (by
    rintro ⟨a0, a1⟩ ⟨b0, b1⟩ h hO
    have q0 : a0 = b0 := Enc.inj _ _ (congrArg (fun l => List.getD l 0 (.sc undef)) h)
    have q1 : a1 = b1 := Enc.inj _ _ (congrArg (fun l => List.getD l 1 (.sc undef)) h)
    subst q0; subst q1; rfl) (x := (r, driver)) h
theorem s_l14Asked_ok : FnOK Try.prog 99 s_l14Asked_S := by
  have Γok : ∀ f S, lookF f [(87, s_l14Good_S), (88, s_l1In_S)] = some S → FnOK Try.prog f S := lookF_ok (allF_cons s_l14Good_ok (allF_cons s_l1In_ok allF_nil))
  have Γlive : Live (fun f => lookF f [(87, s_l14Good_S), (88, s_l1In_S)]) := lookF_live (allL_cons modS_live (allL_cons modS_live allL_nil))
  refine fnOK_mod ty_ok (fun args w => Try.call99 args w) Try.func99 rfl [.tmp 4] (by rw [Try.results99]) 15 Try.ntmps99 16 rfl (fun _ => by first | exact Nat.zero_le _ | (simp)) ?_
  rintro ⟨r, driver⟩ y cx hm hL
  have hm : s_l14Asked r driver = some y := hm
  have hL : cx.L = 0 := hL
  unfold s_l14Asked at hm
  refine X_reg_seq ty_ok Γok hL [] .nil (by kernel_rfl) ?_
  obtain ⟨r1, h, hm⟩ := obind hm
  obtain ⟨v, hv, hk⟩ := obind hm
  refine X_join (n := 15) (fun (v : Bool) => (⟨[(4, .dat (.sc (.bool v)))], [], 32⟩ : X)) v ?_ ?_
  · have hm := hv
    rcases btf r1 with hb | hb
    · have hm := it hb hm
      obtain ⟨r2, h1, hm⟩ := obind hm
      obtain rfl := some_inj hm
      refine X_reg ty_ok Γok hL [(1, .c (s_l14Good_r r1) (s_l14Good_n r1) (s_l14Good_o r r1)), (2, .b true), (6, .n (r.Plan.length : Int)), (8, .c (s_l1In_r r2) (s_l1In_n r2) (s_l1In_o (driver, 0, (w64 ((r.Plan.length : Int) - 1))) r2))] (.cons (s_l14Good_c h) (.cons hb (.cons (len_m Enc.e r.Plan) (.cons (s_l1In_c h1) .nil)))) (by kernel_rfl) ?_
      exact thN (Wk_J hL ⟨[(4, [])], [], [], 32⟩ (by kernel_rfl))
    · have hm := ie hb hm
      obtain rfl := some_inj hm
      refine X_reg ty_ok Γok hL [(1, .c (s_l14Good_r r1) (s_l14Good_n r1) (s_l14Good_o r r1)), (2, .b false)] (.cons (s_l14Good_c h) (.cons hb .nil)) (by kernel_rfl) ?_
      exact thN (Wk_J hL ⟨[(4, [])], [], [], 32⟩ (by kernel_rfl))
  have hm := hk
  obtain rfl := some_inj hm
  refine Ok_ret ?_
  repeat (first | refine thR ?_ | refine ibR ?_)
  exact X_fin [] [] (by kernel_rfl) trivial
abbrev s_BusiestWeek_r (y : Int × Int × Bool) : AV := .tup [.dat (Enc.e y.1), .dat (Enc.e y.2.1), .dat (Enc.e y.2.2)]
abbrev s_BusiestWeek_n (y : Int × Int × Bool) : List Obj' := []
abbrev s_BusiestWeek_o (x : Roster × Int) (y : Int × Int × Bool) : List Obj' := []
noncomputable def s_BusiestWeek_S : FnSpec := modS [.rd, .rd] (fun x : Roster × Int => [Enc.e x.1, Enc.e x.2]) (fun x : Roster × Int => []) (fun x : Roster × Int => s_BusiestWeek x.1 x.2) s_BusiestWeek_r s_BusiestWeek_n s_BusiestWeek_o
theorem s_BusiestWeek_c {r : Roster} {driver : Int} {y : Int × Int × Bool} (h : s_BusiestWeek r driver = some y) : CallOK s_BusiestWeek_S [Enc.e r, Enc.e driver] [] (s_BusiestWeek_r y) (s_BusiestWeek_n y) (s_BusiestWeek_o (r, driver) y) :=
  modS_call (by
    rintro ⟨a0, a1⟩ ⟨b0, b1⟩ h hO
    have q0 : a0 = b0 := Enc.inj _ _ (congrArg (fun l => List.getD l 0 (.sc undef)) h)
    have q1 : a1 = b1 := Enc.inj _ _ (congrArg (fun l => List.getD l 1 (.sc undef)) h)
    subst q0; subst q1; rfl) (x := (r, driver)) h
theorem s_BusiestWeek_ok : FnOK Try.prog 19 s_BusiestWeek_S := by
  have Γok : ∀ f S, lookF f [(99, s_l14Asked_S), (100, s_l14Week_S)] = some S → FnOK Try.prog f S := lookF_ok (allF_cons s_l14Asked_ok (allF_cons s_l14Week_ok allF_nil))
  have Γlive : Live (fun f => lookF f [(99, s_l14Asked_S), (100, s_l14Week_S)]) := lookF_live (allL_cons modS_live (allL_cons modS_live allL_nil))
  refine fnOK_mod ty_ok (fun args w => Try.call19 args w) Try.func19 rfl [.tmp 4, .tmp 5, .tmp 6] (by rw [Try.results19]) 21 Try.ntmps19 16 rfl (fun _ => by first | exact Nat.zero_le _ | (simp)) ?_
  rintro ⟨r, driver⟩ y cx hm hL
  have hm : s_BusiestWeek r driver = some y := hm
  have hL : cx.L = 0 := hL
  unfold s_BusiestWeek at hm
  refine X_reg_seq ty_ok Γok hL [] .nil (by kernel_rfl) ?_
  refine Ok_seq ?_
  obtain ⟨r1, h, hm⟩ := obind hm
  refine X_reg_seq ty_ok Γok hL [(2, .c (s_l14Asked_r r1) (s_l14Asked_n r1) (s_l14Asked_o (r, driver) r1))] (.cons (s_l14Asked_c h) .nil) (by kernel_rfl) ?_
  refine X_cond (!r1) (by kernel_rfl) (fun hc => ?_) (fun hc => ?_)
  · have hm := it hc hm
    refine X_reg_seq ty_ok Γok hL [] .nil (by kernel_rfl) ?_
    obtain rfl := some_inj hm
    refine Ok_ret ?_
    repeat (first | refine thR ?_ | refine ibR ?_)
    exact X_fin [] [] (by kernel_rfl) trivial
  · have hm := ie hc hm
    refine X_skip ?_
    refine thN ?_
    obtain ⟨r2, h1, hm⟩ := obind hm
    refine X_reg_seq ty_ok Γok hL [(2, .c (s_l14Week_r r2) (s_l14Week_n r2) (s_l14Week_o (r, driver) r2))] (.cons (s_l14Week_c h1) .nil) (by kernel_rfl) ?_
    refine X_reg_seq ty_ok Γok hL [] .nil (by kernel_rfl) ?_
    obtain rfl := some_inj hm
    refine Ok_ret ?_
    repeat (first | refine thR ?_ | refine ibR ?_)
    exact X_fin [] [] (by kernel_rfl) trivial
abbrev i_WorkedMinutes_r (y : Int × Bool) : AV := .tup [.dat (Enc.e y.1), .dat (Enc.e y.2)]
abbrev i_WorkedMinutes_n (y : Int × Bool) : List Obj' := []
abbrev i_WorkedMinutes_o (x : Roster × Int) (y : Int × Bool) : List Obj' := []
noncomputable def i_WorkedMinutes_S : FnSpec := modS [.rd, .rd] (fun x : Roster × Int => [Enc.e x.1, Enc.e x.2]) (fun x : Roster × Int => []) (fun x : Roster × Int => i_WorkedMinutes x.1 x.2) i_WorkedMinutes_r i_WorkedMinutes_n i_WorkedMinutes_o
theorem i_WorkedMinutes_c {r : Roster} {driver : Int} {y : Int × Bool} (h : i_WorkedMinutes r driver = some y) : CallOK i_WorkedMinutes_S [Enc.e r, Enc.e driver] [] (i_WorkedMinutes_r y) (i_WorkedMinutes_n y) (i_WorkedMinutes_o (r, driver) y) :=
  modS_call (by
    rintro ⟨a0, a1⟩ ⟨b0, b1⟩ h hO
    have q0 : a0 = b0 := Enc.inj _ _ (congrArg (fun l => List.getD l 0 (.sc undef)) h)
    have q1 : a1 = b1 := Enc.inj _ _ (congrArg (fun l => List.getD l 1 (.sc undef)) h)
    subst q0; subst q1; rfl) (x := (r, driver)) h
theorem i_WorkedMinutes_ok : FnOK Try.prog 20 i_WorkedMinutes_S := by
  have Γok : ∀ f S, lookF f [(16, i_IsValidRoster_S), (97, i_isDriver_S), (101, i_workedMinutes_S)] = some S → FnOK Try.prog f S := lookF_ok (allF_cons i_IsValidRoster_ok (allF_cons i_isDriver_ok (allF_cons i_workedMinutes_ok allF_nil)))
  have Γlive : Live (fun f => lookF f [(16, i_IsValidRoster_S), (97, i_isDriver_S), (101, i_workedMinutes_S)]) := lookF_live (allL_cons modS_live (allL_cons modS_live (allL_cons modS_live allL_nil)))
  refine fnOK_mod ty_ok (fun args w => Try.call20 args w) Try.func20 rfl [.tmp 4, .tmp 5] (by rw [Try.results20]) 18 Try.ntmps20 16 rfl (fun _ => by first | exact Nat.zero_le _ | (simp)) ?_
  rintro ⟨r, driver⟩ y cx hm hL
  have hm : i_WorkedMinutes r driver = some y := hm
  have hL : cx.L = 0 := hL
  unfold i_WorkedMinutes at hm
  refine X_reg_seq ty_ok Γok hL [] .nil (by kernel_rfl) ?_
  refine Ok_seq ?_
  obtain ⟨r1, h, hm⟩ := obind hm
  obtain ⟨v, hv, hk⟩ := obind hm
  refine X_join (n := 18) (fun (v : Bool) => (⟨[(1, .dat (.sc (.int .i64 driver))), (2, .ref 16 0), (14, .dat (.sc (.bool v)))], [(16, some (.box [.dat (Enc.e r.Shifts), .dat (.sc (.int .i64 r.Rules.MinRest)), .dat (.sc (.int .i64 r.Rules.MaxRow)), .dat (.sc (.int .i64 r.Rules.MaxWeek)), .dat (Enc.e r.Plan)]))], 48⟩ : X)) v ?_ ?_
  · have hm := hv
    rcases btf (!r1) with hb | hb
    · have hm := it hb hm
      obtain rfl := some_inj hm
      refine X_reg ty_ok Γok hL [(1, .c (i_IsValidRoster_r r1) (i_IsValidRoster_n r1) (i_IsValidRoster_o r r1)), (3, .b true)] (.cons (i_IsValidRoster_c h) (.cons hb .nil)) (by kernel_rfl) ?_
      exact thN (Wk_J hL ⟨[(1, []), (2, []), (14, [])], [(16, 16, [])], [], 48⟩ (by kernel_rfl))
    · have hm := ie hb hm
      obtain ⟨r2, h1, hm⟩ := obind hm
      obtain rfl := some_inj hm
      refine X_reg ty_ok Γok hL [(1, .c (i_IsValidRoster_r r1) (i_IsValidRoster_n r1) (i_IsValidRoster_o r r1)), (3, .b false), (6, .c (i_isDriver_r r2) (i_isDriver_n r2) (i_isDriver_o (r, driver) r2))] (.cons (i_IsValidRoster_c h) (.cons hb (.cons (i_isDriver_c h1) .nil))) (by kernel_rfl) ?_
      exact thN (Wk_J hL ⟨[(1, []), (2, []), (14, [])], [(16, 16, [])], [], 48⟩ (by kernel_rfl))
  have hm := hk
  refine X_cond v (by kernel_rfl) (fun hc => ?_) (fun hc => ?_)
  · have hm := it hc hm
    refine X_reg_seq ty_ok Γok hL [] .nil (by kernel_rfl) ?_
    obtain rfl := some_inj hm
    refine Ok_ret ?_
    repeat (first | refine thR ?_ | refine ibR ?_)
    exact X_fin [] [] (by kernel_rfl) trivial
  · have hm := ie hc hm
    refine X_skip ?_
    refine thN ?_
    obtain ⟨r3, h2, hm⟩ := obind hm
    refine X_reg_seq ty_ok Γok hL [(2, .c (i_workedMinutes_r r3) (i_workedMinutes_n r3) (i_workedMinutes_o (r, driver) r3))] (.cons (i_workedMinutes_c h2) .nil) (by kernel_rfl) ?_
    obtain rfl := some_inj hm
    refine Ok_ret ?_
    repeat (first | refine thR ?_ | refine ibR ?_)
    exact X_fin [] [] (by kernel_rfl) trivial
abbrev s_DrawSwapDrivers_r (y : Roster × Int × Int × Int) : AV := .tup [.aggv [.own 0, .dat (.sc (.int .i64 y.1.Rules.MinRest)), .dat (.sc (.int .i64 y.1.Rules.MaxRow)), .dat (.sc (.int .i64 y.1.Rules.MaxWeek)), .own 1], .dat (Enc.e y.2.1), .dat (Enc.e y.2.2.1), .dat (Enc.e y.2.2.2)]
abbrev s_DrawSwapDrivers_n (y : Roster × Int × Int × Int) : List Obj' := [.arr 49 2 (List.map Enc.e y.1.Shifts), .tab 32 1 [some 3] (List.map Enc.e y.1.Plan) 0 none]
abbrev s_DrawSwapDrivers_o (x : (List UInt8)) (y : Roster × Int × Int × Int) : List Obj' := []
noncomputable def s_DrawSwapDrivers_S : FnSpec := modS [.rd] (fun x : (List UInt8) => [Enc.e x]) (fun x : (List UInt8) => []) (fun x : (List UInt8) => s_DrawSwapDrivers x) s_DrawSwapDrivers_r s_DrawSwapDrivers_n s_DrawSwapDrivers_o
theorem s_DrawSwapDrivers_c {code : List UInt8} {y : Roster × Int × Int × Int} (h : s_DrawSwapDrivers code = some y) : CallOK s_DrawSwapDrivers_S [Enc.e code] [] (s_DrawSwapDrivers_r y) (s_DrawSwapDrivers_n y) (s_DrawSwapDrivers_o code y) :=
  modS_call (by
    rintro a0 b0 h hO
    have q0 : a0 = b0 := Enc.inj _ _ (congrArg (fun l => List.getD l 0 (.sc undef)) h)
    subst q0; rfl) (x := code) h
theorem s_DrawSwapDrivers_ok : FnOK Try.prog 21 s_DrawSwapDrivers_S := by
  have Γok : ∀ f S, lookF f [(102, s_l1Cur_roster_S), (103, s_l1Cur_pick_S)] = some S → FnOK Try.prog f S := lookF_ok (allF_cons s_l1Cur_roster_ok (allF_cons s_l1Cur_pick_ok allF_nil))
  have Γlive : Live (fun f => lookF f [(102, s_l1Cur_roster_S), (103, s_l1Cur_pick_S)]) := lookF_live (allL_cons modS_live (allL_cons modS_live allL_nil))
  refine fnOK_mod ty_ok (fun args w => Try.call21 args w) Try.func21 rfl [.cell 2 29, .tmp 3, .tmp 4, .tmp 5] (by rw [Try.results21]) 37 Try.ntmps21 16 rfl (fun _ => by first | exact Nat.zero_le _ | (simp)) ?_
  rintro code y cx hm hL
  have hm : s_DrawSwapDrivers code = some y := hm
  have hL : cx.L = 0 := hL
  unfold s_DrawSwapDrivers at hm
  refine X_reg_seq ty_ok Γok hL [] .nil (by kernel_rfl) ?_
  refine X_reg_seq ty_ok Γok hL [] .nil (by kernel_rfl) ?_
  obtain ⟨r, h, hm⟩ := obind hm
  refine X_reg_seq ty_ok Γok hL [(1, .c (s_l1Cur_roster_r r) (s_l1Cur_roster_n r) (s_l1Cur_roster_o (⟨code, 0, (⟨0⟩ : IK .u64)⟩ : l1Cur) r))] (.cons (s_l1Cur_roster_c h) .nil) (by kernel_rfl) ?_
  refine X_reg_seq ty_ok Γok hL [(2, .n (r.1.Plan.length : Int))] (.cons (len_m Enc.e r.1.Plan) .nil) (by kernel_rfl) ?_
  obtain ⟨r5, h7, hm⟩ := obind hm
  obtain ⟨r6, h8, hm⟩ := obind hm
  obtain ⟨r7, h9, hm⟩ := obind hm
  obtain ⟨u1, h10, hm⟩ := obind hm
  obtain ⟨e1, h11, hm⟩ := obind hm
  obtain ⟨r8, h12, hm⟩ := obind hm
  refine X_draw_seq mixed ty_ok Γok Γlive [(3, [112]), (7, [112]), (9, [112]), (19, [112]), (20, [16, 160, 161])] (by kernel_rfl) [(3, .c (s_l1Cur_pick_r r5) (s_l1Cur_pick_n r5) (s_l1Cur_pick_o (r.2, (r.1.Plan.length : Int)) r5)), (7, .c (s_l1Cur_pick_r r6) (s_l1Cur_pick_n r6) (s_l1Cur_pick_o (r5.2, (w64 ((r.1.Plan.length : Int) + 1))) r6)), (9, .c (s_l1Cur_pick_r r7) (s_l1Cur_pick_n r7) (s_l1Cur_pick_o (r6.2, 12) r7)), (15, .d (Enc.e e1)), (16, .d (Enc.e e1)), (17, .dn (Enc.e e1) (e1.length : Int)), (19, .c (s_l1Cur_pick_r r8) (s_l1Cur_pick_n r8) (s_l1Cur_pick_o (r7.2, (w64 ((e1.length : Int) + 1))) r8))] (.cons (s_l1Cur_pick_c h7) (.cons (s_l1Cur_pick_c h8) (.cons (s_l1Cur_pick_c h9) (.cons (chk_t h10) (.cons (idx_m (f := Enc.e) h11) (.cons (idx_m2 (f := Enc.e) h11) (.cons (idx_m2 (f := Enc.e) h11) (.cons (len_m Enc.e e1) (.cons (s_l1Cur_pick_c h12) .nil))))))))) (by kernel_rfl) ?_
  obtain rfl := some_inj hm
  refine Ok_ret ?_
  repeat (first | refine thR ?_ | refine ibR ?_)
  exact X_fin [160, 161] [] (by kernel_rfl) trivial
abbrev i_SwapDrivers_r (y : Roster × Bool) : AV := .tup [.dat (Enc.e y.1), .dat (Enc.e y.2)]
abbrev i_SwapDrivers_n (y : Roster × Bool) : List Obj' := []
abbrev i_SwapDrivers_o (x : Roster × Int × Int × Int) (y : Roster × Bool) : List Obj' := []
noncomputable def i_SwapDrivers_S : FnSpec := modS [.rd, .rd, .rd, .rd] (fun x : Roster × Int × Int × Int => [Enc.e x.1, Enc.e x.2.1, Enc.e x.2.2.1, Enc.e x.2.2.2]) (fun x : Roster × Int × Int × Int => []) (fun x : Roster × Int × Int × Int => i_SwapDrivers x.1 x.2.1 x.2.2.1 x.2.2.2) i_SwapDrivers_r i_SwapDrivers_n i_SwapDrivers_o
theorem i_SwapDrivers_c {r : Roster} {a : Int} {b : Int} {day : Int} {y : Roster × Bool} (h : i_SwapDrivers r a b day = some y) : CallOK i_SwapDrivers_S [Enc.e r, Enc.e a, Enc.e b, Enc.e day] [] (i_SwapDrivers_r y) (i_SwapDrivers_n y) (i_SwapDrivers_o (r, a, b, day) y) :=
  modS_call (by
    rintro ⟨a0, a1, a2, a3⟩ ⟨b0, b1, b2, b3⟩ h hO
    have q0 : a0 = b0 := Enc.inj _ _ (congrArg (fun l => List.getD l 0 (.sc undef)) h)
    have q1 : a1 = b1 := Enc.inj _ _ (congrArg (fun l => List.getD l 1 (.sc undef)) h)
    have q2 : a2 = b2 := Enc.inj _ _ (congrArg (fun l => List.getD l 2 (.sc undef)) h)
    have q3 : a3 = b3 := Enc.inj _ _ (congrArg (fun l => List.getD l 3 (.sc undef)) h)
    subst q0; subst q1; subst q2; subst q3; rfl) (x := (r, a, b, day)) h
theorem i_SwapDrivers_ok : FnOK Try.prog 22 i_SwapDrivers_S := by
  have Γok : ∀ f S, lookF f [(16, i_IsValidRoster_S), (97, i_isDriver_S), (84, i_isRosterDay_S), (85, i_copyRoster_S), (104, i_keepsRules_S)] = some S → FnOK Try.prog f S := lookF_ok (allF_cons i_IsValidRoster_ok (allF_cons i_isDriver_ok (allF_cons i_isRosterDay_ok (allF_cons i_copyRoster_ok (allF_cons i_keepsRules_ok allF_nil)))))
  have Γlive : Live (fun f => lookF f [(16, i_IsValidRoster_S), (97, i_isDriver_S), (84, i_isRosterDay_S), (85, i_copyRoster_S), (104, i_keepsRules_S)]) := lookF_live (allL_cons modS_live (allL_cons modS_live (allL_cons modS_live (allL_cons modS_live (allL_cons modS_live allL_nil)))))
  refine fnOK_mod ty_ok (fun args w => Try.call22 args w) Try.func22 rfl [.cell 8 29, .tmp 9] (by rw [Try.results22]) 82 Try.ntmps22 16 rfl (fun _ => by first | exact Nat.zero_le _ | (simp)) ?_
  rintro ⟨r, a, b, day⟩ y cx hm hL
  have hm : i_SwapDrivers r a b day = some y := hm
  have hL : cx.L = 0 := hL
  unfold i_SwapDrivers at hm
  refine X_reg_seq ty_ok Γok hL [] .nil (by kernel_rfl) ?_
  refine Ok_seq ?_
  obtain ⟨r1, h, hm⟩ := obind hm
  obtain ⟨v, hv, hk⟩ := obind hm
  refine X_join (n := 82) (fun (v : Bool) => (⟨[(1, .dat (.sc (.int .i64 a))), (2, .dat (.sc (.int .i64 b))), (3, .dat (.sc (.int .i64 day))), (4, .ref 16 0), (8, .ref 32 0), (36, .dat (.sc (.bool v)))], [(16, some (.box [.dat (Enc.e r.Shifts), .dat (.sc (.int .i64 r.Rules.MinRest)), .dat (.sc (.int .i64 r.Rules.MaxRow)), .dat (.sc (.int .i64 r.Rules.MaxWeek)), .dat (Enc.e r.Plan)])), (32, some (.box [.dat (.sc (.slice none 0 0)), .dat (.sc (.int .i64 0)), .dat (.sc (.int .i64 0)), .dat (.sc (.int .i64 0)), .dat (.sc (.slice none 0 0))]))], 64⟩ : X)) v ?_ ?_
  · have hm := hv
    rcases btf (!r1) with hb | hb
    · have hm := it hb hm
      obtain rfl := some_inj hm
      refine X_reg ty_ok Γok hL [(1, .c (i_IsValidRoster_r r1) (i_IsValidRoster_n r1) (i_IsValidRoster_o r r1)), (3, .b true)] (.cons (i_IsValidRoster_c h) (.cons hb .nil)) (by kernel_rfl) ?_
      exact thN (Wk_J hL ⟨[(1, []), (2, []), (3, []), (4, []), (8, []), (36, [])], [(16, 16, []), (32, 32, [])], [], 64⟩ (by kernel_rfl))
    · have hm := ie hb hm
      obtain ⟨r2, h1, hm⟩ := obind hm
      rcases btf (!r2) with hb1 | hb1
      · have hm := it hb1 hm
        obtain rfl := some_inj hm
        refine X_reg ty_ok Γok hL [(1, .c (i_IsValidRoster_r r1) (i_IsValidRoster_n r1) (i_IsValidRoster_o r r1)), (3, .b false), (6, .c (i_isDriver_r r2) (i_isDriver_n r2) (i_isDriver_o (r, a) r2)), (9, .b true)] (.cons (i_IsValidRoster_c h) (.cons hb (.cons (i_isDriver_c h1) (.cons hb1 .nil)))) (by kernel_rfl) ?_
        exact thN (Wk_J hL ⟨[(1, []), (2, []), (3, []), (4, []), (8, []), (36, [])], [(16, 16, []), (32, 32, [])], [], 64⟩ (by kernel_rfl))
      · have hm := ie hb1 hm
        obtain ⟨r3, h2, hm⟩ := obind hm
        rcases btf (!r3) with hb2 | hb2
        · have hm := it hb2 hm
          obtain rfl := some_inj hm
          refine X_reg ty_ok Γok hL [(1, .c (i_IsValidRoster_r r1) (i_IsValidRoster_n r1) (i_IsValidRoster_o r r1)), (3, .b false), (6, .c (i_isDriver_r r2) (i_isDriver_n r2) (i_isDriver_o (r, a) r2)), (9, .b false), (12, .c (i_isDriver_r r3) (i_isDriver_n r3) (i_isDriver_o (r, b) r3)), (15, .b true)] (.cons (i_IsValidRoster_c h) (.cons hb (.cons (i_isDriver_c h1) (.cons hb1 (.cons (i_isDriver_c h2) (.cons hb2 .nil)))))) (by kernel_rfl) ?_
          exact thN (Wk_J hL ⟨[(1, []), (2, []), (3, []), (4, []), (8, []), (36, [])], [(16, 16, []), (32, 32, [])], [], 64⟩ (by kernel_rfl))
        · have hm := ie hb2 hm
          rcases btf (a == b) with hb3 | hb3
          · have hm := it hb3 hm
            obtain rfl := some_inj hm
            refine X_reg ty_ok Γok hL [(1, .c (i_IsValidRoster_r r1) (i_IsValidRoster_n r1) (i_IsValidRoster_o r r1)), (3, .b false), (6, .c (i_isDriver_r r2) (i_isDriver_n r2) (i_isDriver_o (r, a) r2)), (9, .b false), (12, .c (i_isDriver_r r3) (i_isDriver_n r3) (i_isDriver_o (r, b) r3)), (15, .b false), (20, .b true)] (.cons (i_IsValidRoster_c h) (.cons hb (.cons (i_isDriver_c h1) (.cons hb1 (.cons (i_isDriver_c h2) (.cons hb2 (.cons hb3 .nil))))))) (by kernel_rfl) ?_
            exact thN (Wk_J hL ⟨[(1, []), (2, []), (3, []), (4, []), (8, []), (36, [])], [(16, 16, []), (32, 32, [])], [], 64⟩ (by kernel_rfl))
          · have hm := ie hb3 hm
            obtain ⟨r4, h3, hm⟩ := obind hm
            obtain rfl := some_inj hm
            refine X_reg ty_ok Γok hL [(1, .c (i_IsValidRoster_r r1) (i_IsValidRoster_n r1) (i_IsValidRoster_o r r1)), (3, .b false), (6, .c (i_isDriver_r r2) (i_isDriver_n r2) (i_isDriver_o (r, a) r2)), (9, .b false), (12, .c (i_isDriver_r r3) (i_isDriver_n r3) (i_isDriver_o (r, b) r3)), (15, .b false), (20, .b false), (23, .c (i_isRosterDay_r r4) (i_isRosterDay_n r4) (i_isRosterDay_o (r, day) r4))] (.cons (i_IsValidRoster_c h) (.cons hb (.cons (i_isDriver_c h1) (.cons hb1 (.cons (i_isDriver_c h2) (.cons hb2 (.cons hb3 (.cons (i_isRosterDay_c h3) .nil)))))))) (by kernel_rfl) ?_
            exact thN (Wk_J hL ⟨[(1, []), (2, []), (3, []), (4, []), (8, []), (36, [])], [(16, 16, []), (32, 32, [])], [], 64⟩ (by kernel_rfl))
  have hm := hk
  refine X_cond v (by kernel_rfl) (fun hc => ?_) (fun hc => ?_)
  · have hm := it hc hm
    refine X_reg_seq ty_ok Γok hL [] .nil (by kernel_rfl) ?_
    obtain rfl := some_inj hm
    refine Ok_ret ?_
    repeat (first | refine thR ?_ | refine ibR ?_)
    exact X_fin [] [[.z 2, .k, .k, .k, .z 1]] (by kernel_rfl) trivial
  · have hm := ie hc hm
    refine X_skip ?_
    refine thN ?_
    obtain ⟨r5, h4, hm⟩ := obind hm
    refine X_reg_seq ty_ok Γok hL [(1, .c (i_copyRoster_r r5) (i_copyRoster_n r5) (i_copyRoster_o r r5))] (.cons (i_copyRoster_c h4) .nil) (by kernel_rfl) ?_
    obtain ⟨e9, h14, hm⟩ := obind hm
    obtain ⟨e10, h15, hm⟩ := obind hm
    obtain ⟨e11, h16, hm⟩ := obind hm
    obtain ⟨e12, h17, hm⟩ := obind hm
    obtain ⟨e13, h18, hm⟩ := obind hm
    obtain ⟨e14, h19, hm⟩ := obind hm
    obtain ⟨e15, h20, hm⟩ := obind hm
    obtain ⟨e16, h21, hm⟩ := obind hm
    obtain ⟨e17, h22, hm⟩ := obind hm
    refine X_draw_seq mixed ty_ok Γok Γlive [(29, [81]), (31, [81])] (by kernel_rfl) [(3, .d (Enc.e e9)), (4, .d (Enc.e e9)), (9, .d (Enc.e e10)), (10, .d (Enc.e e10)), (15, .d (Enc.e e11)), (18, .d (Enc.e e12)), (23, .d (Enc.e e13)), (26, .d (Enc.e e14)), (28, .d (Enc.e e9)), (29, .sd2 (Enc.e e9) (Enc.e e15) (List.map Enc.e (e9.set day.toNat e12)) (List.map Enc.e (r5.Plan.set a.toNat (e9.set day.toNat e12)))), (30, .d (Enc.e e16)), (31, .sd2 (Enc.e e16) (Enc.e e17) (List.map Enc.e (e16.set day.toNat e14)) (List.map Enc.e ((r5.Plan.set a.toNat (e9.set day.toNat e12)).set b.toNat (e16.set day.toNat e14))))] (.cons (idx_m (f := Enc.e) h14) (.cons (idx_m2 (f := Enc.e) h14) (.cons (idx_m (f := Enc.e) h15) (.cons (idx_m2 (f := Enc.e) h15) (.cons (idx_m (f := Enc.e) h16) (.cons (idx_m (f := Enc.e) h17) (.cons (idx_m (f := Enc.e) h18) (.cons (idx_m (f := Enc.e) h19) (.cons (idx_m2 (f := Enc.e) h14) (.cons (idx_b (f := Enc.e) h20) (.cons (idx_m2 (f := Enc.e) h14) (.cons (idx_m2 (f := Enc.e) h20) (.cons (set_m Enc.e e9 day.toNat e12) (.cons (set_m Enc.e r5.Plan a.toNat (e9.set day.toNat e12)) (.cons (idx_m2 (f := Enc.e) h21) (.cons (idx_b (f := Enc.e) h22) (.cons (idx_m2 (f := Enc.e) h21) (.cons (idx_m2 (f := Enc.e) h22) (.cons (set_m Enc.e e16 day.toNat e14) (.cons (set_m Enc.e (r5.Plan.set a.toNat (e9.set day.toNat e12)) b.toNat (e16.set day.toNat e14)) .nil)))))))))))))))))))) (by kernel_rfl) ?_
    refine Ok_seq ?_
    obtain ⟨r6, h23, hm⟩ := obind hm
    obtain ⟨v1, hv1, hk1⟩ := obind hm
    refine X_join (n := 82) (fun (v1 : Bool) => (⟨[(8, .ref 16 0), (10, .ref 32 0), (79, .dat (.sc (.bool v1)))], [(16, some (.box [.dat (.sc (.slice none 0 0)), .dat (.sc (.int .i64 0)), .dat (.sc (.int .i64 0)), .dat (.sc (.int .i64 0)), .dat (.sc (.slice none 0 0))])), (32, some (.box [.own 48, .dat (.sc (.int .i64 r5.Rules.MinRest)), .dat (.sc (.int .i64 r5.Rules.MaxRow)), .dat (.sc (.int .i64 r5.Rules.MaxWeek)), .own 64])), (48, some (.arr 49 2 (List.map Enc.e r5.Shifts))), (64, some (.tab 32 1 [some 3] (List.map Enc.e ((r5.Plan.set a.toNat (e9.set day.toNat e12)).set b.toNat (e16.set day.toNat e14))) 64 none))], 96⟩ : X)) v1 ?_ ?_
    · have hm := hv1
      rcases btf (!r6) with hb4 | hb4
      · have hm := it hb4 hm
        obtain rfl := some_inj hm
        refine X_reg ty_ok Γok hL [(2, .c (i_keepsRules_r r6) (i_keepsRules_n r6) (i_keepsRules_o ((⟨r5.Shifts, r5.Rules, ((r5.Plan.set a.toNat (e9.set day.toNat e12)).set b.toNat (e16.set day.toNat e14))⟩ : Roster), a) r6)), (4, .b true)] (.cons (i_keepsRules_c h23) (.cons hb4 .nil)) (by kernel_rfl) ?_
        exact thN (Wk_J hL ⟨[(8, []), (10, []), (79, [])], [(16, 32, []), (32, 96, []), (48, 80, []), (64, 81, [])], [], 96⟩ (by kernel_rfl))
      · have hm := ie hb4 hm
        obtain ⟨r7, h24, hm⟩ := obind hm
        obtain rfl := some_inj hm
        refine X_reg ty_ok Γok hL [(2, .c (i_keepsRules_r r6) (i_keepsRules_n r6) (i_keepsRules_o ((⟨r5.Shifts, r5.Rules, ((r5.Plan.set a.toNat (e9.set day.toNat e12)).set b.toNat (e16.set day.toNat e14))⟩ : Roster), a) r6)), (4, .b false), (7, .c (i_keepsRules_r r7) (i_keepsRules_n r7) (i_keepsRules_o ((⟨r5.Shifts, r5.Rules, ((r5.Plan.set a.toNat (e9.set day.toNat e12)).set b.toNat (e16.set day.toNat e14))⟩ : Roster), b) r7))] (.cons (i_keepsRules_c h23) (.cons hb4 (.cons (i_keepsRules_c h24) .nil))) (by kernel_rfl) ?_
        exact thN (Wk_J hL ⟨[(8, []), (10, []), (79, [])], [(16, 32, []), (32, 96, []), (48, 80, []), (64, 81, [])], [], 96⟩ (by kernel_rfl))
    have hm := hk1
    refine X_cond v1 (by kernel_rfl) (fun hc1 => ?_) (fun hc1 => ?_)
    · have hm := it hc1 hm
      refine X_reg_seq ty_ok Γok hL [] .nil (by kernel_rfl) ?_
      obtain rfl := some_inj hm
      refine Ok_ret ?_
      repeat (first | refine thR ?_ | refine ibR ?_)
      exact X_fin [] [[.z 2, .k, .k, .k, .z 1]] (by kernel_rfl) trivial
    · have hm := ie hc1 hm
      refine X_skip ?_
      refine thN ?_
      refine X_reg_seq ty_ok Γok hL [] .nil (by kernel_rfl) ?_
      obtain rfl := some_inj hm
      refine Ok_ret ?_
      repeat (first | refine thR ?_ | refine ibR ?_)
      exact X_fin [] [] (by kernel_rfl) trivial
abbrev s_SwapDrivers_r (y : Roster × Bool) : AV := .tup [.dat (Enc.e y.1), .dat (Enc.e y.2)]
abbrev s_SwapDrivers_n (y : Roster × Bool) : List Obj' := []
abbrev s_SwapDrivers_o (x : Roster × Int × Int × Int) (y : Roster × Bool) : List Obj' := []
noncomputable def s_SwapDrivers_S : FnSpec := modS [.rd, .rd, .rd, .rd] (fun x : Roster × Int × Int × Int => [Enc.e x.1, Enc.e x.2.1, Enc.e x.2.2.1, Enc.e x.2.2.2]) (fun x : Roster × Int × Int × Int => []) (fun x : Roster × Int × Int × Int => s_SwapDrivers x.1 x.2.1 x.2.2.1 x.2.2.2) s_SwapDrivers_r s_SwapDrivers_n s_SwapDrivers_o
theorem s_SwapDrivers_c {r : Roster} {a : Int} {b : Int} {day : Int} {y : Roster × Bool} (h : s_SwapDrivers r a b day = some y) : CallOK s_SwapDrivers_S [Enc.e r, Enc.e a, Enc.e b, Enc.e day] [] (s_SwapDrivers_r y) (s_SwapDrivers_n y) (s_SwapDrivers_o (r, a, b, day) y) :=
  modS_call (by
    rintro ⟨a0, a1, a2, a3⟩ ⟨b0, b1, b2, b3⟩ h hO
    have q0 : a0 = b0 := Enc.inj _ _ (congrArg (fun l => List.getD l 0 (.sc undef)) h)
    have q1 : a1 = b1 := Enc.inj _ _ (congrArg (fun l => List.getD l 1 (.sc undef)) h)
    have q2 : a2 = b2 := Enc.inj _ _ (congrArg (fun l => List.getD l 2 (.sc undef)) h)
    have q3 : a3 = b3 := Enc.inj _ _ (congrArg (fun l => List.getD l 3 (.sc undef)) h)
    subst q0; subst q1; subst q2; subst q3; rfl) (x := (r, a, b, day)) h
theorem s_SwapDrivers_ok : FnOK Try.prog 23 s_SwapDrivers_S := by
  have Γok : ∀ f S, lookF f [(99, s_l14Asked_S), (88, s_l1In_S), (89, s_l14Own_t_S), (91, s_l14Keeps_S)] = some S → FnOK Try.prog f S := lookF_ok (allF_cons s_l14Asked_ok (allF_cons s_l1In_ok (allF_cons s_l14Own_t_ok (allF_cons s_l14Keeps_ok allF_nil))))
  have Γlive : Live (fun f => lookF f [(99, s_l14Asked_S), (88, s_l1In_S), (89, s_l14Own_t_S), (91, s_l14Keeps_S)]) := lookF_live (allL_cons modS_live (allL_cons modS_live (allL_cons modS_live (allL_cons modS_live allL_nil))))
  refine fnOK_mod ty_ok (fun args w => Try.call23 args w) Try.func23 rfl [.cell 8 29, .tmp 9] (by rw [Try.results23]) 82 Try.ntmps23 16 rfl (fun _ => by first | exact Nat.zero_le _ | (simp)) ?_
  rintro ⟨r, a, b, day⟩ y cx hm hL
  have hm : s_SwapDrivers r a b day = some y := hm
  have hL : cx.L = 0 := hL
  unfold s_SwapDrivers at hm
  refine X_reg_seq ty_ok Γok hL [] .nil (by kernel_rfl) ?_
  refine Ok_seq ?_
  obtain ⟨r1, h, hm⟩ := obind hm
  obtain ⟨v, hv, hk⟩ := obind hm
  refine X_join (n := 82) (fun (v : Bool) => (⟨[(1, .dat (.sc (.int .i64 a))), (2, .dat (.sc (.int .i64 b))), (3, .dat (.sc (.int .i64 day))), (4, .ref 16 0), (8, .ref 32 0), (36, .dat (.sc (.bool v)))], [(16, some (.box [.dat (Enc.e r.Shifts), .dat (.sc (.int .i64 r.Rules.MinRest)), .dat (.sc (.int .i64 r.Rules.MaxRow)), .dat (.sc (.int .i64 r.Rules.MaxWeek)), .dat (Enc.e r.Plan)])), (32, some (.box [.dat (.sc (.slice none 0 0)), .dat (.sc (.int .i64 0)), .dat (.sc (.int .i64 0)), .dat (.sc (.int .i64 0)), .dat (.sc (.slice none 0 0))]))], 64⟩ : X)) v ?_ ?_
  · have hm := hv
    rcases btf (!r1) with hb | hb
    · have hm := it hb hm
      obtain rfl := some_inj hm
      refine X_reg ty_ok Γok hL [(2, .c (s_l14Asked_r r1) (s_l14Asked_n r1) (s_l14Asked_o (r, a) r1)), (4, .b true)] (.cons (s_l14Asked_c h) (.cons hb .nil)) (by kernel_rfl) ?_
      exact thN (Wk_J hL ⟨[(1, []), (2, []), (3, []), (4, []), (8, []), (36, [])], [(16, 16, []), (32, 32, [])], [], 64⟩ (by kernel_rfl))
    · have hm := ie hb hm
      obtain ⟨r2, h1, hm⟩ := obind hm
      rcases btf (!r2) with hb1 | hb1
      · have hm := it hb1 hm
        obtain rfl := some_inj hm
        refine X_reg ty_ok Γok hL [(2, .c (s_l14Asked_r r1) (s_l14Asked_n r1) (s_l14Asked_o (r, a) r1)), (4, .b false), (7, .c (s_l14Asked_r r2) (s_l14Asked_n r2) (s_l14Asked_o (r, b) r2)), (10, .b true)] (.cons (s_l14Asked_c h) (.cons hb (.cons (s_l14Asked_c h1) (.cons hb1 .nil)))) (by kernel_rfl) ?_
        exact thN (Wk_J hL ⟨[(1, []), (2, []), (3, []), (4, []), (8, []), (36, [])], [(16, 16, []), (32, 32, [])], [], 64⟩ (by kernel_rfl))
      · have hm := ie hb1 hm
        rcases btf (a == b) with hb2 | hb2
        · have hm := it hb2 hm
          obtain rfl := some_inj hm
          refine X_reg ty_ok Γok hL [(2, .c (s_l14Asked_r r1) (s_l14Asked_n r1) (s_l14Asked_o (r, a) r1)), (4, .b false), (7, .c (s_l14Asked_r r2) (s_l14Asked_n r2) (s_l14Asked_o (r, b) r2)), (10, .b false), (15, .b true)] (.cons (s_l14Asked_c h) (.cons hb (.cons (s_l14Asked_c h1) (.cons hb1 (.cons hb2 .nil))))) (by kernel_rfl) ?_
          exact thN (Wk_J hL ⟨[(1, []), (2, []), (3, []), (4, []), (8, []), (36, [])], [(16, 16, []), (32, 32, [])], [], 64⟩ (by kernel_rfl))
        · have hm := ie hb2 hm
          obtain ⟨e, h2, hm⟩ := obind hm
          obtain ⟨r3, h3, hm⟩ := obind hm
          obtain rfl := some_inj hm
          refine X_reg ty_ok Γok hL [(2, .c (s_l14Asked_r r1) (s_l14Asked_n r1) (s_l14Asked_o (r, a) r1)), (4, .b false), (7, .c (s_l14Asked_r r2) (s_l14Asked_n r2) (s_l14Asked_o (r, b) r2)), (10, .b false), (15, .b false), (19, .d (Enc.e e)), (21, .n (e.length : Int)), (23, .c (s_l1In_r r3) (s_l1In_n r3) (s_l1In_o (day, 0, (w64 ((e.length : Int) - 1))) r3))] (.cons (s_l14Asked_c h) (.cons hb (.cons (s_l14Asked_c h1) (.cons hb1 (.cons hb2 (.cons (idx_m (f := Enc.e) h2) (.cons (len_m Enc.e e) (.cons (s_l1In_c h3) .nil)))))))) (by kernel_rfl) ?_
          exact thN (Wk_J hL ⟨[(1, []), (2, []), (3, []), (4, []), (8, []), (36, [])], [(16, 16, []), (32, 32, [])], [], 64⟩ (by kernel_rfl))
  have hm := hk
  refine X_cond v (by kernel_rfl) (fun hc => ?_) (fun hc => ?_)
  · have hm := it hc hm
    refine X_reg_seq ty_ok Γok hL [] .nil (by kernel_rfl) ?_
    obtain rfl := some_inj hm
    refine Ok_ret ?_
    repeat (first | refine thR ?_ | refine ibR ?_)
    exact X_fin [] [[.z 2, .k, .k, .k, .z 1]] (by kernel_rfl) trivial
  · have hm := ie hc hm
    refine X_skip ?_
    refine thN ?_
    obtain ⟨r4, h4, hm⟩ := obind hm
    refine X_reg_seq ty_ok Γok hL [(1, .c (s_l14Own_t_r r4) (s_l14Own_t_n r4) (s_l14Own_t_o r r4))] (.cons (s_l14Own_t_c h4) .nil) (by kernel_rfl) ?_
    obtain ⟨e5, h9, hm⟩ := obind hm
    obtain ⟨e6, h10, hm⟩ := obind hm
    obtain ⟨e7, h11, hm⟩ := obind hm
    obtain ⟨e8, h12, hm⟩ := obind hm
    refine X_draw_seq mixed ty_ok Γok Γlive [(15, [81])] (by kernel_rfl) [(3, .d (Enc.e e5)), (4, .d (Enc.e e5)), (9, .d (Enc.e e6)), (12, .d (Enc.e e7)), (14, .d (Enc.e e5)), (15, .sd2 (Enc.e e5) (Enc.e e8) (List.map Enc.e (e5.set day.toNat e7)) (List.map Enc.e (r4.Plan.set a.toNat (e5.set day.toNat e7))))] (.cons (idx_m (f := Enc.e) h9) (.cons (idx_m2 (f := Enc.e) h9) (.cons (idx_m (f := Enc.e) h10) (.cons (idx_m (f := Enc.e) h11) (.cons (idx_m2 (f := Enc.e) h9) (.cons (idx_b (f := Enc.e) h12) (.cons (idx_m2 (f := Enc.e) h9) (.cons (idx_m2 (f := Enc.e) h12) (.cons (set_m Enc.e e5 day.toNat e7) (.cons (set_m Enc.e r4.Plan a.toNat (e5.set day.toNat e7)) .nil)))))))))) (by kernel_rfl) ?_
    obtain ⟨e13, h17, hm⟩ := obind hm
    obtain ⟨e14, h18, hm⟩ := obind hm
    obtain ⟨e15, h19, hm⟩ := obind hm
    obtain ⟨e16, h20, hm⟩ := obind hm
    refine X_draw_seq mixed ty_ok Γok Γlive [(15, [81])] (by kernel_rfl) [(3, .d (Enc.e e13)), (4, .d (Enc.e e13)), (9, .d (Enc.e e14)), (12, .d (Enc.e e15)), (14, .d (Enc.e e13)), (15, .sd2 (Enc.e e13) (Enc.e e16) (List.map Enc.e (e13.set day.toNat e15)) (List.map Enc.e ((r4.Plan.set a.toNat (e5.set day.toNat e7)).set b.toNat (e13.set day.toNat e15))))] (.cons (idx_m (f := Enc.e) h17) (.cons (idx_m2 (f := Enc.e) h17) (.cons (idx_m (f := Enc.e) h18) (.cons (idx_m (f := Enc.e) h19) (.cons (idx_m2 (f := Enc.e) h17) (.cons (idx_b (f := Enc.e) h20) (.cons (idx_m2 (f := Enc.e) h17) (.cons (idx_m2 (f := Enc.e) h20) (.cons (set_m Enc.e e13 day.toNat e15) (.cons (set_m Enc.e (r4.Plan.set a.toNat (e5.set day.toNat e7)) b.toNat (e13.set day.toNat e15)) .nil)))))))))) (by kernel_rfl) ?_
    refine Ok_seq ?_
    obtain ⟨r5, h21, hm⟩ := obind hm
    obtain ⟨v1, hv1, hk1⟩ := obind hm
    refine X_join (n := 82) (fun (v1 : Bool) => (⟨[(8, .ref 16 0), (10, .ref 32 0), (79, .dat (.sc (.bool v1)))], [(16, some (.box [.dat (.sc (.slice none 0 0)), .dat (.sc (.int .i64 0)), .dat (.sc (.int .i64 0)), .dat (.sc (.int .i64 0)), .dat (.sc (.slice none 0 0))])), (32, some (.box [.own 48, .dat (.sc (.int .i64 r4.Rules.MinRest)), .dat (.sc (.int .i64 r4.Rules.MaxRow)), .dat (.sc (.int .i64 r4.Rules.MaxWeek)), .own 64])), (48, some (.arr 49 2 (List.map Enc.e r4.Shifts))), (64, some (.tab 32 1 [some 3] (List.map Enc.e ((r4.Plan.set a.toNat (e5.set day.toNat e7)).set b.toNat (e13.set day.toNat e15))) 64 none))], 96⟩ : X)) v1 ?_ ?_
    · have hm := hv1
      rcases btf (!r5) with hb3 | hb3
      · have hm := it hb3 hm
        obtain rfl := some_inj hm
        refine X_reg ty_ok Γok hL [(2, .c (s_l14Keeps_r r5) (s_l14Keeps_n r5) (s_l14Keeps_o ((⟨r4.Shifts, r4.Rules, ((r4.Plan.set a.toNat (e5.set day.toNat e7)).set b.toNat (e13.set day.toNat e15))⟩ : Roster), a) r5)), (4, .b true)] (.cons (s_l14Keeps_c h21) (.cons hb3 .nil)) (by kernel_rfl) ?_
        exact thN (Wk_J hL ⟨[(8, []), (10, []), (79, [])], [(16, 32, []), (32, 96, []), (48, 80, []), (64, 81, [])], [], 96⟩ (by kernel_rfl))
      · have hm := ie hb3 hm
        obtain ⟨r6, h22, hm⟩ := obind hm
        obtain rfl := some_inj hm
        refine X_reg ty_ok Γok hL [(2, .c (s_l14Keeps_r r5) (s_l14Keeps_n r5) (s_l14Keeps_o ((⟨r4.Shifts, r4.Rules, ((r4.Plan.set a.toNat (e5.set day.toNat e7)).set b.toNat (e13.set day.toNat e15))⟩ : Roster), a) r5)), (4, .b false), (7, .c (s_l14Keeps_r r6) (s_l14Keeps_n r6) (s_l14Keeps_o ((⟨r4.Shifts, r4.Rules, ((r4.Plan.set a.toNat (e5.set day.toNat e7)).set b.toNat (e13.set day.toNat e15))⟩ : Roster), b) r6))] (.cons (s_l14Keeps_c h21) (.cons hb3 (.cons (s_l14Keeps_c h22) .nil))) (by kernel_rfl) ?_
        exact thN (Wk_J hL ⟨[(8, []), (10, []), (79, [])], [(16, 32, []), (32, 96, []), (48, 80, []), (64, 81, [])], [], 96⟩ (by kernel_rfl))
    have hm := hk1
    refine X_cond v1 (by kernel_rfl) (fun hc1 => ?_) (fun hc1 => ?_)
    · have hm := it hc1 hm
      refine X_reg_seq ty_ok Γok hL [] .nil (by kernel_rfl) ?_
      obtain rfl := some_inj hm
      refine Ok_ret ?_
      repeat (first | refine thR ?_ | refine ibR ?_)
      exact X_fin [] [[.z 2, .k, .k, .k, .z 1]] (by kernel_rfl) trivial
    · have hm := ie hc1 hm
      refine X_skip ?_
      refine thN ?_
      refine X_reg_seq ty_ok Γok hL [] .nil (by kernel_rfl) ?_
      obtain rfl := some_inj hm
      refine Ok_ret ?_
      repeat (first | refine thR ?_ | refine ibR ?_)
      exact X_fin [] [] (by kernel_rfl) trivial
abbrev v_FnRosters_r (y : Bool) : AV := .dat (Enc.e y)
abbrev v_FnRosters_n (y : Bool) : List Obj' := []
abbrev v_FnRosters_o (x : (List UInt8)) (y : Bool) : List Obj' := []
noncomputable def v_FnRosters_S : FnSpec := modS [.rd] (fun x : (List UInt8) => [Enc.e x]) (fun x : (List UInt8) => []) (fun x : (List UInt8) => v_FnRosters x) v_FnRosters_r v_FnRosters_n v_FnRosters_o
theorem v_FnRosters_c {code : List UInt8} {y : Bool} (h : v_FnRosters code = some y) : CallOK v_FnRosters_S [Enc.e code] [] (v_FnRosters_r y) (v_FnRosters_n y) (v_FnRosters_o code y) :=
  modS_call (by
    rintro a0 b0 h hO
    have q0 : a0 = b0 := Enc.inj _ _ (congrArg (fun l => List.getD l 0 (.sc undef)) h)
    subst q0; rfl) (x := code) h
theorem v_FnRosters_ok : FnOK Try.prog 3 v_FnRosters_S := by
  have Γok : ∀ f S, lookF f [(9, v_rBig_S), (10, s_DrawFillDay_S), (11, i_FillDay_S), (12, s_FillDay_S), (13, v_rInts_S), (14, v_rTable_S), (15, i_MissingShifts_S), (16, i_IsValidRoster_S), (17, s_DrawBusiestWeek_S), (18, i_BusiestWeek_S), (19, s_BusiestWeek_S), (20, i_WorkedMinutes_S), (21, s_DrawSwapDrivers_S), (22, i_SwapDrivers_S), (23, s_SwapDrivers_S)] = some S → FnOK Try.prog f S := lookF_ok (allF_cons v_rBig_ok (allF_cons s_DrawFillDay_ok (allF_cons i_FillDay_ok (allF_cons s_FillDay_ok (allF_cons v_rInts_ok (allF_cons v_rTable_ok (allF_cons i_MissingShifts_ok (allF_cons i_IsValidRoster_ok (allF_cons s_DrawBusiestWeek_ok (allF_cons i_BusiestWeek_ok (allF_cons s_BusiestWeek_ok (allF_cons i_WorkedMinutes_ok (allF_cons s_DrawSwapDrivers_ok (allF_cons i_SwapDrivers_ok (allF_cons s_SwapDrivers_ok allF_nil)))))))))))))))
  have Γlive : Live (fun f => lookF f [(9, v_rBig_S), (10, s_DrawFillDay_S), (11, i_FillDay_S), (12, s_FillDay_S), (13, v_rInts_S), (14, v_rTable_S), (15, i_MissingShifts_S), (16, i_IsValidRoster_S), (17, s_DrawBusiestWeek_S), (18, i_BusiestWeek_S), (19, s_BusiestWeek_S), (20, i_WorkedMinutes_S), (21, s_DrawSwapDrivers_S), (22, i_SwapDrivers_S), (23, s_SwapDrivers_S)]) := lookF_live (allL_cons modS_live (allL_cons modS_live (allL_cons modS_live (allL_cons modS_live (allL_cons modS_live (allL_cons modS_live (allL_cons modS_live (allL_cons modS_live (allL_cons modS_live (allL_cons modS_live (allL_cons modS_live (allL_cons modS_live (allL_cons modS_live (allL_cons modS_live (allL_cons modS_live allL_nil)))))))))))))))
  refine fnOK_mod ty_ok (fun args w => Try.call3 args w) Try.func3 rfl [.tmp 2] (by rw [Try.results3]) 211 Try.ntmps3 16 rfl (fun _ => by first | exact Nat.zero_le _ | (simp)) ?_
  rintro code y cx hm hL
  have hm : v_FnRosters code = some y := hm
  have hL : cx.L = 0 := hL
  unfold v_FnRosters at hm
  refine X_reg_seq ty_ok Γok hL [] .nil (by kernel_rfl) ?_
  refine Ok_seq ?_
  obtain ⟨r, h, hm⟩ := obind hm
  refine X_reg_seq ty_ok Γok hL [(1, .c (v_rBig_r r) (v_rBig_n r) (v_rBig_o code r))] (.cons (v_rBig_c h) .nil) (by kernel_rfl) ?_
  refine X_cond r (by kernel_rfl) (fun hc => ?_) (fun hc => ?_)
  · have hm := it hc hm
    refine X_reg_seq ty_ok Γok hL [] .nil (by kernel_rfl) ?_
    obtain rfl := some_inj hm
    refine Ok_ret ?_
    repeat (first | refine thR ?_ | refine ibR ?_)
    exact X_fin [] [] (by kernel_rfl) trivial
  · have hm := ie hc hm
    refine X_skip ?_
    refine thN ?_
    obtain ⟨r1, h1, hm⟩ := obind hm
    refine X_reg_seq ty_ok Γok hL [(1, .c (s_DrawFillDay_r r1) (s_DrawFillDay_n r1) (s_DrawFillDay_o code r1))] (.cons (s_DrawFillDay_c h1) .nil) (by kernel_rfl) ?_
    obtain ⟨r2, h2, hm⟩ := obind hm
    refine X_reg_seq ty_ok Γok hL [(2, .fz [80, 81] [] []), (2, .c (i_FillDay_r r2) (i_FillDay_n r2) (i_FillDay_o (r1.1, r1.2) r2))] (.cons (i_FillDay_c h2) .nil) (by kernel_rfl) ?_
    obtain ⟨r3, h3, hm⟩ := obind hm
    refine X_reg_seq ty_ok Γok hL [(2, .c (s_FillDay_r r3) (s_FillDay_n r3) (s_FillDay_o (r1.1, r1.2) r3))] (.cons (s_FillDay_c h3) .nil) (by kernel_rfl) ?_
    refine Ok_seq ?_
    obtain ⟨v, hv, hk⟩ := obind hm
    refine X_join (n := 211) (fun (v : Bool) => (⟨[(0, .dat (Enc.e code)), (3, .ref 16 0), (4, .dat (.sc (.int .i64 r1.2))), (5, .ref 32 0), (6, .dat (Enc.e r2.2.1)), (7, .dat (.sc (.bool r2.2.2))), (72, .dat (.sc (.bool v)))], [(16, some (.box [.dat (Enc.e r1.1.Shifts), .dat (.sc (.int .i64 r1.1.Rules.MinRest)), .dat (.sc (.int .i64 r1.1.Rules.MaxRow)), .dat (.sc (.int .i64 r1.1.Rules.MaxWeek)), .dat (Enc.e r1.1.Plan)])), (32, some (.box [.dat (Enc.e r2.1.Shifts), .dat (.sc (.int .i64 r2.1.Rules.MinRest)), .dat (.sc (.int .i64 r2.1.Rules.MaxRow)), .dat (.sc (.int .i64 r2.1.Rules.MaxWeek)), .dat (Enc.e r2.1.Plan)]))], 64⟩ : X)) v ?_ ?_
    · have hm := hv
      rcases btf (!(r2.2.2 == r3.2.2)) with hb | hb
      · have hm := it hb hm
        obtain rfl := some_inj hm
        refine X_reg ty_ok Γok hL [(3, .b true)] (.cons hb .nil) (by kernel_rfl) ?_
        exact thN (Wk_J hL ⟨[(0, []), (3, []), (4, []), (5, []), (6, []), (7, []), (72, [])], [(16, 144, []), (32, 304, [])], [], 64⟩ (by kernel_rfl))
      · have hm := ie hb hm
        obtain ⟨r4, h4, hm⟩ := obind hm
        rcases btf (!r4) with hb1 | hb1
        · have hm := it hb1 hm
          obtain rfl := some_inj hm
          refine X_reg ty_ok Γok hL [(3, .b false), (6, .c (v_rInts_r r4) (v_rInts_n r4) (v_rInts_o (r2.2.1, r3.2.1) r4)), (9, .b true)] (.cons hb (.cons (v_rInts_c h4) (.cons hb1 .nil))) (by kernel_rfl) ?_
          exact thN (Wk_J hL ⟨[(0, []), (3, []), (4, []), (5, []), (6, []), (7, []), (72, [])], [(16, 144, []), (32, 304, [])], [], 64⟩ (by kernel_rfl))
        · have hm := ie hb1 hm
          obtain ⟨r5, h5, hm⟩ := obind hm
          obtain rfl := some_inj hm
          refine X_reg ty_ok Γok hL [(3, .b false), (6, .c (v_rInts_r r4) (v_rInts_n r4) (v_rInts_o (r2.2.1, r3.2.1) r4)), (9, .b false), (14, .c (v_rTable_r r5) (v_rTable_n r5) (v_rTable_o (r2.1.Plan, r3.1.Plan) r5))] (.cons hb (.cons (v_rInts_c h4) (.cons hb1 (.cons (v_rTable_c h5) .nil)))) (by kernel_rfl) ?_
          exact thN (Wk_J hL ⟨[(0, []), (3, []), (4, []), (5, []), (6, []), (7, []), (72, [])], [(16, 144, []), (32, 304, [])], [], 64⟩ (by kernel_rfl))
    have hm := hk
    refine X_cond v (by kernel_rfl) (fun hc1 => ?_) (fun hc1 => ?_)
    · have hm := it hc1 hm
      refine X_reg_seq ty_ok Γok hL [] .nil (by kernel_rfl) ?_
      obtain rfl := some_inj hm
      refine Ok_ret ?_
      repeat (first | refine thR ?_ | refine ibR ?_)
      exact X_fin [] [] (by kernel_rfl) trivial
    · have hm := ie hc1 hm
      refine X_skip ?_
      refine thN ?_
      obtain ⟨v7, hv1, hr, hk1⟩ := flb_t hm
      refine X_joinF (n := 211) (fun (_ : Unit) => (⟨[(0, .dat (Enc.e code))], [], 32⟩ : X)) v7 ?_ ?_
      · have hm := hv1
        refine X_reg_seq ty_ok Γok hL [] .nil (by kernel_rfl) ?_
        refine X_cond r2.2.2 (by kernel_rfl) (fun hc2 => ?_) (fun hc2 => ?_)
        · have hm := it hc2 hm
          obtain ⟨r6, h6, hm⟩ := obind hm
          refine X_reg_seq ty_ok Γok hL [(2, .c (i_MissingShifts_r r6) (i_MissingShifts_n r6) (i_MissingShifts_o (r1.1, r1.2) r6))] (.cons (i_MissingShifts_c h6) .nil) (by kernel_rfl) ?_
          obtain ⟨r7, h7, hm⟩ := obind hm
          refine X_reg_seq ty_ok Γok hL [(2, .c (i_MissingShifts_r r7) (i_MissingShifts_n r7) (i_MissingShifts_o (r2.1, r1.2) r7))] (.cons (i_MissingShifts_c h7) .nil) (by kernel_rfl) ?_
          obtain ⟨v1, hv2, hk2⟩ := obind hm
          refine X_join (n := 211) (fun (v1 : Bool) => (⟨[(0, .dat (Enc.e code)), (109, .dat (.sc (.bool v1)))], [], 32⟩ : X)) v1 ?_ ?_
          · have hm := hv2
            rcases btf (!r6.2) with hb2 | hb2
            · have hm := it hb2 hm
              obtain rfl := some_inj hm
              refine X_reg ty_ok Γok hL [(2, .b true)] (.cons hb2 .nil) (by kernel_rfl) ?_
              exact thN (Wk_J hL ⟨[(0, []), (109, [])], [], [], 32⟩ (by kernel_rfl))
            · have hm := ie hb2 hm
              rcases btf (!r7.2) with hb3 | hb3
              · have hm := it hb3 hm
                obtain rfl := some_inj hm
                refine X_reg ty_ok Γok hL [(2, .b false), (6, .b true)] (.cons hb2 (.cons hb3 .nil)) (by kernel_rfl) ?_
                exact thN (Wk_J hL ⟨[(0, []), (109, [])], [], [], 32⟩ (by kernel_rfl))
              · have hm := ie hb3 hm
                obtain ⟨r8, h8, hm⟩ := obind hm
                rcases btf (!r8) with hb4 | hb4
                · have hm := it hb4 hm
                  obtain rfl := some_inj hm
                  refine X_reg ty_ok Γok hL [(2, .b false), (6, .b false), (9, .c (v_rInts_r r8) (v_rInts_n r8) (v_rInts_o (r7.1, r2.2.1) r8)), (12, .b true)] (.cons hb2 (.cons hb3 (.cons (v_rInts_c h8) (.cons hb4 .nil)))) (by kernel_rfl) ?_
                  exact thN (Wk_J hL ⟨[(0, []), (109, [])], [], [], 32⟩ (by kernel_rfl))
                · have hm := ie hb4 hm
                  rcases btf (decide ((r6.1.length : Int) < (r7.1.length : Int))) with hb5 | hb5
                  · have hm := it hb5 hm
                    obtain rfl := some_inj hm
                    refine X_reg ty_ok Γok hL [(2, .b false), (6, .b false), (9, .c (v_rInts_r r8) (v_rInts_n r8) (v_rInts_o (r7.1, r2.2.1) r8)), (12, .b false), (14, .n (r7.1.length : Int)), (16, .n (r6.1.length : Int)), (19, .b true)] (.cons hb2 (.cons hb3 (.cons (v_rInts_c h8) (.cons hb4 (.cons (len_m Enc.e r7.1) (.cons (len_m Enc.e r6.1) (.cons hb5 .nil))))))) (by kernel_rfl) ?_
                    exact thN (Wk_J hL ⟨[(0, []), (109, [])], [], [], 32⟩ (by kernel_rfl))
                  · have hm := ie hb5 hm
                    obtain ⟨r9, h9, hm⟩ := obind hm
                    obtain rfl := some_inj hm
                    refine X_reg ty_ok Γok hL [(2, .b false), (6, .b false), (9, .c (v_rInts_r r8) (v_rInts_n r8) (v_rInts_o (r7.1, r2.2.1) r8)), (12, .b false), (14, .n (r7.1.length : Int)), (16, .n (r6.1.length : Int)), (19, .b false), (21, .c (i_IsValidRoster_r r9) (i_IsValidRoster_n r9) (i_IsValidRoster_o r2.1 r9))] (.cons hb2 (.cons hb3 (.cons (v_rInts_c h8) (.cons hb4 (.cons (len_m Enc.e r7.1) (.cons (len_m Enc.e r6.1) (.cons hb5 (.cons (i_IsValidRoster_c h9) .nil)))))))) (by kernel_rfl) ?_
                    exact thN (Wk_J hL ⟨[(0, []), (109, [])], [], [], 32⟩ (by kernel_rfl))
          have hm := hk2
          refine X_cond v1 (by kernel_rfl) (fun hc3 => ?_) (fun hc3 => ?_)
          · have hm := it hc3 hm
            refine X_reg_seq ty_ok Γok hL [] .nil (by kernel_rfl) ?_
            obtain rfl := some_inj hm
            have hm := congrArg some (hr _ rfl)
            obtain rfl := some_inj hm
            refine Ok_ret ?_
            repeat (first | refine thR ?_ | refine ibR ?_)
            exact X_fin [] [] (by kernel_rfl) trivial
          · have hm := ie hc3 hm
            refine X_skip ?_
            obtain rfl := some_inj hm
            exact thN ⟨_, rfl, Wk_J hL ⟨[(0, [])], [], [], 32⟩ (by kernel_rfl)⟩
        · have hm := ie hc2 hm
          refine X_skip ?_
          obtain rfl := some_inj hm
          exact thN ⟨_, rfl, Wk_J hL ⟨[(0, [])], [], [], 32⟩ (by kernel_rfl)⟩
      rintro ⟨⟩ hu1
      have hm := hk1 _ hu1
      obtain ⟨r11, h10, hm⟩ := obind hm
      refine X_reg_seq ty_ok Γok hL [(1, .c (s_DrawBusiestWeek_r r11) (s_DrawBusiestWeek_n r11) (s_DrawBusiestWeek_o code r11))] (.cons (s_DrawBusiestWeek_c h10) .nil) (by kernel_rfl) ?_
      obtain ⟨r12, h11, hm⟩ := obind hm
      refine X_reg_seq ty_ok Γok hL [(2, .c (i_BusiestWeek_r r12) (i_BusiestWeek_n r12) (i_BusiestWeek_o ((⟨r11.1.Shifts, r11.1.Rules, r11.1.Plan⟩ : Roster), r11.2) r12))] (.cons (i_BusiestWeek_c h11) .nil) (by kernel_rfl) ?_
      obtain ⟨r13, h12, hm⟩ := obind hm
      refine X_reg_seq ty_ok Γok hL [(2, .c (s_BusiestWeek_r r13) (s_BusiestWeek_n r13) (s_BusiestWeek_o ((⟨r11.1.Shifts, r11.1.Rules, r11.1.Plan⟩ : Roster), r11.2) r13))] (.cons (s_BusiestWeek_c h12) .nil) (by kernel_rfl) ?_
      refine Ok_seq ?_
      obtain ⟨v2, hv3, hk3⟩ := obind hm
      refine X_join (n := 211) (fun (v2 : Bool) => (⟨[(0, .dat (Enc.e code)), (15, .ref 16 0), (16, .dat (.sc (.int .i64 r11.2))), (18, .dat (.sc (.int .i64 r12.2.1))), (19, .dat (.sc (.bool r12.2.2))), (141, .dat (.sc (.bool v2)))], [(16, some (.box [.own 32, .dat (.sc (.int .i64 r11.1.Rules.MinRest)), .dat (.sc (.int .i64 r11.1.Rules.MaxRow)), .dat (.sc (.int .i64 r11.1.Rules.MaxWeek)), .own 48])), (32, some (.arr 49 2 (List.map Enc.e r11.1.Shifts))), (48, some (.tab 32 1 [some 3] (List.map Enc.e r11.1.Plan) 48 none))], 80⟩ : X)) v2 ?_ ?_
      · have hm := hv3
        rcases btf (r12.1 != r13.1) with hb6 | hb6
        · have hm := it hb6 hm
          obtain rfl := some_inj hm
          refine X_reg ty_ok Γok hL [(3, .b true)] (.cons hb6 .nil) (by kernel_rfl) ?_
          exact thN (Wk_J hL ⟨[(0, []), (15, []), (16, []), (18, []), (19, []), (141, [])], [(16, 112, []), (32, 48, []), (48, 49, [])], [], 80⟩ (by kernel_rfl))
        · have hm := ie hb6 hm
          rcases btf (r12.2.1 != r13.2.1) with hb7 | hb7
          · have hm := it hb7 hm
            obtain rfl := some_inj hm
            refine X_reg ty_ok Γok hL [(3, .b false), (8, .b true)] (.cons hb6 (.cons hb7 .nil)) (by kernel_rfl) ?_
            exact thN (Wk_J hL ⟨[(0, []), (15, []), (16, []), (18, []), (19, []), (141, [])], [(16, 112, []), (32, 48, []), (48, 49, [])], [], 80⟩ (by kernel_rfl))
          · have hm := ie hb7 hm
            obtain rfl := some_inj hm
            refine X_reg ty_ok Γok hL [(3, .b false), (8, .b false)] (.cons hb6 (.cons hb7 .nil)) (by kernel_rfl) ?_
            exact thN (Wk_J hL ⟨[(0, []), (15, []), (16, []), (18, []), (19, []), (141, [])], [(16, 112, []), (32, 48, []), (48, 49, [])], [], 80⟩ (by kernel_rfl))
      have hm := hk3
      refine X_cond v2 (by kernel_rfl) (fun hc4 => ?_) (fun hc4 => ?_)
      · have hm := it hc4 hm
        refine X_reg_seq ty_ok Γok hL [] .nil (by kernel_rfl) ?_
        obtain rfl := some_inj hm
        refine Ok_ret ?_
        repeat (first | refine thR ?_ | refine ibR ?_)
        exact X_fin [] [] (by kernel_rfl) trivial
      · have hm := ie hc4 hm
        refine X_skip ?_
        refine thN ?_
        obtain ⟨r14, h13, hm⟩ := obind hm
        refine X_reg_seq ty_ok Γok hL [(2, .c (i_WorkedMinutes_r r14) (i_WorkedMinutes_n r14) (i_WorkedMinutes_o ((⟨r11.1.Shifts, r11.1.Rules, r11.1.Plan⟩ : Roster), r11.2) r14))] (.cons (i_WorkedMinutes_c h13) .nil) (by kernel_rfl) ?_
        refine Ok_seq ?_
        obtain ⟨v3, hv4, hk4⟩ := obind hm
        refine X_join (n := 211) (fun (v3 : Bool) => (⟨[(0, .dat (Enc.e code)), (158, .dat (.sc (.bool v3)))], [], 32⟩ : X)) v3 ?_ ?_
        · have hm := hv4
          rcases btf (!(r14.2 == r12.2.2)) with hb8 | hb8
          · have hm := it hb8 hm
            obtain rfl := some_inj hm
            refine X_reg ty_ok Γok hL [(3, .b true)] (.cons hb8 .nil) (by kernel_rfl) ?_
            exact thN (Wk_J hL ⟨[(0, []), (158, [])], [], [], 32⟩ (by kernel_rfl))
          · have hm := ie hb8 hm
            rcases btf r12.2.2 with hb9 | hb9
            · have hm := it hb9 hm
              obtain rfl := some_inj hm
              refine X_reg ty_ok Γok hL [(3, .b false), (5, .b true)] (.cons hb8 (.cons hb9 .nil)) (by kernel_rfl) ?_
              exact thN (Wk_J hL ⟨[(0, []), (158, [])], [], [], 32⟩ (by kernel_rfl))
            · have hm := ie hb9 hm
              obtain rfl := some_inj hm
              refine X_reg ty_ok Γok hL [(3, .b false), (5, .b false)] (.cons hb8 (.cons hb9 .nil)) (by kernel_rfl) ?_
              exact thN (Wk_J hL ⟨[(0, []), (158, [])], [], [], 32⟩ (by kernel_rfl))
        have hm := hk4
        refine X_cond v3 (by kernel_rfl) (fun hc5 => ?_) (fun hc5 => ?_)
        · have hm := it hc5 hm
          refine X_reg_seq ty_ok Γok hL [] .nil (by kernel_rfl) ?_
          obtain rfl := some_inj hm
          refine Ok_ret ?_
          repeat (first | refine thR ?_ | refine ibR ?_)
          exact X_fin [] [] (by kernel_rfl) trivial
        · have hm := ie hc5 hm
          refine X_skip ?_
          refine thN ?_
          obtain ⟨r15, h14, hm⟩ := obind hm
          refine X_reg_seq ty_ok Γok hL [(1, .c (s_DrawSwapDrivers_r r15) (s_DrawSwapDrivers_n r15) (s_DrawSwapDrivers_o code r15))] (.cons (s_DrawSwapDrivers_c h14) .nil) (by kernel_rfl) ?_
          obtain ⟨r16, h15, hm⟩ := obind hm
          refine X_reg_seq ty_ok Γok hL [(4, .fz [48, 49] [] []), (4, .c (i_SwapDrivers_r r16) (i_SwapDrivers_n r16) (i_SwapDrivers_o (r15.1, r15.2.1, r15.2.2.1, r15.2.2.2) r16))] (.cons (i_SwapDrivers_c h15) .nil) (by kernel_rfl) ?_
          refine Ok_seq ?_
          obtain ⟨r17, h16, hm⟩ := obind hm
          refine X_reg_seq ty_ok Γok hL [(4, .c (s_SwapDrivers_r r17) (s_SwapDrivers_n r17) (s_SwapDrivers_o (r15.1, r15.2.1, r15.2.2.1, r15.2.2.2) r17))] (.cons (s_SwapDrivers_c h16) .nil) (by kernel_rfl) ?_
          obtain ⟨v4, hv5, hk5⟩ := obind hm
          refine X_join (n := 211) (fun (v4 : Bool) => (⟨[(25, .ref 16 0), (26, .dat (.sc (.int .i64 r15.2.1))), (27, .dat (.sc (.int .i64 r15.2.2.1))), (28, .dat (.sc (.int .i64 r15.2.2.2))), (29, .ref 32 0), (30, .dat (.sc (.bool r16.2))), (192, .dat (.sc (.bool v4)))], [(16, some (.box [.dat (Enc.e r15.1.Shifts), .dat (.sc (.int .i64 r15.1.Rules.MinRest)), .dat (.sc (.int .i64 r15.1.Rules.MaxRow)), .dat (.sc (.int .i64 r15.1.Rules.MaxWeek)), .dat (Enc.e r15.1.Plan)])), (32, some (.box [.dat (Enc.e r16.1.Shifts), .dat (.sc (.int .i64 r16.1.Rules.MinRest)), .dat (.sc (.int .i64 r16.1.Rules.MaxRow)), .dat (.sc (.int .i64 r16.1.Rules.MaxWeek)), .dat (Enc.e r16.1.Plan)]))], 64⟩ : X)) v4 ?_ ?_
          · have hm := hv5
            rcases btf (!(r16.2 == r17.2)) with hb10 | hb10
            · have hm := it hb10 hm
              obtain rfl := some_inj hm
              refine X_reg ty_ok Γok hL [(3, .b true)] (.cons hb10 .nil) (by kernel_rfl) ?_
              exact thN (Wk_J hL ⟨[(25, []), (26, []), (27, []), (28, []), (29, []), (30, []), (192, [])], [(16, 144, []), (32, 352, [])], [], 64⟩ (by kernel_rfl))
            · have hm := ie hb10 hm
              obtain ⟨r18, h17, hm⟩ := obind hm
              obtain rfl := some_inj hm
              refine X_reg ty_ok Γok hL [(3, .b false), (8, .c (v_rTable_r r18) (v_rTable_n r18) (v_rTable_o (r16.1.Plan, r17.1.Plan) r18))] (.cons hb10 (.cons (v_rTable_c h17) .nil)) (by kernel_rfl) ?_
              exact thN (Wk_J hL ⟨[(25, []), (26, []), (27, []), (28, []), (29, []), (30, []), (192, [])], [(16, 144, []), (32, 352, [])], [], 64⟩ (by kernel_rfl))
          have hm := hk5
          refine X_cond v4 (by kernel_rfl) (fun hc6 => ?_) (fun hc6 => ?_)
          · have hm := it hc6 hm
            refine X_reg_seq ty_ok Γok hL [] .nil (by kernel_rfl) ?_
            obtain rfl := some_inj hm
            refine Ok_ret ?_
            repeat (first | refine thR ?_ | refine ibR ?_)
            exact X_fin [] [] (by kernel_rfl) trivial
          · have hm := ie hc6 hm
            refine X_skip ?_
            refine thN ?_
            obtain ⟨v6, hv6, hr1, hk6⟩ := flb_t hm
            refine X_joinF (n := 211) (fun (_ : Unit) => (⟨[], [], 32⟩ : X)) v6 ?_ ?_
            · have hm := hv6
              refine X_reg_seq ty_ok Γok hL [] .nil (by kernel_rfl) ?_
              refine X_cond r16.2 (by kernel_rfl) (fun hc7 => ?_) (fun hc7 => ?_)
              · have hm := it hc7 hm
                obtain ⟨r19, h18, hm⟩ := obind hm
                refine X_reg_seq ty_ok Γok hL [(4, .c (i_SwapDrivers_r r19) (i_SwapDrivers_n r19) (i_SwapDrivers_o (r16.1, r15.2.1, r15.2.2.1, r15.2.2.2) r19))] (.cons (i_SwapDrivers_c h18) .nil) (by kernel_rfl) ?_
                obtain ⟨v5, hv7, hk7⟩ := obind hm
                refine X_join (n := 211) (fun (v5 : Bool) => (⟨[(210, .dat (.sc (.bool v5)))], [], 32⟩ : X)) v5 ?_ ?_
                · have hm := hv7
                  rcases btf r19.2 with hb11 | hb11
                  · have hm := it hb11 hm
                    obtain ⟨r20, h19, hm⟩ := obind hm
                    obtain rfl := some_inj hm
                    refine X_reg ty_ok Γok hL [(1, .b true), (6, .c (v_rTable_r r20) (v_rTable_n r20) (v_rTable_o (r19.1.Plan, r15.1.Plan) r20))] (.cons hb11 (.cons (v_rTable_c h19) .nil)) (by kernel_rfl) ?_
                    exact thN (Wk_J hL ⟨[(210, [])], [], [], 32⟩ (by kernel_rfl))
                  · have hm := ie hb11 hm
                    obtain rfl := some_inj hm
                    refine X_reg ty_ok Γok hL [(1, .b false)] (.cons hb11 .nil) (by kernel_rfl) ?_
                    exact thN (Wk_J hL ⟨[(210, [])], [], [], 32⟩ (by kernel_rfl))
                have hm := hk7
                refine X_cond v5 (by kernel_rfl) (fun hc8 => ?_) (fun hc8 => ?_)
                · have hm := it hc8 hm
                  refine X_reg_seq ty_ok Γok hL [] .nil (by kernel_rfl) ?_
                  obtain rfl := some_inj hm
                  have hm := congrArg some (hr1 _ rfl)
                  obtain rfl := some_inj hm
                  refine Ok_ret ?_
                  repeat (first | refine thR ?_ | refine ibR ?_)
                  exact X_fin [] [] (by kernel_rfl) trivial
                · have hm := ie hc8 hm
                  refine X_skip ?_
                  obtain rfl := some_inj hm
                  exact thN ⟨_, rfl, Wk_J hL ⟨[], [], [], 32⟩ (by kernel_rfl)⟩
              · have hm := ie hc7 hm
                refine X_skip ?_
                obtain rfl := some_inj hm
                exact thN ⟨_, rfl, Wk_J hL ⟨[], [], [], 32⟩ (by kernel_rfl)⟩
            rintro ⟨⟩ hu
            have hm := hk6 _ hu
            refine X_reg_seq ty_ok Γok hL [] .nil (by kernel_rfl) ?_
            obtain rfl := some_inj hm
            refine Ok_ret ?_
            repeat (first | refine thR ?_ | refine ibR ?_)
            exact X_fin [] [] (by kernel_rfl) trivial
end Go.Proofs.Ytepdapiceklppaa
