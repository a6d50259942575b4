/- Each function computes what its model says. Made by program (dec.py). -/
import Derived.Test.YtepdapiceklppaaShW2
namespace Go.Proofs.Ytepdapiceklppaa
open Go Go.Ab
set_option maxRecDepth 100000
set_option maxHeartbeats 4000000
set_option linter.unusedVariables false
set_option linter.unusedSimpArgs false
abbrev s_ShortenRun_r (y : (List Run) × Bool) : AV := .tup [.own 0, .dat (Enc.e y.2)]
abbrev s_ShortenRun_n (y : (List Run) × Bool) : List Obj' := [.arr 190 4 (List.map Enc.e y.1)]
abbrev s_ShortenRun_o (x : Timetable × (List Run) × Int × Int) (y : (List Run) × Bool) : List Obj' := []
noncomputable def s_ShortenRun_S : FnSpec := modS [.rd, .rd, .rd, .rd] (fun x : Timetable × (List Run) × Int × Int => [Enc.e x.1, Enc.e x.2.1, Enc.e x.2.2.1, Enc.e x.2.2.2]) (fun x : Timetable × (List Run) × Int × Int => []) (fun x : Timetable × (List Run) × Int × Int => s_ShortenRun x.1 x.2.1 x.2.2.1 x.2.2.2) s_ShortenRun_r s_ShortenRun_n s_ShortenRun_o
theorem s_ShortenRun_c {t : Timetable} {list : List Run} {id : Int} {stop : Int} {y : (List Run) × Bool} (h : s_ShortenRun t list id stop = some y) : CallOK s_ShortenRun_S [Enc.e t, Enc.e list, Enc.e id, Enc.e stop] [] (s_ShortenRun_r y) (s_ShortenRun_n y) (s_ShortenRun_o (t, list, id, stop) y) :=
  modS_call (by
    rintro ⟨a0, a1, a2, a3⟩ ⟨b0, b1, b2, b3⟩ h hO
    have q0 : a0 = b0 := Enc.inj _ _ (congrArg (fun l => List.getD l 0 (.sc undef)) h)
    have q1 : a1 = b1 := Enc.inj _ _ (congrArg (fun l => List.getD l 1 (.sc undef)) h)
    have q2 : a2 = b2 := Enc.inj _ _ (congrArg (fun l => List.getD l 2 (.sc undef)) h)
    have q3 : a3 = b3 := Enc.inj _ _ (congrArg (fun l => List.getD l 3 (.sc undef)) h)
    subst q0; subst q1; subst q2; subst q3; rfl) (x := (t, list, id, stop)) h
theorem s_ShortenRun_ok : FnOK Try.prog 62 s_ShortenRun_S := by
  have Γok : ∀ f S, lookF f [(159, s_l18Find_S), (160, s_l18Asked_S), (161, s_l18Inner_S), (162, s_l18With_S)] = some S → FnOK Try.prog f S := lookF_ok (allF_cons s_l18Find_ok (allF_cons s_l18Asked_ok (allF_cons s_l18Inner_ok (allF_cons s_l18With_ok allF_nil))))
  have Γlive : Live (fun f => lookF f [(159, s_l18Find_S), (160, s_l18Asked_S), (161, s_l18Inner_S), (162, s_l18With_S)]) := lookF_live (allL_cons modS_live (allL_cons modS_live (allL_cons modS_live (allL_cons modS_live allL_nil))))
  refine fnOK_mod ty_ok (fun args w => Try.call62 args w) Try.func62 rfl [.tmp 8, .tmp 9] (by rw [Try.results62]) 50 Try.ntmps62 16 rfl (fun _ => by first | exact Nat.zero_le _ | (simp)) ?_
  rintro ⟨t, list, id, stop⟩ y cx hm hL
  have hm : s_ShortenRun t list id stop = some y := hm
  have hL : cx.L = 0 := hL
  unfold s_ShortenRun at hm
  refine X_reg_seq ty_ok Γok hL [] .nil (by kernel_rfl) ?_
  obtain ⟨r, h, hm⟩ := obind hm
  refine X_reg_seq ty_ok Γok hL [(2, .c (s_l18Find_r r) (s_l18Find_n r) (s_l18Find_o (list, id) r))] (.cons (s_l18Find_c h) .nil) (by kernel_rfl) ?_
  refine Ok_seq ?_
  obtain ⟨r3, h4, hm⟩ := obind hm
  obtain ⟨v, hv, hk⟩ := obind hm
  refine X_join (n := 50) (fun (v : Bool) => (⟨[(1, .dat (Enc.e list)), (3, .dat (.sc (.int .i64 stop))), (4, .ref 16 0), (10, .dat (.sc (.int .i64 r))), (32, .dat (.sc (.bool v)))], [(16, some (.box [.dat (Enc.e t.Network.Stops), .dat (Enc.e t.Network.Lines), .dat (Enc.e t.Trips)]))], 48⟩ : X)) v ?_ ?_
  · have hm := hv
    rcases btf (!r3) with hb | hb
    · have hm := it hb hm
      obtain rfl := some_inj hm
      refine X_draw mixed ty_ok Γok Γlive [] (by kernel_rfl) [(2, .c (s_l18Asked_r r3) (s_l18Asked_n r3) (s_l18Asked_o (t, list) r3)), (4, .b true)] (.cons (s_l18Asked_c h4) (.cons hb .nil)) (by kernel_rfl) ?_
      exact thN (Wk_J hL ⟨[(1, []), (3, []), (4, []), (10, []), (32, [])], [(16, 16, [])], [], 48⟩ (by kernel_rfl))
    · have hm := ie hb hm
      rcases btf (decide (r < 0)) with hb1 | hb1
      · have hm := it hb1 hm
        obtain rfl := some_inj hm
        refine X_draw mixed ty_ok Γok Γlive [] (by kernel_rfl) [(2, .c (s_l18Asked_r r3) (s_l18Asked_n r3) (s_l18Asked_o (t, list) r3)), (4, .b false), (8, .b true)] (.cons (s_l18Asked_c h4) (.cons hb (.cons hb1 .nil))) (by kernel_rfl) ?_
        exact thN (Wk_J hL ⟨[(1, []), (3, []), (4, []), (10, []), (32, [])], [(16, 16, [])], [], 48⟩ (by kernel_rfl))
      · have hm := ie hb1 hm
        obtain ⟨e1, h5, hm⟩ := obind hm
        obtain ⟨r4, h6, hm⟩ := obind hm
        obtain rfl := some_inj hm
        refine X_draw mixed ty_ok Γok Γlive [] (by kernel_rfl) [(2, .c (s_l18Asked_r r3) (s_l18Asked_n r3) (s_l18Asked_o (t, list) r3)), (4, .b false), (8, .b false), (12, .d (Enc.e e1)), (15, .c (s_l18Inner_r r4) (s_l18Inner_n r4) (s_l18Inner_o (t, e1, stop) r4))] (.cons (s_l18Asked_c h4) (.cons hb (.cons hb1 (.cons (idx_m (f := Enc.e) h5) (.cons (s_l18Inner_c h6) .nil))))) (by kernel_rfl) ?_
        exact thN (Wk_J hL ⟨[(1, []), (3, []), (4, []), (10, []), (32, [])], [(16, 16, [])], [], 48⟩ (by kernel_rfl))
  have hm := hk
  refine X_cond v (by kernel_rfl) (fun hc => ?_) (fun hc => ?_)
  · have hm := it hc hm
    refine X_reg_seq ty_ok Γok hL [] .nil (by kernel_rfl) ?_
    obtain rfl := some_inj hm
    refine Ok_ret ?_
    repeat (first | refine thR ?_ | refine ibR ?_)
    exact X_fin [48] [] (by kernel_rfl) trivial
  · have hm := ie hc hm
    refine X_skip ?_
    refine thN ?_
    obtain ⟨e2, h7, hm⟩ := obind hm
    refine X_reg_seq ty_ok Γok hL [(2, .d (Enc.e e2))] (.cons (idx_m (f := Enc.e) h7) .nil) (by kernel_rfl) ?_
    obtain ⟨e4, h10, hm⟩ := obind hm
    obtain ⟨r6, h11, hm⟩ := obind hm
    refine X_draw_seq mixed ty_ok Γok Γlive [(8, [112])] (by kernel_rfl) [(3, .d (Enc.e e4)), (6, .c (s_l18Inner_r r6) (s_l18Inner_n r6) (s_l18Inner_o (t, e4, stop) r6))] (.cons (idx_m (f := Enc.e) h10) (.cons (s_l18Inner_c h11) .nil)) (by kernel_rfl) ?_
    obtain ⟨r7, h12, hm⟩ := obind hm
    refine X_reg_seq ty_ok Γok hL [(3, .c (s_l18With_r r7) (s_l18With_n r7) (s_l18With_o (list, r, (⟨e2.Trip, e2.From, r6, e2.Hold⟩ : Run)) r7))] (.cons (s_l18With_c h12) .nil) (by kernel_rfl) ?_
    obtain rfl := some_inj hm
    refine Ok_ret ?_
    repeat (first | refine thR ?_ | refine ibR ?_)
    exact X_fin [336] [] (by kernel_rfl) trivial
abbrev v_vRuns_r (y : Bool) : AV := .dat (Enc.e y)
abbrev v_vRuns_n (y : Bool) : List Obj' := []
abbrev v_vRuns_o (x : (List Run) × (List Run)) (y : Bool) : List Obj' := []
noncomputable def v_vRuns_S : FnSpec := modS [.rd, .rd] (fun x : (List Run) × (List Run) => [Enc.e x.1, Enc.e x.2]) (fun x : (List Run) × (List Run) => []) (fun x : (List Run) × (List Run) => v_vRuns x.1 x.2) v_vRuns_r v_vRuns_n v_vRuns_o
theorem v_vRuns_c {a : List Run} {b : List Run} {y : Bool} (h : v_vRuns a b = some y) : CallOK v_vRuns_S [Enc.e a, Enc.e b] [] (v_vRuns_r y) (v_vRuns_n y) (v_vRuns_o (a, b) y) :=
  modS_call (by
    rintro ⟨a0, a1⟩ ⟨b0, b1⟩ h hO
    have q0 : a0 = b0 := Enc.inj _ _ (congrArg (fun l => List.getD l 0 (.sc undef)) h)
    have q1 : a1 = b1 := Enc.inj _ _ (congrArg (fun l => List.getD l 1 (.sc undef)) h)
    subst q0; subst q1; rfl) (x := (a, b)) h
theorem v_vRuns_ok : FnOK Try.prog 63 v_vRuns_S := by
  have Γok : ∀ f S, lookF f [] = some S → FnOK Try.prog f S := lookF_ok allF_nil
  have Γlive : Live (fun f => lookF f []) := lookF_live allL_nil
  refine fnOK_mod ty_ok (fun args w => Try.call63 args w) Try.func63 rfl [.tmp 4] (by rw [Try.results63]) 26 Try.ntmps63 16 rfl (fun _ => by first | exact Nat.zero_le _ | (simp)) ?_
  rintro ⟨a, b⟩ y cx hm hL
  have hm : v_vRuns a b = some y := hm
  have hL : cx.L = 0 := hL
  unfold v_vRuns at hm
  refine X_reg_seq ty_ok Γok hL [] .nil (by kernel_rfl) ?_
  refine Ok_seq ?_
  refine X_reg_seq ty_ok Γok hL [(1, .n (a.length : Int)), (3, .n (b.length : Int))] (.cons (len_m Enc.e a) (.cons (len_m Enc.e b) .nil)) (by kernel_rfl) ?_
  refine X_cond ((a.length : Int) != (b.length : Int)) (by kernel_rfl) (fun hc => ?_) (fun hc => ?_)
  · have hm := it hc hm
    refine X_reg_seq ty_ok Γok hL [] .nil (by kernel_rfl) ?_
    obtain rfl := some_inj hm
    refine Ok_ret ?_
    repeat (first | refine thR ?_ | refine ibR ?_)
    exact X_fin [] [] (by kernel_rfl) trivial
  · have hm := ie hc hm
    refine X_skip ?_
    refine thN ?_
    refine Ok_seq ?_
    refine X_reg_seq ty_ok Γok hL [] .nil (by kernel_rfl) ?_
    obtain ⟨v1, hv, hr, hk⟩ := flb_t hm
    refine X_tailF (n := 26) (fun (_ : Unit) => (⟨[], [], 32⟩ : X)) v1 ?_ ?_
    · have hm := hv
      refine Ok_block ?_
      refine X_loop (n := 26) (step := v_vRuns_L1 a b) (fun (v : Int) => (⟨[(0, .dat (Enc.e a)), (1, .dat (Enc.e b)), (5, .dat (.sc (.int .i64 v)))], [], 32⟩ : X)) hm (Wk_J hL ⟨[(0, []), (1, []), (5, [])], [], [], 32⟩ (by kernel_rfl)) ?_
      rintro v r0 hm hb
      rw [v_vRuns_L1] at hm
      refine Ok_seq ?_
      refine X_reg_seq ty_ok Γok hL [(2, .n (a.length : Int))] (.cons (len_m Enc.e a) .nil) (by kernel_rfl) ?_
      refine X_cond (decide (v < (a.length : Int))) (by kernel_rfl) (fun hc1 => ?_) (fun hc1 => ?_)
      · have hm := it hc1 hm
        refine X_skip ?_
        refine thN ?_
        refine Ok_seq ?_
        refine Ok_block ?_
        obtain ⟨e2, h2, hm⟩ := obind hm
        obtain ⟨e3, h3, hm⟩ := obind hm
        refine X_draw_seq mixed ty_ok Γok Γlive [] (by kernel_rfl) [(2, .d (Enc.e e2)), (6, .d (Enc.e e3))] (.cons (idx_m (f := Enc.e) h2) (.cons (idx_m (f := Enc.e) h3) .nil)) (by kernel_rfl) ?_
        refine X_cond (!((e2.Trip == e3.Trip) && ((e2.From == e3.From) && ((e2.To == e3.To) && ((e2.Hold == e3.Hold) && true))))) (by kernel_rfl) (fun hc2 => ?_) (fun hc2 => ?_)
        · have hm := it hc2 hm
          refine X_reg_seq ty_ok Γok hL [] .nil (by kernel_rfl) ?_
          obtain rfl := some_inj hm
          obtain rfl := hb _ rfl
          have hm := congrArg some (hr _ rfl)
          obtain rfl := some_inj hm
          refine Ok_ret ?_
          repeat (first | refine thR ?_ | refine ibR ?_)
          exact X_fin [] [] (by kernel_rfl) trivial
        · have hm := ie hc2 hm
          refine X_skip ?_
          refine ibN ?_
          refine thN ?_
          refine X_reg ty_ok Γok hL [] .nil (by kernel_rfl) ?_
          obtain rfl := some_inj hm
          exact thN ⟨_, rfl, Wk_J hL ⟨[(0, []), (1, []), (5, [])], [], [], 32⟩ (by kernel_rfl)⟩
      · have hm := ie hc1 hm
        obtain rfl := some_inj hm
        obtain rfl := hb _ rfl
        refine Ok_exit ?_
        refine thE ?_
        refine thE ?_
        refine ibE ?_
        exact thN ⟨_, rfl, Wk_J hL ⟨[], [], [], 32⟩ (by kernel_rfl)⟩
    rintro ⟨⟩ hu s hw
    have hm := hk _ hu
    refine thN ?_
    refine Ok_weak hw ?_
    refine X_reg_seq ty_ok Γok hL [] .nil (by kernel_rfl) ?_
    obtain rfl := some_inj hm
    refine Ok_ret ?_
    repeat (first | refine thR ?_ | refine ibR ?_)
    exact X_fin [] [] (by kernel_rfl) trivial
abbrev i_JoinLater_r (y : (List Run) × Bool) : AV := .tup [.dat (Enc.e y.1), .dat (Enc.e y.2)]
abbrev i_JoinLater_n (y : (List Run) × Bool) : List Obj' := []
abbrev i_JoinLater_o (x : Timetable × (List Run) × Int × Int) (y : (List Run) × Bool) : List Obj' := []
noncomputable def i_JoinLater_S : FnSpec := modS [.rd, .rd, .rd, .rd] (fun x : Timetable × (List Run) × Int × Int => [Enc.e x.1, Enc.e x.2.1, Enc.e x.2.2.1, Enc.e x.2.2.2]) (fun x : Timetable × (List Run) × Int × Int => []) (fun x : Timetable × (List Run) × Int × Int => i_JoinLater x.1 x.2.1 x.2.2.1 x.2.2.2) i_JoinLater_r i_JoinLater_n i_JoinLater_o
theorem i_JoinLater_c {t : Timetable} {list : List Run} {id : Int} {stop : Int} {y : (List Run) × Bool} (h : i_JoinLater t list id stop = some y) : CallOK i_JoinLater_S [Enc.e t, Enc.e list, Enc.e id, Enc.e stop] [] (i_JoinLater_r y) (i_JoinLater_n y) (i_JoinLater_o (t, list, id, stop) y) :=
  modS_call (by
    rintro ⟨a0, a1, a2, a3⟩ ⟨b0, b1, b2, b3⟩ h hO
    have q0 : a0 = b0 := Enc.inj _ _ (congrArg (fun l => List.getD l 0 (.sc undef)) h)
    have q1 : a1 = b1 := Enc.inj _ _ (congrArg (fun l => List.getD l 1 (.sc undef)) h)
    have q2 : a2 = b2 := Enc.inj _ _ (congrArg (fun l => List.getD l 2 (.sc undef)) h)
    have q3 : a3 = b3 := Enc.inj _ _ (congrArg (fun l => List.getD l 3 (.sc undef)) h)
    subst q0; subst q1; subst q2; subst q3; rfl) (x := (t, list, id, stop)) h
theorem i_JoinLater_ok : FnOK Try.prog 64 i_JoinLater_S := by
  have Γok : ∀ f S, lookF f [(156, i_IsValidRuns_S), (157, i_innerPlace_S), (158, slices_Clone_Run_S)] = some S → FnOK Try.prog f S := lookF_ok (allF_cons i_IsValidRuns_ok (allF_cons i_innerPlace_ok (allF_cons slices_Clone_Run_ok allF_nil)))
  have Γlive : Live (fun f => lookF f [(156, i_IsValidRuns_S), (157, i_innerPlace_S), (158, slices_Clone_Run_S)]) := lookF_live (allL_cons modS_live (allL_cons modS_live (allL_cons modS_live allL_nil)))
  refine fnOK_mod ty_ok (fun args w => Try.call64 args w) Try.func64 rfl [.tmp 8, .tmp 9] (by rw [Try.results64]) 35 Try.ntmps64 16 rfl (fun _ => by first | exact Nat.zero_le _ | (simp)) ?_
  rintro ⟨t, list, id, stop⟩ y cx hm hL
  have hm : i_JoinLater t list id stop = some y := hm
  have hL : cx.L = 0 := hL
  unfold i_JoinLater at hm
  refine X_reg_seq ty_ok Γok hL [] .nil (by kernel_rfl) ?_
  refine Ok_seq ?_
  obtain ⟨r, h, hm⟩ := obind hm
  refine X_reg_seq ty_ok Γok hL [(2, .c (i_IsValidRuns_r r) (i_IsValidRuns_n r) (i_IsValidRuns_o (t, list) r))] (.cons (i_IsValidRuns_c h) .nil) (by kernel_rfl) ?_
  refine X_cond (!r) (by kernel_rfl) (fun hc => ?_) (fun hc => ?_)
  · have hm := it hc hm
    refine X_reg_seq ty_ok Γok hL [] .nil (by kernel_rfl) ?_
    obtain rfl := some_inj hm
    refine Ok_ret ?_
    repeat (first | refine thR ?_ | refine ibR ?_)
    exact X_fin [] [[.z 4]] (by kernel_rfl) trivial
  · have hm := ie hc hm
    refine X_skip ?_
    refine thN ?_
    obtain ⟨r1, h1, hm⟩ := obind hm
    refine X_reg_seq ty_ok Γok hL [(4, .c (i_innerPlace_r r1) (i_innerPlace_n r1) (i_innerPlace_o (t, list, id, stop) r1))] (.cons (i_innerPlace_c h1) .nil) (by kernel_rfl) ?_
    refine Ok_seq ?_
    refine X_reg_seq ty_ok Γok hL [] .nil (by kernel_rfl) ?_
    refine X_cond (decide (r1.1 < 0)) (by kernel_rfl) (fun hc1 => ?_) (fun hc1 => ?_)
    · have hm := it hc1 hm
      refine X_reg_seq ty_ok Γok hL [] .nil (by kernel_rfl) ?_
      obtain rfl := some_inj hm
      refine Ok_ret ?_
      repeat (first | refine thR ?_ | refine ibR ?_)
      exact X_fin [] [[.z 4]] (by kernel_rfl) trivial
    · have hm := ie hc1 hm
      refine X_skip ?_
      refine thN ?_
      obtain ⟨r2, h2, hm⟩ := obind hm
      refine X_reg_seq ty_ok Γok hL [(1, .c (slices_Clone_Run_r r2) (slices_Clone_Run_n r2) (slices_Clone_Run_o list r2))] (.cons (slices_Clone_Run_c h2) .nil) (by kernel_rfl) ?_
      obtain ⟨e, h3, hm⟩ := obind hm
      refine X_reg_seq ty_ok Γok hL [(3, .d (Enc.e e)), (5, .sd (Enc.e e) (List.map Enc.e (r2.set r1.1.toNat (⟨e.Trip, r1.2, e.To, e.Hold⟩ : Run))))] (.cons (idx_m (f := Enc.e) h3) (.cons (idx_m2 (f := Enc.e) h3) (.cons (set_m Enc.e r2 r1.1.toNat (⟨e.Trip, r1.2, e.To, e.Hold⟩ : Run)) .nil))) (by kernel_rfl) ?_
      refine X_reg_seq ty_ok Γok hL [] .nil (by kernel_rfl) ?_
      obtain rfl := some_inj hm
      refine Ok_ret ?_
      repeat (first | refine thR ?_ | refine ibR ?_)
      exact X_fin [] [] (by kernel_rfl) trivial
abbrev s_JoinLater_r (y : (List Run) × Bool) : AV := .tup [.own 0, .dat (Enc.e y.2)]
abbrev s_JoinLater_n (y : (List Run) × Bool) : List Obj' := [.arr 190 4 (List.map Enc.e y.1)]
abbrev s_JoinLater_o (x : Timetable × (List Run) × Int × Int) (y : (List Run) × Bool) : List Obj' := []
noncomputable def s_JoinLater_S : FnSpec := modS [.rd, .rd, .rd, .rd] (fun x : Timetable × (List Run) × Int × Int => [Enc.e x.1, Enc.e x.2.1, Enc.e x.2.2.1, Enc.e x.2.2.2]) (fun x : Timetable × (List Run) × Int × Int => []) (fun x : Timetable × (List Run) × Int × Int => s_JoinLater x.1 x.2.1 x.2.2.1 x.2.2.2) s_JoinLater_r s_JoinLater_n s_JoinLater_o
theorem s_JoinLater_c {t : Timetable} {list : List Run} {id : Int} {stop : Int} {y : (List Run) × Bool} (h : s_JoinLater t list id stop = some y) : CallOK s_JoinLater_S [Enc.e t, Enc.e list, Enc.e id, Enc.e stop] [] (s_JoinLater_r y) (s_JoinLater_n y) (s_JoinLater_o (t, list, id, stop) y) :=
  modS_call (by
    rintro ⟨a0, a1, a2, a3⟩ ⟨b0, b1, b2, b3⟩ h hO
    have q0 : a0 = b0 := Enc.inj _ _ (congrArg (fun l => List.getD l 0 (.sc undef)) h)
    have q1 : a1 = b1 := Enc.inj _ _ (congrArg (fun l => List.getD l 1 (.sc undef)) h)
    have q2 : a2 = b2 := Enc.inj _ _ (congrArg (fun l => List.getD l 2 (.sc undef)) h)
    have q3 : a3 = b3 := Enc.inj _ _ (congrArg (fun l => List.getD l 3 (.sc undef)) h)
    subst q0; subst q1; subst q2; subst q3; rfl) (x := (t, list, id, stop)) h
theorem s_JoinLater_ok : FnOK Try.prog 65 s_JoinLater_S := by
  have Γok : ∀ f S, lookF f [(159, s_l18Find_S), (160, s_l18Asked_S), (161, s_l18Inner_S), (162, s_l18With_S)] = some S → FnOK Try.prog f S := lookF_ok (allF_cons s_l18Find_ok (allF_cons s_l18Asked_ok (allF_cons s_l18Inner_ok (allF_cons s_l18With_ok allF_nil))))
  have Γlive : Live (fun f => lookF f [(159, s_l18Find_S), (160, s_l18Asked_S), (161, s_l18Inner_S), (162, s_l18With_S)]) := lookF_live (allL_cons modS_live (allL_cons modS_live (allL_cons modS_live (allL_cons modS_live allL_nil))))
  refine fnOK_mod ty_ok (fun args w => Try.call65 args w) Try.func65 rfl [.tmp 8, .tmp 9] (by rw [Try.results65]) 50 Try.ntmps65 16 rfl (fun _ => by first | exact Nat.zero_le _ | (simp)) ?_
  rintro ⟨t, list, id, stop⟩ y cx hm hL
  have hm : s_JoinLater t list id stop = some y := hm
  have hL : cx.L = 0 := hL
  unfold s_JoinLater at hm
  refine X_reg_seq ty_ok Γok hL [] .nil (by kernel_rfl) ?_
  obtain ⟨r, h, hm⟩ := obind hm
  refine X_reg_seq ty_ok Γok hL [(2, .c (s_l18Find_r r) (s_l18Find_n r) (s_l18Find_o (list, id) r))] (.cons (s_l18Find_c h) .nil) (by kernel_rfl) ?_
  refine Ok_seq ?_
  obtain ⟨r3, h4, hm⟩ := obind hm
  obtain ⟨v, hv, hk⟩ := obind hm
  refine X_join (n := 50) (fun (v : Bool) => (⟨[(1, .dat (Enc.e list)), (3, .dat (.sc (.int .i64 stop))), (4, .ref 16 0), (10, .dat (.sc (.int .i64 r))), (32, .dat (.sc (.bool v)))], [(16, some (.box [.dat (Enc.e t.Network.Stops), .dat (Enc.e t.Network.Lines), .dat (Enc.e t.Trips)]))], 48⟩ : X)) v ?_ ?_
  · have hm := hv
    rcases btf (!r3) with hb | hb
    · have hm := it hb hm
      obtain rfl := some_inj hm
      refine X_draw mixed ty_ok Γok Γlive [] (by kernel_rfl) [(2, .c (s_l18Asked_r r3) (s_l18Asked_n r3) (s_l18Asked_o (t, list) r3)), (4, .b true)] (.cons (s_l18Asked_c h4) (.cons hb .nil)) (by kernel_rfl) ?_
      exact thN (Wk_J hL ⟨[(1, []), (3, []), (4, []), (10, []), (32, [])], [(16, 16, [])], [], 48⟩ (by kernel_rfl))
    · have hm := ie hb hm
      rcases btf (decide (r < 0)) with hb1 | hb1
      · have hm := it hb1 hm
        obtain rfl := some_inj hm
        refine X_draw mixed ty_ok Γok Γlive [] (by kernel_rfl) [(2, .c (s_l18Asked_r r3) (s_l18Asked_n r3) (s_l18Asked_o (t, list) r3)), (4, .b false), (8, .b true)] (.cons (s_l18Asked_c h4) (.cons hb (.cons hb1 .nil))) (by kernel_rfl) ?_
        exact thN (Wk_J hL ⟨[(1, []), (3, []), (4, []), (10, []), (32, [])], [(16, 16, [])], [], 48⟩ (by kernel_rfl))
      · have hm := ie hb1 hm
        obtain ⟨e1, h5, hm⟩ := obind hm
        obtain ⟨r4, h6, hm⟩ := obind hm
        obtain rfl := some_inj hm
        refine X_draw mixed ty_ok Γok Γlive [] (by kernel_rfl) [(2, .c (s_l18Asked_r r3) (s_l18Asked_n r3) (s_l18Asked_o (t, list) r3)), (4, .b false), (8, .b false), (12, .d (Enc.e e1)), (15, .c (s_l18Inner_r r4) (s_l18Inner_n r4) (s_l18Inner_o (t, e1, stop) r4))] (.cons (s_l18Asked_c h4) (.cons hb (.cons hb1 (.cons (idx_m (f := Enc.e) h5) (.cons (s_l18Inner_c h6) .nil))))) (by kernel_rfl) ?_
        exact thN (Wk_J hL ⟨[(1, []), (3, []), (4, []), (10, []), (32, [])], [(16, 16, [])], [], 48⟩ (by kernel_rfl))
  have hm := hk
  refine X_cond v (by kernel_rfl) (fun hc => ?_) (fun hc => ?_)
  · have hm := it hc hm
    refine X_reg_seq ty_ok Γok hL [] .nil (by kernel_rfl) ?_
    obtain rfl := some_inj hm
    refine Ok_ret ?_
    repeat (first | refine thR ?_ | refine ibR ?_)
    exact X_fin [48] [] (by kernel_rfl) trivial
  · have hm := ie hc hm
    refine X_skip ?_
    refine thN ?_
    obtain ⟨e2, h7, hm⟩ := obind hm
    refine X_reg_seq ty_ok Γok hL [(2, .d (Enc.e e2))] (.cons (idx_m (f := Enc.e) h7) .nil) (by kernel_rfl) ?_
    obtain ⟨e4, h10, hm⟩ := obind hm
    obtain ⟨r6, h11, hm⟩ := obind hm
    refine X_draw_seq mixed ty_ok Γok Γlive [(8, [112])] (by kernel_rfl) [(3, .d (Enc.e e4)), (6, .c (s_l18Inner_r r6) (s_l18Inner_n r6) (s_l18Inner_o (t, e4, stop) r6))] (.cons (idx_m (f := Enc.e) h10) (.cons (s_l18Inner_c h11) .nil)) (by kernel_rfl) ?_
    obtain ⟨r7, h12, hm⟩ := obind hm
    refine X_reg_seq ty_ok Γok hL [(3, .c (s_l18With_r r7) (s_l18With_n r7) (s_l18With_o (list, r, (⟨e2.Trip, r6, e2.To, e2.Hold⟩ : Run)) r7))] (.cons (s_l18With_c h12) .nil) (by kernel_rfl) ?_
    obtain rfl := some_inj hm
    refine Ok_ret ?_
    repeat (first | refine thR ?_ | refine ibR ?_)
    exact X_fin [336] [] (by kernel_rfl) trivial
abbrev i_stopTimes_r (y : (List Int)) : AV := .own 0
abbrev i_stopTimes_n (y : (List Int)) : List Obj' := [.arr 3 1 (List.map Enc.e y)]
abbrev i_stopTimes_o (x : Timetable × Trip) (y : (List Int)) : List Obj' := []
noncomputable def i_stopTimes_S : FnSpec := modS [.rd, .rd] (fun x : Timetable × Trip => [Enc.e x.1, Enc.e x.2]) (fun x : Timetable × Trip => []) (fun x : Timetable × Trip => i_stopTimes x.1 x.2) i_stopTimes_r i_stopTimes_n i_stopTimes_o
theorem i_stopTimes_c {t : Timetable} {x : Trip} {y : (List Int)} (h : i_stopTimes t x = some y) : CallOK i_stopTimes_S [Enc.e t, Enc.e x] [] (i_stopTimes_r y) (i_stopTimes_n y) (i_stopTimes_o (t, x) y) :=
  modS_call (by
    rintro ⟨a0, a1⟩ ⟨b0, b1⟩ h hO
    have q0 : a0 = b0 := Enc.inj _ _ (congrArg (fun l => List.getD l 0 (.sc undef)) h)
    have q1 : a1 = b1 := Enc.inj _ _ (congrArg (fun l => List.getD l 1 (.sc undef)) h)
    subst q0; subst q1; rfl) (x := (t, x)) h
theorem i_stopTimes_ok : FnOK Try.prog 226 i_stopTimes_S := by
  have Γok : ∀ f S, lookF f [(165, i_lineOf_S)] = some S → FnOK Try.prog f S := lookF_ok (allF_cons i_lineOf_ok allF_nil)
  have Γlive : Live (fun f => lookF f [(165, i_lineOf_S)]) := lookF_live (allL_cons modS_live allL_nil)
  refine fnOK_mod ty_ok (fun args w => Try.call226 args w) Try.func226 rfl [.tmp 4] (by rw [Try.results226]) 32 Try.ntmps226 16 rfl (fun _ => by first | exact Nat.zero_le _ | (simp)) ?_
  rintro ⟨t, x⟩ y cx hm hL
  have hm : i_stopTimes t x = some y := hm
  have hL : cx.L = 0 := hL
  unfold i_stopTimes at hm
  refine X_reg_seq ty_ok Γok hL [] .nil (by kernel_rfl) ?_
  refine X_reg_seq ty_ok Γok hL [] .nil (by kernel_rfl) ?_
  refine Ok_seq ?_
  obtain ⟨r, h, hm⟩ := obind hm
  refine X_reg_seq ty_ok Γok hL [(2, .c (i_lineOf_r r) (i_lineOf_n r) (i_lineOf_o (t, x) r)), (4, .n (r.Runs.length : Int))] (.cons (i_lineOf_c h) (.cons (len_m Enc.e r.Runs) .nil)) (by kernel_rfl) ?_
  obtain ⟨r2, hv, hk⟩ := obind hm
  refine X_tail (n := 32) (fun (r2 : List Int) => (⟨[(5, .own 16)], [(16, some (.arr 3 1 (List.map Enc.e r2)))], 48⟩ : X)) r2 ?_ ?_
  · have hm := hv
    refine Ok_block ?_
    refine X_loop (n := 32) (step := i_stopTimes_L1 r) (fun ((v, r1) : Int × (List Int)) => (⟨[(5, .own 16), (14, .dat (Enc.e r.Runs)), (15, .dat (.sc (.int .i64 (r.Runs.length : Int)))), (16, .dat (.sc (.int .i64 v)))], [(16, some (.arr 3 1 (List.map Enc.e r1)))], 48⟩ : X)) hm (Wk_J hL ⟨[(5, []), (14, []), (15, []), (16, [])], [(16, 96, [])], [], 48⟩ (by kernel_rfl)) ?_
    rintro ⟨v, r1⟩ r0 hm hb
    rw [i_stopTimes_L1] at hm
    refine X_reg_seq ty_ok Γok hL [] .nil (by kernel_rfl) ?_
    refine Ok_seq ?_
    refine X_cond (decide (v < (r.Runs.length : Int))) (by kernel_rfl) (fun hc => ?_) (fun hc => ?_)
    · have hm := it hc hm
      refine X_skip ?_
      refine thN ?_
      refine Ok_seq ?_
      refine Ok_block ?_
      obtain ⟨e, h1, hm⟩ := obind hm
      refine X_reg_seq ty_ok Γok hL [(1, .d (Enc.e e))] (.cons (idx_m (f := Enc.e) h1) .nil) (by kernel_rfl) ?_
      obtain ⟨e1, h2, hm⟩ := obind hm
      obtain ⟨u, h3, hm⟩ := obind hm
      refine X_reg ty_ok Γok hL [(3, .d (Enc.e e1)), (4, .d (Enc.e e1)), (8, .l (List.map Enc.e (r1 ++ ([(w64 (e1 + e))] : List Int))))] (.cons (idx_m (f := Enc.e) h2) (.cons (idx_m2 (f := Enc.e) h2) (.cons (app_p (f := Enc.e) (g := Enc.e) (l := r1) (r := ([(w64 (e1 + e))] : List Int)) (b := 8) (chk_t h3) rfl) (.cons (app_m Enc.e r1 ([(w64 (e1 + e))] : List Int)) .nil)))) (by kernel_rfl) ?_
      refine ibN ?_
      refine thN ?_
      refine X_reg ty_ok Γok hL [] .nil (by kernel_rfl) ?_
      obtain rfl := some_inj hm
      exact thN ⟨_, rfl, Wk_J hL ⟨[(5, []), (14, []), (15, []), (16, [])], [(16, 272, [])], [], 48⟩ (by kernel_rfl)⟩
    · have hm := ie hc hm
      obtain rfl := some_inj hm
      obtain rfl := hb _ rfl
      refine Ok_exit ?_
      refine thE ?_
      refine thE ?_
      refine ibE ?_
      exact thN (Wk_J hL ⟨[(5, [])], [(16, 16, [])], [], 48⟩ (by kernel_rfl))
  intro s hw
  have hm := hk
  refine thN ?_
  refine Ok_weak hw ?_
  refine X_reg_seq ty_ok Γok hL [] .nil (by kernel_rfl) ?_
  obtain rfl := some_inj hm
  refine Ok_ret ?_
  repeat (first | refine thR ?_ | refine ibR ?_)
  exact X_fin [16] [] (by kernel_rfl) trivial
abbrev i_runTimes_r (y : (List Int)) : AV := .own 0
abbrev i_runTimes_n (y : (List Int)) : List Obj' := [.arr 3 1 (List.map Enc.e y)]
abbrev i_runTimes_o (x : Timetable × Run) (y : (List Int)) : List Obj' := []
noncomputable def i_runTimes_S : FnSpec := modS [.rd, .rd] (fun x : Timetable × Run => [Enc.e x.1, Enc.e x.2]) (fun x : Timetable × Run => []) (fun x : Timetable × Run => i_runTimes x.1 x.2) i_runTimes_r i_runTimes_n i_runTimes_o
theorem i_runTimes_c {t : Timetable} {r : Run} {y : (List Int)} (h : i_runTimes t r = some y) : CallOK i_runTimes_S [Enc.e t, Enc.e r] [] (i_runTimes_r y) (i_runTimes_n y) (i_runTimes_o (t, r) y) :=
  modS_call (by
    rintro ⟨a0, a1⟩ ⟨b0, b1⟩ h hO
    have q0 : a0 = b0 := Enc.inj _ _ (congrArg (fun l => List.getD l 0 (.sc undef)) h)
    have q1 : a1 = b1 := Enc.inj _ _ (congrArg (fun l => List.getD l 1 (.sc undef)) h)
    subst q0; subst q1; rfl) (x := (t, r)) h
theorem i_runTimes_ok : FnOK Try.prog 164 i_runTimes_S := by
  have Γok : ∀ f S, lookF f [(221, i_tripWith_S), (226, i_stopTimes_S)] = some S → FnOK Try.prog f S := lookF_ok (allF_cons i_tripWith_ok (allF_cons i_stopTimes_ok allF_nil))
  have Γlive : Live (fun f => lookF f [(221, i_tripWith_S), (226, i_stopTimes_S)]) := lookF_live (allL_cons modS_live (allL_cons modS_live allL_nil))
  refine fnOK_mod ty_ok (fun args w => Try.call164 args w) Try.func164 rfl [.tmp 4] (by rw [Try.results164]) 34 Try.ntmps164 16 rfl (fun _ => by first | exact Nat.zero_le _ | (simp)) ?_
  rintro ⟨t, r⟩ y cx hm hL
  have hm : i_runTimes t r = some y := hm
  have hL : cx.L = 0 := hL
  unfold i_runTimes at hm
  refine X_reg_seq ty_ok Γok hL [] .nil (by kernel_rfl) ?_
  obtain ⟨r3, h3, hm⟩ := obind hm
  obtain ⟨r4, h4, hm⟩ := obind hm
  obtain ⟨u1, h5, hm⟩ := obind hm
  refine X_draw_seq mixed ty_ok Γok Γlive [(11, [144])] (by kernel_rfl) [(4, .c (i_tripWith_r r3) (i_tripWith_n r3) (i_tripWith_o (t, r.Trip) r3)), (5, .c (i_stopTimes_r r4) (i_stopTimes_n r4) (i_stopTimes_o (t, r3) r4)), (11, .l (List.map Enc.e ((r4.take (w64 (r.To + 1)).toNat).drop r.From.toNat)))] (.cons (i_tripWith_c h3) (.cons (i_stopTimes_c h4) (.cons (cut_p (f := Enc.e) (l := r4) (lo := r.From) (hi := (w64 (r.To + 1))) (chk_t h5)) (.cons (cut_m Enc.e r4 r.From.toNat (w64 (r.To + 1)).toNat) .nil)))) (by kernel_rfl) ?_
  refine Ok_seq ?_
  refine X_reg_seq ty_ok Γok hL [(1, .n (((r4.take (w64 (r.To + 1)).toNat).drop r.From.toNat).length : Int))] (.cons (len_m Enc.e ((r4.take (w64 (r.To + 1)).toNat).drop r.From.toNat)) .nil) (by kernel_rfl) ?_
  obtain ⟨v2, hv, hk⟩ := obind hm
  refine X_tail (n := 34) (fun (v2 : List Int) => (⟨[(5, .own 16)], [(16, some (.arr 3 1 (List.map Enc.e v2)))], 48⟩ : X)) v2 ?_ ?_
  · have hm := hv
    refine Ok_block ?_
    refine X_loop (n := 34) (step := i_runTimes_L1 r r4) (fun ((v, v1) : Int × (List Int)) => (⟨[(3, .ref 16 0), (5, .own 32), (20, .dat (.sc (.int .i64 (((r4.take (w64 (r.To + 1)).toNat).drop r.From.toNat).length : Int)))), (21, .dat (.sc (.int .i64 v)))], [(16, some (.box [.dat (.sc (.int .i64 r.Trip)), .dat (.sc (.int .i64 r.From)), .dat (.sc (.int .i64 r.To)), .dat (.sc (.int .i64 r.Hold))])), (32, some (.arr 3 1 (List.map Enc.e v1)))], 64⟩ : X)) hm (Wk_J hL ⟨[(3, []), (5, []), (20, []), (21, [])], [(16, 32, []), (32, 240, [])], [], 64⟩ (by kernel_rfl)) ?_
    rintro ⟨v, v1⟩ r0 hm hb
    rw [i_runTimes_L1] at hm
    refine X_reg_seq ty_ok Γok hL [] .nil (by kernel_rfl) ?_
    refine Ok_seq ?_
    refine X_cond (decide (v < (((r4.take (w64 (r.To + 1)).toNat).drop r.From.toNat).length : Int))) (by kernel_rfl) (fun hc => ?_) (fun hc => ?_)
    · have hm := it hc hm
      refine X_skip ?_
      refine thN ?_
      refine Ok_seq ?_
      refine Ok_block ?_
      refine X_reg_seq ty_ok Γok hL [] .nil (by kernel_rfl) ?_
      obtain ⟨e2, h8, hm⟩ := obind hm
      obtain ⟨e3, h9, hm⟩ := obind hm
      refine X_draw mixed ty_ok Γok Γlive [(8, [32])] (by kernel_rfl) [(2, .d (Enc.e e2)), (3, .d (Enc.e e2)), (7, .d (Enc.e e3)), (8, .sd (Enc.e e3) (List.map Enc.e (v1.set v.toNat (w64 (e2 + r.Hold)))))] (.cons (idx_m (f := Enc.e) h8) (.cons (idx_m2 (f := Enc.e) h8) (.cons (idx_m (f := Enc.e) h9) (.cons (idx_m2 (f := Enc.e) h9) (.cons (set_m Enc.e v1 v.toNat (w64 (e2 + r.Hold))) .nil))))) (by kernel_rfl) ?_
      refine ibN ?_
      refine thN ?_
      refine X_reg ty_ok Γok hL [] .nil (by kernel_rfl) ?_
      obtain rfl := some_inj hm
      exact thN ⟨_, rfl, Wk_J hL ⟨[(3, []), (5, []), (20, []), (21, [])], [(16, 16, []), (32, 32, [])], [], 64⟩ (by kernel_rfl)⟩
    · have hm := ie hc hm
      obtain rfl := some_inj hm
      obtain rfl := hb _ rfl
      refine Ok_exit ?_
      refine thE ?_
      refine thE ?_
      refine ibE ?_
      exact thN (Wk_J hL ⟨[(5, [])], [(16, 32, [])], [], 48⟩ (by kernel_rfl))
  intro s hw
  have hm := hk
  refine thN ?_
  refine Ok_weak hw ?_
  refine X_reg_seq ty_ok Γok hL [] .nil (by kernel_rfl) ?_
  obtain rfl := some_inj hm
  refine Ok_ret ?_
  repeat (first | refine thR ?_ | refine ibR ?_)
  exact X_fin [16] [] (by kernel_rfl) trivial
abbrev i_RunTimes_r (y : (List Int) × Bool) : AV := .tup [.dat (Enc.e y.1), .dat (Enc.e y.2)]
abbrev i_RunTimes_n (y : (List Int) × Bool) : List Obj' := []
abbrev i_RunTimes_o (x : Timetable × (List Run) × Int) (y : (List Int) × Bool) : List Obj' := []
noncomputable def i_RunTimes_S : FnSpec := modS [.rd, .rd, .rd] (fun x : Timetable × (List Run) × Int => [Enc.e x.1, Enc.e x.2.1, Enc.e x.2.2]) (fun x : Timetable × (List Run) × Int => []) (fun x : Timetable × (List Run) × Int => i_RunTimes x.1 x.2.1 x.2.2) i_RunTimes_r i_RunTimes_n i_RunTimes_o
theorem i_RunTimes_c {t : Timetable} {list : List Run} {id : Int} {y : (List Int) × Bool} (h : i_RunTimes t list id = some y) : CallOK i_RunTimes_S [Enc.e t, Enc.e list, Enc.e id] [] (i_RunTimes_r y) (i_RunTimes_n y) (i_RunTimes_o (t, list, id) y) :=
  modS_call (by
    rintro ⟨a0, a1, a2⟩ ⟨b0, b1, b2⟩ h hO
    have q0 : a0 = b0 := Enc.inj _ _ (congrArg (fun l => List.getD l 0 (.sc undef)) h)
    have q1 : a1 = b1 := Enc.inj _ _ (congrArg (fun l => List.getD l 1 (.sc undef)) h)
    have q2 : a2 = b2 := Enc.inj _ _ (congrArg (fun l => List.getD l 2 (.sc undef)) h)
    subst q0; subst q1; subst q2; rfl) (x := (t, list, id)) h
theorem i_RunTimes_ok : FnOK Try.prog 66 i_RunTimes_S := by
  have Γok : ∀ f S, lookF f [(156, i_IsValidRuns_S), (163, i_runIndex_S), (164, i_runTimes_S)] = some S → FnOK Try.prog f S := lookF_ok (allF_cons i_IsValidRuns_ok (allF_cons i_runIndex_ok (allF_cons i_runTimes_ok allF_nil)))
  have Γlive : Live (fun f => lookF f [(156, i_IsValidRuns_S), (163, i_runIndex_S), (164, i_runTimes_S)]) := lookF_live (allL_cons modS_live (allL_cons modS_live (allL_cons modS_live allL_nil)))
  refine fnOK_mod ty_ok (fun args w => Try.call66 args w) Try.func66 rfl [.tmp 6, .tmp 7] (by rw [Try.results66]) 24 Try.ntmps66 16 rfl (fun _ => by first | exact Nat.zero_le _ | (simp)) ?_
  rintro ⟨t, list, id⟩ y cx hm hL
  have hm : i_RunTimes t list id = some y := hm
  have hL : cx.L = 0 := hL
  unfold i_RunTimes at hm
  refine X_reg_seq ty_ok Γok hL [] .nil (by kernel_rfl) ?_
  refine Ok_seq ?_
  obtain ⟨r, h, hm⟩ := obind hm
  refine X_reg_seq ty_ok Γok hL [(2, .c (i_IsValidRuns_r r) (i_IsValidRuns_n r) (i_IsValidRuns_o (t, list) r))] (.cons (i_IsValidRuns_c h) .nil) (by kernel_rfl) ?_
  refine X_cond (!r) (by kernel_rfl) (fun hc => ?_) (fun hc => ?_)
  · have hm := it hc hm
    refine X_reg_seq ty_ok Γok hL [] .nil (by kernel_rfl) ?_
    obtain rfl := some_inj hm
    refine Ok_ret ?_
    repeat (first | refine thR ?_ | refine ibR ?_)
    exact X_fin [] [[.z 1]] (by kernel_rfl) trivial
  · have hm := ie hc hm
    refine X_skip ?_
    refine thN ?_
    obtain ⟨r1, h1, hm⟩ := obind hm
    refine X_reg_seq ty_ok Γok hL [(2, .c (i_runIndex_r r1) (i_runIndex_n r1) (i_runIndex_o (list, id) r1))] (.cons (i_runIndex_c h1) .nil) (by kernel_rfl) ?_
    refine Ok_seq ?_
    refine X_reg_seq ty_ok Γok hL [] .nil (by kernel_rfl) ?_
    refine X_cond (decide (r1 < 0)) (by kernel_rfl) (fun hc1 => ?_) (fun hc1 => ?_)
    · have hm := it hc1 hm
      refine X_reg_seq ty_ok Γok hL [] .nil (by kernel_rfl) ?_
      obtain rfl := some_inj hm
      refine Ok_ret ?_
      repeat (first | refine thR ?_ | refine ibR ?_)
      exact X_fin [] [[.z 1]] (by kernel_rfl) trivial
    · have hm := ie hc1 hm
      refine X_skip ?_
      refine thN ?_
      obtain ⟨e1, h4, hm⟩ := obind hm
      obtain ⟨r3, h5, hm⟩ := obind hm
      refine X_draw_seq mixed ty_ok Γok Γlive [] (by kernel_rfl) [(3, .d (Enc.e e1)), (5, .c (i_runTimes_r r3) (i_runTimes_n r3) (i_runTimes_o (t, e1) r3))] (.cons (idx_m (f := Enc.e) h4) (.cons (i_runTimes_c h5) .nil)) (by kernel_rfl) ?_
      obtain rfl := some_inj hm
      refine Ok_ret ?_
      repeat (first | refine thR ?_ | refine ibR ?_)
      exact X_fin [] [] (by kernel_rfl) trivial
abbrev i_HoldRun_r (y : (List Run) × Bool) : AV := .tup [.dat (Enc.e y.1), .dat (Enc.e y.2)]
abbrev i_HoldRun_n (y : (List Run) × Bool) : List Obj' := []
abbrev i_HoldRun_o (x : Timetable × (List Run) × Int × Int) (y : (List Run) × Bool) : List Obj' := []
noncomputable def i_HoldRun_S : FnSpec := modS [.rd, .rd, .rd, .rd] (fun x : Timetable × (List Run) × Int × Int => [Enc.e x.1, Enc.e x.2.1, Enc.e x.2.2.1, Enc.e x.2.2.2]) (fun x : Timetable × (List Run) × Int × Int => []) (fun x : Timetable × (List Run) × Int × Int => i_HoldRun x.1 x.2.1 x.2.2.1 x.2.2.2) i_HoldRun_r i_HoldRun_n i_HoldRun_o
theorem i_HoldRun_c {t : Timetable} {list : List Run} {id : Int} {minutes : Int} {y : (List Run) × Bool} (h : i_HoldRun t list id minutes = some y) : CallOK i_HoldRun_S [Enc.e t, Enc.e list, Enc.e id, Enc.e minutes] [] (i_HoldRun_r y) (i_HoldRun_n y) (i_HoldRun_o (t, list, id, minutes) y) :=
  modS_call (by
    rintro ⟨a0, a1, a2, a3⟩ ⟨b0, b1, b2, b3⟩ h hO
    have q0 : a0 = b0 := Enc.inj _ _ (congrArg (fun l => List.getD l 0 (.sc undef)) h)
    have q1 : a1 = b1 := Enc.inj _ _ (congrArg (fun l => List.getD l 1 (.sc undef)) h)
    have q2 : a2 = b2 := Enc.inj _ _ (congrArg (fun l => List.getD l 2 (.sc undef)) h)
    have q3 : a3 = b3 := Enc.inj _ _ (congrArg (fun l => List.getD l 3 (.sc undef)) h)
    subst q0; subst q1; subst q2; subst q3; rfl) (x := (t, list, id, minutes)) h
theorem i_HoldRun_ok : FnOK Try.prog 67 i_HoldRun_S := by
  have Γok : ∀ f S, lookF f [(156, i_IsValidRuns_S), (94, i_within_S), (163, i_runIndex_S), (158, slices_Clone_Run_S)] = some S → FnOK Try.prog f S := lookF_ok (allF_cons i_IsValidRuns_ok (allF_cons i_within_ok (allF_cons i_runIndex_ok (allF_cons slices_Clone_Run_ok allF_nil))))
  have Γlive : Live (fun f => lookF f [(156, i_IsValidRuns_S), (94, i_within_S), (163, i_runIndex_S), (158, slices_Clone_Run_S)]) := lookF_live (allL_cons modS_live (allL_cons modS_live (allL_cons modS_live (allL_cons modS_live allL_nil))))
  refine fnOK_mod ty_ok (fun args w => Try.call67 args w) Try.func67 rfl [.tmp 8, .tmp 9] (by rw [Try.results67]) 48 Try.ntmps67 16 rfl (fun _ => by first | exact Nat.zero_le _ | (simp)) ?_
  rintro ⟨t, list, id, minutes⟩ y cx hm hL
  have hm : i_HoldRun t list id minutes = some y := hm
  have hL : cx.L = 0 := hL
  unfold i_HoldRun at hm
  refine X_reg_seq ty_ok Γok hL [] .nil (by kernel_rfl) ?_
  refine Ok_seq ?_
  obtain ⟨r, h, hm⟩ := obind hm
  obtain ⟨v, hv, hk⟩ := obind hm
  refine X_join (n := 48) (fun (v : Bool) => (⟨[(1, .dat (Enc.e list)), (2, .dat (.sc (.int .i64 id))), (3, .dat (.sc (.int .i64 minutes))), (20, .dat (.sc (.bool v)))], [], 32⟩ : X)) v ?_ ?_
  · have hm := hv
    rcases btf (!r) with hb | hb
    · have hm := it hb hm
      obtain rfl := some_inj hm
      refine X_reg ty_ok Γok hL [(2, .c (i_IsValidRuns_r r) (i_IsValidRuns_n r) (i_IsValidRuns_o (t, list) r)), (4, .b true)] (.cons (i_IsValidRuns_c h) (.cons hb .nil)) (by kernel_rfl) ?_
      exact thN (Wk_J hL ⟨[(1, []), (2, []), (3, []), (20, [])], [], [], 32⟩ (by kernel_rfl))
    · have hm := ie hb hm
      obtain ⟨r1, h1, hm⟩ := obind hm
      obtain rfl := some_inj hm
      refine X_reg ty_ok Γok hL [(2, .c (i_IsValidRuns_r r) (i_IsValidRuns_n r) (i_IsValidRuns_o (t, list) r)), (4, .b false), (6, .c (i_within_r r1) (i_within_n r1) (i_within_o (minutes, 0, 60) r1))] (.cons (i_IsValidRuns_c h) (.cons hb (.cons (i_within_c h1) .nil))) (by kernel_rfl) ?_
      exact thN (Wk_J hL ⟨[(1, []), (2, []), (3, []), (20, [])], [], [], 32⟩ (by kernel_rfl))
  have hm := hk
  refine X_cond v (by kernel_rfl) (fun hc => ?_) (fun hc => ?_)
  · have hm := it hc hm
    refine X_reg_seq ty_ok Γok hL [] .nil (by kernel_rfl) ?_
    obtain rfl := some_inj hm
    refine Ok_ret ?_
    repeat (first | refine thR ?_ | refine ibR ?_)
    exact X_fin [] [[.z 4]] (by kernel_rfl) trivial
  · have hm := ie hc hm
    refine X_skip ?_
    refine thN ?_
    obtain ⟨r2, h2, hm⟩ := obind hm
    refine X_reg_seq ty_ok Γok hL [(2, .c (i_runIndex_r r2) (i_runIndex_n r2) (i_runIndex_o (list, id) r2))] (.cons (i_runIndex_c h2) .nil) (by kernel_rfl) ?_
    refine Ok_seq ?_
    obtain ⟨v1, hv1, hk1⟩ := obind hm
    refine X_join (n := 48) (fun (v1 : Bool) => (⟨[(1, .dat (Enc.e list)), (3, .dat (.sc (.int .i64 minutes))), (10, .dat (.sc (.int .i64 r2))), (35, .dat (.sc (.bool v1)))], [], 32⟩ : X)) v1 ?_ ?_
    · have hm := hv1
      rcases btf (decide (r2 < 0)) with hb1 | hb1
      · have hm := it hb1 hm
        obtain rfl := some_inj hm
        refine X_reg ty_ok Γok hL [(2, .b true)] (.cons hb1 .nil) (by kernel_rfl) ?_
        exact thN (Wk_J hL ⟨[(1, []), (3, []), (10, []), (35, [])], [], [], 32⟩ (by kernel_rfl))
      · have hm := ie hb1 hm
        obtain ⟨e, h3, hm⟩ := obind hm
        obtain rfl := some_inj hm
        refine X_reg ty_ok Γok hL [(2, .b false), (5, .d (Enc.e e))] (.cons hb1 (.cons (idx_m (f := Enc.e) h3) .nil)) (by kernel_rfl) ?_
        exact thN (Wk_J hL ⟨[(1, []), (3, []), (10, []), (35, [])], [], [], 32⟩ (by kernel_rfl))
    have hm := hk1
    refine X_cond v1 (by kernel_rfl) (fun hc1 => ?_) (fun hc1 => ?_)
    · have hm := it hc1 hm
      refine X_reg_seq ty_ok Γok hL [] .nil (by kernel_rfl) ?_
      obtain rfl := some_inj hm
      refine Ok_ret ?_
      repeat (first | refine thR ?_ | refine ibR ?_)
      exact X_fin [] [[.z 4]] (by kernel_rfl) trivial
    · have hm := ie hc1 hm
      refine X_skip ?_
      refine thN ?_
      obtain ⟨r3, h4, hm⟩ := obind hm
      refine X_reg_seq ty_ok Γok hL [(1, .c (slices_Clone_Run_r r3) (slices_Clone_Run_n r3) (slices_Clone_Run_o list r3))] (.cons (slices_Clone_Run_c h4) .nil) (by kernel_rfl) ?_
      obtain ⟨e1, h5, hm⟩ := obind hm
      obtain ⟨e2, h6, hm⟩ := obind hm
      refine X_reg_seq ty_ok Γok hL [(2, .d (Enc.e e1)), (4, .d (Enc.e e1)), (7, .d (Enc.e e2)), (9, .sd (Enc.e e2) (List.map Enc.e (r3.set r2.toNat (⟨e2.Trip, e2.From, e2.To, (w64 (e1.Hold + minutes))⟩ : Run))))] (.cons (idx_m (f := Enc.e) h5) (.cons (idx_m2 (f := Enc.e) h5) (.cons (idx_m (f := Enc.e) h6) (.cons (idx_m2 (f := Enc.e) h6) (.cons (set_m Enc.e r3 r2.toNat (⟨e2.Trip, e2.From, e2.To, (w64 (e1.Hold + minutes))⟩ : Run)) .nil))))) (by kernel_rfl) ?_
      refine X_reg_seq ty_ok Γok hL [] .nil (by kernel_rfl) ?_
      obtain rfl := some_inj hm
      refine Ok_ret ?_
      repeat (first | refine thR ?_ | refine ibR ?_)
      exact X_fin [] [] (by kernel_rfl) trivial
abbrev i_LostCalls_r (y : (List A2_Int) × Bool) : AV := .tup [.dat (Enc.e y.1), .dat (Enc.e y.2)]
abbrev i_LostCalls_n (y : (List A2_Int) × Bool) : List Obj' := []
abbrev i_LostCalls_o (x : Timetable × (List Run)) (y : (List A2_Int) × Bool) : List Obj' := []
noncomputable def i_LostCalls_S : FnSpec := modS [.rd, .rd] (fun x : Timetable × (List Run) => [Enc.e x.1, Enc.e x.2]) (fun x : Timetable × (List Run) => []) (fun x : Timetable × (List Run) => i_LostCalls x.1 x.2) i_LostCalls_r i_LostCalls_n i_LostCalls_o
theorem i_LostCalls_c {t : Timetable} {list : List Run} {y : (List A2_Int) × Bool} (h : i_LostCalls t list = some y) : CallOK i_LostCalls_S [Enc.e t, Enc.e list] [] (i_LostCalls_r y) (i_LostCalls_n y) (i_LostCalls_o (t, list) y) :=
  modS_call (by
    rintro ⟨a0, a1⟩ ⟨b0, b1⟩ h hO
    have q0 : a0 = b0 := Enc.inj _ _ (congrArg (fun l => List.getD l 0 (.sc undef)) h)
    have q1 : a1 = b1 := Enc.inj _ _ (congrArg (fun l => List.getD l 1 (.sc undef)) h)
    subst q0; subst q1; rfl) (x := (t, list)) h
theorem i_LostCalls_ok : FnOK Try.prog 68 i_LostCalls_S := by
  have Γok : ∀ f S, lookF f [(156, i_IsValidRuns_S), (163, i_runIndex_S), (165, i_lineOf_S)] = some S → FnOK Try.prog f S := lookF_ok (allF_cons i_IsValidRuns_ok (allF_cons i_runIndex_ok (allF_cons i_lineOf_ok allF_nil)))
  have Γlive : Live (fun f => lookF f [(156, i_IsValidRuns_S), (163, i_runIndex_S), (165, i_lineOf_S)]) := lookF_live (allL_cons modS_live (allL_cons modS_live (allL_cons modS_live allL_nil)))
  refine fnOK_mod ty_ok (fun args w => Try.call68 args w) Try.func68 rfl [.tmp 4, .tmp 5] (by rw [Try.results68]) 64 Try.ntmps68 16 rfl (fun _ => by first | exact Nat.zero_le _ | (simp)) ?_
  rintro ⟨t, list⟩ y cx hm hL
  have hm : i_LostCalls t list = some y := hm
  have hL : cx.L = 0 := hL
  unfold i_LostCalls at hm
  refine X_reg_seq ty_ok Γok hL [] .nil (by kernel_rfl) ?_
  refine Ok_seq ?_
  obtain ⟨r, h, hm⟩ := obind hm
  refine X_reg_seq ty_ok Γok hL [(2, .c (i_IsValidRuns_r r) (i_IsValidRuns_n r) (i_IsValidRuns_o (t, list) r))] (.cons (i_IsValidRuns_c h) .nil) (by kernel_rfl) ?_
  refine X_cond (!r) (by kernel_rfl) (fun hc => ?_) (fun hc => ?_)
  · have hm := it hc hm
    refine X_reg_seq ty_ok Γok hL [] .nil (by kernel_rfl) ?_
    obtain rfl := some_inj hm
    refine Ok_ret ?_
    repeat (first | refine thR ?_ | refine ibR ?_)
    exact X_fin [] [[.z 2]] (by kernel_rfl) trivial
  · have hm := ie hc hm
    refine X_skip ?_
    refine thN ?_
    refine X_reg_seq ty_ok Γok hL [] .nil (by kernel_rfl) ?_
    refine Ok_seq ?_
    refine X_reg_seq ty_ok Γok hL [(2, .n (t.Trips.length : Int))] (.cons (len_m Enc.e t.Trips) .nil) (by kernel_rfl) ?_
    obtain ⟨x4, hv3, hk3⟩ := obind hm
    refine X_tail (n := 64) (fun (x4 : List A2_Int) => (⟨[(6, .own 16)], [(16, some (.arr 200 2 (List.map Enc.e x4)))], 48⟩ : X)) x4 ?_ ?_
    · have hm := hv3
      refine Ok_block ?_
      refine X_loop (n := 64) (step := i_LostCalls_L2 t list) (fun ((v, x) : Int × (List A2_Int)) => (⟨[(1, .dat (Enc.e list)), (2, .ref 16 0), (6, .own 32), (16, .dat (Enc.e t.Trips)), (17, .dat (.sc (.int .i64 (t.Trips.length : Int)))), (18, .dat (.sc (.int .i64 v)))], [(16, some (.box [.dat (Enc.e t.Network.Stops), .dat (Enc.e t.Network.Lines), .dat (Enc.e t.Trips)])), (32, some (.arr 200 2 (List.map Enc.e x)))], 64⟩ : X)) hm (Wk_J hL ⟨[(1, []), (2, []), (6, [.o 32]), (16, []), (17, []), (18, [])], [(16, 16, [])], [(32, 200, 2, [])], 64⟩ (by kernel_rfl)) ?_
      rintro ⟨v, x⟩ r0 hm hb
      rw [i_LostCalls_L2] at hm
      refine X_reg_seq ty_ok Γok hL [] .nil (by kernel_rfl) ?_
      refine Ok_seq ?_
      refine X_cond (decide (v < (t.Trips.length : Int))) (by kernel_rfl) (fun hc1 => ?_) (fun hc1 => ?_)
      · have hm := it hc1 hm
        refine X_skip ?_
        refine thN ?_
        refine Ok_seq ?_
        refine Ok_block ?_
        obtain ⟨e, h1, hm⟩ := obind hm
        refine X_reg_seq ty_ok Γok hL [(0, .d (Enc.e e))] (.cons (idx_m (f := Enc.e) h1) .nil) (by kernel_rfl) ?_
        obtain ⟨r1, h2, hm⟩ := obind hm
        refine X_reg_seq ty_ok Γok hL [(3, .c (i_runIndex_r r1) (i_runIndex_n r1) (i_runIndex_o (list, e.Id) r1))] (.cons (i_runIndex_c h2) .nil) (by kernel_rfl) ?_
        obtain ⟨r2, h3, hm⟩ := obind hm
        refine X_reg_seq ty_ok Γok hL [(2, .c (i_lineOf_r r2) (i_lineOf_n r2) (i_lineOf_o (t, e) r2)), (4, .n (r2.Stops.length : Int))] (.cons (i_lineOf_c h3) (.cons (len_m Enc.e r2.Stops) .nil)) (by kernel_rfl) ?_
        obtain ⟨x3, hv2, hk2⟩ := obind hm
        refine X_tail (n := 64) (fun (x3 : List A2_Int) => (⟨[(1, .dat (Enc.e list)), (2, .ref 16 0), (6, .own 32), (16, .dat (Enc.e t.Trips)), (17, .dat (.sc (.int .i64 (t.Trips.length : Int)))), (18, .dat (.sc (.int .i64 v)))], [(16, some (.box [.dat (Enc.e t.Network.Stops), .dat (Enc.e t.Network.Lines), .dat (Enc.e t.Trips)])), (32, some (.arr 200 2 (List.map Enc.e x3)))], 64⟩ : X)) x3 ?_ ?_
        · have hm := hv2
          refine Ok_block ?_
          refine X_loop (n := 64) (step := i_LostCalls_L1 list e r1 r2) (fun ((v1, x1) : Int × (List A2_Int)) => (⟨[(1, .dat (Enc.e list)), (2, .ref 16 0), (6, .own 32), (8, .ref 48 0), (9, .dat (.sc (.int .i64 r1))), (16, .dat (Enc.e t.Trips)), (17, .dat (.sc (.int .i64 (t.Trips.length : Int)))), (18, .dat (.sc (.int .i64 v))), (30, .dat (.sc (.int .i64 (r2.Stops.length : Int)))), (31, .dat (.sc (.int .i64 v1)))], [(16, some (.box [.dat (Enc.e t.Network.Stops), .dat (Enc.e t.Network.Lines), .dat (Enc.e t.Trips)])), (32, some (.arr 200 2 (List.map Enc.e x1))), (48, some (.box [.dat (.sc (.int .i64 e.Id)), .dat (.sc (.int .i64 e.Line)), .dat (.sc (.int .i64 e.Start))]))], 80⟩ : X)) hm (Wk_J hL ⟨[(1, []), (2, []), (6, []), (8, []), (9, []), (16, []), (17, []), (18, []), (30, []), (31, [])], [(16, 16, []), (32, 32, []), (48, 112, [])], [], 80⟩ (by kernel_rfl)) ?_
          rintro ⟨v1, x1⟩ r0 hm hb1
          rw [i_LostCalls_L1] at hm
          refine X_reg_seq ty_ok Γok hL [] .nil (by kernel_rfl) ?_
          refine Ok_seq ?_
          refine X_cond (decide (v1 < (r2.Stops.length : Int))) (by kernel_rfl) (fun hc2 => ?_) (fun hc2 => ?_)
          · have hm := it hc2 hm
            refine X_skip ?_
            refine thN ?_
            obtain ⟨x2, hv, hk⟩ := obind hm
            refine X_join (n := 64) (fun (x2 : List A2_Int) => (⟨[(1, .dat (Enc.e list)), (2, .ref 16 0), (6, .own 32), (8, .ref 48 0), (9, .dat (.sc (.int .i64 r1))), (16, .dat (Enc.e t.Trips)), (17, .dat (.sc (.int .i64 (t.Trips.length : Int)))), (18, .dat (.sc (.int .i64 v))), (30, .dat (.sc (.int .i64 (r2.Stops.length : Int)))), (31, .dat (.sc (.int .i64 v1)))], [(16, some (.box [.dat (Enc.e t.Network.Stops), .dat (Enc.e t.Network.Lines), .dat (Enc.e t.Trips)])), (32, some (.arr 200 2 (List.map Enc.e x2))), (48, some (.box [.dat (.sc (.int .i64 e.Id)), .dat (.sc (.int .i64 e.Line)), .dat (.sc (.int .i64 e.Start))]))], 80⟩ : X)) x2 ?_ ?_
            · have hm := hv
              refine Ok_block ?_
              refine X_reg_seq ty_ok Γok hL [] .nil (by kernel_rfl) ?_
              obtain ⟨v2, hv1, hk1⟩ := obind hm
              refine X_join (n := 64) (fun (v2 : Bool) => (⟨[(1, .dat (Enc.e list)), (2, .ref 16 0), (6, .own 32), (8, .ref 48 0), (9, .dat (.sc (.int .i64 r1))), (10, .dat (.sc (.int .i64 v1))), (16, .dat (Enc.e t.Trips)), (17, .dat (.sc (.int .i64 (t.Trips.length : Int)))), (18, .dat (.sc (.int .i64 v))), (30, .dat (.sc (.int .i64 (r2.Stops.length : Int)))), (31, .dat (.sc (.int .i64 v1))), (53, .dat (.sc (.bool v2)))], [(16, some (.box [.dat (Enc.e t.Network.Stops), .dat (Enc.e t.Network.Lines), .dat (Enc.e t.Trips)])), (32, some (.arr 200 2 (List.map Enc.e x1))), (48, some (.box [.dat (.sc (.int .i64 e.Id)), .dat (.sc (.int .i64 e.Line)), .dat (.sc (.int .i64 e.Start))]))], 80⟩ : X)) v2 ?_ ?_
              · have hm := hv1
                rcases btf (decide (r1 < 0)) with hb2 | hb2
                · have hm := it hb2 hm
                  obtain rfl := some_inj hm
                  refine X_reg ty_ok Γok hL [(2, .b true)] (.cons hb2 .nil) (by kernel_rfl) ?_
                  exact thN (Wk_J hL ⟨[(1, []), (2, []), (6, []), (8, []), (9, []), (10, []), (16, []), (17, []), (18, []), (30, []), (31, []), (53, [])], [(16, 16, []), (32, 32, []), (48, 48, [])], [], 80⟩ (by kernel_rfl))
                · have hm := ie hb2 hm
                  obtain ⟨e1, h4, hm⟩ := obind hm
                  rcases btf (decide (v1 < e1.From)) with hb3 | hb3
                  · have hm := it hb3 hm
                    obtain rfl := some_inj hm
                    refine X_reg ty_ok Γok hL [(2, .b false), (6, .d (Enc.e e1)), (11, .b true)] (.cons hb2 (.cons (idx_m (f := Enc.e) h4) (.cons hb3 .nil))) (by kernel_rfl) ?_
                    exact thN (Wk_J hL ⟨[(1, []), (2, []), (6, []), (8, []), (9, []), (10, []), (16, []), (17, []), (18, []), (30, []), (31, []), (53, [])], [(16, 16, []), (32, 32, []), (48, 48, [])], [], 80⟩ (by kernel_rfl))
                  · have hm := ie hb3 hm
                    obtain ⟨e2, h5, hm⟩ := obind hm
                    obtain rfl := some_inj hm
                    refine X_reg ty_ok Γok hL [(2, .b false), (6, .d (Enc.e e1)), (11, .b false), (15, .d (Enc.e e2))] (.cons hb2 (.cons (idx_m (f := Enc.e) h4) (.cons hb3 (.cons (idx_m (f := Enc.e) h5) .nil)))) (by kernel_rfl) ?_
                    exact thN (Wk_J hL ⟨[(1, []), (2, []), (6, []), (8, []), (9, []), (10, []), (16, []), (17, []), (18, []), (30, []), (31, []), (53, [])], [(16, 16, []), (32, 32, []), (48, 48, [])], [], 80⟩ (by kernel_rfl))
              have hm := hk1
              refine X_cond v2 (by kernel_rfl) (fun hc3 => ?_) (fun hc3 => ?_)
              · have hm := it hc3 hm
                obtain ⟨u, h6, hm⟩ := obind hm
                refine X_reg ty_ok Γok hL [(6, .l (List.map Enc.e (x1 ++ ([(⟨e.Id, v1⟩ : A2_Int)] : List A2_Int))))] (.cons (app_p (f := Enc.e) (g := Enc.e) (l := x1) (r := ([(⟨e.Id, v1⟩ : A2_Int)] : List A2_Int)) (b := 16) (chk_t h6) rfl) (.cons (app_m Enc.e x1 ([(⟨e.Id, v1⟩ : A2_Int)] : List A2_Int)) .nil)) (by kernel_rfl) ?_
                refine ibN ?_
                obtain rfl := some_inj hm
                exact thN (Wk_J hL ⟨[(1, []), (2, []), (6, []), (8, []), (9, []), (16, []), (17, []), (18, []), (30, []), (31, [])], [(16, 16, []), (32, 176, []), (48, 48, [])], [], 80⟩ (by kernel_rfl))
              · have hm := ie hc3 hm
                refine X_skip ?_
                refine ibN ?_
                obtain rfl := some_inj hm
                exact thN (Wk_J hL ⟨[(1, []), (2, []), (6, []), (8, []), (9, []), (16, []), (17, []), (18, []), (30, []), (31, [])], [(16, 16, []), (32, 32, []), (48, 48, [])], [], 80⟩ (by kernel_rfl))
            have hm := hk
            refine X_reg ty_ok Γok hL [] .nil (by kernel_rfl) ?_
            obtain rfl := some_inj hm
            exact thN ⟨_, rfl, Wk_J hL ⟨[(1, []), (2, []), (6, []), (8, []), (9, []), (16, []), (17, []), (18, []), (30, []), (31, [])], [(16, 16, []), (32, 32, []), (48, 48, [])], [], 80⟩ (by kernel_rfl)⟩
          · have hm := ie hc2 hm
            obtain rfl := some_inj hm
            obtain rfl := hb1 _ rfl
            refine Ok_exit ?_
            refine thE ?_
            refine thE ?_
            refine ibE ?_
            exact thN (Wk_J hL ⟨[(1, []), (2, []), (6, []), (16, []), (17, []), (18, [])], [(16, 16, []), (32, 32, [])], [], 64⟩ (by kernel_rfl))
        intro s hw
        have hm := hk2
        refine ibN ?_
        refine thN ?_
        refine Ok_weak hw ?_
        refine X_reg ty_ok Γok hL [] .nil (by kernel_rfl) ?_
        obtain rfl := some_inj hm
        exact thN ⟨_, rfl, Wk_J hL ⟨[(1, []), (2, []), (6, []), (16, []), (17, []), (18, [])], [(16, 16, []), (32, 32, [])], [], 64⟩ (by kernel_rfl)⟩
      · have hm := ie hc1 hm
        obtain rfl := some_inj hm
        obtain rfl := hb _ rfl
        refine Ok_exit ?_
        refine thE ?_
        refine thE ?_
        refine ibE ?_
        exact thN (Wk_J hL ⟨[(6, [])], [(16, 32, [])], [], 48⟩ (by kernel_rfl))
    intro s1 hw1
    have hm := hk3
    refine thN ?_
    refine Ok_weak hw1 ?_
    refine X_reg_seq ty_ok Γok hL [] .nil (by kernel_rfl) ?_
    obtain rfl := some_inj hm
    refine Ok_ret ?_
    repeat (first | refine thR ?_ | refine ibR ?_)
    exact X_fin [] [] (by kernel_rfl) trivial
abbrev v_FnShortened_r (y : Bool) : AV := .dat (Enc.e y)
abbrev v_FnShortened_n (y : Bool) : List Obj' := []
abbrev v_FnShortened_o (x : (List UInt8)) (y : Bool) : List Obj' := []
noncomputable def v_FnShortened_S : FnSpec := modS [.rd] (fun x : (List UInt8) => [Enc.e x]) (fun x : (List UInt8) => []) (fun x : (List UInt8) => v_FnShortened x) v_FnShortened_r v_FnShortened_n v_FnShortened_o
theorem v_FnShortened_c {code : List UInt8} {y : Bool} (h : v_FnShortened code = some y) : CallOK v_FnShortened_S [Enc.e code] [] (v_FnShortened_r y) (v_FnShortened_n y) (v_FnShortened_o code y) :=
  modS_call (by
    rintro a0 b0 h hO
    have q0 : a0 = b0 := Enc.inj _ _ (congrArg (fun l => List.getD l 0 (.sc undef)) h)
    subst q0; rfl) (x := code) h
theorem v_FnShortened_ok : FnOK Try.prog 7 v_FnShortened_S := by
  have Γok : ∀ f S, lookF f [(24, v_vBig_S), (60, s_DrawShortenRun_S), (61, i_ShortenRun_S), (62, s_ShortenRun_S), (63, v_vRuns_S), (64, i_JoinLater_S), (65, s_JoinLater_S), (66, i_RunTimes_S), (67, i_HoldRun_S), (68, i_LostCalls_S)] = some S → FnOK Try.prog f S := lookF_ok (allF_cons v_vBig_ok (allF_cons s_DrawShortenRun_ok (allF_cons i_ShortenRun_ok (allF_cons s_ShortenRun_ok (allF_cons v_vRuns_ok (allF_cons i_JoinLater_ok (allF_cons s_JoinLater_ok (allF_cons i_RunTimes_ok (allF_cons i_HoldRun_ok (allF_cons i_LostCalls_ok allF_nil))))))))))
  have Γlive : Live (fun f => lookF f [(24, v_vBig_S), (60, s_DrawShortenRun_S), (61, i_ShortenRun_S), (62, s_ShortenRun_S), (63, v_vRuns_S), (64, i_JoinLater_S), (65, s_JoinLater_S), (66, i_RunTimes_S), (67, i_HoldRun_S), (68, i_LostCalls_S)]) := lookF_live (allL_cons modS_live (allL_cons modS_live (allL_cons modS_live (allL_cons modS_live (allL_cons modS_live (allL_cons modS_live (allL_cons modS_live (allL_cons modS_live (allL_cons modS_live (allL_cons modS_live allL_nil))))))))))
  refine fnOK_mod ty_ok (fun args w => Try.call7 args w) Try.func7 rfl [.tmp 2] (by rw [Try.results7]) 207 Try.ntmps7 16 rfl (fun _ => by first | exact Nat.zero_le _ | (simp)) ?_
  rintro code y cx hm hL
  have hm : v_FnShortened code = some y := hm
  have hL : cx.L = 0 := hL
  unfold v_FnShortened at hm
  refine X_reg_seq ty_ok Γok hL [] .nil (by kernel_rfl) ?_
  refine Ok_seq ?_
  obtain ⟨r, h, hm⟩ := obind hm
  refine X_reg_seq ty_ok Γok hL [(1, .c (v_vBig_r r) (v_vBig_n r) (v_vBig_o code r))] (.cons (v_vBig_c h) .nil) (by kernel_rfl) ?_
  refine X_cond r (by kernel_rfl) (fun hc => ?_) (fun hc => ?_)
  · have hm := it hc hm
    refine X_reg_seq ty_ok Γok hL [] .nil (by kernel_rfl) ?_
    obtain rfl := some_inj hm
    refine Ok_ret ?_
    repeat (first | refine thR ?_ | refine ibR ?_)
    exact X_fin [] [] (by kernel_rfl) trivial
  · have hm := ie hc hm
    refine X_skip ?_
    refine thN ?_
    obtain ⟨r1, h1, hm⟩ := obind hm
    refine X_reg_seq ty_ok Γok hL [(1, .c (s_DrawShortenRun_r r1) (s_DrawShortenRun_n r1) (s_DrawShortenRun_o code r1))] (.cons (s_DrawShortenRun_c h1) .nil) (by kernel_rfl) ?_
    obtain ⟨r2, h2, hm⟩ := obind hm
    refine X_reg_seq ty_ok Γok hL [(4, .fz [80] [] []), (4, .c (i_ShortenRun_r r2) (i_ShortenRun_n r2) (i_ShortenRun_o (r1.1, r1.2.1, r1.2.2.1, r1.2.2.2) r2))] (.cons (i_ShortenRun_c h2) .nil) (by kernel_rfl) ?_
    refine Ok_seq ?_
    obtain ⟨r3, h3, hm⟩ := obind hm
    refine X_reg_seq ty_ok Γok hL [(4, .c (s_ShortenRun_r r3) (s_ShortenRun_n r3) (s_ShortenRun_o (r1.1, r1.2.1, r1.2.2.1, r1.2.2.2) r3))] (.cons (s_ShortenRun_c h3) .nil) (by kernel_rfl) ?_
    obtain ⟨v, hv, hk⟩ := obind hm
    refine X_join (n := 207) (fun (v : Bool) => (⟨[(3, .ref 16 0), (4, .dat (Enc.e r1.2.1)), (5, .dat (.sc (.int .i64 r1.2.2.1))), (6, .dat (.sc (.int .i64 r1.2.2.2))), (7, .dat (Enc.e r2.1)), (8, .dat (.sc (.bool r2.2))), (60, .dat (.sc (.bool v)))], [(16, some (.box [.dat (Enc.e r1.1.Network.Stops), .dat (Enc.e r1.1.Network.Lines), .dat (Enc.e r1.1.Trips)]))], 48⟩ : X)) v ?_ ?_
    · have hm := hv
      rcases btf (!(r2.2 == r3.2)) with hb | hb
      · have hm := it hb hm
        obtain rfl := some_inj hm
        refine X_reg ty_ok Γok hL [(3, .b true)] (.cons hb .nil) (by kernel_rfl) ?_
        exact thN (Wk_J hL ⟨[(3, []), (4, []), (5, []), (6, []), (7, []), (8, []), (60, [])], [(16, 176, [])], [], 48⟩ (by kernel_rfl))
      · have hm := ie hb hm
        obtain ⟨r4, h4, hm⟩ := obind hm
        obtain rfl := some_inj hm
        refine X_reg ty_ok Γok hL [(3, .b false), (6, .c (v_vRuns_r r4) (v_vRuns_n r4) (v_vRuns_o (r2.1, r3.1) r4))] (.cons hb (.cons (v_vRuns_c h4) .nil)) (by kernel_rfl) ?_
        exact thN (Wk_J hL ⟨[(3, []), (4, []), (5, []), (6, []), (7, []), (8, []), (60, [])], [(16, 176, [])], [], 48⟩ (by kernel_rfl))
    have hm := hk
    refine X_cond v (by kernel_rfl) (fun hc1 => ?_) (fun hc1 => ?_)
    · have hm := it hc1 hm
      refine X_reg_seq ty_ok Γok hL [] .nil (by kernel_rfl) ?_
      obtain rfl := some_inj hm
      refine Ok_ret ?_
      repeat (first | refine thR ?_ | refine ibR ?_)
      exact X_fin [] [] (by kernel_rfl) trivial
    · have hm := ie hc1 hm
      refine X_skip ?_
      refine thN ?_
      obtain ⟨r5, h5, hm⟩ := obind hm
      refine X_reg_seq ty_ok Γok hL [(4, .c (i_JoinLater_r r5) (i_JoinLater_n r5) (i_JoinLater_o (r1.1, r1.2.1, r1.2.2.1, r1.2.2.2) r5))] (.cons (i_JoinLater_c h5) .nil) (by kernel_rfl) ?_
      refine Ok_seq ?_
      obtain ⟨r6, h6, hm⟩ := obind hm
      refine X_reg_seq ty_ok Γok hL [(4, .c (s_JoinLater_r r6) (s_JoinLater_n r6) (s_JoinLater_o (r1.1, r1.2.1, r1.2.2.1, r1.2.2.2) r6))] (.cons (s_JoinLater_c h6) .nil) (by kernel_rfl) ?_
      obtain ⟨v1, hv1, hk1⟩ := obind hm
      refine X_join (n := 207) (fun (v1 : Bool) => (⟨[(3, .ref 16 0), (4, .dat (Enc.e r1.2.1)), (5, .dat (.sc (.int .i64 r1.2.2.1))), (7, .dat (Enc.e r2.1)), (8, .dat (.sc (.bool r2.2))), (11, .dat (Enc.e r5.1)), (90, .dat (.sc (.bool v1)))], [(16, some (.box [.dat (Enc.e r1.1.Network.Stops), .dat (Enc.e r1.1.Network.Lines), .dat (Enc.e r1.1.Trips)]))], 48⟩ : X)) v1 ?_ ?_
      · have hm := hv1
        rcases btf (!(r5.2 == r6.2)) with hb1 | hb1
        · have hm := it hb1 hm
          obtain rfl := some_inj hm
          refine X_reg ty_ok Γok hL [(3, .b true)] (.cons hb1 .nil) (by kernel_rfl) ?_
          exact thN (Wk_J hL ⟨[(3, []), (4, []), (5, []), (7, []), (8, []), (11, []), (90, [])], [(16, 16, [])], [], 48⟩ (by kernel_rfl))
        · have hm := ie hb1 hm
          obtain ⟨r7, h7, hm⟩ := obind hm
          rcases btf (!r7) with hb2 | hb2
          · have hm := it hb2 hm
            obtain rfl := some_inj hm
            refine X_reg ty_ok Γok hL [(3, .b false), (6, .c (v_vRuns_r r7) (v_vRuns_n r7) (v_vRuns_o (r5.1, r6.1) r7)), (9, .b true)] (.cons hb1 (.cons (v_vRuns_c h7) (.cons hb2 .nil))) (by kernel_rfl) ?_
            exact thN (Wk_J hL ⟨[(3, []), (4, []), (5, []), (7, []), (8, []), (11, []), (90, [])], [(16, 16, [])], [], 48⟩ (by kernel_rfl))
          · have hm := ie hb2 hm
            obtain rfl := some_inj hm
            refine X_reg ty_ok Γok hL [(3, .b false), (6, .c (v_vRuns_r r7) (v_vRuns_n r7) (v_vRuns_o (r5.1, r6.1) r7)), (9, .b false)] (.cons hb1 (.cons (v_vRuns_c h7) (.cons hb2 .nil))) (by kernel_rfl) ?_
            exact thN (Wk_J hL ⟨[(3, []), (4, []), (5, []), (7, []), (8, []), (11, []), (90, [])], [(16, 16, [])], [], 48⟩ (by kernel_rfl))
      have hm := hk1
      refine X_cond v1 (by kernel_rfl) (fun hc2 => ?_) (fun hc2 => ?_)
      · have hm := it hc2 hm
        refine X_reg_seq ty_ok Γok hL [] .nil (by kernel_rfl) ?_
        obtain rfl := some_inj hm
        refine Ok_ret ?_
        repeat (first | refine thR ?_ | refine ibR ?_)
        exact X_fin [] [] (by kernel_rfl) trivial
      · have hm := ie hc2 hm
        refine X_skip ?_
        refine thN ?_
        refine Ok_seq ?_
        refine X_reg_seq ty_ok Γok hL [] .nil (by kernel_rfl) ?_
        refine X_cond (!r2.2) (by kernel_rfl) (fun hc3 => ?_) (fun hc3 => ?_)
        · have hm := it hc3 hm
          refine X_reg_seq ty_ok Γok hL [(1, .n (r2.1.length : Int))] (.cons (len_m Enc.e r2.1) .nil) (by kernel_rfl) ?_
          obtain rfl := some_inj hm
          refine Ok_ret ?_
          repeat (first | refine thR ?_ | refine ibR ?_)
          exact X_fin [] [] (by kernel_rfl) trivial
        · have hm := ie hc3 hm
          refine X_skip ?_
          refine thN ?_
          obtain ⟨r8, h8, hm⟩ := obind hm
          refine X_reg_seq ty_ok Γok hL [(3, .c (i_RunTimes_r r8) (i_RunTimes_n r8) (i_RunTimes_o (r1.1, r1.2.1, r1.2.2.1) r8))] (.cons (i_RunTimes_c h8) .nil) (by kernel_rfl) ?_
          obtain ⟨r9, h9, hm⟩ := obind hm
          refine X_reg_seq ty_ok Γok hL [(3, .c (i_RunTimes_r r9) (i_RunTimes_n r9) (i_RunTimes_o (r1.1, r2.1, r1.2.2.1) r9))] (.cons (i_RunTimes_c h9) .nil) (by kernel_rfl) ?_
          obtain ⟨r10, h10, hm⟩ := obind hm
          refine X_reg_seq ty_ok Γok hL [(3, .c (i_RunTimes_r r10) (i_RunTimes_n r10) (i_RunTimes_o (r1.1, r5.1, r1.2.2.1) r10))] (.cons (i_RunTimes_c h10) .nil) (by kernel_rfl) ?_
          obtain ⟨r11, h11, hm⟩ := obind hm
          refine X_reg_seq ty_ok Γok hL [(3, .c (i_HoldRun_r r11) (i_HoldRun_n r11) (i_HoldRun_o (r1.1, r1.2.1, r1.2.2.1, 1) r11))] (.cons (i_HoldRun_c h11) .nil) (by kernel_rfl) ?_
          obtain ⟨r12, h12, hm⟩ := obind hm
          refine X_reg_seq ty_ok Γok hL [(2, .c (i_LostCalls_r r12) (i_LostCalls_n r12) (i_LostCalls_o (r1.1, r1.2.1) r12))] (.cons (i_LostCalls_c h12) .nil) (by kernel_rfl) ?_
          obtain ⟨r13, h13, hm⟩ := obind hm
          refine X_reg_seq ty_ok Γok hL [(2, .c (i_LostCalls_r r13) (i_LostCalls_n r13) (i_LostCalls_o (r1.1, r11.1) r13))] (.cons (i_LostCalls_c h13) .nil) (by kernel_rfl) ?_
          refine Ok_seq ?_
          obtain ⟨v2, hv2, hk2⟩ := obind hm
          refine X_join (n := 207) (fun (v2 : Bool) => (⟨[(15, .dat (Enc.e r8.1)), (17, .dat (Enc.e r9.1)), (19, .dat (Enc.e r10.1)), (163, .dat (.sc (.bool v2)))], [], 32⟩ : X)) v2 ?_ ?_
          · have hm := hv2
            rcases btf (!r8.2) with hb3 | hb3
            · have hm := it hb3 hm
              obtain rfl := some_inj hm
              refine X_reg ty_ok Γok hL [(2, .b true)] (.cons hb3 .nil) (by kernel_rfl) ?_
              exact thN (Wk_J hL ⟨[(15, []), (17, []), (19, []), (163, [])], [], [], 32⟩ (by kernel_rfl))
            · have hm := ie hb3 hm
              rcases btf (!r9.2) with hb4 | hb4
              · have hm := it hb4 hm
                obtain rfl := some_inj hm
                refine X_reg ty_ok Γok hL [(2, .b false), (6, .b true)] (.cons hb3 (.cons hb4 .nil)) (by kernel_rfl) ?_
                exact thN (Wk_J hL ⟨[(15, []), (17, []), (19, []), (163, [])], [], [], 32⟩ (by kernel_rfl))
              · have hm := ie hb4 hm
                rcases btf (!r10.2) with hb5 | hb5
                · have hm := it hb5 hm
                  obtain rfl := some_inj hm
                  refine X_reg ty_ok Γok hL [(2, .b false), (6, .b false), (10, .b true)] (.cons hb3 (.cons hb4 (.cons hb5 .nil))) (by kernel_rfl) ?_
                  exact thN (Wk_J hL ⟨[(15, []), (17, []), (19, []), (163, [])], [], [], 32⟩ (by kernel_rfl))
                · have hm := ie hb5 hm
                  rcases btf (!r12.2) with hb6 | hb6
                  · have hm := it hb6 hm
                    obtain rfl := some_inj hm
                    refine X_reg ty_ok Γok hL [(2, .b false), (6, .b false), (10, .b false), (14, .b true)] (.cons hb3 (.cons hb4 (.cons hb5 (.cons hb6 .nil)))) (by kernel_rfl) ?_
                    exact thN (Wk_J hL ⟨[(15, []), (17, []), (19, []), (163, [])], [], [], 32⟩ (by kernel_rfl))
                  · have hm := ie hb6 hm
                    rcases btf r11.2 with hb7 | hb7
                    · have hm := it hb7 hm
                      rcases btf (!r13.2) with hb8 | hb8
                      · have hm := it hb8 hm
                        obtain rfl := some_inj hm
                        refine X_reg ty_ok Γok hL [(2, .b false), (6, .b false), (10, .b false), (14, .b false), (16, .b true), (19, .b true)] (.cons hb3 (.cons hb4 (.cons hb5 (.cons hb6 (.cons hb7 (.cons hb8 .nil)))))) (by kernel_rfl) ?_
                        exact thN (Wk_J hL ⟨[(15, []), (17, []), (19, []), (163, [])], [], [], 32⟩ (by kernel_rfl))
                      · have hm := ie hb8 hm
                        obtain rfl := some_inj hm
                        refine X_reg ty_ok Γok hL [(2, .b false), (6, .b false), (10, .b false), (14, .b false), (16, .b true), (19, .b false), (21, .n (r13.1.length : Int)), (23, .n (r12.1.length : Int))] (.cons hb3 (.cons hb4 (.cons hb5 (.cons hb6 (.cons hb7 (.cons hb8 (.cons (len_m Enc.e r13.1) (.cons (len_m Enc.e r12.1) .nil)))))))) (by kernel_rfl) ?_
                        exact thN (Wk_J hL ⟨[(15, []), (17, []), (19, []), (163, [])], [], [], 32⟩ (by kernel_rfl))
                    · have hm := ie hb7 hm
                      obtain rfl := some_inj hm
                      refine X_reg ty_ok Γok hL [(2, .b false), (6, .b false), (10, .b false), (14, .b false), (16, .b false)] (.cons hb3 (.cons hb4 (.cons hb5 (.cons hb6 (.cons hb7 .nil))))) (by kernel_rfl) ?_
                      exact thN (Wk_J hL ⟨[(15, []), (17, []), (19, []), (163, [])], [], [], 32⟩ (by kernel_rfl))
          have hm := hk2
          refine X_cond v2 (by kernel_rfl) (fun hc4 => ?_) (fun hc4 => ?_)
          · have hm := it hc4 hm
            refine X_reg_seq ty_ok Γok hL [] .nil (by kernel_rfl) ?_
            obtain rfl := some_inj hm
            refine Ok_ret ?_
            repeat (first | refine thR ?_ | refine ibR ?_)
            exact X_fin [] [] (by kernel_rfl) trivial
          · have hm := ie hc4 hm
            refine X_skip ?_
            refine thN ?_
            obtain ⟨t, hv3, hk3⟩ := obind hm
            refine X_join (n := 207) (fun (t : Bool) => (⟨[(2, .dat (.sc (.bool t)))], [], 32⟩ : X)) t ?_ ?_
            · have hm := hv3
              rcases btf ((w64 ((r9.1.length : Int) + (r10.1.length : Int))) == (w64 ((r8.1.length : Int) + 1))) with hb9 | hb9
              · have hm := it hb9 hm
                rcases btf (decide (1 < (r9.1.length : Int))) with hb10 | hb10
                · have hm := it hb10 hm
                  rcases btf (decide (1 < (r10.1.length : Int))) with hb11 | hb11
                  · have hm := it hb11 hm
                    obtain ⟨e4, h18, hm⟩ := obind hm
                    obtain ⟨e5, h19, hm⟩ := obind hm
                    rcases btf (e4 == e5) with hb12 | hb12
                    · have hm := it hb12 hm
                      obtain ⟨e6, h20, hm⟩ := obind hm
                      obtain ⟨e7, h21, hm⟩ := obind hm
                      obtain rfl := some_inj hm
                      refine X_draw mixed ty_ok Γok Γlive [] (by kernel_rfl) [(1, .n (r9.1.length : Int)), (3, .n (r10.1.length : Int)), (6, .n (r8.1.length : Int)), (9, .b true), (11, .n (r9.1.length : Int)), (14, .b true), (16, .n (r10.1.length : Int)), (19, .b true), (21, .d (Enc.e e4)), (24, .d (Enc.e e5)), (28, .b true), (31, .n (r8.1.length : Int)), (33, .d (Enc.e e6)), (37, .n (r10.1.length : Int)), (39, .d (Enc.e e7))] (.cons (len_m Enc.e r9.1) (.cons (len_m Enc.e r10.1) (.cons (len_m Enc.e r8.1) (.cons hb9 (.cons (len_m Enc.e r9.1) (.cons hb10 (.cons (len_m Enc.e r10.1) (.cons hb11 (.cons (idx_m (f := Enc.e) h18) (.cons (idx_m (f := Enc.e) h19) (.cons hb12 (.cons (len_m Enc.e r8.1) (.cons (idx_m (f := Enc.e) h20) (.cons (len_m Enc.e r10.1) (.cons (idx_m (f := Enc.e) h21) .nil))))))))))))))) (by kernel_rfl) ?_
                      exact thN (Wk_J hL ⟨[(2, [])], [], [], 32⟩ (by kernel_rfl))
                    · have hm := ie hb12 hm
                      obtain rfl := some_inj hm
                      refine X_draw mixed ty_ok Γok Γlive [] (by kernel_rfl) [(1, .n (r9.1.length : Int)), (3, .n (r10.1.length : Int)), (6, .n (r8.1.length : Int)), (9, .b true), (11, .n (r9.1.length : Int)), (14, .b true), (16, .n (r10.1.length : Int)), (19, .b true), (21, .d (Enc.e e4)), (24, .d (Enc.e e5)), (28, .b false)] (.cons (len_m Enc.e r9.1) (.cons (len_m Enc.e r10.1) (.cons (len_m Enc.e r8.1) (.cons hb9 (.cons (len_m Enc.e r9.1) (.cons hb10 (.cons (len_m Enc.e r10.1) (.cons hb11 (.cons (idx_m (f := Enc.e) h18) (.cons (idx_m (f := Enc.e) h19) (.cons hb12 .nil))))))))))) (by kernel_rfl) ?_
                      exact thN (Wk_J hL ⟨[(2, [])], [], [], 32⟩ (by kernel_rfl))
                  · have hm := ie hb11 hm
                    obtain rfl := some_inj hm
                    refine X_draw mixed ty_ok Γok Γlive [] (by kernel_rfl) [(1, .n (r9.1.length : Int)), (3, .n (r10.1.length : Int)), (6, .n (r8.1.length : Int)), (9, .b true), (11, .n (r9.1.length : Int)), (14, .b true), (16, .n (r10.1.length : Int)), (19, .b false)] (.cons (len_m Enc.e r9.1) (.cons (len_m Enc.e r10.1) (.cons (len_m Enc.e r8.1) (.cons hb9 (.cons (len_m Enc.e r9.1) (.cons hb10 (.cons (len_m Enc.e r10.1) (.cons hb11 .nil)))))))) (by kernel_rfl) ?_
                    exact thN (Wk_J hL ⟨[(2, [])], [], [], 32⟩ (by kernel_rfl))
                · have hm := ie hb10 hm
                  obtain rfl := some_inj hm
                  refine X_draw mixed ty_ok Γok Γlive [] (by kernel_rfl) [(1, .n (r9.1.length : Int)), (3, .n (r10.1.length : Int)), (6, .n (r8.1.length : Int)), (9, .b true), (11, .n (r9.1.length : Int)), (14, .b false)] (.cons (len_m Enc.e r9.1) (.cons (len_m Enc.e r10.1) (.cons (len_m Enc.e r8.1) (.cons hb9 (.cons (len_m Enc.e r9.1) (.cons hb10 .nil)))))) (by kernel_rfl) ?_
                  exact thN (Wk_J hL ⟨[(2, [])], [], [], 32⟩ (by kernel_rfl))
              · have hm := ie hb9 hm
                obtain rfl := some_inj hm
                refine X_draw mixed ty_ok Γok Γlive [] (by kernel_rfl) [(1, .n (r9.1.length : Int)), (3, .n (r10.1.length : Int)), (6, .n (r8.1.length : Int)), (9, .b false)] (.cons (len_m Enc.e r9.1) (.cons (len_m Enc.e r10.1) (.cons (len_m Enc.e r8.1) (.cons hb9 .nil)))) (by kernel_rfl) ?_
                exact thN (Wk_J hL ⟨[(2, [])], [], [], 32⟩ (by kernel_rfl))
            have hm := hk3
            obtain rfl := some_inj hm
            refine Ok_ret ?_
            repeat (first | refine thR ?_ | refine ibR ?_)
            exact X_fin [] [] (by kernel_rfl) trivial
end Go.Proofs.Ytepdapiceklppaa
