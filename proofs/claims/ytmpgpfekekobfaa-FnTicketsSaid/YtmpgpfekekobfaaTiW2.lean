/- Each function computes what its model says. Made by program (dec.py). -/
import Derived.Test.YtmpgpfekekobfaaTiW1
namespace Go.Proofs.Ytmpgpfekekobfaa
open Go Go.Ab
set_option maxRecDepth 100000
set_option maxHeartbeats 4000000
set_option linter.unusedVariables false
set_option linter.unusedSimpArgs false
abbrev v_rSum_r (y : Int) : AV := .dat (Enc.e y)
abbrev v_rSum_n (y : Int) : List Obj' := []
abbrev v_rSum_o (x : (List Int)) (y : Int) : List Obj' := []
noncomputable def v_rSum_S : FnSpec := modS [none] (fun x : (List Int) => [Enc.e x]) (fun x : (List Int) => []) (fun x : (List Int) => v_rSum x) v_rSum_r v_rSum_n v_rSum_o
theorem v_rSum_c {list : List Int} {y : Int} (h : v_rSum list = some y) : CallOK v_rSum_S [Enc.e list] [] (v_rSum_r y) (v_rSum_n y) (v_rSum_o list y) :=
  modS_call (by
    rintro a0 b0 h h2
    simp only [List.cons.injEq, and_true] at h
    try simp only [List.cons.injEq, and_true, Obj'.box.injEq, Obj'.arr.injEq, true_and, AV.dat.injEq] at h2
    have h0 := h
    have q0 := Enc.inj _ _ h0
    subst q0; rfl) (x := list) h
theorem v_rSum_ok : FnOK Try.prog 25 v_rSum_S := by
  have Γok : ∀ f S, lookF f [] = some S → FnOK Try.prog f S := lookF_ok allF_nil
  have Γlive : Live (fun f => lookF f []) := lookF_live allL_nil
  refine fnOK_mod ty_ok (fun args w => Try.call25 args w) Try.func25 rfl [.tmp 2] (by rw [Try.results25]) 18 Try.ntmps25 16 rfl (fun _ => by first | exact Nat.zero_le _ | (simp)) (fun _ => rfl) ?_
  rintro list y cx hm hL
  have hm : v_rSum list = some y := hm
  have hL : cx.L = 0 := hL
  unfold v_rSum at hm
  refine X_reg_seq ty_ok Γok hL [] .nil (by kernel_rfl) ?_
  refine X_reg_seq ty_ok Γok hL [] .nil (by kernel_rfl) ?_
  refine Ok_seq ?_
  refine X_reg_seq ty_ok Γok hL [] .nil (by kernel_rfl) ?_
  obtain ⟨i1, hv, hk⟩ := obind hm
  refine X_tail (n := 18) (fun (i1 : Int) => (⟨[(3, .dat (.sc (.int .i64 i1)))], [], 32⟩ : X)) i1 ?_ ?_
  · have hm := hv
    refine Ok_block ?_
    refine X_loop (n := 18) (step := v_rSum_L1 list) (fun ((i, v) : Int × Int) => (⟨[(0, .dat (Enc.e list)), (3, .dat (.sc (.int .i64 i))), (4, .dat (.sc (.int .i64 v)))], [], 32⟩ : X)) hm (Wk_J hL ⟨[(0, []), (3, []), (4, [])], [], [], 32⟩ (by kernel_rfl)) ?_
    rintro ⟨i, v⟩ r0 hm hb
    rw [v_rSum_L1] at hm
    refine Ok_seq ?_
    refine X_reg_seq ty_ok Γok hL [(2, .n (list.length : Int))] (.cons (len_m Enc.e list) .nil) (by kernel_rfl) ?_
    refine X_cond (decide (v < (list.length : Int))) (by kernel_rfl) (fun hc => ?_) (fun hc => ?_)
    · have hm := it hc hm
      refine X_skip ?_
      refine thN ?_
      refine Ok_seq ?_
      refine Ok_block ?_
      obtain ⟨e, h, hm⟩ := obind hm
      refine X_reg ty_ok Γok hL [(3, .d (Enc.e e))] (.cons (idx_m (f := Enc.e) h) .nil) (by kernel_rfl) ?_
      refine ibN ?_
      refine thN ?_
      refine X_reg ty_ok Γok hL [] .nil (by kernel_rfl) ?_
      obtain rfl := some_inj hm
      exact thN ⟨_, rfl, Wk_J hL ⟨[(0, []), (3, []), (4, [])], [], [], 32⟩ (by kernel_rfl)⟩
    · have hm := ie hc hm
      obtain rfl := some_inj hm
      obtain rfl := hb _ rfl
      refine Ok_exit ?_
      refine thE ?_
      refine thE ?_
      refine ibE ?_
      exact thN (Wk_J hL ⟨[(3, [])], [], [], 32⟩ (by kernel_rfl))
  intro s hw
  have hm := hk
  refine thN ?_
  refine Ok_weak hw ?_
  refine X_reg_seq ty_ok Γok hL [] .nil (by kernel_rfl) ?_
  obtain rfl := some_inj hm
  refine Ok_ret ?_
  repeat (first | refine thR ?_ | refine ibR ?_)
  exact X_fin [] [] (by kernel_rfl) trivial
abbrev s_DrawFreeTransfers_r (y : (List Ride) × Int) : AV := .tup [.own 0, .dat (Enc.e y.2)]
abbrev s_DrawFreeTransfers_n (y : (List Ride) × Int) : List Obj' := [.arr 56 3 (List.map Enc.e y.1)]
abbrev s_DrawFreeTransfers_o (x : (List UInt8)) (y : (List Ride) × Int) : List Obj' := []
noncomputable def s_DrawFreeTransfers_S : FnSpec := modS [none] (fun x : (List UInt8) => [Enc.e x]) (fun x : (List UInt8) => []) (fun x : (List UInt8) => s_DrawFreeTransfers x) s_DrawFreeTransfers_r s_DrawFreeTransfers_n s_DrawFreeTransfers_o
theorem s_DrawFreeTransfers_c {code : List UInt8} {y : (List Ride) × Int} (h : s_DrawFreeTransfers code = some y) : CallOK s_DrawFreeTransfers_S [Enc.e code] [] (s_DrawFreeTransfers_r y) (s_DrawFreeTransfers_n y) (s_DrawFreeTransfers_o code y) :=
  modS_call (by
    rintro a0 b0 h h2
    simp only [List.cons.injEq, and_true] at h
    try simp only [List.cons.injEq, and_true, Obj'.box.injEq, Obj'.arr.injEq, true_and, AV.dat.injEq] at h2
    have h0 := h
    have q0 := Enc.inj _ _ h0
    subst q0; rfl) (x := code) h
theorem s_DrawFreeTransfers_ok : FnOK Try.prog 26 s_DrawFreeTransfers_S := by
  have Γok : ∀ f S, lookF f [(74, s_l1Cur_rides_S), (55, s_l1Cur_pick_S), (54, s_l1Cur_among_S)] = some S → FnOK Try.prog f S := lookF_ok (allF_cons s_l1Cur_rides_ok (allF_cons s_l1Cur_pick_ok (allF_cons s_l1Cur_among_ok allF_nil)))
  have Γlive : Live (fun f => lookF f [(74, s_l1Cur_rides_S), (55, s_l1Cur_pick_S), (54, s_l1Cur_among_S)]) := lookF_live (allL_cons modS_live (allL_cons modS_live (allL_cons modS_live allL_nil)))
  refine fnOK_mod ty_ok (fun args w => Try.call26 args w) Try.func26 rfl [.tmp 2, .tmp 3] (by rw [Try.results26]) 20 Try.ntmps26 16 rfl (fun _ => by first | exact Nat.zero_le _ | (simp)) (fun _ => rfl) ?_
  rintro code y cx hm hL
  have hm : s_DrawFreeTransfers code = some y := hm
  have hL : cx.L = 0 := hL
  unfold s_DrawFreeTransfers at hm
  refine X_reg_seq ty_ok Γok hL [] .nil (by kernel_rfl) ?_
  refine X_reg_seq ty_ok Γok hL [] .nil (by kernel_rfl) ?_
  obtain ⟨r, h, hm⟩ := obind hm
  refine X_reg_seq ty_ok Γok hL [(1, .c (s_l1Cur_rides_r r) (s_l1Cur_rides_n r) (s_l1Cur_rides_o (⟨code, 0, (⟨0⟩ : IK .u64)⟩ : l1Cur) r))] (.cons (s_l1Cur_rides_c h) .nil) (by kernel_rfl) ?_
  obtain ⟨r1, h1, hm⟩ := obind hm
  obtain ⟨u, h2, hm⟩ := obind hm
  obtain ⟨u1, h3, hm⟩ := obind hm
  obtain ⟨r2, h4, hm⟩ := obind hm
  refine X_reg_seq ty_ok Γok hL [(4, .c (s_l1Cur_pick_r r1) (s_l1Cur_pick_n r1) (s_l1Cur_pick_o (r.2, 24) r1)), (7, .fz [192] []), (7, .l (List.map Enc.e ((([0, 30, 60, 90, 1799, (-1), 1800] : List Int).take (w64 (5 + (w64 (r1.1.tdiv 11)))).toNat).drop (0 : Int).toNat))), (8, .c (s_l1Cur_among_r r2) (s_l1Cur_among_n r2) (s_l1Cur_among_o (r1.2, ((([0, 30, 60, 90, 1799, (-1), 1800] : List Int).take (w64 (5 + (w64 (r1.1.tdiv 11)))).toNat).drop (0 : Int).toNat)) r2))] (.cons (s_l1Cur_pick_c h1) (.cons (chk_t h2) (.cons (cut_p (f := Enc.e) (l := ([0, 30, 60, 90, 1799, (-1), 1800] : List Int)) (lo := 0) (hi := (w64 (5 + (w64 (r1.1.tdiv 11))))) (chk_t h3)) (.cons (cut_m Enc.e ([0, 30, 60, 90, 1799, (-1), 1800] : List Int) (0 : Int).toNat (w64 (5 + (w64 (r1.1.tdiv 11)))).toNat) (.cons (s_l1Cur_among_c h4) .nil))))) (by kernel_rfl) ?_
  obtain rfl := some_inj hm
  refine Ok_ret ?_
  repeat (first | refine thR ?_ | refine ibR ?_)
  exact X_fin [128] [] (by kernel_rfl) trivial
abbrev slices_Clone_Ride_r (y : (List Ride)) : AV := .own 0
abbrev slices_Clone_Ride_n (y : (List Ride)) : List Obj' := [.arr 56 3 (List.map Enc.e y)]
abbrev slices_Clone_Ride_o (x : (List Ride)) (y : (List Ride)) : List Obj' := []
noncomputable def slices_Clone_Ride_S : FnSpec := modS [none] (fun x : (List Ride) => [Enc.e x]) (fun x : (List Ride) => []) (fun x : (List Ride) => slices_Clone_Ride x) slices_Clone_Ride_r slices_Clone_Ride_n slices_Clone_Ride_o
theorem slices_Clone_Ride_c {s : List Ride} {y : (List Ride)} (h : slices_Clone_Ride s = some y) : CallOK slices_Clone_Ride_S [Enc.e s] [] (slices_Clone_Ride_r y) (slices_Clone_Ride_n y) (slices_Clone_Ride_o s y) :=
  modS_call (by
    rintro a0 b0 h h2
    simp only [List.cons.injEq, and_true] at h
    try simp only [List.cons.injEq, and_true, Obj'.box.injEq, Obj'.arr.injEq, true_and, AV.dat.injEq] at h2
    have h0 := h
    have q0 := Enc.inj _ _ h0
    subst q0; rfl) (x := s) h
theorem slices_Clone_Ride_ok : FnOK Try.prog 76 slices_Clone_Ride_S := by
  have Γok : ∀ f S, lookF f [] = some S → FnOK Try.prog f S := lookF_ok allF_nil
  have Γlive : Live (fun f => lookF f []) := lookF_live allL_nil
  refine fnOK_mod ty_ok (fun args w => Try.call76 args w) Try.func76 rfl [.tmp 2] (by rw [Try.results76]) 8 Try.ntmps76 16 rfl (fun _ => by first | exact Nat.zero_le _ | (simp)) (fun _ => rfl) ?_
  rintro s y cx hm hL
  have hm : slices_Clone_Ride s = some y := hm
  have hL : cx.L = 0 := hL
  unfold slices_Clone_Ride at hm
  obtain ⟨u, h, hm⟩ := obind hm
  obtain rfl := some_inj hm
  refine X_reg_seq ty_ok Γok hL [] .nil (by kernel_rfl) ?_
  refine Ok_seq ?_
  refine X_nil_seq ty_ok Γok 1 (ds := List.map Enc.e s) (es := 3) [] .nil (by kernel_rfl) (by rfl) (by rfl) (by kernel_rfl) ?_
  intro b hb
  refine X_cond b (by kernel_rfl) (fun hc => ?_) (fun hc => ?_)
  · have hl : s = [] := by
      cases s with
      | nil => rfl
      | cons a r => have := hb (by simp); rw [hc] at this; cases this
    subst hl
    refine X_reg_seq ty_ok Γok hL [] .nil (by kernel_rfl) ?_
    refine Ok_weak (Wk_J (x' := ⟨[(2, .own 16)], [(16, some (.arr 56 3 []))], 32⟩) hL ⟨[(2, [.o 16])], [], [(16, 56, 3)], 32⟩ (by kernel_rfl)) ?_
    refine Ok_ret ?_
    repeat (first | refine thR ?_ | refine ibR ?_)
    exact X_fin [16] [] (by kernel_rfl) trivial
  · refine X_skip ?_
    refine thN ?_
    refine X_reg_seq ty_ok Γok hL [(2, .l (List.map Enc.e (([] : List Ride) ++ s)))] (.cons (app_p (f := Enc.e) (g := Enc.e) (l := ([] : List Ride)) (r := s) (b := 24) (chk_t h) rfl) (.cons (app_m Enc.e ([] : List Ride) s) .nil)) (by kernel_rfl) ?_
    refine Ok_ret ?_
    repeat (first | refine thR ?_ | refine ibR ?_)
    exact X_fin [96] [] (by kernel_rfl) trivial
abbrev i_FreeTransfers_r (y : (List Ride) × Bool) : AV := .tup [.dat (Enc.e y.1), .dat (Enc.e y.2)]
abbrev i_FreeTransfers_n (y : (List Ride) × Bool) : List Obj' := []
abbrev i_FreeTransfers_o (x : (List Ride) × Int) (y : (List Ride) × Bool) : List Obj' := []
noncomputable def i_FreeTransfers_S : FnSpec := modS [none, none] (fun x : (List Ride) × Int => [Enc.e x.1, Enc.e x.2]) (fun x : (List Ride) × Int => []) (fun x : (List Ride) × Int => i_FreeTransfers x.1 x.2) i_FreeTransfers_r i_FreeTransfers_n i_FreeTransfers_o
theorem i_FreeTransfers_c {list : List Ride} {minutes : Int} {y : (List Ride) × Bool} (h : i_FreeTransfers list minutes = some y) : CallOK i_FreeTransfers_S [Enc.e list, Enc.e minutes] [] (i_FreeTransfers_r y) (i_FreeTransfers_n y) (i_FreeTransfers_o (list, minutes) y) :=
  modS_call (by
    rintro ⟨a0, a1⟩ ⟨b0, b1⟩ h h2
    simp only [List.cons.injEq, and_true] at h
    try simp only [List.cons.injEq, and_true, Obj'.box.injEq, Obj'.arr.injEq, true_and, AV.dat.injEq] at h2
    obtain ⟨h0, h1⟩ := h
    have q0 := Enc.inj _ _ h0
    have q1 := Enc.inj _ _ h1
    subst q0; subst q1; rfl) (x := (list, minutes)) h
theorem i_FreeTransfers_ok : FnOK Try.prog 27 i_FreeTransfers_S := by
  have Γok : ∀ f S, lookF f [(29, i_IsValidRides_S), (75, i_IsValidTime_S), (76, slices_Clone_Ride_S)] = some S → FnOK Try.prog f S := lookF_ok (allF_cons i_IsValidRides_ok (allF_cons i_IsValidTime_ok (allF_cons slices_Clone_Ride_ok allF_nil)))
  have Γlive : Live (fun f => lookF f [(29, i_IsValidRides_S), (75, i_IsValidTime_S), (76, slices_Clone_Ride_S)]) := lookF_live (allL_cons modS_live (allL_cons modS_live (allL_cons modS_live allL_nil)))
  refine fnOK_mod ty_ok (fun args w => Try.call27 args w) Try.func27 rfl [.tmp 4, .tmp 5] (by rw [Try.results27]) 58 Try.ntmps27 16 rfl (fun _ => by first | exact Nat.zero_le _ | (simp)) (fun _ => rfl) ?_
  rintro ⟨list, minutes⟩ y cx hm hL
  have hm : i_FreeTransfers list minutes = some y := hm
  have hL : cx.L = 0 := hL
  unfold i_FreeTransfers at hm
  refine X_reg_seq ty_ok Γok hL [] .nil (by kernel_rfl) ?_
  refine Ok_seq ?_
  obtain ⟨r, h, hm⟩ := obind hm
  obtain ⟨v, hv, hk⟩ := obind hm
  refine X_join (n := 58) (fun (v : Bool) => (⟨[(0, .dat (Enc.e list)), (1, .dat (.sc (.int .i64 minutes))), (17, .dat (.sc (.bool v)))], [], 32⟩ : X)) v ?_ ?_
  · have hm := hv
    rcases btf (!r) with hb | hb
    · have hm := it hb hm
      obtain rfl := some_inj hm
      refine X_reg ty_ok Γok hL [(1, .c (i_IsValidRides_r r) (i_IsValidRides_n r) (i_IsValidRides_o list r)), (3, .b true)] (.cons (i_IsValidRides_c h) (.cons hb .nil)) (by kernel_rfl) ?_
      exact thN (Wk_J hL ⟨[(0, []), (1, []), (17, [])], [], [], 32⟩ (by kernel_rfl))
    · have hm := ie hb hm
      obtain ⟨r1, h1, hm⟩ := obind hm
      obtain rfl := some_inj hm
      refine X_reg ty_ok Γok hL [(1, .c (i_IsValidRides_r r) (i_IsValidRides_n r) (i_IsValidRides_o list r)), (3, .b false), (5, .c (i_IsValidTime_r r1) (i_IsValidTime_n r1) (i_IsValidTime_o minutes r1))] (.cons (i_IsValidRides_c h) (.cons hb (.cons (i_IsValidTime_c h1) .nil))) (by kernel_rfl) ?_
      exact thN (Wk_J hL ⟨[(0, []), (1, []), (17, [])], [], [], 32⟩ (by kernel_rfl))
  have hm := hk
  refine X_cond v (by kernel_rfl) (fun hc => ?_) (fun hc => ?_)
  · have hm := it hc hm
    refine X_reg_seq ty_ok Γok hL [] .nil (by kernel_rfl) ?_
    obtain rfl := some_inj hm
    refine Ok_ret ?_
    repeat (first | refine thR ?_ | refine ibR ?_)
    exact X_fin [] [[.z 3]] (by kernel_rfl) trivial
  · have hm := ie hc hm
    refine X_skip ?_
    refine thN ?_
    obtain ⟨r2, h2, hm⟩ := obind hm
    refine X_reg_seq ty_ok Γok hL [(1, .c (slices_Clone_Ride_r r2) (slices_Clone_Ride_n r2) (slices_Clone_Ride_o list r2))] (.cons (slices_Clone_Ride_c h2) .nil) (by kernel_rfl) ?_
    refine X_reg_seq ty_ok Γok hL [] .nil (by kernel_rfl) ?_
    refine Ok_seq ?_
    refine X_reg_seq ty_ok Γok hL [(1, .n (r2.length : Int))] (.cons (len_m Enc.e r2) .nil) (by kernel_rfl) ?_
    obtain ⟨i, hv3, hk3⟩ := obind hm
    refine X_tail (n := 58) (fun (i : List Ride) => (⟨[(6, .own 16)], [(16, some (.arr 56 3 (List.map Enc.e i)))], 48⟩ : X)) i ?_ ?_
    · have hm := hv3
      refine Ok_block ?_
      refine X_loop (n := 58) (step := i_FreeTransfers_L1 minutes r2) (fun ((r3, v1, v2) : Int × Int × (List Ride)) => (⟨[(1, .dat (.sc (.int .i64 minutes))), (6, .own 16), (7, .dat (.sc (.int .i64 r3))), (20, .own 16), (21, .dat (.sc (.int .i64 (r2.length : Int)))), (22, .dat (.sc (.int .i64 v1)))], [(16, some (.arr 56 3 (List.map Enc.e v2)))], 48⟩ : X)) hm (Wk_J hL ⟨[(1, []), (6, []), (7, []), (20, []), (21, []), (22, [])], [(16, 48, [])], [], 48⟩ (by kernel_rfl)) ?_
      rintro ⟨r3, v1, v2⟩ r0 hm hb1
      rw [i_FreeTransfers_L1] at hm
      refine X_reg_seq ty_ok Γok hL [] .nil (by kernel_rfl) ?_
      refine Ok_seq ?_
      refine X_cond (decide (v1 < (r2.length : Int))) (by kernel_rfl) (fun hc1 => ?_) (fun hc1 => ?_)
      · have hm := it hc1 hm
        refine X_skip ?_
        refine thN ?_
        obtain ⟨vv, hv1, hk1⟩ := obind hm
        refine X_join (n := 58) (fun ((r4, v3) : Int × (List Ride)) => (⟨[(1, .dat (.sc (.int .i64 minutes))), (6, .own 16), (7, .dat (.sc (.int .i64 r4))), (20, .own 16), (21, .dat (.sc (.int .i64 (r2.length : Int)))), (22, .dat (.sc (.int .i64 v1)))], [(16, some (.arr 56 3 (List.map Enc.e v3)))], 48⟩ : X)) vv ?_ ?_
        · have hm := hv1
          refine Ok_block ?_
          obtain ⟨e, h3, hm⟩ := obind hm
          refine X_reg_seq ty_ok Γok hL [(1, .d (Enc.e e)), (2, .d (Enc.e e))] (.cons (idx_m (f := Enc.e) h3) (.cons (idx_m2 (f := Enc.e) h3) .nil)) (by kernel_rfl) ?_
          obtain ⟨v4, hv2, hk2⟩ := obind hm
          refine X_join (n := 58) (fun (v4 : Bool) => (⟨[(1, .dat (.sc (.int .i64 minutes))), (6, .own 16), (7, .dat (.sc (.int .i64 r3))), (8, .dat (.sc (.int .i64 v1))), (20, .own 16), (21, .dat (.sc (.int .i64 (r2.length : Int)))), (22, .dat (.sc (.int .i64 v1))), (50, .dat (.sc (.bool v4)))], [(16, some (.arr 56 3 (List.map Enc.e v2)))], 48⟩ : X)) v4 ?_ ?_
          · have hm := hv2
            rcases btf (decide (0 ≤ r3)) with hb2 | hb2
            · have hm := it hb2 hm
              obtain ⟨e3, h6, hm⟩ := obind hm
              rcases btf (e3.Day == e.Day) with hb3 | hb3
              · have hm := it hb3 hm
                obtain ⟨e4, h7, hm⟩ := obind hm
                obtain rfl := some_inj hm
                refine X_draw mixed ty_ok Γok Γlive [] (by kernel_rfl) [(2, .b true), (5, .d (Enc.e e3)), (7, .d (Enc.e e3)), (12, .b true), (17, .d (Enc.e e4)), (19, .d (Enc.e e4))] (.cons hb2 (.cons (idx_m (f := Enc.e) h6) (.cons (idx_m2 (f := Enc.e) h6) (.cons hb3 (.cons (idx_m (f := Enc.e) h7) (.cons (idx_m2 (f := Enc.e) h7) .nil)))))) (by kernel_rfl) ?_
                exact thN (Wk_J hL ⟨[(1, []), (6, []), (7, []), (8, []), (20, []), (21, []), (22, []), (50, [])], [(16, 16, [])], [], 48⟩ (by kernel_rfl))
              · have hm := ie hb3 hm
                obtain rfl := some_inj hm
                refine X_draw mixed ty_ok Γok Γlive [] (by kernel_rfl) [(2, .b true), (5, .d (Enc.e e3)), (7, .d (Enc.e e3)), (12, .b false)] (.cons hb2 (.cons (idx_m (f := Enc.e) h6) (.cons (idx_m2 (f := Enc.e) h6) (.cons hb3 .nil)))) (by kernel_rfl) ?_
                exact thN (Wk_J hL ⟨[(1, []), (6, []), (7, []), (8, []), (20, []), (21, []), (22, []), (50, [])], [(16, 16, [])], [], 48⟩ (by kernel_rfl))
            · have hm := ie hb2 hm
              obtain rfl := some_inj hm
              refine X_draw mixed ty_ok Γok Γlive [] (by kernel_rfl) [(2, .b false)] (.cons hb2 .nil) (by kernel_rfl) ?_
              exact thN (Wk_J hL ⟨[(1, []), (6, []), (7, []), (8, []), (20, []), (21, []), (22, []), (50, [])], [(16, 16, [])], [], 48⟩ (by kernel_rfl))
          have hm := hk2
          refine X_cond v4 (by kernel_rfl) (fun hc2 => ?_) (fun hc2 => ?_)
          · have hm := it hc2 hm
            obtain ⟨e5, h8, hm⟩ := obind hm
            refine X_reg ty_ok Γok hL [(2, .d (Enc.e e5)), (4, .sd (Enc.e e5) (List.map Enc.e (v2.set v1.toNat (⟨e5.Day, e5.Time, 0⟩ : Ride))))] (.cons (idx_m (f := Enc.e) h8) (.cons (idx_m2 (f := Enc.e) h8) (.cons (set_m Enc.e v2 v1.toNat (⟨e5.Day, e5.Time, 0⟩ : Ride)) .nil))) (by kernel_rfl) ?_
            refine ibN ?_
            obtain rfl := some_inj hm
            exact thN (Wk_J hL ⟨[(1, []), (6, []), (7, []), (20, []), (21, []), (22, [])], [(16, 16, [])], [], 48⟩ (by kernel_rfl))
          · have hm := ie hc2 hm
            refine X_reg ty_ok Γok hL [] .nil (by kernel_rfl) ?_
            refine ibN ?_
            obtain rfl := some_inj hm
            exact thN (Wk_J hL ⟨[(1, []), (6, []), (7, []), (20, []), (21, []), (22, [])], [(16, 16, [])], [], 48⟩ (by kernel_rfl))
        obtain ⟨r4, v3⟩ := vv
        have hm := hk1
        refine X_reg ty_ok Γok hL [] .nil (by kernel_rfl) ?_
        obtain rfl := some_inj hm
        exact thN ⟨_, rfl, Wk_J hL ⟨[(1, []), (6, []), (7, []), (20, []), (21, []), (22, [])], [(16, 16, [])], [], 48⟩ (by kernel_rfl)⟩
      · have hm := ie hc1 hm
        obtain rfl := some_inj hm
        obtain rfl := hb1 _ rfl
        refine Ok_exit ?_
        refine thE ?_
        refine thE ?_
        refine ibE ?_
        exact thN (Wk_J hL ⟨[(6, [])], [(16, 16, [])], [], 48⟩ (by kernel_rfl))
    intro s hw
    have hm := hk3
    refine thN ?_
    refine Ok_weak hw ?_
    refine X_reg_seq ty_ok Γok hL [] .nil (by kernel_rfl) ?_
    obtain rfl := some_inj hm
    refine Ok_ret ?_
    repeat (first | refine thR ?_ | refine ibR ?_)
    exact X_fin [] [] (by kernel_rfl) trivial
abbrev s_FreeTransfers_r (y : (List Ride) × Bool) : AV := .tup [.own 0, .dat (Enc.e y.2)]
abbrev s_FreeTransfers_n (y : (List Ride) × Bool) : List Obj' := [.arr 56 3 (List.map Enc.e y.1)]
abbrev s_FreeTransfers_o (x : (List Ride) × Int) (y : (List Ride) × Bool) : List Obj' := []
noncomputable def s_FreeTransfers_S : FnSpec := modS [none, none] (fun x : (List Ride) × Int => [Enc.e x.1, Enc.e x.2]) (fun x : (List Ride) × Int => []) (fun x : (List Ride) × Int => s_FreeTransfers x.1 x.2) s_FreeTransfers_r s_FreeTransfers_n s_FreeTransfers_o
theorem s_FreeTransfers_c {list : List Ride} {minutes : Int} {y : (List Ride) × Bool} (h : s_FreeTransfers list minutes = some y) : CallOK s_FreeTransfers_S [Enc.e list, Enc.e minutes] [] (s_FreeTransfers_r y) (s_FreeTransfers_n y) (s_FreeTransfers_o (list, minutes) y) :=
  modS_call (by
    rintro ⟨a0, a1⟩ ⟨b0, b1⟩ h h2
    simp only [List.cons.injEq, and_true] at h
    try simp only [List.cons.injEq, and_true, Obj'.box.injEq, Obj'.arr.injEq, true_and, AV.dat.injEq] at h2
    obtain ⟨h0, h1⟩ := h
    have q0 := Enc.inj _ _ h0
    have q1 := Enc.inj _ _ h1
    subst q0; subst q1; rfl) (x := (list, minutes)) h
theorem s_FreeTransfers_ok : FnOK Try.prog 28 s_FreeTransfers_S := by
  have Γok : ∀ f S, lookF f [(68, s_l21Rides_S), (56, s_l1In_S)] = some S → FnOK Try.prog f S := lookF_ok (allF_cons s_l21Rides_ok (allF_cons s_l1In_ok allF_nil))
  have Γlive : Live (fun f => lookF f [(68, s_l21Rides_S), (56, s_l1In_S)]) := lookF_live (allL_cons modS_live (allL_cons modS_live allL_nil))
  refine fnOK_mod ty_ok (fun args w => Try.call28 args w) Try.func28 rfl [.tmp 4, .tmp 5] (by rw [Try.results28]) 61 Try.ntmps28 16 rfl (fun _ => by first | exact Nat.zero_le _ | (simp)) (fun _ => rfl) ?_
  rintro ⟨list, minutes⟩ y cx hm hL
  have hm : s_FreeTransfers list minutes = some y := hm
  have hL : cx.L = 0 := hL
  unfold s_FreeTransfers at hm
  refine X_reg_seq ty_ok Γok hL [] .nil (by kernel_rfl) ?_
  refine X_reg_seq ty_ok Γok hL [] .nil (by kernel_rfl) ?_
  refine Ok_seq ?_
  obtain ⟨r, h, hm⟩ := obind hm
  obtain ⟨v, hv, hk⟩ := obind hm
  refine X_join (n := 61) (fun (v : Bool) => (⟨[(0, .dat (Enc.e list)), (1, .dat (.sc (.int .i64 minutes))), (6, .own 16), (18, .dat (.sc (.bool v)))], [(16, some (.arr 56 3 (List.map Enc.e ([] : List Ride))))], 48⟩ : X)) v ?_ ?_
  · have hm := hv
    rcases btf (!r) with hb | hb
    · have hm := it hb hm
      obtain rfl := some_inj hm
      refine X_reg ty_ok Γok hL [(1, .c (s_l21Rides_r r) (s_l21Rides_n r) (s_l21Rides_o list r)), (3, .b true)] (.cons (s_l21Rides_c h) (.cons hb .nil)) (by kernel_rfl) ?_
      exact thN (Wk_J hL ⟨[(0, []), (1, []), (6, []), (18, [])], [(16, 48, [])], [], 48⟩ (by kernel_rfl))
    · have hm := ie hb hm
      obtain ⟨r1, h1, hm⟩ := obind hm
      obtain rfl := some_inj hm
      refine X_reg ty_ok Γok hL [(1, .c (s_l21Rides_r r) (s_l21Rides_n r) (s_l21Rides_o list r)), (3, .b false), (5, .c (s_l1In_r r1) (s_l1In_n r1) (s_l1In_o (minutes, 0, 1799) r1))] (.cons (s_l21Rides_c h) (.cons hb (.cons (s_l1In_c h1) .nil))) (by kernel_rfl) ?_
      exact thN (Wk_J hL ⟨[(0, []), (1, []), (6, []), (18, [])], [(16, 48, [])], [], 48⟩ (by kernel_rfl))
  have hm := hk
  refine X_cond v (by kernel_rfl) (fun hc => ?_) (fun hc => ?_)
  · have hm := it hc hm
    refine X_reg_seq ty_ok Γok hL [] .nil (by kernel_rfl) ?_
    obtain rfl := some_inj hm
    refine Ok_ret ?_
    repeat (first | refine thR ?_ | refine ibR ?_)
    exact X_fin [16] [] (by kernel_rfl) trivial
  · have hm := ie hc hm
    refine X_skip ?_
    refine thN ?_
    refine X_reg_seq ty_ok Γok hL [] .nil (by kernel_rfl) ?_
    refine Ok_seq ?_
    refine X_reg_seq ty_ok Γok hL [] .nil (by kernel_rfl) ?_
    obtain ⟨i1, hv3, hk3⟩ := obind hm
    refine X_tail (n := 61) (fun (i1 : List Ride) => (⟨[(6, .own 16)], [(16, some (.arr 56 3 (List.map Enc.e i1)))], 48⟩ : X)) i1 ?_ ?_
    · have hm := hv3
      refine Ok_block ?_
      refine X_loop (n := 61) (step := s_FreeTransfers_L1 list minutes) (fun ((x, v1, i) : Int × Int × (List Ride)) => (⟨[(0, .dat (Enc.e list)), (1, .dat (.sc (.int .i64 minutes))), (6, .own 16), (7, .dat (.sc (.int .i64 x))), (8, .dat (.sc (.int .i64 v1)))], [(16, some (.arr 56 3 (List.map Enc.e i)))], 48⟩ : X)) hm (Wk_J hL ⟨[(0, []), (1, []), (6, []), (7, []), (8, [])], [(16, 16, [])], [], 48⟩ (by kernel_rfl)) ?_
      rintro ⟨x, v1, i⟩ r0 hm hb1
      rw [s_FreeTransfers_L1] at hm
      refine Ok_seq ?_
      refine X_reg_seq ty_ok Γok hL [(2, .n (list.length : Int))] (.cons (len_m Enc.e list) .nil) (by kernel_rfl) ?_
      refine X_cond (decide (v1 < (list.length : Int))) (by kernel_rfl) (fun hc1 => ?_) (fun hc1 => ?_)
      · have hm := it hc1 hm
        refine X_skip ?_
        refine thN ?_
        refine Ok_seq ?_
        refine Ok_block ?_
        obtain ⟨e, h2, hm⟩ := obind hm
        refine X_reg_seq ty_ok Γok hL [(2, .d (Enc.e e))] (.cons (idx_m (f := Enc.e) h2) .nil) (by kernel_rfl) ?_
        obtain ⟨vv, hv1, hk1⟩ := obind hm
        refine X_join (n := 61) (fun ((x1, v2) : Int × Int) => (⟨[(0, .dat (Enc.e list)), (1, .dat (.sc (.int .i64 minutes))), (6, .own 16), (7, .dat (.sc (.int .i64 x1))), (8, .dat (.sc (.int .i64 v1))), (9, .ref 32 0)], [(16, some (.arr 56 3 (List.map Enc.e i))), (32, some (.box [.dat (.sc (.int .i64 e.Day)), .dat (.sc (.int .i64 e.Time)), .dat (.sc (.int .i64 v2))]))], 64⟩ : X)) vv ?_ ?_
        · have hm := hv1
          obtain ⟨v3, hv2, hk2⟩ := obind hm
          refine X_join (n := 61) (fun (v3 : Bool) => (⟨[(0, .dat (Enc.e list)), (1, .dat (.sc (.int .i64 minutes))), (6, .own 16), (7, .dat (.sc (.int .i64 x))), (8, .dat (.sc (.int .i64 v1))), (9, .ref 32 0), (53, .dat (.sc (.bool v3)))], [(16, some (.arr 56 3 (List.map Enc.e i))), (32, some (.box [.dat (.sc (.int .i64 e.Day)), .dat (.sc (.int .i64 e.Time)), .dat (.sc (.int .i64 e.Fare))]))], 64⟩ : X)) v3 ?_ ?_
          · have hm := hv2
            rcases btf (decide (0 < v1)) with hb2 | hb2
            · have hm := it hb2 hm
              obtain ⟨e3, h5, hm⟩ := obind hm
              rcases btf (e3.Day == e.Day) with hb3 | hb3
              · have hm := it hb3 hm
                obtain ⟨e4, h6, hm⟩ := obind hm
                obtain rfl := some_inj hm
                refine X_draw mixed ty_ok Γok Γlive [] (by kernel_rfl) [(2, .b true), (5, .d (Enc.e e3)), (12, .b true), (17, .d (Enc.e e4))] (.cons hb2 (.cons (idx_m (f := Enc.e) h5) (.cons hb3 (.cons (idx_m (f := Enc.e) h6) .nil)))) (by kernel_rfl) ?_
                exact thN (Wk_J hL ⟨[(0, []), (1, []), (6, []), (7, []), (8, []), (9, []), (53, [])], [(16, 16, []), (32, 176, [])], [], 64⟩ (by kernel_rfl))
              · have hm := ie hb3 hm
                obtain rfl := some_inj hm
                refine X_draw mixed ty_ok Γok Γlive [] (by kernel_rfl) [(2, .b true), (5, .d (Enc.e e3)), (12, .b false)] (.cons hb2 (.cons (idx_m (f := Enc.e) h5) (.cons hb3 .nil))) (by kernel_rfl) ?_
                exact thN (Wk_J hL ⟨[(0, []), (1, []), (6, []), (7, []), (8, []), (9, []), (53, [])], [(16, 16, []), (32, 176, [])], [], 64⟩ (by kernel_rfl))
            · have hm := ie hb2 hm
              obtain rfl := some_inj hm
              refine X_draw mixed ty_ok Γok Γlive [] (by kernel_rfl) [(2, .b false)] (.cons hb2 .nil) (by kernel_rfl) ?_
              exact thN (Wk_J hL ⟨[(0, []), (1, []), (6, []), (7, []), (8, []), (9, []), (53, [])], [(16, 16, []), (32, 176, [])], [], 64⟩ (by kernel_rfl))
          have hm := hk2
          refine X_cond v3 (by kernel_rfl) (fun hc2 => ?_) (fun hc2 => ?_)
          · have hm := it hc2 hm
            refine X_reg ty_ok Γok hL [] .nil (by kernel_rfl) ?_
            obtain rfl := some_inj hm
            exact thN (Wk_J hL ⟨[(0, []), (1, []), (6, []), (7, []), (8, []), (9, [])], [(16, 16, []), (32, 32, [])], [], 64⟩ (by kernel_rfl))
          · have hm := ie hc2 hm
            refine X_reg ty_ok Γok hL [] .nil (by kernel_rfl) ?_
            obtain rfl := some_inj hm
            exact thN (Wk_J hL ⟨[(0, []), (1, []), (6, []), (7, []), (8, []), (9, [])], [(16, 16, []), (32, 32, [])], [], 64⟩ (by kernel_rfl))
        obtain ⟨x1, v2⟩ := vv
        have hm := hk1
        obtain ⟨u, h7, hm⟩ := obind hm
        refine X_reg ty_ok Γok hL [(3, .l (List.map Enc.e (i ++ ([(⟨e.Day, e.Time, v2⟩ : Ride)] : List Ride))))] (.cons (app_p (f := Enc.e) (g := Enc.e) (l := i) (r := ([(⟨e.Day, e.Time, v2⟩ : Ride)] : List Ride)) (b := 24) (chk_t h7) rfl) (.cons (app_m Enc.e i ([(⟨e.Day, e.Time, v2⟩ : Ride)] : List Ride)) .nil)) (by kernel_rfl) ?_
        refine ibN ?_
        refine thN ?_
        refine X_reg ty_ok Γok hL [] .nil (by kernel_rfl) ?_
        obtain rfl := some_inj hm
        exact thN ⟨_, rfl, Wk_J hL ⟨[(0, []), (1, []), (6, []), (7, []), (8, [])], [(16, 112, [])], [], 48⟩ (by kernel_rfl)⟩
      · have hm := ie hc1 hm
        obtain rfl := some_inj hm
        obtain rfl := hb1 _ rfl
        refine Ok_exit ?_
        refine thE ?_
        refine thE ?_
        refine ibE ?_
        exact thN (Wk_J hL ⟨[(6, [])], [(16, 16, [])], [], 48⟩ (by kernel_rfl))
    intro s hw
    have hm := hk3
    refine thN ?_
    refine Ok_weak hw ?_
    refine X_reg_seq ty_ok Γok hL [] .nil (by kernel_rfl) ?_
    obtain rfl := some_inj hm
    refine Ok_ret ?_
    repeat (first | refine thR ?_ | refine ibR ?_)
    exact X_fin [16] [] (by kernel_rfl) trivial
abbrev v_FnTickets_r (y : Bool) : AV := .dat (Enc.e y)
abbrev v_FnTickets_n (y : Bool) : List Obj' := []
abbrev v_FnTickets_o (x : (List UInt8)) (y : Bool) : List Obj' := []
noncomputable def v_FnTickets_S : FnSpec := modS [none] (fun x : (List UInt8) => [Enc.e x]) (fun x : (List UInt8) => []) (fun x : (List UInt8) => v_FnTickets x) v_FnTickets_r v_FnTickets_n v_FnTickets_o
theorem v_FnTickets_c {code : List UInt8} {y : Bool} (h : v_FnTickets code = some y) : CallOK v_FnTickets_S [Enc.e code] [] (v_FnTickets_r y) (v_FnTickets_n y) (v_FnTickets_o code y) :=
  modS_call (by
    rintro a0 b0 h h2
    simp only [List.cons.injEq, and_true] at h
    try simp only [List.cons.injEq, and_true, Obj'.box.injEq, Obj'.arr.injEq, true_and, AV.dat.injEq] at h2
    have h0 := h
    have q0 := Enc.inj _ _ h0
    subst q0; rfl) (x := code) h
theorem v_FnTickets_ok : FnOK Try.prog 4 v_FnTickets_S := by
  have Γok : ∀ f S, lookF f [(6, v_rBig_S), (20, s_DrawCheapestTickets_S), (21, i_CheapestTickets_S), (22, s_CheapestTickets_S), (19, v_rInts_S), (23, i_DailyCaps_S), (24, s_DailyCaps_S), (25, v_rSum_S), (26, s_DrawFreeTransfers_S), (27, i_FreeTransfers_S), (28, s_FreeTransfers_S), (29, i_IsValidRides_S)] = some S → FnOK Try.prog f S := lookF_ok (allF_cons v_rBig_ok (allF_cons s_DrawCheapestTickets_ok (allF_cons i_CheapestTickets_ok (allF_cons s_CheapestTickets_ok (allF_cons v_rInts_ok (allF_cons i_DailyCaps_ok (allF_cons s_DailyCaps_ok (allF_cons v_rSum_ok (allF_cons s_DrawFreeTransfers_ok (allF_cons i_FreeTransfers_ok (allF_cons s_FreeTransfers_ok (allF_cons i_IsValidRides_ok allF_nil))))))))))))
  have Γlive : Live (fun f => lookF f [(6, v_rBig_S), (20, s_DrawCheapestTickets_S), (21, i_CheapestTickets_S), (22, s_CheapestTickets_S), (19, v_rInts_S), (23, i_DailyCaps_S), (24, s_DailyCaps_S), (25, v_rSum_S), (26, s_DrawFreeTransfers_S), (27, i_FreeTransfers_S), (28, s_FreeTransfers_S), (29, i_IsValidRides_S)]) := lookF_live (allL_cons modS_live (allL_cons modS_live (allL_cons modS_live (allL_cons modS_live (allL_cons modS_live (allL_cons modS_live (allL_cons modS_live (allL_cons modS_live (allL_cons modS_live (allL_cons modS_live (allL_cons modS_live (allL_cons modS_live allL_nil))))))))))))
  refine fnOK_mod ty_ok (fun args w => Try.call4 args w) Try.func4 rfl [.tmp 2] (by rw [Try.results4]) 215 Try.ntmps4 16 rfl (fun _ => by first | exact Nat.zero_le _ | (simp)) (fun _ => rfl) ?_
  rintro code y cx hm hL
  have hm : v_FnTickets code = some y := hm
  have hL : cx.L = 0 := hL
  unfold v_FnTickets at hm
  refine X_reg_seq ty_ok Γok hL [] .nil (by kernel_rfl) ?_
  refine Ok_seq ?_
  obtain ⟨r, h, hm⟩ := obind hm
  refine X_reg_seq ty_ok Γok hL [(1, .c (v_rBig_r r) (v_rBig_n r) (v_rBig_o code r))] (.cons (v_rBig_c h) .nil) (by kernel_rfl) ?_
  refine X_cond r (by kernel_rfl) (fun hc => ?_) (fun hc => ?_)
  · have hm := it hc hm
    refine X_reg_seq ty_ok Γok hL [] .nil (by kernel_rfl) ?_
    obtain rfl := some_inj hm
    refine Ok_ret ?_
    repeat (first | refine thR ?_ | refine ibR ?_)
    exact X_fin [] [] (by kernel_rfl) trivial
  · have hm := ie hc hm
    refine X_skip ?_
    refine thN ?_
    obtain ⟨r1, h1, hm⟩ := obind hm
    refine X_reg_seq ty_ok Γok hL [(1, .c (s_DrawCheapestTickets_r r1) (s_DrawCheapestTickets_n r1) (s_DrawCheapestTickets_o code r1))] (.cons (s_DrawCheapestTickets_c h1) .nil) (by kernel_rfl) ?_
    obtain ⟨r2, h2, hm⟩ := obind hm
    refine X_reg_seq ty_ok Γok hL [(2, .fz [80] []), (2, .c (i_CheapestTickets_r r2) (i_CheapestTickets_n r2) (i_CheapestTickets_o (r1.1, r1.2) r2))] (.cons (i_CheapestTickets_c h2) .nil) (by kernel_rfl) ?_
    obtain ⟨r3, h3, hm⟩ := obind hm
    refine X_reg_seq ty_ok Γok hL [(2, .c (s_CheapestTickets_r r3) (s_CheapestTickets_n r3) (s_CheapestTickets_o (r1.1, r1.2) r3))] (.cons (s_CheapestTickets_c h3) .nil) (by kernel_rfl) ?_
    refine Ok_seq ?_
    obtain ⟨v, hv, hk⟩ := obind hm
    refine X_join (n := 215) (fun (v : Bool) => (⟨[(0, .dat (Enc.e code)), (3, .ref 16 0), (4, .dat (Enc.e r1.2)), (5, .dat (.sc (.int .i64 r2.1))), (6, .dat (Enc.e r2.2.1)), (7, .dat (.sc (.bool r2.2.2))), (61, .dat (.sc (.bool v)))], [(16, some (.box [.dat (Enc.e r1.1.Zones), .dat (.sc (.int .i64 r1.1.Day)), .dat (.sc (.int .i64 r1.1.Week))]))], 48⟩ : X)) v ?_ ?_
    · have hm := hv
      rcases btf (r2.1 != r3.1) with hb | hb
      · have hm := it hb hm
        obtain rfl := some_inj hm
        refine X_reg ty_ok Γok hL [(3, .b true)] (.cons hb .nil) (by kernel_rfl) ?_
        exact thN (Wk_J hL ⟨[(0, []), (3, []), (4, []), (5, []), (6, []), (7, []), (61, [])], [(16, 144, [])], [], 48⟩ (by kernel_rfl))
      · have hm := ie hb hm
        rcases btf (!(r2.2.2 == r3.2.2)) with hb1 | hb1
        · have hm := it hb1 hm
          obtain rfl := some_inj hm
          refine X_reg ty_ok Γok hL [(3, .b false), (8, .b true)] (.cons hb (.cons hb1 .nil)) (by kernel_rfl) ?_
          exact thN (Wk_J hL ⟨[(0, []), (3, []), (4, []), (5, []), (6, []), (7, []), (61, [])], [(16, 144, [])], [], 48⟩ (by kernel_rfl))
        · have hm := ie hb1 hm
          obtain ⟨r4, h4, hm⟩ := obind hm
          obtain rfl := some_inj hm
          refine X_reg ty_ok Γok hL [(3, .b false), (8, .b false), (11, .c (v_rInts_r r4) (v_rInts_n r4) (v_rInts_o (r2.2.1, r3.2.1) r4))] (.cons hb (.cons hb1 (.cons (v_rInts_c h4) .nil))) (by kernel_rfl) ?_
          exact thN (Wk_J hL ⟨[(0, []), (3, []), (4, []), (5, []), (6, []), (7, []), (61, [])], [(16, 144, [])], [], 48⟩ (by kernel_rfl))
    have hm := hk
    refine X_cond v (by kernel_rfl) (fun hc1 => ?_) (fun hc1 => ?_)
    · have hm := it hc1 hm
      refine X_reg_seq ty_ok Γok hL [] .nil (by kernel_rfl) ?_
      obtain rfl := some_inj hm
      refine Ok_ret ?_
      repeat (first | refine thR ?_ | refine ibR ?_)
      exact X_fin [] [] (by kernel_rfl) trivial
    · have hm := ie hc1 hm
      refine X_skip ?_
      refine thN ?_
      obtain ⟨r5, h5, hm⟩ := obind hm
      refine X_reg_seq ty_ok Γok hL [(2, .c (i_DailyCaps_r r5) (i_DailyCaps_n r5) (i_DailyCaps_o (r1.1, r1.2) r5))] (.cons (i_DailyCaps_c h5) .nil) (by kernel_rfl) ?_
      refine Ok_seq ?_
      obtain ⟨r6, h6, hm⟩ := obind hm
      refine X_reg_seq ty_ok Γok hL [(2, .c (s_DailyCaps_r r6) (s_DailyCaps_n r6) (s_DailyCaps_o (r1.1, r1.2) r6))] (.cons (s_DailyCaps_c h6) .nil) (by kernel_rfl) ?_
      obtain ⟨v1, hv1, hk1⟩ := obind hm
      refine X_join (n := 215) (fun (v1 : Bool) => (⟨[(0, .dat (Enc.e code)), (3, .ref 16 0), (4, .dat (Enc.e r1.2)), (5, .dat (.sc (.int .i64 r2.1))), (6, .dat (Enc.e r2.2.1)), (7, .dat (.sc (.bool r2.2.2))), (11, .dat (Enc.e r5.1)), (12, .dat (.sc (.int .i64 r5.2.1))), (89, .dat (.sc (.bool v1)))], [(16, some (.box [.dat (Enc.e r1.1.Zones), .dat (.sc (.int .i64 r1.1.Day)), .dat (.sc (.int .i64 r1.1.Week))]))], 48⟩ : X)) v1 ?_ ?_
      · have hm := hv1
        rcases btf (!(r5.2.2 == r6.2.2)) with hb2 | hb2
        · have hm := it hb2 hm
          obtain rfl := some_inj hm
          refine X_reg ty_ok Γok hL [(3, .b true)] (.cons hb2 .nil) (by kernel_rfl) ?_
          exact thN (Wk_J hL ⟨[(0, []), (3, []), (4, []), (5, []), (6, []), (7, []), (11, []), (12, []), (89, [])], [(16, 16, [])], [], 48⟩ (by kernel_rfl))
        · have hm := ie hb2 hm
          obtain ⟨r7, h7, hm⟩ := obind hm
          rcases btf (!r7) with hb3 | hb3
          · have hm := it hb3 hm
            obtain rfl := some_inj hm
            refine X_reg ty_ok Γok hL [(3, .b false), (6, .c (v_rInts_r r7) (v_rInts_n r7) (v_rInts_o (r5.1, r6.1) r7)), (9, .b true)] (.cons hb2 (.cons (v_rInts_c h7) (.cons hb3 .nil))) (by kernel_rfl) ?_
            exact thN (Wk_J hL ⟨[(0, []), (3, []), (4, []), (5, []), (6, []), (7, []), (11, []), (12, []), (89, [])], [(16, 16, [])], [], 48⟩ (by kernel_rfl))
          · have hm := ie hb3 hm
            obtain rfl := some_inj hm
            refine X_reg ty_ok Γok hL [(3, .b false), (6, .c (v_rInts_r r7) (v_rInts_n r7) (v_rInts_o (r5.1, r6.1) r7)), (9, .b false)] (.cons hb2 (.cons (v_rInts_c h7) (.cons hb3 .nil))) (by kernel_rfl) ?_
            exact thN (Wk_J hL ⟨[(0, []), (3, []), (4, []), (5, []), (6, []), (7, []), (11, []), (12, []), (89, [])], [(16, 16, [])], [], 48⟩ (by kernel_rfl))
      have hm := hk1
      refine X_cond v1 (by kernel_rfl) (fun hc2 => ?_) (fun hc2 => ?_)
      · have hm := it hc2 hm
        refine X_reg_seq ty_ok Γok hL [] .nil (by kernel_rfl) ?_
        obtain rfl := some_inj hm
        refine Ok_ret ?_
        repeat (first | refine thR ?_ | refine ibR ?_)
        exact X_fin [] [] (by kernel_rfl) trivial
      · have hm := ie hc2 hm
        refine X_skip ?_
        refine thN ?_
        obtain ⟨v8, hv2, hr, hk2⟩ := flb_t hm
        refine X_joinF (n := 215) (fun (_ : Unit) => (⟨[(0, .dat (Enc.e code))], [], 32⟩ : X)) v8 ?_ ?_
        · have hm := hv2
          refine X_reg_seq ty_ok Γok hL [] .nil (by kernel_rfl) ?_
          refine X_cond r2.2.2 (by kernel_rfl) (fun hc3 => ?_) (fun hc3 => ?_)
          · have hm := it hc3 hm
            refine X_reg_seq ty_ok Γok hL [] .nil (by kernel_rfl) ?_
            refine Ok_seq ?_
            refine X_reg_seq ty_ok Γok hL [] .nil (by kernel_rfl) ?_
            obtain ⟨i2, hv3, hk3⟩ := obind hm
            refine X_tail (n := 215) (fun (i2 : Int) => (⟨[(0, .dat (Enc.e code)), (3, .ref 16 0), (5, .dat (.sc (.int .i64 r2.1))), (6, .dat (Enc.e r2.2.1)), (11, .dat (Enc.e r5.1)), (12, .dat (.sc (.int .i64 r5.2.1))), (17, .dat (.sc (.int .i64 i2)))], [(16, some (.box [.dat (Enc.e r1.1.Zones), .dat (.sc (.int .i64 r1.1.Day)), .dat (.sc (.int .i64 r1.1.Week))]))], 48⟩ : X)) i2 ?_ ?_
            · have hm := hv3
              refine Ok_block ?_
              refine X_loop (n := 215) (step := v_FnTickets_L1 r1) (fun ((i, i1) : Int × Int) => (⟨[(0, .dat (Enc.e code)), (3, .ref 16 0), (4, .dat (Enc.e r1.2)), (5, .dat (.sc (.int .i64 r2.1))), (6, .dat (Enc.e r2.2.1)), (11, .dat (Enc.e r5.1)), (12, .dat (.sc (.int .i64 r5.2.1))), (17, .dat (.sc (.int .i64 i))), (18, .dat (.sc (.int .i64 i1)))], [(16, some (.box [.dat (Enc.e r1.1.Zones), .dat (.sc (.int .i64 r1.1.Day)), .dat (.sc (.int .i64 r1.1.Week))]))], 48⟩ : X)) hm (Wk_J hL ⟨[(0, []), (3, []), (4, []), (5, []), (6, []), (11, []), (12, []), (17, []), (18, [])], [(16, 16, [])], [], 48⟩ (by kernel_rfl)) ?_
              rintro ⟨i, i1⟩ r0 hm hb4
              rw [v_FnTickets_L1] at hm
              refine Ok_seq ?_
              refine X_reg_seq ty_ok Γok hL [(2, .n (r1.2.length : Int))] (.cons (len_m Enc.e r1.2) .nil) (by kernel_rfl) ?_
              refine X_cond (decide (i1 < (r1.2.length : Int))) (by kernel_rfl) (fun hc4 => ?_) (fun hc4 => ?_)
              · have hm := it hc4 hm
                refine X_skip ?_
                refine thN ?_
                refine Ok_seq ?_
                refine Ok_block ?_
                obtain ⟨e, h8, hm⟩ := obind hm
                refine X_reg ty_ok Γok hL [(3, .d (Enc.e e))] (.cons (idx_m (f := Enc.e) h8) .nil) (by kernel_rfl) ?_
                refine ibN ?_
                refine thN ?_
                refine X_reg ty_ok Γok hL [] .nil (by kernel_rfl) ?_
                obtain rfl := some_inj hm
                exact thN ⟨_, rfl, Wk_J hL ⟨[(0, []), (3, []), (4, []), (5, []), (6, []), (11, []), (12, []), (17, []), (18, [])], [(16, 16, [])], [], 48⟩ (by kernel_rfl)⟩
              · have hm := ie hc4 hm
                obtain rfl := some_inj hm
                obtain rfl := hb4 _ rfl
                refine Ok_exit ?_
                refine thE ?_
                refine thE ?_
                refine ibE ?_
                exact thN (Wk_J hL ⟨[(0, []), (3, []), (5, []), (6, []), (11, []), (12, []), (17, [])], [(16, 16, [])], [], 48⟩ (by kernel_rfl))
            intro s hw
            have hm := hk3
            refine thN ?_
            refine Ok_weak hw ?_
            refine Ok_seq ?_
            obtain ⟨v2, hv4, hk4⟩ := obind hm
            refine X_join (n := 215) (fun (v2 : Bool) => (⟨[(0, .dat (Enc.e code)), (6, .dat (Enc.e r2.2.1)), (126, .dat (.sc (.bool v2)))], [], 32⟩ : X)) v2 ?_ ?_
            · have hm := hv4
              rcases btf (decide (r5.2.1 < r2.1)) with hb5 | hb5
              · have hm := it hb5 hm
                obtain rfl := some_inj hm
                refine X_reg ty_ok Γok hL [(3, .b true)] (.cons hb5 .nil) (by kernel_rfl) ?_
                exact thN (Wk_J hL ⟨[(0, []), (6, []), (126, [])], [], [], 32⟩ (by kernel_rfl))
              · have hm := ie hb5 hm
                rcases btf (decide (i2 < r5.2.1)) with hb6 | hb6
                · have hm := it hb6 hm
                  obtain rfl := some_inj hm
                  refine X_reg ty_ok Γok hL [(3, .b false), (8, .b true)] (.cons hb5 (.cons hb6 .nil)) (by kernel_rfl) ?_
                  exact thN (Wk_J hL ⟨[(0, []), (6, []), (126, [])], [], [], 32⟩ (by kernel_rfl))
                · have hm := ie hb6 hm
                  obtain ⟨r8, h9, hm⟩ := obind hm
                  rcases btf (r8 != r5.2.1) with hb7 | hb7
                  · have hm := it hb7 hm
                    obtain rfl := some_inj hm
                    refine X_reg ty_ok Γok hL [(3, .b false), (8, .b false), (10, .c (v_rSum_r r8) (v_rSum_n r8) (v_rSum_o r5.1 r8)), (14, .b true)] (.cons hb5 (.cons hb6 (.cons (v_rSum_c h9) (.cons hb7 .nil)))) (by kernel_rfl) ?_
                    exact thN (Wk_J hL ⟨[(0, []), (6, []), (126, [])], [], [], 32⟩ (by kernel_rfl))
                  · have hm := ie hb7 hm
                    obtain rfl := some_inj hm
                    refine X_reg ty_ok Γok hL [(3, .b false), (8, .b false), (10, .c (v_rSum_r r8) (v_rSum_n r8) (v_rSum_o r5.1 r8)), (14, .b false), (16, .n (r2.2.1.length : Int))] (.cons hb5 (.cons hb6 (.cons (v_rSum_c h9) (.cons hb7 (.cons (len_m Enc.e r2.2.1) .nil))))) (by kernel_rfl) ?_
                    exact thN (Wk_J hL ⟨[(0, []), (6, []), (126, [])], [], [], 32⟩ (by kernel_rfl))
            have hm := hk4
            refine X_cond v2 (by kernel_rfl) (fun hc5 => ?_) (fun hc5 => ?_)
            · have hm := it hc5 hm
              refine X_reg_seq ty_ok Γok hL [] .nil (by kernel_rfl) ?_
              obtain rfl := some_inj hm
              have hm := congrArg some (hr _ rfl)
              obtain rfl := some_inj hm
              refine Ok_ret ?_
              repeat (first | refine thR ?_ | refine ibR ?_)
              exact X_fin [] [] (by kernel_rfl) trivial
            · have hm := ie hc5 hm
              refine X_skip ?_
              refine thN ?_
              refine X_reg_seq ty_ok Γok hL [] .nil (by kernel_rfl) ?_
              obtain ⟨v3, hv5, hr2, hk5⟩ := flb_t hm
              refine X_tailF (n := 215) (fun (_ : Unit) => (⟨[(0, .dat (Enc.e code))], [], 32⟩ : X)) v3 ?_ ?_
              · have hm := hv5
                refine Ok_block ?_
                refine X_loop (n := 215) (step := v_FnTickets_L2 r2) (fun (rides : Int) => (⟨[(0, .dat (Enc.e code)), (6, .dat (Enc.e r2.2.1)), (19, .dat (.sc (.int .i64 rides)))], [], 32⟩ : X)) hm (Wk_J hL ⟨[(0, []), (6, []), (19, [])], [], [], 32⟩ (by kernel_rfl)) ?_
                rintro rides r0 hm hb8
                rw [v_FnTickets_L2] at hm
                refine Ok_seq ?_
                refine X_reg_seq ty_ok Γok hL [(2, .n (r2.2.1.length : Int))] (.cons (len_m Enc.e r2.2.1) .nil) (by kernel_rfl) ?_
                refine X_cond (decide (rides < (r2.2.1.length : Int))) (by kernel_rfl) (fun hc6 => ?_) (fun hc6 => ?_)
                · have hm := it hc6 hm
                  refine X_skip ?_
                  refine thN ?_
                  refine Ok_seq ?_
                  refine Ok_block ?_
                  obtain ⟨e4, h12, hm⟩ := obind hm
                  obtain ⟨e5, h13, hm⟩ := obind hm
                  refine X_draw_seq mixed ty_ok Γok Γlive [] (by kernel_rfl) [(2, .d (Enc.e e4)), (7, .d (Enc.e e5))] (.cons (idx_m (f := Enc.e) h12) (.cons (idx_m (f := Enc.e) h13) .nil)) (by kernel_rfl) ?_
                  refine X_cond (decide (e4 < (w64 (e5 + 7)))) (by kernel_rfl) (fun hc7 => ?_) (fun hc7 => ?_)
                  · have hm := it hc7 hm
                    refine X_reg_seq ty_ok Γok hL [] .nil (by kernel_rfl) ?_
                    obtain rfl := some_inj hm
                    obtain rfl := hb8 _ rfl
                    have hm := congrArg some (hr2 _ rfl)
                    obtain rfl := some_inj hm
                    have hm := congrArg some (hr _ rfl)
                    obtain rfl := some_inj hm
                    refine Ok_ret ?_
                    repeat (first | refine thR ?_ | refine ibR ?_)
                    exact X_fin [] [] (by kernel_rfl) trivial
                  · have hm := ie hc7 hm
                    refine X_skip ?_
                    refine ibN ?_
                    refine thN ?_
                    refine X_reg ty_ok Γok hL [] .nil (by kernel_rfl) ?_
                    obtain rfl := some_inj hm
                    exact thN ⟨_, rfl, Wk_J hL ⟨[(0, []), (6, []), (19, [])], [], [], 32⟩ (by kernel_rfl)⟩
                · have hm := ie hc6 hm
                  obtain rfl := some_inj hm
                  obtain rfl := hb8 _ rfl
                  refine Ok_exit ?_
                  refine thE ?_
                  refine thE ?_
                  refine ibE ?_
                  exact thN ⟨_, rfl, Wk_J hL ⟨[(0, [])], [], [], 32⟩ (by kernel_rfl)⟩
              rintro ⟨⟩ hu s1 hw1
              have hm := hk5 _ hu
              obtain rfl := some_inj hm
              exact thN ⟨_, rfl, Wk.trans hw1 (Wk_J hL ⟨[(0, [])], [], [], 32⟩ (by kernel_rfl))⟩
          · have hm := ie hc3 hm
            refine X_skip ?_
            obtain rfl := some_inj hm
            exact thN ⟨_, rfl, Wk_J hL ⟨[(0, [])], [], [], 32⟩ (by kernel_rfl)⟩
        rintro ⟨⟩ hu2
        have hm := hk2 _ hu2
        obtain ⟨r12, h14, hm⟩ := obind hm
        refine X_reg_seq ty_ok Γok hL [(1, .c (s_DrawFreeTransfers_r r12) (s_DrawFreeTransfers_n r12) (s_DrawFreeTransfers_o code r12))] (.cons (s_DrawFreeTransfers_c h14) .nil) (by kernel_rfl) ?_
        obtain ⟨r13, h15, hm⟩ := obind hm
        refine X_reg_seq ty_ok Γok hL [(2, .fz [48] []), (2, .c (i_FreeTransfers_r r13) (i_FreeTransfers_n r13) (i_FreeTransfers_o (r12.1, r12.2) r13))] (.cons (i_FreeTransfers_c h15) .nil) (by kernel_rfl) ?_
        obtain ⟨r14, h16, hm⟩ := obind hm
        refine X_reg_seq ty_ok Γok hL [(2, .c (s_FreeTransfers_r r14) (s_FreeTransfers_n r14) (s_FreeTransfers_o (r12.1, r12.2) r14))] (.cons (s_FreeTransfers_c h16) .nil) (by kernel_rfl) ?_
        refine Ok_seq ?_
        obtain ⟨v4, hv6, hk6⟩ := obind hm
        refine X_join (n := 215) (fun (v4 : Bool) => (⟨[(20, .dat (Enc.e r12.1)), (22, .dat (Enc.e r13.1)), (24, .own 16), (178, .dat (.sc (.bool v4)))], [(16, some (.arr 56 3 (List.map Enc.e r14.1)))], 48⟩ : X)) v4 ?_ ?_
        · have hm := hv6
          rcases btf (!(r13.2 == r14.2)) with hb9 | hb9
          · have hm := it hb9 hm
            obtain rfl := some_inj hm
            refine X_reg ty_ok Γok hL [(3, .b true)] (.cons hb9 .nil) (by kernel_rfl) ?_
            exact thN (Wk_J hL ⟨[(20, []), (22, []), (24, []), (178, [])], [(16, 304, [])], [], 48⟩ (by kernel_rfl))
          · have hm := ie hb9 hm
            rcases btf ((r13.1.length : Int) != (r14.1.length : Int)) with hb10 | hb10
            · have hm := it hb10 hm
              obtain rfl := some_inj hm
              refine X_reg ty_ok Γok hL [(3, .b false), (5, .n (r13.1.length : Int)), (7, .n (r14.1.length : Int)), (10, .b true)] (.cons hb9 (.cons (len_m Enc.e r13.1) (.cons (len_m Enc.e r14.1) (.cons hb10 .nil)))) (by kernel_rfl) ?_
              exact thN (Wk_J hL ⟨[(20, []), (22, []), (24, []), (178, [])], [(16, 304, [])], [], 48⟩ (by kernel_rfl))
            · have hm := ie hb10 hm
              rcases btf r13.2 with hb11 | hb11
              · have hm := it hb11 hm
                obtain ⟨r15, h17, hm⟩ := obind hm
                obtain rfl := some_inj hm
                refine X_reg ty_ok Γok hL [(3, .b false), (5, .n (r13.1.length : Int)), (7, .n (r14.1.length : Int)), (10, .b false), (12, .b true), (14, .c (i_IsValidRides_r r15) (i_IsValidRides_n r15) (i_IsValidRides_o r13.1 r15))] (.cons hb9 (.cons (len_m Enc.e r13.1) (.cons (len_m Enc.e r14.1) (.cons hb10 (.cons hb11 (.cons (i_IsValidRides_c h17) .nil)))))) (by kernel_rfl) ?_
                exact thN (Wk_J hL ⟨[(20, []), (22, []), (24, []), (178, [])], [(16, 304, [])], [], 48⟩ (by kernel_rfl))
              · have hm := ie hb11 hm
                obtain rfl := some_inj hm
                refine X_reg ty_ok Γok hL [(3, .b false), (5, .n (r13.1.length : Int)), (7, .n (r14.1.length : Int)), (10, .b false), (12, .b false)] (.cons hb9 (.cons (len_m Enc.e r13.1) (.cons (len_m Enc.e r14.1) (.cons hb10 (.cons hb11 .nil))))) (by kernel_rfl) ?_
                exact thN (Wk_J hL ⟨[(20, []), (22, []), (24, []), (178, [])], [(16, 304, [])], [], 48⟩ (by kernel_rfl))
        have hm := hk6
        refine X_cond v4 (by kernel_rfl) (fun hc8 => ?_) (fun hc8 => ?_)
        · have hm := it hc8 hm
          refine X_reg_seq ty_ok Γok hL [] .nil (by kernel_rfl) ?_
          obtain rfl := some_inj hm
          refine Ok_ret ?_
          repeat (first | refine thR ?_ | refine ibR ?_)
          exact X_fin [] [] (by kernel_rfl) trivial
        · have hm := ie hc8 hm
          refine X_skip ?_
          refine thN ?_
          refine Ok_seq ?_
          refine X_reg_seq ty_ok Γok hL [] .nil (by kernel_rfl) ?_
          obtain ⟨v7, hv8, hr3, hk8⟩ := flb_t hm
          refine X_tailF (n := 215) (fun (_ : Unit) => (⟨[], [], 32⟩ : X)) v7 ?_ ?_
          · have hm := hv8
            refine Ok_block ?_
            refine X_loop (n := 215) (step := v_FnTickets_L3 r12 r13 r14) (fun (v5 : Int) => (⟨[(20, .dat (Enc.e r12.1)), (22, .dat (Enc.e r13.1)), (24, .own 16), (26, .dat (.sc (.int .i64 v5)))], [(16, some (.arr 56 3 (List.map Enc.e r14.1)))], 48⟩ : X)) hm (Wk_J hL ⟨[(20, []), (22, []), (24, []), (26, [])], [(16, 16, [])], [], 48⟩ (by kernel_rfl)) ?_
            rintro v5 r0 hm hb12
            rw [v_FnTickets_L3] at hm
            refine Ok_seq ?_
            refine X_reg_seq ty_ok Γok hL [(2, .n (r13.1.length : Int))] (.cons (len_m Enc.e r13.1) .nil) (by kernel_rfl) ?_
            refine X_cond (decide (v5 < (r13.1.length : Int))) (by kernel_rfl) (fun hc9 => ?_) (fun hc9 => ?_)
            · have hm := it hc9 hm
              refine X_skip ?_
              refine thN ?_
              refine Ok_seq ?_
              refine Ok_block ?_
              obtain ⟨e13, h23, hm⟩ := obind hm
              obtain ⟨e14, h24, hm⟩ := obind hm
              obtain ⟨v6, hv7, hk7⟩ := obind hm
              refine X_join (n := 215) (fun (v6 : Bool) => (⟨[(20, .dat (Enc.e r12.1)), (22, .dat (Enc.e r13.1)), (24, .own 16), (26, .dat (.sc (.int .i64 v5))), (214, .dat (.sc (.bool v6)))], [(16, some (.arr 56 3 (List.map Enc.e r14.1)))], 48⟩ : X)) v6 ?_ ?_
              · have hm := hv7
                rcases btf (!((e13.Day == e14.Day) && ((e13.Time == e14.Time) && ((e13.Fare == e14.Fare) && true)))) with hb13 | hb13
                · have hm := it hb13 hm
                  obtain rfl := some_inj hm
                  refine X_draw mixed ty_ok Γok Γlive [] (by kernel_rfl) [(2, .d (Enc.e e13)), (6, .d (Enc.e e14)), (7, .d (Enc.e e14)), (9, .b true)] (.cons (idx_m (f := Enc.e) h23) (.cons (idx_m (f := Enc.e) h24) (.cons (idx_m2 (f := Enc.e) h24) (.cons hb13 .nil)))) (by kernel_rfl) ?_
                  exact thN (Wk_J hL ⟨[(20, []), (22, []), (24, []), (26, []), (214, [])], [(16, 16, [])], [], 48⟩ (by kernel_rfl))
                · have hm := ie hb13 hm
                  obtain ⟨e15, h25, hm⟩ := obind hm
                  rcases btf (e15.Fare != 0) with hb14 | hb14
                  · have hm := it hb14 hm
                    obtain ⟨e16, h26, hm⟩ := obind hm
                    obtain ⟨e17, h27, hm⟩ := obind hm
                    obtain rfl := some_inj hm
                    refine X_draw mixed ty_ok Γok Γlive [] (by kernel_rfl) [(2, .d (Enc.e e13)), (6, .d (Enc.e e14)), (7, .d (Enc.e e14)), (9, .b false), (12, .d (Enc.e e15)), (16, .b true), (19, .d (Enc.e e16)), (24, .d (Enc.e e17))] (.cons (idx_m (f := Enc.e) h23) (.cons (idx_m (f := Enc.e) h24) (.cons (idx_m2 (f := Enc.e) h24) (.cons hb13 (.cons (idx_m (f := Enc.e) h25) (.cons hb14 (.cons (idx_m (f := Enc.e) h26) (.cons (idx_m (f := Enc.e) h27) .nil)))))))) (by kernel_rfl) ?_
                    exact thN (Wk_J hL ⟨[(20, []), (22, []), (24, []), (26, []), (214, [])], [(16, 16, [])], [], 48⟩ (by kernel_rfl))
                  · have hm := ie hb14 hm
                    obtain rfl := some_inj hm
                    refine X_draw mixed ty_ok Γok Γlive [] (by kernel_rfl) [(2, .d (Enc.e e13)), (6, .d (Enc.e e14)), (7, .d (Enc.e e14)), (9, .b false), (12, .d (Enc.e e15)), (16, .b false)] (.cons (idx_m (f := Enc.e) h23) (.cons (idx_m (f := Enc.e) h24) (.cons (idx_m2 (f := Enc.e) h24) (.cons hb13 (.cons (idx_m (f := Enc.e) h25) (.cons hb14 .nil)))))) (by kernel_rfl) ?_
                    exact thN (Wk_J hL ⟨[(20, []), (22, []), (24, []), (26, []), (214, [])], [(16, 16, [])], [], 48⟩ (by kernel_rfl))
              have hm := hk7
              refine X_cond v6 (by kernel_rfl) (fun hc10 => ?_) (fun hc10 => ?_)
              · have hm := it hc10 hm
                refine X_reg_seq ty_ok Γok hL [] .nil (by kernel_rfl) ?_
                obtain rfl := some_inj hm
                obtain rfl := hb12 _ rfl
                have hm := congrArg some (hr3 _ rfl)
                obtain rfl := some_inj hm
                refine Ok_ret ?_
                repeat (first | refine thR ?_ | refine ibR ?_)
                exact X_fin [] [] (by kernel_rfl) trivial
              · have hm := ie hc10 hm
                refine X_skip ?_
                refine ibN ?_
                refine thN ?_
                refine X_reg ty_ok Γok hL [] .nil (by kernel_rfl) ?_
                obtain rfl := some_inj hm
                exact thN ⟨_, rfl, Wk_J hL ⟨[(20, []), (22, []), (24, []), (26, [])], [(16, 16, [])], [], 48⟩ (by kernel_rfl)⟩
            · have hm := ie hc9 hm
              obtain rfl := some_inj hm
              obtain rfl := hb12 _ rfl
              refine Ok_exit ?_
              refine thE ?_
              refine thE ?_
              refine ibE ?_
              exact thN ⟨_, rfl, Wk_J hL ⟨[], [], [], 32⟩ (by kernel_rfl)⟩
          rintro ⟨⟩ hu1 s2 hw2
          have hm := hk8 _ hu1
          refine thN ?_
          refine Ok_weak hw2 ?_
          refine X_reg_seq ty_ok Γok hL [] .nil (by kernel_rfl) ?_
          obtain rfl := some_inj hm
          refine Ok_ret ?_
          repeat (first | refine thR ?_ | refine ibR ?_)
          exact X_fin [] [] (by kernel_rfl) trivial
end Go.Proofs.Ytmpgpfekekobfaa
