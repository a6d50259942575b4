/- Each function computes what its model says. Made by program (dec.py). -/
import Derived.Test.YtmpgpfekekobfaaTy
import Derived.Test.YtmpgpfekekobfaaAbEx5
import Derived.Test.YtmpgpfekekobfaaTiM
namespace Go.Proofs.Ytmpgpfekekobfaa
open Go Go.Ab
set_option maxRecDepth 100000
set_option maxHeartbeats 4000000
set_option linter.unusedVariables false
set_option linter.unusedSimpArgs false
theorem mixed : Try.prog.follows .mixedOrders = true := by kernel_rfl
abbrev v_rBig_r (y : Bool) : AV := .dat (Enc.e y)
abbrev v_rBig_n (y : Bool) : List Obj' := []
abbrev v_rBig_o (x : (List UInt8)) (y : Bool) : List Obj' := []
noncomputable def v_rBig_S : FnSpec := modS [none] (fun x : (List UInt8) => [Enc.e x]) (fun x : (List UInt8) => []) (fun x : (List UInt8) => v_rBig x) v_rBig_r v_rBig_n v_rBig_o
theorem v_rBig_c {code : List UInt8} {y : Bool} (h : v_rBig code = some y) : CallOK v_rBig_S [Enc.e code] [] (v_rBig_r y) (v_rBig_n y) (v_rBig_o code y) :=
  modS_call (by
    rintro a0 b0 h h2
    simp only [List.cons.injEq, and_true] at h
    try simp only [List.cons.injEq, and_true, Obj'.box.injEq, Obj'.arr.injEq, true_and, AV.dat.injEq] at h2
    have h0 := h
    have q0 := Enc.inj _ _ h0
    subst q0; rfl) (x := code) h
theorem v_rBig_ok : FnOK Try.prog 6 v_rBig_S := by
  have Γok : ∀ f S, lookF f [] = some S → FnOK Try.prog f S := lookF_ok allF_nil
  have Γlive : Live (fun f => lookF f []) := lookF_live allL_nil
  refine fnOK_mod ty_ok (fun args w => Try.call6 args w) Try.func6 rfl [.tmp 2] (by rw [Try.results6]) 6 Try.ntmps6 16 rfl (fun _ => by first | exact Nat.zero_le _ | (simp)) (fun _ => rfl) ?_
  rintro code y cx hm hL
  have hm : v_rBig code = some y := hm
  have hL : cx.L = 0 := hL
  unfold v_rBig at hm
  refine X_reg_seq ty_ok Γok hL [] .nil (by kernel_rfl) ?_
  refine X_reg_seq ty_ok Γok hL [(1, .n (code.length : Int))] (.cons (len_m Enc.e code) .nil) (by kernel_rfl) ?_
  obtain rfl := some_inj hm
  refine Ok_ret ?_
  repeat (first | refine thR ?_ | refine ibR ?_)
  exact X_fin [] [] (by kernel_rfl) trivial
abbrev s_l1Cur_next_r (y : Int × l1Cur) : AV := .dat (Enc.e y.1)
abbrev s_l1Cur_next_n (y : Int × l1Cur) : List Obj' := []
abbrev s_l1Cur_next_o (x : l1Cur) (y : Int × l1Cur) : List Obj' := [.box [.dat (Enc.e y.2.code_), .dat (.sc (.int .i64 y.2.at_)), .dat (.sc (.int .u64 y.2.seed_.v))]]
noncomputable def s_l1Cur_next_S : FnSpec := modS [some false] (fun x : l1Cur => [.sc undef]) (fun x : l1Cur => [.box [.dat (Enc.e x.code_), .dat (.sc (.int .i64 x.at_)), .dat (.sc (.int .u64 x.seed_.v))]]) (fun x : l1Cur => s_l1Cur_next x) s_l1Cur_next_r s_l1Cur_next_n s_l1Cur_next_o
theorem s_l1Cur_next_c {c : l1Cur} {y : Int × l1Cur} (h : s_l1Cur_next c = some y) : CallOK s_l1Cur_next_S [.sc undef] [.box [.dat (Enc.e c.code_), .dat (.sc (.int .i64 c.at_)), .dat (.sc (.int .u64 c.seed_.v))]] (s_l1Cur_next_r y) (s_l1Cur_next_n y) (s_l1Cur_next_o c y) :=
  modS_call (by
    rintro a0 b0 h h2
    simp only [List.cons.injEq, and_true] at h
    try simp only [List.cons.injEq, and_true, Obj'.box.injEq, Obj'.arr.injEq, true_and, AV.dat.injEq] at h2
    have h0 := h
    have g0 := h2
    have q0 : a0 = b0 := Enc.inj _ _ (by show D.agg _ = D.agg _; simp only [D.agg.injEq, List.cons.injEq, and_true]; exact g0)
    subst q0; rfl) (x := c) h
theorem s_l1Cur_next_ok : FnOK Try.prog 106 s_l1Cur_next_S := by
  have Γok : ∀ f S, lookF f [] = some S → FnOK Try.prog f S := lookF_ok allF_nil
  have Γlive : Live (fun f => lookF f []) := lookF_live allL_nil
  refine fnOK_mod ty_ok (fun args w => Try.call106 args w) Try.func106 rfl [.tmp 2] (by rw [Try.results106]) 62 Try.ntmps106 16 rfl (fun _ => by first | exact Nat.zero_le _ | (simp)) (fun _ => rfl) ?_
  rintro c y cx hm hL
  have hm : s_l1Cur_next c = some y := hm
  have hL : cx.L = 1 := hL
  unfold s_l1Cur_next at hm
  refine X_reg_seq ty_ok Γok hL [] .nil (by kernel_rfl) ?_
  refine X_reg_seq ty_ok Γok hL [] .nil (by kernel_rfl) ?_
  obtain ⟨v, hv, hk⟩ := obind hm
  refine X_join (n := 62) (fun (v : Int) => (⟨[(0, .ref 0 0), (3, .dat (.sc (.int .i64 v)))], [(0, some (.box [.dat (Enc.e c.code_), .dat (.sc (.int .i64 c.at_)), .dat (.sc (.int .u64 c.seed_.v))]))], 48⟩ : X)) v ?_ ?_
  · have hm := hv
    refine X_draw_seq mixed ty_ok Γok Γlive [] (by kernel_rfl) [(8, .n (c.code_.length : Int))] (.cons (len_m Enc.e c.code_) .nil) (by kernel_rfl) ?_
    refine X_cond (decide (c.at_ < (c.code_.length : Int))) (by kernel_rfl) (fun hc => ?_) (fun hc => ?_)
    · have hm := it hc hm
      obtain ⟨e1, h1, hm⟩ := obind hm
      refine X_draw mixed ty_ok Γok Γlive [] (by kernel_rfl) [(8, .d (Enc.e e1))] (.cons (idx_m (f := Enc.e) h1) .nil) (by kernel_rfl) ?_
      obtain rfl := some_inj hm
      exact thN (Wk_J hL ⟨[(0, []), (3, [])], [(0, 0, [])], [], 48⟩ (by kernel_rfl))
    · have hm := ie hc hm
      refine X_skip ?_
      obtain rfl := some_inj hm
      exact thN (Wk_J hL ⟨[(0, []), (3, [])], [(0, 0, [])], [], 48⟩ (by kernel_rfl))
  have hm := hk
  refine X_reg_seq ty_ok Γok hL [] .nil (by kernel_rfl) ?_
  refine X_reg_seq ty_ok Γok hL [] .nil (by kernel_rfl) ?_
  refine Ok_seq ?_
  refine X_draw_seq mixed ty_ok Γok Γlive [] (by kernel_rfl) [(8, .n (c.code_.length : Int))] (.cons (len_m Enc.e c.code_) .nil) (by kernel_rfl) ?_
  refine X_cond (decide ((w64 (c.at_ + 1)) ≤ (c.code_.length : Int))) (by kernel_rfl) (fun hc1 => ?_) (fun hc1 => ?_)
  · have hm := it hc1 hm
    refine X_reg_seq ty_ok Γok hL [] .nil (by kernel_rfl) ?_
    obtain rfl := some_inj hm
    refine Ok_ret ?_
    repeat (first | refine thR ?_ | refine ibR ?_)
    exact X_fin [] [] (by kernel_rfl) trivial
  · have hm := ie hc1 hm
    refine X_skip ?_
    refine thN ?_
    obtain ⟨u, h2, hm⟩ := obind hm
    refine X_reg_seq ty_ok Γok hL [] (.cons (chk_t h2) .nil) (by kernel_rfl) ?_
    obtain rfl := some_inj hm
    refine Ok_ret ?_
    repeat (first | refine thR ?_ | refine ibR ?_)
    exact X_fin [] [] (by kernel_rfl) trivial
abbrev s_l1Cur_pick_r (y : Int × l1Cur) : AV := .dat (Enc.e y.1)
abbrev s_l1Cur_pick_n (y : Int × l1Cur) : List Obj' := []
abbrev s_l1Cur_pick_o (x : l1Cur × Int) (y : Int × l1Cur) : List Obj' := [.box [.dat (Enc.e y.2.code_), .dat (.sc (.int .i64 y.2.at_)), .dat (.sc (.int .u64 y.2.seed_.v))]]
noncomputable def s_l1Cur_pick_S : FnSpec := modS [some false, none] (fun x : l1Cur × Int => [.sc undef, Enc.e x.2]) (fun x : l1Cur × Int => [.box [.dat (Enc.e x.1.code_), .dat (.sc (.int .i64 x.1.at_)), .dat (.sc (.int .u64 x.1.seed_.v))]]) (fun x : l1Cur × Int => s_l1Cur_pick x.1 x.2) s_l1Cur_pick_r s_l1Cur_pick_n s_l1Cur_pick_o
theorem s_l1Cur_pick_c {c : l1Cur} {n : Int} {y : Int × l1Cur} (h : s_l1Cur_pick c n = some y) : CallOK s_l1Cur_pick_S [.sc undef, Enc.e n] [.box [.dat (Enc.e c.code_), .dat (.sc (.int .i64 c.at_)), .dat (.sc (.int .u64 c.seed_.v))]] (s_l1Cur_pick_r y) (s_l1Cur_pick_n y) (s_l1Cur_pick_o (c, n) y) :=
  modS_call (by
    rintro ⟨a0, a1⟩ ⟨b0, b1⟩ h h2
    simp only [List.cons.injEq, and_true] at h
    try simp only [List.cons.injEq, and_true, Obj'.box.injEq, Obj'.arr.injEq, true_and, AV.dat.injEq] at h2
    obtain ⟨h0, h1⟩ := h
    have q1 := Enc.inj _ _ h1
    have g0 := h2
    have q0 : a0 = b0 := Enc.inj _ _ (by show D.agg _ = D.agg _; simp only [D.agg.injEq, List.cons.injEq, and_true]; exact g0)
    subst q0; subst q1; rfl) (x := (c, n)) h
theorem s_l1Cur_pick_ok : FnOK Try.prog 55 s_l1Cur_pick_S := by
  have Γok : ∀ f S, lookF f [(106, s_l1Cur_next_S)] = some S → FnOK Try.prog f S := lookF_ok (allF_cons s_l1Cur_next_ok allF_nil)
  have Γlive : Live (fun f => lookF f [(106, s_l1Cur_next_S)]) := lookF_live (allL_cons modS_live allL_nil)
  refine fnOK_mod ty_ok (fun args w => Try.call55 args w) Try.func55 rfl [.tmp 4] (by rw [Try.results55]) 20 Try.ntmps55 16 rfl (fun _ => by first | exact Nat.zero_le _ | (simp)) (fun _ => rfl) ?_
  rintro ⟨c, n⟩ y cx hm hL
  have hm : s_l1Cur_pick c n = some y := hm
  have hL : cx.L = 1 := hL
  unfold s_l1Cur_pick at hm
  refine X_reg_seq ty_ok Γok hL [] .nil (by kernel_rfl) ?_
  refine Ok_seq ?_
  refine X_reg_seq ty_ok Γok hL [] .nil (by kernel_rfl) ?_
  refine X_cond (decide (n ≤ 1)) (by kernel_rfl) (fun hc => ?_) (fun hc => ?_)
  · have hm := it hc hm
    refine X_reg_seq ty_ok Γok hL [] .nil (by kernel_rfl) ?_
    obtain rfl := some_inj hm
    refine Ok_ret ?_
    repeat (first | refine thR ?_ | refine ibR ?_)
    exact X_fin [] [] (by kernel_rfl) trivial
  · have hm := ie hc hm
    refine X_skip ?_
    refine thN ?_
    obtain ⟨r, h, hm⟩ := obind hm
    refine X_reg_seq ty_ok Γok hL [(1, .c (s_l1Cur_next_r r) (s_l1Cur_next_n r) (s_l1Cur_next_o c r))] (.cons (s_l1Cur_next_c h) .nil) (by kernel_rfl) ?_
    obtain ⟨vv, hv, hk⟩ := obind hm
    refine X_join (n := 20) (fun ((v, v1, v2, v3) : Int × (List UInt8) × Int × Int) => (⟨[(0, .ref 0 0), (1, .dat (.sc (.int .i64 n))), (5, .dat (.sc (.int .i64 v)))], [(0, some (.box [.dat (Enc.e v1), .dat (.sc (.int .i64 v2)), .dat (.sc (.int .u64 v3))]))], 48⟩ : X)) vv ?_ ?_
    · have hm := hv
      refine X_reg_seq ty_ok Γok hL [] .nil (by kernel_rfl) ?_
      refine X_cond (decide (200 < n)) (by kernel_rfl) (fun hc1 => ?_) (fun hc1 => ?_)
      · have hm := it hc1 hm
        obtain ⟨r1, h1, hm⟩ := obind hm
        refine X_reg ty_ok Γok hL [(3, .c (s_l1Cur_next_r r1) (s_l1Cur_next_n r1) (s_l1Cur_next_o r.2 r1))] (.cons (s_l1Cur_next_c h1) .nil) (by kernel_rfl) ?_
        obtain rfl := some_inj hm
        exact thN (Wk_J hL ⟨[(0, []), (1, []), (5, [])], [(0, 0, [])], [], 48⟩ (by kernel_rfl))
      · have hm := ie hc1 hm
        refine X_skip ?_
        obtain rfl := some_inj hm
        exact thN (Wk_J hL ⟨[(0, []), (1, []), (5, [])], [(0, 0, [])], [], 48⟩ (by kernel_rfl))
    obtain ⟨v, v1, v2, v3⟩ := vv
    have hm := hk
    obtain ⟨u, h2, hm⟩ := obind hm
    refine X_reg_seq ty_ok Γok hL [] (.cons (chk_t h2) .nil) (by kernel_rfl) ?_
    obtain rfl := some_inj hm
    refine Ok_ret ?_
    repeat (first | refine thR ?_ | refine ibR ?_)
    exact X_fin [] [] (by kernel_rfl) trivial
abbrev s_l1Cur_among_r (y : Int × l1Cur) : AV := .dat (Enc.e y.1)
abbrev s_l1Cur_among_n (y : Int × l1Cur) : List Obj' := []
abbrev s_l1Cur_among_o (x : l1Cur × (List Int)) (y : Int × l1Cur) : List Obj' := [.box [.dat (Enc.e y.2.code_), .dat (.sc (.int .i64 y.2.at_)), .dat (.sc (.int .u64 y.2.seed_.v))]]
noncomputable def s_l1Cur_among_S : FnSpec := modS [some false, none] (fun x : l1Cur × (List Int) => [.sc undef, Enc.e x.2]) (fun x : l1Cur × (List Int) => [.box [.dat (Enc.e x.1.code_), .dat (.sc (.int .i64 x.1.at_)), .dat (.sc (.int .u64 x.1.seed_.v))]]) (fun x : l1Cur × (List Int) => s_l1Cur_among x.1 x.2) s_l1Cur_among_r s_l1Cur_among_n s_l1Cur_among_o
theorem s_l1Cur_among_c {c : l1Cur} {list : List Int} {y : Int × l1Cur} (h : s_l1Cur_among c list = some y) : CallOK s_l1Cur_among_S [.sc undef, Enc.e list] [.box [.dat (Enc.e c.code_), .dat (.sc (.int .i64 c.at_)), .dat (.sc (.int .u64 c.seed_.v))]] (s_l1Cur_among_r y) (s_l1Cur_among_n y) (s_l1Cur_among_o (c, list) y) :=
  modS_call (by
    rintro ⟨a0, a1⟩ ⟨b0, b1⟩ h h2
    simp only [List.cons.injEq, and_true] at h
    try simp only [List.cons.injEq, and_true, Obj'.box.injEq, Obj'.arr.injEq, true_and, AV.dat.injEq] at h2
    obtain ⟨h0, h1⟩ := h
    have q1 := Enc.inj _ _ h1
    have g0 := h2
    have q0 : a0 = b0 := Enc.inj _ _ (by show D.agg _ = D.agg _; simp only [D.agg.injEq, List.cons.injEq, and_true]; exact g0)
    subst q0; subst q1; rfl) (x := (c, list)) h
theorem s_l1Cur_among_ok : FnOK Try.prog 54 s_l1Cur_among_S := by
  have Γok : ∀ f S, lookF f [(55, s_l1Cur_pick_S)] = some S → FnOK Try.prog f S := lookF_ok (allF_cons s_l1Cur_pick_ok allF_nil)
  have Γlive : Live (fun f => lookF f [(55, s_l1Cur_pick_S)]) := lookF_live (allL_cons modS_live allL_nil)
  refine fnOK_mod ty_ok (fun args w => Try.call54 args w) Try.func54 rfl [.tmp 4] (by rw [Try.results54]) 12 Try.ntmps54 16 rfl (fun _ => by first | exact Nat.zero_le _ | (simp)) (fun _ => rfl) ?_
  rintro ⟨c, list⟩ y cx hm hL
  have hm : s_l1Cur_among c list = some y := hm
  have hL : cx.L = 1 := hL
  unfold s_l1Cur_among at hm
  refine X_reg_seq ty_ok Γok hL [] .nil (by kernel_rfl) ?_
  obtain ⟨r, h, hm⟩ := obind hm
  obtain ⟨e, h1, hm⟩ := obind hm
  refine X_reg_seq ty_ok Γok hL [(3, .n (list.length : Int)), (4, .c (s_l1Cur_pick_r r) (s_l1Cur_pick_n r) (s_l1Cur_pick_o (c, (list.length : Int)) r)), (5, .d (Enc.e e))] (.cons (len_m Enc.e list) (.cons (s_l1Cur_pick_c h) (.cons (idx_m (f := Enc.e) h1) .nil))) (by kernel_rfl) ?_
  obtain rfl := some_inj hm
  refine Ok_ret ?_
  repeat (first | refine thR ?_ | refine ibR ?_)
  exact X_fin [] [] (by kernel_rfl) trivial
abbrev s_l1Cur_among_w_r (y : Int × l1Cur) : AV := .dat (Enc.e y.1)
abbrev s_l1Cur_among_w_n (y : Int × l1Cur) : List Obj' := []
abbrev s_l1Cur_among_w_o (x : l1Cur × (List Int)) (y : Int × l1Cur) : List Obj' := [.box [.dat (Enc.e y.2.code_), .dat (.sc (.int .i64 y.2.at_)), .dat (.sc (.int .u64 y.2.seed_.v))], .arr 3 1 (List.map Enc.e x.2)]
noncomputable def s_l1Cur_among_w_S : FnSpec := modS [some false, some true] (fun x : l1Cur × (List Int) => [.sc undef, .sc undef]) (fun x : l1Cur × (List Int) => [.box [.dat (Enc.e x.1.code_), .dat (.sc (.int .i64 x.1.at_)), .dat (.sc (.int .u64 x.1.seed_.v))], .arr 3 1 (List.map Enc.e x.2)]) (fun x : l1Cur × (List Int) => s_l1Cur_among_w x.1 x.2) s_l1Cur_among_w_r s_l1Cur_among_w_n s_l1Cur_among_w_o
theorem s_l1Cur_among_w_c {c : l1Cur} {list : List Int} {y : Int × l1Cur} (h : s_l1Cur_among_w c list = some y) : CallOK s_l1Cur_among_w_S [.sc undef, .sc undef] [.box [.dat (Enc.e c.code_), .dat (.sc (.int .i64 c.at_)), .dat (.sc (.int .u64 c.seed_.v))], .arr 3 1 (List.map Enc.e list)] (s_l1Cur_among_w_r y) (s_l1Cur_among_w_n y) (s_l1Cur_among_w_o (c, list) y) :=
  modS_call (by
    rintro ⟨a0, a1⟩ ⟨b0, b1⟩ h h2
    simp only [List.cons.injEq, and_true] at h
    try simp only [List.cons.injEq, and_true, Obj'.box.injEq, Obj'.arr.injEq, true_and, AV.dat.injEq] at h2
    obtain ⟨h0, h1⟩ := h
    obtain ⟨g0, g1⟩ := h2
    have q0 : a0 = b0 := Enc.inj _ _ (by show D.agg _ = D.agg _; simp only [D.agg.injEq, List.cons.injEq, and_true]; exact g0)
    have q1 := (List.map_inj_right (fun x y => Enc.inj x y)).1 g1
    subst q0; subst q1; rfl) (x := (c, list)) h
theorem s_l1Cur_among_w_ok : FnOK Try.prog 54 s_l1Cur_among_w_S := by
  have Γok : ∀ f S, lookF f [(55, s_l1Cur_pick_S)] = some S → FnOK Try.prog f S := lookF_ok (allF_cons s_l1Cur_pick_ok allF_nil)
  have Γlive : Live (fun f => lookF f [(55, s_l1Cur_pick_S)]) := lookF_live (allL_cons modS_live allL_nil)
  refine fnOK_mod ty_ok (fun args w => Try.call54 args w) Try.func54 rfl [.tmp 4] (by rw [Try.results54]) 12 Try.ntmps54 16 rfl (fun _ => by first | exact Nat.zero_le _ | (simp)) (fun _ => rfl) ?_
  rintro ⟨c, list⟩ y cx hm hL
  have hm : s_l1Cur_among_w c list = some y := hm
  have hL : cx.L = 2 := hL
  unfold s_l1Cur_among_w at hm
  refine X_reg_seq ty_ok Γok hL [] .nil (by kernel_rfl) ?_
  obtain ⟨r, h, hm⟩ := obind hm
  obtain ⟨e, h1, hm⟩ := obind hm
  refine X_reg_seq ty_ok Γok hL [(3, .n (list.length : Int)), (4, .c (s_l1Cur_pick_r r) (s_l1Cur_pick_n r) (s_l1Cur_pick_o (c, (list.length : Int)) r)), (5, .d (Enc.e e)), (6, .d (Enc.e e))] (.cons (len_m Enc.e list) (.cons (s_l1Cur_pick_c h) (.cons (idx_m (f := Enc.e) h1) (.cons (idx_m2 (f := Enc.e) h1) .nil)))) (by kernel_rfl) ?_
  obtain rfl := some_inj hm
  refine Ok_ret ?_
  repeat (first | refine thR ?_ | refine ibR ?_)
  exact X_fin [] [] (by kernel_rfl) trivial
abbrev s_l1Cur_prices_r (y : Prices × l1Cur) : AV := .dat (Enc.e y.1)
abbrev s_l1Cur_prices_n (y : Prices × l1Cur) : List Obj' := []
abbrev s_l1Cur_prices_o (x : l1Cur) (y : Prices × l1Cur) : List Obj' := [.box [.dat (Enc.e y.2.code_), .dat (.sc (.int .i64 y.2.at_)), .dat (.sc (.int .u64 y.2.seed_.v))]]
noncomputable def s_l1Cur_prices_S : FnSpec := modS [some false] (fun x : l1Cur => [.sc undef]) (fun x : l1Cur => [.box [.dat (Enc.e x.code_), .dat (.sc (.int .i64 x.at_)), .dat (.sc (.int .u64 x.seed_.v))]]) (fun x : l1Cur => s_l1Cur_prices x) s_l1Cur_prices_r s_l1Cur_prices_n s_l1Cur_prices_o
theorem s_l1Cur_prices_c {c : l1Cur} {y : Prices × l1Cur} (h : s_l1Cur_prices c = some y) : CallOK s_l1Cur_prices_S [.sc undef] [.box [.dat (Enc.e c.code_), .dat (.sc (.int .i64 c.at_)), .dat (.sc (.int .u64 c.seed_.v))]] (s_l1Cur_prices_r y) (s_l1Cur_prices_n y) (s_l1Cur_prices_o c y) :=
  modS_call (by
    rintro a0 b0 h h2
    simp only [List.cons.injEq, and_true] at h
    try simp only [List.cons.injEq, and_true, Obj'.box.injEq, Obj'.arr.injEq, true_and, AV.dat.injEq] at h2
    have h0 := h
    have g0 := h2
    have q0 : a0 = b0 := Enc.inj _ _ (by show D.agg _ = D.agg _; simp only [D.agg.injEq, List.cons.injEq, and_true]; exact g0)
    subst q0; rfl) (x := c) h
theorem s_l1Cur_prices_ok : FnOK Try.prog 107 s_l1Cur_prices_S := by
  have Γok : ∀ f S, lookF f [(54, s_l1Cur_among_w_S), (55, s_l1Cur_pick_S)] = some S → FnOK Try.prog f S := lookF_ok (allF_cons s_l1Cur_among_w_ok (allF_cons s_l1Cur_pick_ok allF_nil))
  have Γlive : Live (fun f => lookF f [(54, s_l1Cur_among_w_S), (55, s_l1Cur_pick_S)]) := lookF_live (allL_cons modS_live (allL_cons modS_live allL_nil))
  refine fnOK_mod ty_ok (fun args w => Try.call107 args w) Try.func107 rfl [.cell 2 47] (by rw [Try.results107]) 59 Try.ntmps107 16 rfl (fun _ => by first | exact Nat.zero_le _ | (simp)) (fun _ => rfl) ?_
  rintro c y cx hm hL
  have hm : s_l1Cur_prices c = some y := hm
  have hL : cx.L = 1 := hL
  unfold s_l1Cur_prices at hm
  refine X_reg_seq ty_ok Γok hL [] .nil (by kernel_rfl) ?_
  obtain ⟨r, h, hm⟩ := obind hm
  obtain ⟨r1, h1, hm⟩ := obind hm
  refine X_reg_seq ty_ok Γok hL [(2, .c (s_l1Cur_among_w_r r) (s_l1Cur_among_w_n r) (s_l1Cur_among_w_o (c, ([500, 700, 300, 10000] : List Int)) r)), (5, .c (s_l1Cur_among_w_r r1) (s_l1Cur_among_w_n r1) (s_l1Cur_among_w_o (r.2, ([2000, 1500, 3000, 900, 10000] : List Int)) r1))] (.cons (s_l1Cur_among_w_c h) (.cons (s_l1Cur_among_w_c h1) .nil)) (by kernel_rfl) ?_
  obtain ⟨r2, h2, hm⟩ := obind hm
  refine X_reg_seq ty_ok Γok hL [(2, .c (s_l1Cur_among_w_r r2) (s_l1Cur_among_w_n r2) (s_l1Cur_among_w_o (r1.2, ([100, 200, 250] : List Int)) r2))] (.cons (s_l1Cur_among_w_c h2) .nil) (by kernel_rfl) ?_
  refine Ok_seq ?_
  obtain ⟨r3, h3, hm⟩ := obind hm
  refine X_reg_seq ty_ok Γok hL [(1, .c (s_l1Cur_pick_r r3) (s_l1Cur_pick_n r3) (s_l1Cur_pick_o (r2.2, 4) r3))] (.cons (s_l1Cur_pick_c h3) .nil) (by kernel_rfl) ?_
  obtain ⟨vv1, hv, hk⟩ := obind hm
  refine X_tail (n := 59) (fun ((v5, v6, v7, v8) : (List UInt8) × Int × Int × (List Int)) => (⟨[(0, .ref 0 0), (2, .ref 32 0), (3, .ref 48 0)], [(0, some (.box [.dat (Enc.e v5), .dat (.sc (.int .i64 v6)), .dat (.sc (.int .u64 v7))])), (32, some (.box [.dat (.sc (.slice none 0 0)), .dat (.sc (.int .i64 0)), .dat (.sc (.int .i64 0))])), (48, some (.box [.own 64, .dat (.sc (.int .i64 r.1)), .dat (.sc (.int .i64 r1.1))])), (64, some (.arr 3 1 (List.map Enc.e v8)))], 96⟩ : X)) vv1 ?_ ?_
  · have hm := hv
    refine Ok_block ?_
    refine X_loop (n := 59) (step := s_l1Cur_prices_L1) (fun ((n, v, v1, v2, v3, v4) : Int × Int × (List UInt8) × Int × Int × (List Int)) => (⟨[(0, .ref 0 0), (2, .ref 32 0), (3, .ref 48 0), (4, .dat (.sc (.int .i64 n))), (5, .dat (.sc (.int .i64 v)))], [(0, some (.box [.dat (Enc.e v1), .dat (.sc (.int .i64 v2)), .dat (.sc (.int .u64 v3))])), (32, some (.box [.dat (.sc (.slice none 0 0)), .dat (.sc (.int .i64 0)), .dat (.sc (.int .i64 0))])), (48, some (.box [.own 64, .dat (.sc (.int .i64 r.1)), .dat (.sc (.int .i64 r1.1))])), (64, some (.arr 3 1 (List.map Enc.e v4)))], 96⟩ : X)) hm (Wk_J hL ⟨[(0, []), (2, []), (3, []), (4, []), (5, [])], [(0, 0, []), (32, 16, []), (48, 144, [.o 64])], [(64, 3, 1)], 96⟩ (by kernel_rfl)) ?_
    rintro ⟨n, v, v1, v2, v3, v4⟩ r0 hm hb
    rw [s_l1Cur_prices_L1] at hm
    refine Ok_seq ?_
    refine X_reg_seq ty_ok Γok hL [] .nil (by kernel_rfl) ?_
    refine X_cond (decide (0 < v)) (by kernel_rfl) (fun hc => ?_) (fun hc => ?_)
    · have hm := it hc hm
      refine X_skip ?_
      refine thN ?_
      refine Ok_seq ?_
      refine Ok_block ?_
      obtain ⟨u, h4, hm⟩ := obind hm
      refine X_reg_seq ty_ok Γok hL [(4, .l (List.map Enc.e (v4 ++ ([n] : List Int))))] (.cons (app_p (f := Enc.e) (g := Enc.e) (l := v4) (r := ([n] : List Int)) (b := 8) (chk_t h4) rfl) (.cons (app_m Enc.e v4 ([n] : List Int)) .nil)) (by kernel_rfl) ?_
      obtain ⟨r4, h5, hm⟩ := obind hm
      refine X_reg ty_ok Γok hL [(3, .c (s_l1Cur_among_w_r r4) (s_l1Cur_among_w_n r4) (s_l1Cur_among_w_o ((⟨v1, v2, (⟨v3⟩ : IK .u64)⟩ : l1Cur), ([0, 50, 100] : List Int)) r4))] (.cons (s_l1Cur_among_w_c h5) .nil) (by kernel_rfl) ?_
      refine ibN ?_
      refine thN ?_
      refine X_reg ty_ok Γok hL [] .nil (by kernel_rfl) ?_
      obtain rfl := some_inj hm
      exact thN ⟨_, rfl, Wk_J hL ⟨[(0, []), (2, []), (3, []), (4, []), (5, [])], [(0, 0, []), (32, 32, []), (48, 48, []), (64, 192, [])], [], 96⟩ (by kernel_rfl)⟩
    · have hm := ie hc hm
      obtain rfl := some_inj hm
      obtain rfl := hb _ rfl
      refine Ok_exit ?_
      refine thE ?_
      refine thE ?_
      refine ibE ?_
      exact thN (Wk_J hL ⟨[(0, []), (2, []), (3, [])], [(0, 0, []), (32, 32, []), (48, 48, []), (64, 64, [])], [], 96⟩ (by kernel_rfl))
  obtain ⟨v5, v6, v7, v8⟩ := vv1
  intro s hw
  have hm := hk
  refine thN ?_
  refine Ok_weak hw ?_
  obtain ⟨vv, hv1, hk1⟩ := obind hm
  refine X_join (n := 59) (fun ((v9, v10, v11, v12, v13) : (List UInt8) × Int × Int × (List Int) × Int) => (⟨[(0, .ref 0 0), (2, .ref 32 0), (3, .ref 48 0)], [(0, some (.box [.dat (Enc.e v9), .dat (.sc (.int .i64 v10)), .dat (.sc (.int .u64 v11))])), (32, some (.box [.dat (.sc (.slice none 0 0)), .dat (.sc (.int .i64 0)), .dat (.sc (.int .i64 0))])), (48, some (.box [.dat (Enc.e v12), .dat (.sc (.int .i64 v13)), .dat (.sc (.int .i64 r1.1))]))], 80⟩ : X)) vv ?_ ?_
  · have hm := hv1
    obtain ⟨r5, h6, hm⟩ := obind hm
    refine X_reg_seq ty_ok Γok hL [(1, .c (s_l1Cur_pick_r r5) (s_l1Cur_pick_n r5) (s_l1Cur_pick_o ((⟨v5, v6, (⟨v7⟩ : IK .u64)⟩ : l1Cur), 40) r5))] (.cons (s_l1Cur_pick_c h6) .nil) (by kernel_rfl) ?_
    refine Ok_block ?_
    refine X_reg_seq ty_ok Γok hL [] .nil (by kernel_rfl) ?_
    refine X_cond (r5.1 == 0) (by kernel_rfl) (fun hc1 => ?_) (fun hc1 => ?_)
    · have hm := it hc1 hm
      obtain ⟨r7, h9, hm⟩ := obind hm
      obtain ⟨u2, h10, hm⟩ := obind hm
      refine X_draw mixed ty_ok Γok Γlive [(4, [0, 208]), (6, [64, 240]), (8, [48, 256])] (by kernel_rfl) [(4, .c (s_l1Cur_among_w_r r7) (s_l1Cur_among_w_n r7) (s_l1Cur_among_w_o (r5.2, ([0, 10000, 10001] : List Int)) r7)), (6, .l (List.map Enc.e (v8 ++ ([r7.1] : List Int))))] (.cons (s_l1Cur_among_w_c h9) (.cons (app_p (f := Enc.e) (g := Enc.e) (l := v8) (r := ([r7.1] : List Int)) (b := 8) (chk_t h10) rfl) (.cons (app_m Enc.e v8 ([r7.1] : List Int)) .nil))) (by kernel_rfl) ?_
      refine ibN ?_
      obtain rfl := some_inj hm
      exact thN (Wk_J hL ⟨[(0, []), (2, []), (3, [])], [(0, 0, []), (32, 32, []), (48, 48, [])], [], 80⟩ (by kernel_rfl))
    · have hm := ie hc1 hm
      refine X_reg_seq ty_ok Γok hL [] .nil (by kernel_rfl) ?_
      refine X_cond (r5.1 == 1) (by kernel_rfl) (fun hc2 => ?_) (fun hc2 => ?_)
      · have hm := it hc2 hm
        obtain ⟨r8, h11, hm⟩ := obind hm
        refine X_reg ty_ok Γok hL [(2, .c (s_l1Cur_among_w_r r8) (s_l1Cur_among_w_n r8) (s_l1Cur_among_w_o (r5.2, ([(-1), 10001, 0] : List Int)) r8))] (.cons (s_l1Cur_among_w_c h11) .nil) (by kernel_rfl) ?_
        refine ibN ?_
        obtain rfl := some_inj hm
        exact thN (Wk_J hL ⟨[(0, []), (2, []), (3, [])], [(0, 0, []), (32, 32, []), (48, 48, [])], [], 80⟩ (by kernel_rfl))
      · have hm := ie hc2 hm
        refine X_reg_seq ty_ok Γok hL [] .nil (by kernel_rfl) ?_
        refine X_cond (r5.1 == 2) (by kernel_rfl) (fun hc3 => ?_) (fun hc3 => ?_)
        · have hm := it hc3 hm
          obtain ⟨u3, h12, hm⟩ := obind hm
          refine X_reg ty_ok Γok hL [(2, .fz [64] []), (2, .l (List.map Enc.e ((v8.take (0 : Int).toNat).drop (0 : Int).toNat)))] (.cons (cut_p (f := Enc.e) (l := v8) (lo := 0) (hi := 0) (chk_t h12)) (.cons (cut_m Enc.e v8 (0 : Int).toNat (0 : Int).toNat) .nil)) (by kernel_rfl) ?_
          refine ibN ?_
          obtain rfl := some_inj hm
          exact thN (Wk_J hL ⟨[(0, []), (2, []), (3, [])], [(0, 0, []), (32, 32, []), (48, 48, [])], [], 80⟩ (by kernel_rfl))
        · have hm := ie hc3 hm
          refine X_skip ?_
          refine ibN ?_
          obtain rfl := some_inj hm
          exact thN (Wk_J hL ⟨[(0, []), (2, []), (3, [])], [(0, 0, []), (32, 32, []), (48, 48, [])], [], 80⟩ (by kernel_rfl))
  obtain ⟨v9, v10, v11, v12, v13⟩ := vv
  have hm := hk1
  refine X_reg_seq ty_ok Γok hL [] .nil (by kernel_rfl) ?_
  obtain rfl := some_inj hm
  refine Ok_ret ?_
  repeat (first | refine thR ?_ | refine ibR ?_)
  exact X_fin [] [] (by kernel_rfl) trivial
abbrev s_l1Cur_one_r (y : Bool × l1Cur) : AV := .dat (Enc.e y.1)
abbrev s_l1Cur_one_n (y : Bool × l1Cur) : List Obj' := []
abbrev s_l1Cur_one_o (x : l1Cur × Int) (y : Bool × l1Cur) : List Obj' := [.box [.dat (Enc.e y.2.code_), .dat (.sc (.int .i64 y.2.at_)), .dat (.sc (.int .u64 y.2.seed_.v))]]
noncomputable def s_l1Cur_one_S : FnSpec := modS [some false, none] (fun x : l1Cur × Int => [.sc undef, Enc.e x.2]) (fun x : l1Cur × Int => [.box [.dat (Enc.e x.1.code_), .dat (.sc (.int .i64 x.1.at_)), .dat (.sc (.int .u64 x.1.seed_.v))]]) (fun x : l1Cur × Int => s_l1Cur_one x.1 x.2) s_l1Cur_one_r s_l1Cur_one_n s_l1Cur_one_o
theorem s_l1Cur_one_c {c : l1Cur} {n : Int} {y : Bool × l1Cur} (h : s_l1Cur_one c n = some y) : CallOK s_l1Cur_one_S [.sc undef, Enc.e n] [.box [.dat (Enc.e c.code_), .dat (.sc (.int .i64 c.at_)), .dat (.sc (.int .u64 c.seed_.v))]] (s_l1Cur_one_r y) (s_l1Cur_one_n y) (s_l1Cur_one_o (c, n) y) :=
  modS_call (by
    rintro ⟨a0, a1⟩ ⟨b0, b1⟩ h h2
    simp only [List.cons.injEq, and_true] at h
    try simp only [List.cons.injEq, and_true, Obj'.box.injEq, Obj'.arr.injEq, true_and, AV.dat.injEq] at h2
    obtain ⟨h0, h1⟩ := h
    have q1 := Enc.inj _ _ h1
    have g0 := h2
    have q0 : a0 = b0 := Enc.inj _ _ (by show D.agg _ = D.agg _; simp only [D.agg.injEq, List.cons.injEq, and_true]; exact g0)
    subst q0; subst q1; rfl) (x := (c, n)) h
theorem s_l1Cur_one_ok : FnOK Try.prog 105 s_l1Cur_one_S := by
  have Γok : ∀ f S, lookF f [(55, s_l1Cur_pick_S)] = some S → FnOK Try.prog f S := lookF_ok (allF_cons s_l1Cur_pick_ok allF_nil)
  have Γlive : Live (fun f => lookF f [(55, s_l1Cur_pick_S)]) := lookF_live (allL_cons modS_live allL_nil)
  refine fnOK_mod ty_ok (fun args w => Try.call105 args w) Try.func105 rfl [.tmp 4] (by rw [Try.results105]) 9 Try.ntmps105 16 rfl (fun _ => by first | exact Nat.zero_le _ | (simp)) (fun _ => rfl) ?_
  rintro ⟨c, n⟩ y cx hm hL
  have hm : s_l1Cur_one c n = some y := hm
  have hL : cx.L = 1 := hL
  unfold s_l1Cur_one at hm
  refine X_reg_seq ty_ok Γok hL [] .nil (by kernel_rfl) ?_
  obtain ⟨r, h, hm⟩ := obind hm
  refine X_reg_seq ty_ok Γok hL [(2, .c (s_l1Cur_pick_r r) (s_l1Cur_pick_n r) (s_l1Cur_pick_o (c, n) r))] (.cons (s_l1Cur_pick_c h) .nil) (by kernel_rfl) ?_
  obtain rfl := some_inj hm
  refine Ok_ret ?_
  repeat (first | refine thR ?_ | refine ibR ?_)
  exact X_fin [] [] (by kernel_rfl) trivial
abbrev s_l1Least_r (y : Int) : AV := .dat (Enc.e y)
abbrev s_l1Least_n (y : Int) : List Obj' := []
abbrev s_l1Least_o (x : Int × Int) (y : Int) : List Obj' := []
noncomputable def s_l1Least_S : FnSpec := modS [none, none] (fun x : Int × Int => [Enc.e x.1, Enc.e x.2]) (fun x : Int × Int => []) (fun x : Int × Int => s_l1Least x.1 x.2) s_l1Least_r s_l1Least_n s_l1Least_o
theorem s_l1Least_c {a : Int} {b : Int} {y : Int} (h : s_l1Least a b = some y) : CallOK s_l1Least_S [Enc.e a, Enc.e b] [] (s_l1Least_r y) (s_l1Least_n y) (s_l1Least_o (a, b) y) :=
  modS_call (by
    rintro ⟨a0, a1⟩ ⟨b0, b1⟩ h h2
    simp only [List.cons.injEq, and_true] at h
    try simp only [List.cons.injEq, and_true, Obj'.box.injEq, Obj'.arr.injEq, true_and, AV.dat.injEq] at h2
    obtain ⟨h0, h1⟩ := h
    have q0 := Enc.inj _ _ h0
    have q1 := Enc.inj _ _ h1
    subst q0; subst q1; rfl) (x := (a, b)) h
theorem s_l1Least_ok : FnOK Try.prog 70 s_l1Least_S := by
  have Γok : ∀ f S, lookF f [] = some S → FnOK Try.prog f S := lookF_ok allF_nil
  have Γlive : Live (fun f => lookF f []) := lookF_live allL_nil
  refine fnOK_mod ty_ok (fun args w => Try.call70 args w) Try.func70 rfl [.tmp 4] (by rw [Try.results70]) 10 Try.ntmps70 16 rfl (fun _ => by first | exact Nat.zero_le _ | (simp)) (fun _ => rfl) ?_
  rintro ⟨a, b⟩ y cx hm hL
  have hm : s_l1Least a b = some y := hm
  have hL : cx.L = 0 := hL
  unfold s_l1Least at hm
  refine X_reg_seq ty_ok Γok hL [] .nil (by kernel_rfl) ?_
  refine Ok_seq ?_
  refine X_reg_seq ty_ok Γok hL [] .nil (by kernel_rfl) ?_
  refine X_cond (decide (a < b)) (by kernel_rfl) (fun hc => ?_) (fun hc => ?_)
  · have hm := it hc hm
    refine X_reg_seq ty_ok Γok hL [] .nil (by kernel_rfl) ?_
    obtain rfl := some_inj hm
    refine Ok_ret ?_
    repeat (first | refine thR ?_ | refine ibR ?_)
    exact X_fin [] [] (by kernel_rfl) trivial
  · have hm := ie hc hm
    refine X_skip ?_
    refine thN ?_
    refine X_reg_seq ty_ok Γok hL [] .nil (by kernel_rfl) ?_
    obtain rfl := some_inj hm
    refine Ok_ret ?_
    repeat (first | refine thR ?_ | refine ibR ?_)
    exact X_fin [] [] (by kernel_rfl) trivial
abbrev s_l1Most_r (y : Int) : AV := .dat (Enc.e y)
abbrev s_l1Most_n (y : Int) : List Obj' := []
abbrev s_l1Most_o (x : Int × Int) (y : Int) : List Obj' := []
noncomputable def s_l1Most_S : FnSpec := modS [none, none] (fun x : Int × Int => [Enc.e x.1, Enc.e x.2]) (fun x : Int × Int => []) (fun x : Int × Int => s_l1Most x.1 x.2) s_l1Most_r s_l1Most_n s_l1Most_o
theorem s_l1Most_c {a : Int} {b : Int} {y : Int} (h : s_l1Most a b = some y) : CallOK s_l1Most_S [Enc.e a, Enc.e b] [] (s_l1Most_r y) (s_l1Most_n y) (s_l1Most_o (a, b) y) :=
  modS_call (by
    rintro ⟨a0, a1⟩ ⟨b0, b1⟩ h h2
    simp only [List.cons.injEq, and_true] at h
    try simp only [List.cons.injEq, and_true, Obj'.box.injEq, Obj'.arr.injEq, true_and, AV.dat.injEq] at h2
    obtain ⟨h0, h1⟩ := h
    have q0 := Enc.inj _ _ h0
    have q1 := Enc.inj _ _ h1
    subst q0; subst q1; rfl) (x := (a, b)) h
theorem s_l1Most_ok : FnOK Try.prog 111 s_l1Most_S := by
  have Γok : ∀ f S, lookF f [] = some S → FnOK Try.prog f S := lookF_ok allF_nil
  have Γlive : Live (fun f => lookF f []) := lookF_live allL_nil
  refine fnOK_mod ty_ok (fun args w => Try.call111 args w) Try.func111 rfl [.tmp 4] (by rw [Try.results111]) 10 Try.ntmps111 16 rfl (fun _ => by first | exact Nat.zero_le _ | (simp)) (fun _ => rfl) ?_
  rintro ⟨a, b⟩ y cx hm hL
  have hm : s_l1Most a b = some y := hm
  have hL : cx.L = 0 := hL
  unfold s_l1Most at hm
  refine X_reg_seq ty_ok Γok hL [] .nil (by kernel_rfl) ?_
  refine Ok_seq ?_
  refine X_reg_seq ty_ok Γok hL [] .nil (by kernel_rfl) ?_
  refine X_cond (decide (b < a)) (by kernel_rfl) (fun hc => ?_) (fun hc => ?_)
  · have hm := it hc hm
    refine X_reg_seq ty_ok Γok hL [] .nil (by kernel_rfl) ?_
    obtain rfl := some_inj hm
    refine Ok_ret ?_
    repeat (first | refine thR ?_ | refine ibR ?_)
    exact X_fin [] [] (by kernel_rfl) trivial
  · have hm := ie hc hm
    refine X_skip ?_
    refine thN ?_
    refine X_reg_seq ty_ok Γok hL [] .nil (by kernel_rfl) ?_
    obtain rfl := some_inj hm
    refine Ok_ret ?_
    repeat (first | refine thR ?_ | refine ibR ?_)
    exact X_fin [] [] (by kernel_rfl) trivial
abbrev s_l1Cur_rides_r (y : (List Ride) × l1Cur) : AV := .own 0
abbrev s_l1Cur_rides_n (y : (List Ride) × l1Cur) : List Obj' := [.arr 56 3 (List.map Enc.e y.1)]
abbrev s_l1Cur_rides_o (x : l1Cur) (y : (List Ride) × l1Cur) : List Obj' := [.box [.dat (Enc.e y.2.code_), .dat (.sc (.int .i64 y.2.at_)), .dat (.sc (.int .u64 y.2.seed_.v))]]
noncomputable def s_l1Cur_rides_S : FnSpec := modS [some false] (fun x : l1Cur => [.sc undef]) (fun x : l1Cur => [.box [.dat (Enc.e x.code_), .dat (.sc (.int .i64 x.at_)), .dat (.sc (.int .u64 x.seed_.v))]]) (fun x : l1Cur => s_l1Cur_rides x) s_l1Cur_rides_r s_l1Cur_rides_n s_l1Cur_rides_o
theorem s_l1Cur_rides_c {c : l1Cur} {y : (List Ride) × l1Cur} (h : s_l1Cur_rides c = some y) : CallOK s_l1Cur_rides_S [.sc undef] [.box [.dat (Enc.e c.code_), .dat (.sc (.int .i64 c.at_)), .dat (.sc (.int .u64 c.seed_.v))]] (s_l1Cur_rides_r y) (s_l1Cur_rides_n y) (s_l1Cur_rides_o c y) :=
  modS_call (by
    rintro a0 b0 h h2
    simp only [List.cons.injEq, and_true] at h
    try simp only [List.cons.injEq, and_true, Obj'.box.injEq, Obj'.arr.injEq, true_and, AV.dat.injEq] at h2
    have h0 := h
    have g0 := h2
    have q0 : a0 = b0 := Enc.inj _ _ (by show D.agg _ = D.agg _; simp only [D.agg.injEq, List.cons.injEq, and_true]; exact g0)
    subst q0; rfl) (x := c) h
theorem s_l1Cur_rides_ok : FnOK Try.prog 74 s_l1Cur_rides_S := by
  have Γok : ∀ f S, lookF f [(55, s_l1Cur_pick_S), (54, s_l1Cur_among_w_S), (105, s_l1Cur_one_S), (70, s_l1Least_S), (111, s_l1Most_S)] = some S → FnOK Try.prog f S := lookF_ok (allF_cons s_l1Cur_pick_ok (allF_cons s_l1Cur_among_w_ok (allF_cons s_l1Cur_one_ok (allF_cons s_l1Least_ok (allF_cons s_l1Most_ok allF_nil)))))
  have Γlive : Live (fun f => lookF f [(55, s_l1Cur_pick_S), (54, s_l1Cur_among_w_S), (105, s_l1Cur_one_S), (70, s_l1Least_S), (111, s_l1Most_S)]) := lookF_live (allL_cons modS_live (allL_cons modS_live (allL_cons modS_live (allL_cons modS_live (allL_cons modS_live allL_nil)))))
  refine fnOK_mod ty_ok (fun args w => Try.call74 args w) Try.func74 rfl [.tmp 2] (by rw [Try.results74]) 96 Try.ntmps74 16 rfl (fun _ => by first | exact Nat.zero_le _ | (simp)) (fun _ => rfl) ?_
  rintro c y cx hm hL
  have hm : s_l1Cur_rides c = some y := hm
  have hL : cx.L = 1 := hL
  unfold s_l1Cur_rides at hm
  refine X_reg_seq ty_ok Γok hL [] .nil (by kernel_rfl) ?_
  refine X_reg_seq ty_ok Γok hL [] .nil (by kernel_rfl) ?_
  obtain ⟨r, h, hm⟩ := obind hm
  refine X_reg_seq ty_ok Γok hL [(1, .c (s_l1Cur_pick_r r) (s_l1Cur_pick_n r) (s_l1Cur_pick_o (c, 10) r))] (.cons (s_l1Cur_pick_c h) .nil) (by kernel_rfl) ?_
  refine Ok_seq ?_
  obtain ⟨r1, h1, hm⟩ := obind hm
  refine X_reg_seq ty_ok Γok hL [(1, .c (s_l1Cur_pick_r r1) (s_l1Cur_pick_n r1) (s_l1Cur_pick_o (r.2, 10) r1))] (.cons (s_l1Cur_pick_c h1) .nil) (by kernel_rfl) ?_
  obtain ⟨vv3, hv1, hk1⟩ := obind hm
  refine X_tail (n := 96) (fun ((v12, v13, v14, x2) : (List UInt8) × Int × Int × (List Ride)) => (⟨[(0, .ref 0 0), (3, .own 32)], [(0, some (.box [.dat (Enc.e v12), .dat (.sc (.int .i64 v13)), .dat (.sc (.int .u64 v14))])), (32, some (.arr 56 3 (List.map Enc.e x2)))], 64⟩ : X)) vv3 ?_ ?_
  · have hm := hv1
    refine Ok_block ?_
    refine X_loop (n := 96) (step := s_l1Cur_rides_L1) (fun ((k, v, v1, v2, x, v3, v4, v5) : Int × (List UInt8) × Int × Int × (List Ride) × Int × Int × Int) => (⟨[(0, .ref 0 0), (3, .own 32), (4, .ref 48 0), (5, .dat (.sc (.int .i64 k)))], [(0, some (.box [.dat (Enc.e v), .dat (.sc (.int .i64 v1)), .dat (.sc (.int .u64 v2))])), (32, some (.arr 56 3 (List.map Enc.e x))), (48, some (.box [.dat (.sc (.int .i64 v3)), .dat (.sc (.int .i64 v4)), .dat (.sc (.int .i64 v5))]))], 80⟩ : X)) hm (Wk_J hL ⟨[(0, []), (3, []), (4, []), (5, [])], [(0, 0, []), (32, 32, []), (48, 112, [])], [], 80⟩ (by kernel_rfl)) ?_
    rintro ⟨k, v, v1, v2, x, v3, v4, v5⟩ r0 hm hb
    rw [s_l1Cur_rides_L1] at hm
    refine Ok_seq ?_
    refine X_reg_seq ty_ok Γok hL [] .nil (by kernel_rfl) ?_
    refine X_cond (decide (0 < k)) (by kernel_rfl) (fun hc => ?_) (fun hc => ?_)
    · have hm := it hc hm
      refine X_skip ?_
      refine thN ?_
      obtain ⟨vv, hv, hk⟩ := obind hm
      refine X_join (n := 96) (fun ((v6, v7, v8, x1, v9, v10, v11) : (List UInt8) × Int × Int × (List Ride) × Int × Int × Int) => (⟨[(0, .ref 0 0), (3, .own 32), (4, .ref 48 0), (5, .dat (.sc (.int .i64 k)))], [(0, some (.box [.dat (Enc.e v6), .dat (.sc (.int .i64 v7)), .dat (.sc (.int .u64 v8))])), (32, some (.arr 56 3 (List.map Enc.e x1))), (48, some (.box [.dat (.sc (.int .i64 v9)), .dat (.sc (.int .i64 v10)), .dat (.sc (.int .i64 v11))]))], 80⟩ : X)) vv ?_ ?_
      · have hm := hv
        refine Ok_block ?_
        obtain ⟨r2, h2, hm⟩ := obind hm
        refine X_reg_seq ty_ok Γok hL [(2, .c (s_l1Cur_among_w_r r2) (s_l1Cur_among_w_n r2) (s_l1Cur_among_w_o ((⟨v, v1, (⟨v2⟩ : IK .u64)⟩ : l1Cur), ([100, 200, 250, 300, 0] : List Int)) r2))] (.cons (s_l1Cur_among_w_c h2) .nil) (by kernel_rfl) ?_
        obtain ⟨u, h3, hm⟩ := obind hm
        refine X_reg_seq ty_ok Γok hL [(3, .l (List.map Enc.e (x ++ ([(⟨v3, v4, r2.1⟩ : Ride)] : List Ride))))] (.cons (app_p (f := Enc.e) (g := Enc.e) (l := x) (r := ([(⟨v3, v4, r2.1⟩ : Ride)] : List Ride)) (b := 24) (chk_t h3) rfl) (.cons (app_m Enc.e x ([(⟨v3, v4, r2.1⟩ : Ride)] : List Ride)) .nil)) (by kernel_rfl) ?_
        obtain ⟨r3, h4, hm⟩ := obind hm
        refine X_reg_seq ty_ok Γok hL [(1, .c (s_l1Cur_one_r r3) (s_l1Cur_one_n r3) (s_l1Cur_one_o (r2.2, 2) r3))] (.cons (s_l1Cur_one_c h4) .nil) (by kernel_rfl) ?_
        refine X_cond r3.1 (by kernel_rfl) (fun hc1 => ?_) (fun hc1 => ?_)
        · have hm := it hc1 hm
          obtain ⟨r6, h7, hm⟩ := obind hm
          obtain ⟨r7, h8, hm⟩ := obind hm
          refine X_draw mixed ty_ok Γok Γlive [(4, [0, 352]), (8, [48])] (by kernel_rfl) [(4, .c (s_l1Cur_among_w_r r6) (s_l1Cur_among_w_n r6) (s_l1Cur_among_w_o (r3.2, ([0, 10, 45, 60, 90, 300] : List Int)) r6)), (6, .c (s_l1Least_r r7) (s_l1Least_n r7) (s_l1Least_o ((w64 (v4 + r6.1)), 1799) r7))] (.cons (s_l1Cur_among_w_c h7) (.cons (s_l1Least_c h8) .nil)) (by kernel_rfl) ?_
          refine ibN ?_
          obtain rfl := some_inj hm
          exact thN (Wk_J hL ⟨[(0, []), (3, []), (4, []), (5, [])], [(0, 0, []), (32, 240, []), (48, 48, [])], [], 80⟩ (by kernel_rfl))
        · have hm := ie hc1 hm
          obtain ⟨r10, h11, hm⟩ := obind hm
          obtain ⟨r11, h12, hm⟩ := obind hm
          refine X_draw_seq mixed ty_ok Γok Γlive [(4, [0, 352]), (8, [48])] (by kernel_rfl) [(4, .c (s_l1Cur_among_w_r r10) (s_l1Cur_among_w_n r10) (s_l1Cur_among_w_o (r3.2, ([1, 1, 1, 2, 6, 7] : List Int)) r10)), (6, .c (s_l1Least_r r11) (s_l1Least_n r11) (s_l1Least_o ((w64 (v3 + r10.1)), 60) r11))] (.cons (s_l1Cur_among_w_c h11) (.cons (s_l1Least_c h12) .nil)) (by kernel_rfl) ?_
          obtain ⟨r12, h13, hm⟩ := obind hm
          refine X_reg ty_ok Γok hL [(2, .c (s_l1Most_r r12) (s_l1Most_n r12) (s_l1Most_o (v4, 400) r12))] (.cons (s_l1Most_c h13) .nil) (by kernel_rfl) ?_
          refine ibN ?_
          obtain rfl := some_inj hm
          exact thN (Wk_J hL ⟨[(0, []), (3, []), (4, []), (5, [])], [(0, 0, []), (32, 240, []), (48, 48, [])], [], 80⟩ (by kernel_rfl))
      obtain ⟨v6, v7, v8, x1, v9, v10, v11⟩ := vv
      have hm := hk
      refine X_reg ty_ok Γok hL [] .nil (by kernel_rfl) ?_
      obtain rfl := some_inj hm
      exact thN ⟨_, rfl, Wk_J hL ⟨[(0, []), (3, []), (4, []), (5, [])], [(0, 0, []), (32, 32, []), (48, 48, [])], [], 80⟩ (by kernel_rfl)⟩
    · have hm := ie hc hm
      obtain rfl := some_inj hm
      obtain rfl := hb _ rfl
      refine Ok_exit ?_
      refine thE ?_
      refine thE ?_
      refine ibE ?_
      exact thN (Wk_J hL ⟨[(0, []), (3, [])], [(0, 0, []), (32, 32, [])], [], 64⟩ (by kernel_rfl))
  obtain ⟨v12, v13, v14, x2⟩ := vv3
  intro s hw
  have hm := hk1
  refine thN ?_
  refine Ok_weak hw ?_
  refine Ok_seq ?_
  refine X_reg_seq ty_ok Γok hL [(1, .n (x2.length : Int))] (.cons (len_m Enc.e x2) .nil) (by kernel_rfl) ?_
  refine X_cond ((x2.length : Int) == 0) (by kernel_rfl) (fun hc2 => ?_) (fun hc2 => ?_)
  · have hm := it hc2 hm
    refine X_reg_seq ty_ok Γok hL [] .nil (by kernel_rfl) ?_
    obtain rfl := some_inj hm
    refine Ok_ret ?_
    repeat (first | refine thR ?_ | refine ibR ?_)
    exact X_fin [32] [] (by kernel_rfl) trivial
  · have hm := ie hc2 hm
    refine X_skip ?_
    refine thN ?_
    obtain ⟨r13, h14, hm⟩ := obind hm
    refine X_reg_seq ty_ok Γok hL [(2, .n (x2.length : Int)), (3, .c (s_l1Cur_pick_r r13) (s_l1Cur_pick_n r13) (s_l1Cur_pick_o ((⟨v12, v13, (⟨v14⟩ : IK .u64)⟩ : l1Cur), (x2.length : Int)) r13))] (.cons (len_m Enc.e x2) (.cons (s_l1Cur_pick_c h14) .nil)) (by kernel_rfl) ?_
    obtain ⟨e, h15, hm⟩ := obind hm
    refine X_reg_seq ty_ok Γok hL [(2, .d (Enc.e e)), (3, .d (Enc.e e))] (.cons (idx_m (f := Enc.e) h15) (.cons (idx_m2 (f := Enc.e) h15) .nil)) (by kernel_rfl) ?_
    obtain ⟨vv2, hv2, hk2⟩ := obind hm
    refine X_join (n := 96) (fun ((v15, v16, v17, x3, v18, v19) : (List UInt8) × Int × Int × (List Ride) × Int × Int) => (⟨[(0, .ref 0 0), (3, .own 32), (6, .dat (.sc (.int .i64 r13.1))), (7, .ref 48 0)], [(0, some (.box [.dat (Enc.e v15), .dat (.sc (.int .i64 v16)), .dat (.sc (.int .u64 v17))])), (32, some (.arr 56 3 (List.map Enc.e x3))), (48, some (.box [.dat (.sc (.int .i64 v18)), .dat (.sc (.int .i64 e.Time)), .dat (.sc (.int .i64 v19))]))], 80⟩ : X)) vv2 ?_ ?_
    · have hm := hv2
      obtain ⟨r14, h16, hm⟩ := obind hm
      refine X_reg_seq ty_ok Γok hL [(1, .c (s_l1Cur_pick_r r14) (s_l1Cur_pick_n r14) (s_l1Cur_pick_o (r13.2, 40) r14))] (.cons (s_l1Cur_pick_c h16) .nil) (by kernel_rfl) ?_
      refine Ok_block ?_
      refine X_reg_seq ty_ok Γok hL [] .nil (by kernel_rfl) ?_
      refine X_cond (r14.1 == 0) (by kernel_rfl) (fun hc3 => ?_) (fun hc3 => ?_)
      · have hm := it hc3 hm
        obtain ⟨r15, h17, hm⟩ := obind hm
        refine X_reg ty_ok Γok hL [(2, .c (s_l1Cur_among_w_r r15) (s_l1Cur_among_w_n r15) (s_l1Cur_among_w_o (r14.2, ([(-1), 61, 60] : List Int)) r15))] (.cons (s_l1Cur_among_w_c h17) .nil) (by kernel_rfl) ?_
        refine ibN ?_
        obtain rfl := some_inj hm
        exact thN (Wk_J hL ⟨[(0, []), (3, []), (6, []), (7, [])], [(0, 0, []), (32, 32, []), (48, 256, [])], [], 80⟩ (by kernel_rfl))
      · have hm := ie hc3 hm
        refine X_reg_seq ty_ok Γok hL [] .nil (by kernel_rfl) ?_
        refine X_cond (r14.1 == 1) (by kernel_rfl) (fun hc4 => ?_) (fun hc4 => ?_)
        · have hm := it hc4 hm
          obtain ⟨r16, h18, hm⟩ := obind hm
          refine X_reg ty_ok Γok hL [(2, .c (s_l1Cur_among_w_r r16) (s_l1Cur_among_w_n r16) (s_l1Cur_among_w_o (r14.2, ([(-1), 10001, 10000] : List Int)) r16))] (.cons (s_l1Cur_among_w_c h18) .nil) (by kernel_rfl) ?_
          refine ibN ?_
          obtain rfl := some_inj hm
          exact thN (Wk_J hL ⟨[(0, []), (3, []), (6, []), (7, [])], [(0, 0, []), (32, 32, []), (48, 256, [])], [], 80⟩ (by kernel_rfl))
        · have hm := ie hc4 hm
          refine X_reg_seq ty_ok Γok hL [] .nil (by kernel_rfl) ?_
          refine X_cond (r14.1 == 2) (by kernel_rfl) (fun hc5 => ?_) (fun hc5 => ?_)
          · have hm := it hc5 hm
            obtain ⟨vv1, hv3, hk3⟩ := obind hm
            refine X_tail (n := 96) (fun ((v23, v24, v25, x5) : (List UInt8) × Int × Int × (List Ride)) => (⟨[(0, .ref 0 0), (3, .own 32), (6, .dat (.sc (.int .i64 r13.1))), (7, .ref 48 0)], [(0, some (.box [.dat (Enc.e v23), .dat (.sc (.int .i64 v24)), .dat (.sc (.int .u64 v25))])), (32, some (.arr 56 3 (List.map Enc.e x5))), (48, some (.box [.dat (.sc (.int .i64 e.Day)), .dat (.sc (.int .i64 e.Time)), .dat (.sc (.int .i64 e.Fare))]))], 80⟩ : X)) vv1 ?_ ?_
            · have hm := hv3
              refine Ok_block ?_
              refine X_loop (n := 96) (step := s_l1Cur_rides_L2) (fun ((v20, v21, v22, x4) : (List UInt8) × Int × Int × (List Ride)) => (⟨[(0, .ref 0 0), (3, .own 32), (6, .dat (.sc (.int .i64 r13.1))), (7, .ref 48 0)], [(0, some (.box [.dat (Enc.e v20), .dat (.sc (.int .i64 v21)), .dat (.sc (.int .u64 v22))])), (32, some (.arr 56 3 (List.map Enc.e x4))), (48, some (.box [.dat (.sc (.int .i64 e.Day)), .dat (.sc (.int .i64 e.Time)), .dat (.sc (.int .i64 e.Fare))]))], 80⟩ : X)) hm (Wk_J hL ⟨[(0, []), (3, []), (6, []), (7, [])], [(0, 0, []), (32, 32, []), (48, 256, [])], [], 80⟩ (by kernel_rfl)) ?_
              rintro ⟨v20, v21, v22, x4⟩ r0 hm hb1
              rw [s_l1Cur_rides_L2] at hm
              refine Ok_seq ?_
              obtain ⟨r17, h19, hm⟩ := obind hm
              refine X_reg_seq ty_ok Γok hL [(1, .n (x4.length : Int)), (3, .c (s_l1Cur_pick_r r17) (s_l1Cur_pick_n r17) (s_l1Cur_pick_o ((⟨v20, v21, (⟨v22⟩ : IK .u64)⟩ : l1Cur), 2) r17))] (.cons (len_m Enc.e x4) (.cons (s_l1Cur_pick_c h19) .nil)) (by kernel_rfl) ?_
              refine X_cond (decide ((x4.length : Int) < (w64 (20 + r17.1)))) (by kernel_rfl) (fun hc6 => ?_) (fun hc6 => ?_)
              · have hm := it hc6 hm
                refine X_skip ?_
                refine thN ?_
                refine Ok_block ?_
                obtain ⟨e1, h20, hm⟩ := obind hm
                obtain ⟨u1, h21, hm⟩ := obind hm
                refine X_reg ty_ok Γok hL [(3, .n (x4.length : Int)), (5, .d (Enc.e e1)), (6, .d (Enc.e e1)), (8, .l (List.map Enc.e (x4 ++ ([e1] : List Ride))))] (.cons (len_m Enc.e x4) (.cons (idx_m (f := Enc.e) h20) (.cons (idx_m2 (f := Enc.e) h20) (.cons (app_p (f := Enc.e) (g := Enc.e) (l := x4) (r := ([e1] : List Ride)) (b := 24) (chk_t h21) rfl) (.cons (app_m Enc.e x4 ([e1] : List Ride)) .nil))))) (by kernel_rfl) ?_
                refine ibN ?_
                obtain rfl := some_inj hm
                exact thN ⟨_, rfl, Wk_J hL ⟨[(0, []), (3, []), (6, []), (7, [])], [(0, 0, []), (32, 304, []), (48, 48, [])], [], 80⟩ (by kernel_rfl)⟩
              · have hm := ie hc6 hm
                obtain rfl := some_inj hm
                obtain rfl := hb1 _ rfl
                refine Ok_exit ?_
                refine thE ?_
                refine thE ?_
                refine ibE ?_
                exact thN (Wk_J hL ⟨[(0, []), (3, []), (6, []), (7, [])], [(0, 0, []), (32, 32, []), (48, 48, [])], [], 80⟩ (by kernel_rfl))
            obtain ⟨v23, v24, v25, x5⟩ := vv1
            intro s1 hw1
            have hm := hk3
            refine ibN ?_
            obtain rfl := some_inj hm
            exact thN (Wk.trans hw1 (Wk_J hL ⟨[(0, []), (3, []), (6, []), (7, [])], [(0, 0, []), (32, 32, []), (48, 48, [])], [], 80⟩ (by kernel_rfl)))
          · have hm := ie hc5 hm
            refine X_skip ?_
            refine ibN ?_
            obtain rfl := some_inj hm
            exact thN (Wk_J hL ⟨[(0, []), (3, []), (6, []), (7, [])], [(0, 0, []), (32, 32, []), (48, 256, [])], [], 80⟩ (by kernel_rfl))
    obtain ⟨v15, v16, v17, x3, v18, v19⟩ := vv2
    have hm := hk2
    obtain ⟨e2, h22, hm⟩ := obind hm
    refine X_reg_seq ty_ok Γok hL [(3, .d (Enc.e e2)), (4, .sd (Enc.e e2) (List.map Enc.e (x3.set r13.1.toNat (⟨v18, e.Time, v19⟩ : Ride))))] (.cons (idx_m (f := Enc.e) h22) (.cons (idx_m2 (f := Enc.e) h22) (.cons (set_m Enc.e x3 r13.1.toNat (⟨v18, e.Time, v19⟩ : Ride)) .nil))) (by kernel_rfl) ?_
    refine X_reg_seq ty_ok Γok hL [] .nil (by kernel_rfl) ?_
    obtain rfl := some_inj hm
    refine Ok_ret ?_
    repeat (first | refine thR ?_ | refine ibR ?_)
    exact X_fin [32] [] (by kernel_rfl) trivial
abbrev s_DrawDailyCaps_r (y : Prices × (List Ride)) : AV := .tup [.dat (Enc.e y.1), .own 0]
abbrev s_DrawDailyCaps_n (y : Prices × (List Ride)) : List Obj' := [.arr 56 3 (List.map Enc.e y.2)]
abbrev s_DrawDailyCaps_o (x : (List UInt8)) (y : Prices × (List Ride)) : List Obj' := []
noncomputable def s_DrawDailyCaps_S : FnSpec := modS [none] (fun x : (List UInt8) => [Enc.e x]) (fun x : (List UInt8) => []) (fun x : (List UInt8) => s_DrawDailyCaps x) s_DrawDailyCaps_r s_DrawDailyCaps_n s_DrawDailyCaps_o
theorem s_DrawDailyCaps_c {code : List UInt8} {y : Prices × (List Ride)} (h : s_DrawDailyCaps code = some y) : CallOK s_DrawDailyCaps_S [Enc.e code] [] (s_DrawDailyCaps_r y) (s_DrawDailyCaps_n y) (s_DrawDailyCaps_o code y) :=
  modS_call (by
    rintro a0 b0 h h2
    simp only [List.cons.injEq, and_true] at h
    try simp only [List.cons.injEq, and_true, Obj'.box.injEq, Obj'.arr.injEq, true_and, AV.dat.injEq] at h2
    have h0 := h
    have q0 := Enc.inj _ _ h0
    subst q0; rfl) (x := code) h
theorem s_DrawDailyCaps_ok : FnOK Try.prog 61 s_DrawDailyCaps_S := by
  have Γok : ∀ f S, lookF f [(107, s_l1Cur_prices_S), (74, s_l1Cur_rides_S)] = some S → FnOK Try.prog f S := lookF_ok (allF_cons s_l1Cur_prices_ok (allF_cons s_l1Cur_rides_ok allF_nil))
  have Γlive : Live (fun f => lookF f [(107, s_l1Cur_prices_S), (74, s_l1Cur_rides_S)]) := lookF_live (allL_cons modS_live (allL_cons modS_live allL_nil))
  refine fnOK_mod ty_ok (fun args w => Try.call61 args w) Try.func61 rfl [.cell 2 47, .tmp 3] (by rw [Try.results61]) 14 Try.ntmps61 16 rfl (fun _ => by first | exact Nat.zero_le _ | (simp)) (fun _ => rfl) ?_
  rintro code y cx hm hL
  have hm : s_DrawDailyCaps code = some y := hm
  have hL : cx.L = 0 := hL
  unfold s_DrawDailyCaps at hm
  refine X_reg_seq ty_ok Γok hL [] .nil (by kernel_rfl) ?_
  refine X_reg_seq ty_ok Γok hL [] .nil (by kernel_rfl) ?_
  obtain ⟨r, h, hm⟩ := obind hm
  refine X_reg_seq ty_ok Γok hL [(1, .c (s_l1Cur_prices_r r) (s_l1Cur_prices_n r) (s_l1Cur_prices_o (⟨code, 0, (⟨0⟩ : IK .u64)⟩ : l1Cur) r))] (.cons (s_l1Cur_prices_c h) .nil) (by kernel_rfl) ?_
  obtain ⟨r2, h2, hm⟩ := obind hm
  refine X_draw_seq mixed ty_ok Γok Γlive [(2, [80]), (3, [16])] (by kernel_rfl) [(2, .c (s_l1Cur_rides_r r2) (s_l1Cur_rides_n r2) (s_l1Cur_rides_o r.2 r2))] (.cons (s_l1Cur_rides_c h2) .nil) (by kernel_rfl) ?_
  obtain rfl := some_inj hm
  refine Ok_ret ?_
  repeat (first | refine thR ?_ | refine ibR ?_)
  exact X_fin [208] [] (by kernel_rfl) trivial
abbrev s_DrawCheapestTickets_r (y : Prices × (List Ride)) : AV := .tup [.dat (Enc.e y.1), .own 0]
abbrev s_DrawCheapestTickets_n (y : Prices × (List Ride)) : List Obj' := [.arr 56 3 (List.map Enc.e y.2)]
abbrev s_DrawCheapestTickets_o (x : (List UInt8)) (y : Prices × (List Ride)) : List Obj' := []
noncomputable def s_DrawCheapestTickets_S : FnSpec := modS [none] (fun x : (List UInt8) => [Enc.e x]) (fun x : (List UInt8) => []) (fun x : (List UInt8) => s_DrawCheapestTickets x) s_DrawCheapestTickets_r s_DrawCheapestTickets_n s_DrawCheapestTickets_o
theorem s_DrawCheapestTickets_c {code : List UInt8} {y : Prices × (List Ride)} (h : s_DrawCheapestTickets code = some y) : CallOK s_DrawCheapestTickets_S [Enc.e code] [] (s_DrawCheapestTickets_r y) (s_DrawCheapestTickets_n y) (s_DrawCheapestTickets_o code y) :=
  modS_call (by
    rintro a0 b0 h h2
    simp only [List.cons.injEq, and_true] at h
    try simp only [List.cons.injEq, and_true, Obj'.box.injEq, Obj'.arr.injEq, true_and, AV.dat.injEq] at h2
    have h0 := h
    have q0 := Enc.inj _ _ h0
    subst q0; rfl) (x := code) h
theorem s_DrawCheapestTickets_ok : FnOK Try.prog 20 s_DrawCheapestTickets_S := by
  have Γok : ∀ f S, lookF f [(61, s_DrawDailyCaps_S)] = some S → FnOK Try.prog f S := lookF_ok (allF_cons s_DrawDailyCaps_ok allF_nil)
  have Γlive : Live (fun f => lookF f [(61, s_DrawDailyCaps_S)]) := lookF_live (allL_cons modS_live allL_nil)
  refine fnOK_mod ty_ok (fun args w => Try.call20 args w) Try.func20 rfl [.cell 2 47, .tmp 3] (by rw [Try.results20]) 8 Try.ntmps20 16 rfl (fun _ => by first | exact Nat.zero_le _ | (simp)) (fun _ => rfl) ?_
  rintro code y cx hm hL
  have hm : s_DrawCheapestTickets code = some y := hm
  have hL : cx.L = 0 := hL
  unfold s_DrawCheapestTickets at hm
  refine X_reg_seq ty_ok Γok hL [] .nil (by kernel_rfl) ?_
  obtain ⟨r, h, hm⟩ := obind hm
  refine X_reg_seq ty_ok Γok hL [(1, .c (s_DrawDailyCaps_r r) (s_DrawDailyCaps_n r) (s_DrawDailyCaps_o code r))] (.cons (s_DrawDailyCaps_c h) .nil) (by kernel_rfl) ?_
  obtain rfl := some_inj hm
  refine Ok_ret ?_
  repeat (first | refine thR ?_ | refine ibR ?_)
  exact X_fin [64] [] (by kernel_rfl) trivial
abbrev i_within_r (y : Bool) : AV := .dat (Enc.e y)
abbrev i_within_n (y : Bool) : List Obj' := []
abbrev i_within_o (x : Int × Int × Int) (y : Bool) : List Obj' := []
noncomputable def i_within_S : FnSpec := modS [none, none, none] (fun x : Int × Int × Int => [Enc.e x.1, Enc.e x.2.1, Enc.e x.2.2]) (fun x : Int × Int × Int => []) (fun x : Int × Int × Int => i_within x.1 x.2.1 x.2.2) i_within_r i_within_n i_within_o
theorem i_within_c {n : Int} {lo : Int} {hi : Int} {y : Bool} (h : i_within n lo hi = some y) : CallOK i_within_S [Enc.e n, Enc.e lo, Enc.e hi] [] (i_within_r y) (i_within_n y) (i_within_o (n, lo, hi) y) :=
  modS_call (by
    rintro ⟨a0, a1, a2⟩ ⟨b0, b1, b2⟩ h h2
    simp only [List.cons.injEq, and_true] at h
    try simp only [List.cons.injEq, and_true, Obj'.box.injEq, Obj'.arr.injEq, true_and, AV.dat.injEq] at h2
    obtain ⟨h0, h1, h2⟩ := h
    have q0 := Enc.inj _ _ h0
    have q1 := Enc.inj _ _ h1
    have q2 := Enc.inj _ _ h2
    subst q0; subst q1; subst q2; rfl) (x := (n, lo, hi)) h
theorem i_within_ok : FnOK Try.prog 50 i_within_S := by
  have Γok : ∀ f S, lookF f [] = some S → FnOK Try.prog f S := lookF_ok allF_nil
  have Γlive : Live (fun f => lookF f []) := lookF_live allL_nil
  refine fnOK_mod ty_ok (fun args w => Try.call50 args w) Try.func50 rfl [.tmp 6] (by rw [Try.results50]) 15 Try.ntmps50 16 rfl (fun _ => by first | exact Nat.zero_le _ | (simp)) (fun _ => rfl) ?_
  rintro ⟨n, lo, hi⟩ y cx hm hL
  have hm : i_within n lo hi = some y := hm
  have hL : cx.L = 0 := hL
  unfold i_within at hm
  refine X_reg_seq ty_ok Γok hL [] .nil (by kernel_rfl) ?_
  obtain ⟨v, hv, hk⟩ := obind hm
  refine X_join (n := 15) (fun (v : Bool) => (⟨[(6, .dat (.sc (.bool v)))], [], 32⟩ : X)) v ?_ ?_
  · have hm := hv
    rcases btf (decide (lo ≤ n)) with hb | hb
    · have hm := it hb hm
      obtain rfl := some_inj hm
      refine X_reg ty_ok Γok hL [(3, .b true)] (.cons hb .nil) (by kernel_rfl) ?_
      exact thN (Wk_J hL ⟨[(6, [])], [], [], 32⟩ (by kernel_rfl))
    · have hm := ie hb hm
      obtain rfl := some_inj hm
      refine X_reg ty_ok Γok hL [(3, .b false)] (.cons hb .nil) (by kernel_rfl) ?_
      exact thN (Wk_J hL ⟨[(6, [])], [], [], 32⟩ (by kernel_rfl))
  have hm := hk
  obtain rfl := some_inj hm
  refine Ok_ret ?_
  repeat (first | refine thR ?_ | refine ibR ?_)
  exact X_fin [] [] (by kernel_rfl) trivial
abbrev cmp_isNaN_int_r (y : Bool) : AV := .dat (Enc.e y)
abbrev cmp_isNaN_int_n (y : Bool) : List Obj' := []
abbrev cmp_isNaN_int_o (x : Int) (y : Bool) : List Obj' := []
noncomputable def cmp_isNaN_int_S : FnSpec := modS [none] (fun x : Int => [Enc.e x]) (fun x : Int => []) (fun x : Int => cmp_isNaN_int x) cmp_isNaN_int_r cmp_isNaN_int_n cmp_isNaN_int_o
theorem cmp_isNaN_int_c {x : Int} {y : Bool} (h : cmp_isNaN_int x = some y) : CallOK cmp_isNaN_int_S [Enc.e x] [] (cmp_isNaN_int_r y) (cmp_isNaN_int_n y) (cmp_isNaN_int_o x y) :=
  modS_call (by
    rintro a0 b0 h h2
    simp only [List.cons.injEq, and_true] at h
    try simp only [List.cons.injEq, and_true, Obj'.box.injEq, Obj'.arr.injEq, true_and, AV.dat.injEq] at h2
    have h0 := h
    have q0 := Enc.inj _ _ h0
    subst q0; rfl) (x := x) h
theorem cmp_isNaN_int_ok : FnOK Try.prog 109 cmp_isNaN_int_S := by
  have Γok : ∀ f S, lookF f [] = some S → FnOK Try.prog f S := lookF_ok allF_nil
  have Γlive : Live (fun f => lookF f []) := lookF_live allL_nil
  refine fnOK_mod ty_ok (fun args w => Try.call109 args w) Try.func109 rfl [.tmp 2] (by rw [Try.results109]) 6 Try.ntmps109 16 rfl (fun _ => by first | exact Nat.zero_le _ | (simp)) (fun _ => rfl) ?_
  rintro x y cx hm hL
  have hm : cmp_isNaN_int x = some y := hm
  have hL : cx.L = 0 := hL
  unfold cmp_isNaN_int at hm
  refine X_reg_seq ty_ok Γok hL [] .nil (by kernel_rfl) ?_
  refine X_reg_seq ty_ok Γok hL [] .nil (by kernel_rfl) ?_
  obtain rfl := some_inj hm
  refine Ok_ret ?_
  repeat (first | refine thR ?_ | refine ibR ?_)
  exact X_fin [] [] (by kernel_rfl) trivial
abbrev cmp_Less_int_r (y : Bool) : AV := .dat (Enc.e y)
abbrev cmp_Less_int_n (y : Bool) : List Obj' := []
abbrev cmp_Less_int_o (x : Int × Int) (y : Bool) : List Obj' := []
noncomputable def cmp_Less_int_S : FnSpec := modS [none, none] (fun x : Int × Int => [Enc.e x.1, Enc.e x.2]) (fun x : Int × Int => []) (fun x : Int × Int => cmp_Less_int x.1 x.2) cmp_Less_int_r cmp_Less_int_n cmp_Less_int_o
theorem cmp_Less_int_c {x : Int} {y_ : Int} {y : Bool} (h : cmp_Less_int x y_ = some y) : CallOK cmp_Less_int_S [Enc.e x, Enc.e y_] [] (cmp_Less_int_r y) (cmp_Less_int_n y) (cmp_Less_int_o (x, y_) y) :=
  modS_call (by
    rintro ⟨a0, a1⟩ ⟨b0, b1⟩ h h2
    simp only [List.cons.injEq, and_true] at h
    try simp only [List.cons.injEq, and_true, Obj'.box.injEq, Obj'.arr.injEq, true_and, AV.dat.injEq] at h2
    obtain ⟨h0, h1⟩ := h
    have q0 := Enc.inj _ _ h0
    have q1 := Enc.inj _ _ h1
    subst q0; subst q1; rfl) (x := (x, y_)) h
theorem cmp_Less_int_ok : FnOK Try.prog 124 cmp_Less_int_S := by
  have Γok : ∀ f S, lookF f [(109, cmp_isNaN_int_S)] = some S → FnOK Try.prog f S := lookF_ok (allF_cons cmp_isNaN_int_ok allF_nil)
  have Γlive : Live (fun f => lookF f [(109, cmp_isNaN_int_S)]) := lookF_live (allL_cons modS_live allL_nil)
  refine fnOK_mod ty_ok (fun args w => Try.call124 args w) Try.func124 rfl [.tmp 4] (by rw [Try.results124]) 17 Try.ntmps124 16 rfl (fun _ => by first | exact Nat.zero_le _ | (simp)) (fun _ => rfl) ?_
  rintro ⟨x, y_⟩ y cx hm hL
  have hm : cmp_Less_int x y_ = some y := hm
  have hL : cx.L = 0 := hL
  unfold cmp_Less_int at hm
  refine X_reg_seq ty_ok Γok hL [] .nil (by kernel_rfl) ?_
  obtain ⟨r, h, hm⟩ := obind hm
  obtain ⟨v, hv, hk⟩ := obind hm
  refine X_join (n := 17) (fun (v : Bool) => (⟨[(4, .dat (.sc (.bool v)))], [], 32⟩ : X)) v ?_ ?_
  · have hm := hv
    rcases btf r with hb | hb
    · have hm := it hb hm
      obtain ⟨r1, h1, hm⟩ := obind hm
      rcases btf (!r1) with hb1 | hb1
      · have hm := it hb1 hm
        obtain rfl := some_inj hm
        refine X_reg ty_ok Γok hL [(1, .c (cmp_isNaN_int_r r) (cmp_isNaN_int_n r) (cmp_isNaN_int_o x r)), (2, .b true), (4, .c (cmp_isNaN_int_r r1) (cmp_isNaN_int_n r1) (cmp_isNaN_int_o y_ r1)), (7, .b true)] (.cons (cmp_isNaN_int_c h) (.cons hb (.cons (cmp_isNaN_int_c h1) (.cons hb1 .nil)))) (by kernel_rfl) ?_
        exact thN (Wk_J hL ⟨[(4, [])], [], [], 32⟩ (by kernel_rfl))
      · have hm := ie hb1 hm
        obtain rfl := some_inj hm
        refine X_reg ty_ok Γok hL [(1, .c (cmp_isNaN_int_r r) (cmp_isNaN_int_n r) (cmp_isNaN_int_o x r)), (2, .b true), (4, .c (cmp_isNaN_int_r r1) (cmp_isNaN_int_n r1) (cmp_isNaN_int_o y_ r1)), (7, .b false)] (.cons (cmp_isNaN_int_c h) (.cons hb (.cons (cmp_isNaN_int_c h1) (.cons hb1 .nil)))) (by kernel_rfl) ?_
        exact thN (Wk_J hL ⟨[(4, [])], [], [], 32⟩ (by kernel_rfl))
    · have hm := ie hb hm
      obtain rfl := some_inj hm
      refine X_reg ty_ok Γok hL [(1, .c (cmp_isNaN_int_r r) (cmp_isNaN_int_n r) (cmp_isNaN_int_o x r)), (2, .b false)] (.cons (cmp_isNaN_int_c h) (.cons hb .nil)) (by kernel_rfl) ?_
      exact thN (Wk_J hL ⟨[(4, [])], [], [], 32⟩ (by kernel_rfl))
  have hm := hk
  obtain rfl := some_inj hm
  refine Ok_ret ?_
  repeat (first | refine thR ?_ | refine ibR ?_)
  exact X_fin [] [] (by kernel_rfl) trivial
abbrev slices_IsSorted_int_r (y : Bool) : AV := .dat (Enc.e y)
abbrev slices_IsSorted_int_n (y : Bool) : List Obj' := []
abbrev slices_IsSorted_int_o (x : (List Int)) (y : Bool) : List Obj' := []
noncomputable def slices_IsSorted_int_S : FnSpec := modS [none] (fun x : (List Int) => [Enc.e x]) (fun x : (List Int) => []) (fun x : (List Int) => slices_IsSorted_int x) slices_IsSorted_int_r slices_IsSorted_int_n slices_IsSorted_int_o
theorem slices_IsSorted_int_c {x : List Int} {y : Bool} (h : slices_IsSorted_int x = some y) : CallOK slices_IsSorted_int_S [Enc.e x] [] (slices_IsSorted_int_r y) (slices_IsSorted_int_n y) (slices_IsSorted_int_o x y) :=
  modS_call (by
    rintro a0 b0 h h2
    simp only [List.cons.injEq, and_true] at h
    try simp only [List.cons.injEq, and_true, Obj'.box.injEq, Obj'.arr.injEq, true_and, AV.dat.injEq] at h2
    have h0 := h
    have q0 := Enc.inj _ _ h0
    subst q0; rfl) (x := x) h
theorem slices_IsSorted_int_ok : FnOK Try.prog 108 slices_IsSorted_int_S := by
  have Γok : ∀ f S, lookF f [(124, cmp_Less_int_S)] = some S → FnOK Try.prog f S := lookF_ok (allF_cons cmp_Less_int_ok allF_nil)
  have Γlive : Live (fun f => lookF f [(124, cmp_Less_int_S)]) := lookF_live (allL_cons modS_live allL_nil)
  refine fnOK_mod ty_ok (fun args w => Try.call108 args w) Try.func108 rfl [.tmp 2] (by rw [Try.results108]) 21 Try.ntmps108 16 rfl (fun _ => by first | exact Nat.zero_le _ | (simp)) (fun _ => rfl) ?_
  rintro x y cx hm hL
  have hm : slices_IsSorted_int x = some y := hm
  have hL : cx.L = 0 := hL
  unfold slices_IsSorted_int at hm
  refine X_reg_seq ty_ok Γok hL [] .nil (by kernel_rfl) ?_
  refine Ok_seq ?_
  refine X_reg_seq ty_ok Γok hL [(1, .n (x.length : Int))] (.cons (len_m Enc.e x) .nil) (by kernel_rfl) ?_
  obtain ⟨v1, hv, hr, hk⟩ := flb_t hm
  refine X_tailF (n := 21) (fun (_ : Unit) => (⟨[], [], 32⟩ : X)) v1 ?_ ?_
  · have hm := hv
    refine Ok_block ?_
    refine X_loop (n := 21) (step := slices_IsSorted_int_L1 x) (fun (v : Int) => (⟨[(0, .dat (Enc.e x)), (3, .dat (.sc (.int .i64 v)))], [], 32⟩ : X)) hm (Wk_J hL ⟨[(0, []), (3, [])], [], [], 32⟩ (by kernel_rfl)) ?_
    rintro v r0 hm hb
    rw [slices_IsSorted_int_L1] at hm
    refine Ok_seq ?_
    refine X_reg_seq ty_ok Γok hL [] .nil (by kernel_rfl) ?_
    refine X_cond (decide (0 < v)) (by kernel_rfl) (fun hc => ?_) (fun hc => ?_)
    · have hm := it hc hm
      refine X_skip ?_
      refine thN ?_
      refine Ok_seq ?_
      refine Ok_block ?_
      obtain ⟨e2, h3, hm⟩ := obind hm
      obtain ⟨e3, h4, hm⟩ := obind hm
      obtain ⟨r1, h5, hm⟩ := obind hm
      refine X_draw_seq mixed ty_ok Γok Γlive [] (by kernel_rfl) [(2, .d (Enc.e e2)), (7, .d (Enc.e e3)), (9, .c (cmp_Less_int_r r1) (cmp_Less_int_n r1) (cmp_Less_int_o (e2, e3) r1))] (.cons (idx_m (f := Enc.e) h3) (.cons (idx_m (f := Enc.e) h4) (.cons (cmp_Less_int_c h5) .nil))) (by kernel_rfl) ?_
      refine X_cond r1 (by kernel_rfl) (fun hc1 => ?_) (fun hc1 => ?_)
      · have hm := it hc1 hm
        refine X_reg_seq ty_ok Γok hL [] .nil (by kernel_rfl) ?_
        obtain rfl := some_inj hm
        obtain rfl := hb _ rfl
        have hm := congrArg some (hr _ rfl)
        obtain rfl := some_inj hm
        refine Ok_ret ?_
        repeat (first | refine thR ?_ | refine ibR ?_)
        exact X_fin [] [] (by kernel_rfl) trivial
      · have hm := ie hc1 hm
        refine X_skip ?_
        refine ibN ?_
        refine thN ?_
        refine X_reg ty_ok Γok hL [] .nil (by kernel_rfl) ?_
        obtain rfl := some_inj hm
        exact thN ⟨_, rfl, Wk_J hL ⟨[(0, []), (3, [])], [], [], 32⟩ (by kernel_rfl)⟩
    · have hm := ie hc hm
      obtain rfl := some_inj hm
      obtain rfl := hb _ rfl
      refine Ok_exit ?_
      refine thE ?_
      refine thE ?_
      refine ibE ?_
      exact thN ⟨_, rfl, Wk_J hL ⟨[], [], [], 32⟩ (by kernel_rfl)⟩
  rintro ⟨⟩ hu s hw
  have hm := hk _ hu
  refine thN ?_
  refine Ok_weak hw ?_
  refine X_reg_seq ty_ok Γok hL [] .nil (by kernel_rfl) ?_
  obtain rfl := some_inj hm
  refine Ok_ret ?_
  repeat (first | refine thR ?_ | refine ibR ?_)
  exact X_fin [] [] (by kernel_rfl) trivial
abbrev i_isPrice_r (y : Bool) : AV := .dat (Enc.e y)
abbrev i_isPrice_n (y : Bool) : List Obj' := []
abbrev i_isPrice_o (x : Int) (y : Bool) : List Obj' := []
noncomputable def i_isPrice_S : FnSpec := modS [none] (fun x : Int => [Enc.e x]) (fun x : Int => []) (fun x : Int => i_isPrice x) i_isPrice_r i_isPrice_n i_isPrice_o
theorem i_isPrice_c {p : Int} {y : Bool} (h : i_isPrice p = some y) : CallOK i_isPrice_S [Enc.e p] [] (i_isPrice_r y) (i_isPrice_n y) (i_isPrice_o p y) :=
  modS_call (by
    rintro a0 b0 h h2
    simp only [List.cons.injEq, and_true] at h
    try simp only [List.cons.injEq, and_true, Obj'.box.injEq, Obj'.arr.injEq, true_and, AV.dat.injEq] at h2
    have h0 := h
    have q0 := Enc.inj _ _ h0
    subst q0; rfl) (x := p) h
theorem i_isPrice_ok : FnOK Try.prog 77 i_isPrice_S := by
  have Γok : ∀ f S, lookF f [(50, i_within_S)] = some S → FnOK Try.prog f S := lookF_ok (allF_cons i_within_ok allF_nil)
  have Γlive : Live (fun f => lookF f [(50, i_within_S)]) := lookF_live (allL_cons modS_live allL_nil)
  refine fnOK_mod ty_ok (fun args w => Try.call77 args w) Try.func77 rfl [.tmp 2] (by rw [Try.results77]) 5 Try.ntmps77 16 rfl (fun _ => by first | exact Nat.zero_le _ | (simp)) (fun _ => rfl) ?_
  rintro p y cx hm hL
  have hm : i_isPrice p = some y := hm
  have hL : cx.L = 0 := hL
  unfold i_isPrice at hm
  refine X_reg_seq ty_ok Γok hL [] .nil (by kernel_rfl) ?_
  obtain ⟨r, h, hm⟩ := obind hm
  refine X_reg_seq ty_ok Γok hL [(1, .c (i_within_r r) (i_within_n r) (i_within_o (p, 0, 10000) r))] (.cons (i_within_c h) .nil) (by kernel_rfl) ?_
  obtain rfl := some_inj hm
  refine Ok_ret ?_
  repeat (first | refine thR ?_ | refine ibR ?_)
  exact X_fin [] [] (by kernel_rfl) trivial
abbrev i_arePrices_r (y : Bool) : AV := .dat (Enc.e y)
abbrev i_arePrices_n (y : Bool) : List Obj' := []
abbrev i_arePrices_o (x : Prices) (y : Bool) : List Obj' := []
noncomputable def i_arePrices_S : FnSpec := modS [none] (fun x : Prices => [Enc.e x]) (fun x : Prices => []) (fun x : Prices => i_arePrices x) i_arePrices_r i_arePrices_n i_arePrices_o
theorem i_arePrices_c {p : Prices} {y : Bool} (h : i_arePrices p = some y) : CallOK i_arePrices_S [Enc.e p] [] (i_arePrices_r y) (i_arePrices_n y) (i_arePrices_o p y) :=
  modS_call (by
    rintro a0 b0 h h2
    simp only [List.cons.injEq, and_true] at h
    try simp only [List.cons.injEq, and_true, Obj'.box.injEq, Obj'.arr.injEq, true_and, AV.dat.injEq] at h2
    have h0 := h
    have q0 := Enc.inj _ _ h0
    subst q0; rfl) (x := p) h
theorem i_arePrices_ok : FnOK Try.prog 62 i_arePrices_S := by
  have Γok : ∀ f S, lookF f [(50, i_within_S), (108, slices_IsSorted_int_S), (77, i_isPrice_S)] = some S → FnOK Try.prog f S := lookF_ok (allF_cons i_within_ok (allF_cons slices_IsSorted_int_ok (allF_cons i_isPrice_ok allF_nil)))
  have Γlive : Live (fun f => lookF f [(50, i_within_S), (108, slices_IsSorted_int_S), (77, i_isPrice_S)]) := lookF_live (allL_cons modS_live (allL_cons modS_live (allL_cons modS_live allL_nil)))
  refine fnOK_mod ty_ok (fun args w => Try.call62 args w) Try.func62 rfl [.tmp 2] (by rw [Try.results62]) 42 Try.ntmps62 16 rfl (fun _ => by first | exact Nat.zero_le _ | (simp)) (fun _ => rfl) ?_
  rintro p y cx hm hL
  have hm : i_arePrices p = some y := hm
  have hL : cx.L = 0 := hL
  unfold i_arePrices at hm
  refine X_reg_seq ty_ok Γok hL [] .nil (by kernel_rfl) ?_
  refine Ok_seq ?_
  obtain ⟨r, h, hm⟩ := obind hm
  obtain ⟨v, hv, hk⟩ := obind hm
  refine X_join (n := 42) (fun (v : Bool) => (⟨[(1, .ref 16 0), (25, .dat (.sc (.bool v)))], [(16, some (.box [.dat (Enc.e p.Zones), .dat (.sc (.int .i64 p.Day)), .dat (.sc (.int .i64 p.Week))]))], 48⟩ : X)) v ?_ ?_
  · have hm := hv
    rcases btf (!r) with hb | hb
    · have hm := it hb hm
      obtain rfl := some_inj hm
      refine X_reg ty_ok Γok hL [(2, .n (p.Zones.length : Int)), (3, .c (i_within_r r) (i_within_n r) (i_within_o ((p.Zones.length : Int), 1, 9) r)), (5, .b true)] (.cons (len_m Enc.e p.Zones) (.cons (i_within_c h) (.cons hb .nil))) (by kernel_rfl) ?_
      exact thN (Wk_J hL ⟨[(1, []), (25, [])], [(16, 16, [])], [], 48⟩ (by kernel_rfl))
    · have hm := ie hb hm
      obtain ⟨r1, h1, hm⟩ := obind hm
      rcases btf (!r1) with hb1 | hb1
      · have hm := it hb1 hm
        obtain rfl := some_inj hm
        refine X_reg ty_ok Γok hL [(2, .n (p.Zones.length : Int)), (3, .c (i_within_r r) (i_within_n r) (i_within_o ((p.Zones.length : Int), 1, 9) r)), (5, .b false), (8, .c (slices_IsSorted_int_r r1) (slices_IsSorted_int_n r1) (slices_IsSorted_int_o p.Zones r1)), (11, .b true)] (.cons (len_m Enc.e p.Zones) (.cons (i_within_c h) (.cons hb (.cons (slices_IsSorted_int_c h1) (.cons hb1 .nil))))) (by kernel_rfl) ?_
        exact thN (Wk_J hL ⟨[(1, []), (25, [])], [(16, 16, [])], [], 48⟩ (by kernel_rfl))
      · have hm := ie hb1 hm
        obtain ⟨r2, h2, hm⟩ := obind hm
        rcases btf (!r2) with hb2 | hb2
        · have hm := it hb2 hm
          obtain rfl := some_inj hm
          refine X_reg ty_ok Γok hL [(2, .n (p.Zones.length : Int)), (3, .c (i_within_r r) (i_within_n r) (i_within_o ((p.Zones.length : Int), 1, 9) r)), (5, .b false), (8, .c (slices_IsSorted_int_r r1) (slices_IsSorted_int_n r1) (slices_IsSorted_int_o p.Zones r1)), (11, .b false), (14, .c (i_isPrice_r r2) (i_isPrice_n r2) (i_isPrice_o p.Day r2)), (17, .b true)] (.cons (len_m Enc.e p.Zones) (.cons (i_within_c h) (.cons hb (.cons (slices_IsSorted_int_c h1) (.cons hb1 (.cons (i_isPrice_c h2) (.cons hb2 .nil))))))) (by kernel_rfl) ?_
          exact thN (Wk_J hL ⟨[(1, []), (25, [])], [(16, 16, [])], [], 48⟩ (by kernel_rfl))
        · have hm := ie hb2 hm
          obtain ⟨r3, h3, hm⟩ := obind hm
          obtain rfl := some_inj hm
          refine X_reg ty_ok Γok hL [(2, .n (p.Zones.length : Int)), (3, .c (i_within_r r) (i_within_n r) (i_within_o ((p.Zones.length : Int), 1, 9) r)), (5, .b false), (8, .c (slices_IsSorted_int_r r1) (slices_IsSorted_int_n r1) (slices_IsSorted_int_o p.Zones r1)), (11, .b false), (14, .c (i_isPrice_r r2) (i_isPrice_n r2) (i_isPrice_o p.Day r2)), (17, .b false), (20, .c (i_isPrice_r r3) (i_isPrice_n r3) (i_isPrice_o p.Week r3))] (.cons (len_m Enc.e p.Zones) (.cons (i_within_c h) (.cons hb (.cons (slices_IsSorted_int_c h1) (.cons hb1 (.cons (i_isPrice_c h2) (.cons hb2 (.cons (i_isPrice_c h3) .nil)))))))) (by kernel_rfl) ?_
          exact thN (Wk_J hL ⟨[(1, []), (25, [])], [(16, 16, [])], [], 48⟩ (by kernel_rfl))
  have hm := hk
  refine X_cond v (by kernel_rfl) (fun hc => ?_) (fun hc => ?_)
  · have hm := it hc hm
    refine X_reg_seq ty_ok Γok hL [] .nil (by kernel_rfl) ?_
    obtain rfl := some_inj hm
    refine Ok_ret ?_
    repeat (first | refine thR ?_ | refine ibR ?_)
    exact X_fin [] [] (by kernel_rfl) trivial
  · have hm := ie hc hm
    refine X_skip ?_
    refine thN ?_
    obtain ⟨e, h4, hm⟩ := obind hm
    obtain ⟨r4, h5, hm⟩ := obind hm
    obtain ⟨v1, hv1, hk1⟩ := obind hm
    refine X_join (n := 42) (fun (v1 : Bool) => (⟨[(2, .dat (.sc (.bool v1)))], [], 32⟩ : X)) v1 ?_ ?_
    · have hm := hv1
      rcases btf r4 with hb3 | hb3
      · have hm := it hb3 hm
        obtain ⟨e1, h6, hm⟩ := obind hm
        obtain ⟨r5, h7, hm⟩ := obind hm
        obtain rfl := some_inj hm
        refine X_reg ty_ok Γok hL [(2, .d (Enc.e e)), (4, .c (i_isPrice_r r4) (i_isPrice_n r4) (i_isPrice_o e r4)), (5, .b true), (10, .n (p.Zones.length : Int)), (12, .d (Enc.e e1)), (14, .c (i_isPrice_r r5) (i_isPrice_n r5) (i_isPrice_o e1 r5))] (.cons (idx_m (f := Enc.e) h4) (.cons (i_isPrice_c h5) (.cons hb3 (.cons (len_m Enc.e p.Zones) (.cons (idx_m (f := Enc.e) h6) (.cons (i_isPrice_c h7) .nil)))))) (by kernel_rfl) ?_
        exact thN (Wk_J hL ⟨[(2, [])], [], [], 32⟩ (by kernel_rfl))
      · have hm := ie hb3 hm
        obtain rfl := some_inj hm
        refine X_reg ty_ok Γok hL [(2, .d (Enc.e e)), (4, .c (i_isPrice_r r4) (i_isPrice_n r4) (i_isPrice_o e r4)), (5, .b false)] (.cons (idx_m (f := Enc.e) h4) (.cons (i_isPrice_c h5) (.cons hb3 .nil))) (by kernel_rfl) ?_
        exact thN (Wk_J hL ⟨[(2, [])], [], [], 32⟩ (by kernel_rfl))
    have hm := hk1
    obtain rfl := some_inj hm
    refine Ok_ret ?_
    repeat (first | refine thR ?_ | refine ibR ?_)
    exact X_fin [] [] (by kernel_rfl) trivial
abbrev i_IsValidTime_r (y : Bool) : AV := .dat (Enc.e y)
abbrev i_IsValidTime_n (y : Bool) : List Obj' := []
abbrev i_IsValidTime_o (x : Int) (y : Bool) : List Obj' := []
noncomputable def i_IsValidTime_S : FnSpec := modS [none] (fun x : Int => [Enc.e x]) (fun x : Int => []) (fun x : Int => i_IsValidTime x) i_IsValidTime_r i_IsValidTime_n i_IsValidTime_o
theorem i_IsValidTime_c {t : Int} {y : Bool} (h : i_IsValidTime t = some y) : CallOK i_IsValidTime_S [Enc.e t] [] (i_IsValidTime_r y) (i_IsValidTime_n y) (i_IsValidTime_o t y) :=
  modS_call (by
    rintro a0 b0 h h2
    simp only [List.cons.injEq, and_true] at h
    try simp only [List.cons.injEq, and_true, Obj'.box.injEq, Obj'.arr.injEq, true_and, AV.dat.injEq] at h2
    have h0 := h
    have q0 := Enc.inj _ _ h0
    subst q0; rfl) (x := t) h
theorem i_IsValidTime_ok : FnOK Try.prog 75 i_IsValidTime_S := by
  have Γok : ∀ f S, lookF f [(50, i_within_S)] = some S → FnOK Try.prog f S := lookF_ok (allF_cons i_within_ok allF_nil)
  have Γlive : Live (fun f => lookF f [(50, i_within_S)]) := lookF_live (allL_cons modS_live allL_nil)
  refine fnOK_mod ty_ok (fun args w => Try.call75 args w) Try.func75 rfl [.tmp 2] (by rw [Try.results75]) 5 Try.ntmps75 16 rfl (fun _ => by first | exact Nat.zero_le _ | (simp)) (fun _ => rfl) ?_
  rintro t y cx hm hL
  have hm : i_IsValidTime t = some y := hm
  have hL : cx.L = 0 := hL
  unfold i_IsValidTime at hm
  refine X_reg_seq ty_ok Γok hL [] .nil (by kernel_rfl) ?_
  obtain ⟨r, h, hm⟩ := obind hm
  refine X_reg_seq ty_ok Γok hL [(1, .c (i_within_r r) (i_within_n r) (i_within_o (t, 0, 1799) r))] (.cons (i_within_c h) .nil) (by kernel_rfl) ?_
  obtain rfl := some_inj hm
  refine Ok_ret ?_
  repeat (first | refine thR ?_ | refine ibR ?_)
  exact X_fin [] [] (by kernel_rfl) trivial
abbrev cmp_Compare_int_r (y : Int) : AV := .dat (Enc.e y)
abbrev cmp_Compare_int_n (y : Int) : List Obj' := []
abbrev cmp_Compare_int_o (x : Int × Int) (y : Int) : List Obj' := []
noncomputable def cmp_Compare_int_S : FnSpec := modS [none, none] (fun x : Int × Int => [Enc.e x.1, Enc.e x.2]) (fun x : Int × Int => []) (fun x : Int × Int => cmp_Compare_int x.1 x.2) cmp_Compare_int_r cmp_Compare_int_n cmp_Compare_int_o
theorem cmp_Compare_int_c {x : Int} {y_ : Int} {y : Int} (h : cmp_Compare_int x y_ = some y) : CallOK cmp_Compare_int_S [Enc.e x, Enc.e y_] [] (cmp_Compare_int_r y) (cmp_Compare_int_n y) (cmp_Compare_int_o (x, y_) y) :=
  modS_call (by
    rintro ⟨a0, a1⟩ ⟨b0, b1⟩ h h2
    simp only [List.cons.injEq, and_true] at h
    try simp only [List.cons.injEq, and_true, Obj'.box.injEq, Obj'.arr.injEq, true_and, AV.dat.injEq] at h2
    obtain ⟨h0, h1⟩ := h
    have q0 := Enc.inj _ _ h0
    have q1 := Enc.inj _ _ h1
    subst q0; subst q1; rfl) (x := (x, y_)) h
theorem cmp_Compare_int_ok : FnOK Try.prog 65 cmp_Compare_int_S := by
  have Γok : ∀ f S, lookF f [(109, cmp_isNaN_int_S)] = some S → FnOK Try.prog f S := lookF_ok (allF_cons cmp_isNaN_int_ok allF_nil)
  have Γlive : Live (fun f => lookF f [(109, cmp_isNaN_int_S)]) := lookF_live (allL_cons modS_live allL_nil)
  refine fnOK_mod ty_ok (fun args w => Try.call65 args w) Try.func65 rfl [.tmp 4] (by rw [Try.results65]) 20 Try.ntmps65 16 rfl (fun _ => by first | exact Nat.zero_le _ | (simp)) (fun _ => rfl) ?_
  rintro ⟨x, y_⟩ y cx hm hL
  have hm : cmp_Compare_int x y_ = some y := hm
  have hL : cx.L = 0 := hL
  unfold cmp_Compare_int at hm
  refine X_reg_seq ty_ok Γok hL [] .nil (by kernel_rfl) ?_
  obtain ⟨r, h, hm⟩ := obind hm
  refine X_reg_seq ty_ok Γok hL [(1, .c (cmp_isNaN_int_r r) (cmp_isNaN_int_n r) (cmp_isNaN_int_o x r))] (.cons (cmp_isNaN_int_c h) .nil) (by kernel_rfl) ?_
  obtain ⟨r1, h1, hm⟩ := obind hm
  refine X_reg_seq ty_ok Γok hL [(1, .c (cmp_isNaN_int_r r1) (cmp_isNaN_int_n r1) (cmp_isNaN_int_o y_ r1))] (.cons (cmp_isNaN_int_c h1) .nil) (by kernel_rfl) ?_
  refine Ok_seq ?_
  refine X_reg_seq ty_ok Γok hL [] .nil (by kernel_rfl) ?_
  refine X_cond r (by kernel_rfl) (fun hc => ?_) (fun hc => ?_)
  · have hm := it hc hm
    refine Ok_seq ?_
    refine X_reg_seq ty_ok Γok hL [] .nil (by kernel_rfl) ?_
    refine X_cond r1 (by kernel_rfl) (fun hc1 => ?_) (fun hc1 => ?_)
    · have hm := it hc1 hm
      refine X_reg_seq ty_ok Γok hL [] .nil (by kernel_rfl) ?_
      obtain rfl := some_inj hm
      refine Ok_ret ?_
      repeat (first | refine thR ?_ | refine ibR ?_)
      exact X_fin [] [] (by kernel_rfl) trivial
    · have hm := ie hc1 hm
      refine X_skip ?_
      refine thN ?_
      refine X_reg_seq ty_ok Γok hL [] .nil (by kernel_rfl) ?_
      obtain rfl := some_inj hm
      refine Ok_ret ?_
      repeat (first | refine thR ?_ | refine ibR ?_)
      exact X_fin [] [] (by kernel_rfl) trivial
  · have hm := ie hc hm
    refine X_skip ?_
    refine thN ?_
    refine Ok_seq ?_
    refine X_reg_seq ty_ok Γok hL [] .nil (by kernel_rfl) ?_
    refine X_cond r1 (by kernel_rfl) (fun hc2 => ?_) (fun hc2 => ?_)
    · have hm := it hc2 hm
      refine X_reg_seq ty_ok Γok hL [] .nil (by kernel_rfl) ?_
      obtain rfl := some_inj hm
      refine Ok_ret ?_
      repeat (first | refine thR ?_ | refine ibR ?_)
      exact X_fin [] [] (by kernel_rfl) trivial
    · have hm := ie hc2 hm
      refine X_skip ?_
      refine thN ?_
      refine Ok_seq ?_
      refine X_reg_seq ty_ok Γok hL [] .nil (by kernel_rfl) ?_
      refine X_cond (decide (x < y_)) (by kernel_rfl) (fun hc3 => ?_) (fun hc3 => ?_)
      · have hm := it hc3 hm
        refine X_reg_seq ty_ok Γok hL [] .nil (by kernel_rfl) ?_
        obtain rfl := some_inj hm
        refine Ok_ret ?_
        repeat (first | refine thR ?_ | refine ibR ?_)
        exact X_fin [] [] (by kernel_rfl) trivial
      · have hm := ie hc3 hm
        refine X_skip ?_
        refine thN ?_
        refine Ok_seq ?_
        refine X_reg_seq ty_ok Γok hL [] .nil (by kernel_rfl) ?_
        refine X_cond (decide (y_ < x)) (by kernel_rfl) (fun hc4 => ?_) (fun hc4 => ?_)
        · have hm := it hc4 hm
          refine X_reg_seq ty_ok Γok hL [] .nil (by kernel_rfl) ?_
          obtain rfl := some_inj hm
          refine Ok_ret ?_
          repeat (first | refine thR ?_ | refine ibR ?_)
          exact X_fin [] [] (by kernel_rfl) trivial
        · have hm := ie hc4 hm
          refine X_skip ?_
          refine thN ?_
          refine X_reg_seq ty_ok Γok hL [] .nil (by kernel_rfl) ?_
          obtain rfl := some_inj hm
          refine Ok_ret ?_
          repeat (first | refine thR ?_ | refine ibR ?_)
          exact X_fin [] [] (by kernel_rfl) trivial
abbrev cmp_Or_int_r (y : Int) : AV := .dat (Enc.e y)
abbrev cmp_Or_int_n (y : Int) : List Obj' := []
abbrev cmp_Or_int_o (x : (List Int)) (y : Int) : List Obj' := []
noncomputable def cmp_Or_int_S : FnSpec := modS [none] (fun x : (List Int) => [Enc.e x]) (fun x : (List Int) => []) (fun x : (List Int) => cmp_Or_int x) cmp_Or_int_r cmp_Or_int_n cmp_Or_int_o
theorem cmp_Or_int_c {vals : List Int} {y : Int} (h : cmp_Or_int vals = some y) : CallOK cmp_Or_int_S [Enc.e vals] [] (cmp_Or_int_r y) (cmp_Or_int_n y) (cmp_Or_int_o vals y) :=
  modS_call (by
    rintro a0 b0 h h2
    simp only [List.cons.injEq, and_true] at h
    try simp only [List.cons.injEq, and_true, Obj'.box.injEq, Obj'.arr.injEq, true_and, AV.dat.injEq] at h2
    have h0 := h
    have q0 := Enc.inj _ _ h0
    subst q0; rfl) (x := vals) h
theorem cmp_Or_int_ok : FnOK Try.prog 64 cmp_Or_int_S := by
  have Γok : ∀ f S, lookF f [] = some S → FnOK Try.prog f S := lookF_ok allF_nil
  have Γlive : Live (fun f => lookF f []) := lookF_live allL_nil
  refine fnOK_mod ty_ok (fun args w => Try.call64 args w) Try.func64 rfl [.tmp 2] (by rw [Try.results64]) 18 Try.ntmps64 16 rfl (fun _ => by first | exact Nat.zero_le _ | (simp)) (fun _ => rfl) ?_
  rintro vals y cx hm hL
  have hm : cmp_Or_int vals = some y := hm
  have hL : cx.L = 0 := hL
  unfold cmp_Or_int at hm
  refine X_reg_seq ty_ok Γok hL [] .nil (by kernel_rfl) ?_
  refine X_reg_seq ty_ok Γok hL [] .nil (by kernel_rfl) ?_
  refine Ok_seq ?_
  refine X_reg_seq ty_ok Γok hL [(1, .n (vals.length : Int))] (.cons (len_m Enc.e vals) .nil) (by kernel_rfl) ?_
  obtain ⟨v1, hv, hr, hk⟩ := flb_t hm
  refine X_tailF (n := 18) (fun (_ : Unit) => (⟨[(3, .dat (.sc (.int .i64 0)))], [], 32⟩ : X)) v1 ?_ ?_
  · have hm := hv
    refine Ok_block ?_
    refine X_loop (n := 18) (step := cmp_Or_int_L1 vals) (fun (v : Int) => (⟨[(3, .dat (.sc (.int .i64 0))), (6, .dat (Enc.e vals)), (7, .dat (.sc (.int .i64 (vals.length : Int)))), (8, .dat (.sc (.int .i64 v)))], [], 32⟩ : X)) hm (Wk_J hL ⟨[(3, []), (6, []), (7, []), (8, [])], [], [], 32⟩ (by kernel_rfl)) ?_
    rintro v r0 hm hb
    rw [cmp_Or_int_L1] at hm
    refine X_reg_seq ty_ok Γok hL [] .nil (by kernel_rfl) ?_
    refine Ok_seq ?_
    refine X_cond (decide (v < (vals.length : Int))) (by kernel_rfl) (fun hc => ?_) (fun hc => ?_)
    · have hm := it hc hm
      refine X_skip ?_
      refine thN ?_
      refine Ok_seq ?_
      refine Ok_block ?_
      obtain ⟨e, h, hm⟩ := obind hm
      refine X_reg_seq ty_ok Γok hL [(0, .d (Enc.e e))] (.cons (idx_m (f := Enc.e) h) .nil) (by kernel_rfl) ?_
      refine X_reg_seq ty_ok Γok hL [] .nil (by kernel_rfl) ?_
      refine X_cond (e != 0) (by kernel_rfl) (fun hc1 => ?_) (fun hc1 => ?_)
      · have hm := it hc1 hm
        refine X_reg_seq ty_ok Γok hL [] .nil (by kernel_rfl) ?_
        obtain rfl := some_inj hm
        obtain rfl := hb _ rfl
        have hm := congrArg some (hr _ rfl)
        obtain rfl := some_inj hm
        refine Ok_ret ?_
        repeat (first | refine thR ?_ | refine ibR ?_)
        exact X_fin [] [] (by kernel_rfl) trivial
      · have hm := ie hc1 hm
        refine X_skip ?_
        refine ibN ?_
        refine thN ?_
        refine X_reg ty_ok Γok hL [] .nil (by kernel_rfl) ?_
        obtain rfl := some_inj hm
        exact thN ⟨_, rfl, Wk_J hL ⟨[(3, []), (6, []), (7, []), (8, [])], [], [], 32⟩ (by kernel_rfl)⟩
    · have hm := ie hc hm
      obtain rfl := some_inj hm
      obtain rfl := hb _ rfl
      refine Ok_exit ?_
      refine thE ?_
      refine thE ?_
      refine ibE ?_
      exact thN ⟨_, rfl, Wk_J hL ⟨[(3, [])], [], [], 32⟩ (by kernel_rfl)⟩
  rintro ⟨⟩ hu s hw
  have hm := hk _ hu
  refine thN ?_
  refine Ok_weak hw ?_
  refine X_reg_seq ty_ok Γok hL [] .nil (by kernel_rfl) ?_
  obtain rfl := some_inj hm
  refine Ok_ret ?_
  repeat (first | refine thR ?_ | refine ibR ?_)
  exact X_fin [] [] (by kernel_rfl) trivial
abbrev i_IsValidRides_r (y : Bool) : AV := .dat (Enc.e y)
abbrev i_IsValidRides_n (y : Bool) : List Obj' := []
abbrev i_IsValidRides_o (x : (List Ride)) (y : Bool) : List Obj' := []
noncomputable def i_IsValidRides_S : FnSpec := modS [none] (fun x : (List Ride) => [Enc.e x]) (fun x : (List Ride) => []) (fun x : (List Ride) => i_IsValidRides x) i_IsValidRides_r i_IsValidRides_n i_IsValidRides_o
theorem i_IsValidRides_c {list : List Ride} {y : Bool} (h : i_IsValidRides list = some y) : CallOK i_IsValidRides_S [Enc.e list] [] (i_IsValidRides_r y) (i_IsValidRides_n y) (i_IsValidRides_o list y) :=
  modS_call (by
    rintro a0 b0 h h2
    simp only [List.cons.injEq, and_true] at h
    try simp only [List.cons.injEq, and_true, Obj'.box.injEq, Obj'.arr.injEq, true_and, AV.dat.injEq] at h2
    have h0 := h
    have q0 := Enc.inj _ _ h0
    subst q0; rfl) (x := list) h
theorem i_IsValidRides_ok : FnOK Try.prog 29 i_IsValidRides_S := by
  have Γok : ∀ f S, lookF f [(50, i_within_S), (75, i_IsValidTime_S), (77, i_isPrice_S), (65, cmp_Compare_int_S), (64, cmp_Or_int_S)] = some S → FnOK Try.prog f S := lookF_ok (allF_cons i_within_ok (allF_cons i_IsValidTime_ok (allF_cons i_isPrice_ok (allF_cons cmp_Compare_int_ok (allF_cons cmp_Or_int_ok allF_nil)))))
  have Γlive : Live (fun f => lookF f [(50, i_within_S), (75, i_IsValidTime_S), (77, i_isPrice_S), (65, cmp_Compare_int_S), (64, cmp_Or_int_S)]) := lookF_live (allL_cons modS_live (allL_cons modS_live (allL_cons modS_live (allL_cons modS_live (allL_cons modS_live allL_nil)))))
  refine fnOK_mod ty_ok (fun args w => Try.call29 args w) Try.func29 rfl [.tmp 2] (by rw [Try.results29]) 57 Try.ntmps29 16 rfl (fun _ => by first | exact Nat.zero_le _ | (simp)) (fun _ => rfl) ?_
  rintro list y cx hm hL
  have hm : i_IsValidRides list = some y := hm
  have hL : cx.L = 0 := hL
  unfold i_IsValidRides at hm
  refine X_reg_seq ty_ok Γok hL [] .nil (by kernel_rfl) ?_
  refine Ok_seq ?_
  refine X_reg_seq ty_ok Γok hL [(1, .n (list.length : Int))] (.cons (len_m Enc.e list) .nil) (by kernel_rfl) ?_
  refine X_cond (decide (20 < (list.length : Int))) (by kernel_rfl) (fun hc => ?_) (fun hc => ?_)
  · have hm := it hc hm
    refine X_reg_seq ty_ok Γok hL [] .nil (by kernel_rfl) ?_
    obtain rfl := some_inj hm
    refine Ok_ret ?_
    repeat (first | refine thR ?_ | refine ibR ?_)
    exact X_fin [] [] (by kernel_rfl) trivial
  · have hm := ie hc hm
    refine X_skip ?_
    refine thN ?_
    refine Ok_seq ?_
    refine X_reg_seq ty_ok Γok hL [(1, .n (list.length : Int))] (.cons (len_m Enc.e list) .nil) (by kernel_rfl) ?_
    obtain ⟨v3, hv2, hr, hk2⟩ := flb_t hm
    refine X_tailF (n := 57) (fun (_ : Unit) => (⟨[], [], 32⟩ : X)) v3 ?_ ?_
    · have hm := hv2
      refine Ok_block ?_
      refine X_loop (n := 57) (step := i_IsValidRides_L1 list) (fun (v : Int) => (⟨[(0, .dat (Enc.e list)), (8, .dat (Enc.e list)), (9, .dat (.sc (.int .i64 (list.length : Int)))), (10, .dat (.sc (.int .i64 v)))], [], 32⟩ : X)) hm (Wk_J hL ⟨[(0, []), (8, []), (9, []), (10, [])], [], [], 32⟩ (by kernel_rfl)) ?_
      rintro v r0 hm hb
      rw [i_IsValidRides_L1] at hm
      refine X_reg_seq ty_ok Γok hL [] .nil (by kernel_rfl) ?_
      refine Ok_seq ?_
      refine X_cond (decide (v < (list.length : Int))) (by kernel_rfl) (fun hc1 => ?_) (fun hc1 => ?_)
      · have hm := it hc1 hm
        refine X_skip ?_
        refine thN ?_
        refine Ok_seq ?_
        refine Ok_block ?_
        obtain ⟨e, h, hm⟩ := obind hm
        refine X_reg_seq ty_ok Γok hL [(1, .d (Enc.e e))] (.cons (idx_m (f := Enc.e) h) .nil) (by kernel_rfl) ?_
        refine Ok_seq ?_
        obtain ⟨r, h1, hm⟩ := obind hm
        obtain ⟨v1, hv, hk⟩ := obind hm
        refine X_join (n := 57) (fun (v1 : Bool) => (⟨[(0, .dat (Enc.e list)), (3, .dat (.sc (.int .i64 v))), (4, .ref 16 0), (8, .dat (Enc.e list)), (9, .dat (.sc (.int .i64 (list.length : Int)))), (10, .dat (.sc (.int .i64 v))), (30, .dat (.sc (.bool v1)))], [(16, some (.box [.dat (.sc (.int .i64 e.Day)), .dat (.sc (.int .i64 e.Time)), .dat (.sc (.int .i64 e.Fare))]))], 48⟩ : X)) v1 ?_ ?_
        · have hm := hv
          rcases btf (!r) with hb1 | hb1
          · have hm := it hb1 hm
            obtain rfl := some_inj hm
            refine X_reg ty_ok Γok hL [(2, .c (i_within_r r) (i_within_n r) (i_within_o (e.Day, 0, 60) r)), (4, .b true)] (.cons (i_within_c h1) (.cons hb1 .nil)) (by kernel_rfl) ?_
            exact thN (Wk_J hL ⟨[(0, []), (3, []), (4, []), (8, []), (9, []), (10, []), (30, [])], [(16, 96, [])], [], 48⟩ (by kernel_rfl))
          · have hm := ie hb1 hm
            obtain ⟨r1, h2, hm⟩ := obind hm
            rcases btf (!r1) with hb2 | hb2
            · have hm := it hb2 hm
              obtain rfl := some_inj hm
              refine X_reg ty_ok Γok hL [(2, .c (i_within_r r) (i_within_n r) (i_within_o (e.Day, 0, 60) r)), (4, .b false), (7, .c (i_IsValidTime_r r1) (i_IsValidTime_n r1) (i_IsValidTime_o e.Time r1)), (10, .b true)] (.cons (i_within_c h1) (.cons hb1 (.cons (i_IsValidTime_c h2) (.cons hb2 .nil)))) (by kernel_rfl) ?_
              exact thN (Wk_J hL ⟨[(0, []), (3, []), (4, []), (8, []), (9, []), (10, []), (30, [])], [(16, 96, [])], [], 48⟩ (by kernel_rfl))
            · have hm := ie hb2 hm
              obtain ⟨r2, h3, hm⟩ := obind hm
              obtain rfl := some_inj hm
              refine X_reg ty_ok Γok hL [(2, .c (i_within_r r) (i_within_n r) (i_within_o (e.Day, 0, 60) r)), (4, .b false), (7, .c (i_IsValidTime_r r1) (i_IsValidTime_n r1) (i_IsValidTime_o e.Time r1)), (10, .b false), (13, .c (i_isPrice_r r2) (i_isPrice_n r2) (i_isPrice_o e.Fare r2))] (.cons (i_within_c h1) (.cons hb1 (.cons (i_IsValidTime_c h2) (.cons hb2 (.cons (i_isPrice_c h3) .nil))))) (by kernel_rfl) ?_
              exact thN (Wk_J hL ⟨[(0, []), (3, []), (4, []), (8, []), (9, []), (10, []), (30, [])], [(16, 96, [])], [], 48⟩ (by kernel_rfl))
        have hm := hk
        refine X_cond v1 (by kernel_rfl) (fun hc2 => ?_) (fun hc2 => ?_)
        · have hm := it hc2 hm
          refine X_reg_seq ty_ok Γok hL [] .nil (by kernel_rfl) ?_
          obtain rfl := some_inj hm
          obtain rfl := hb _ rfl
          have hm := congrArg some (hr _ rfl)
          obtain rfl := some_inj hm
          refine Ok_ret ?_
          repeat (first | refine thR ?_ | refine ibR ?_)
          exact X_fin [] [] (by kernel_rfl) trivial
        · have hm := ie hc2 hm
          refine X_skip ?_
          refine thN ?_
          obtain ⟨v2, hv1, hk1⟩ := obind hm
          refine X_join (n := 57) (fun (v2 : Bool) => (⟨[(0, .dat (Enc.e list)), (8, .dat (Enc.e list)), (9, .dat (.sc (.int .i64 (list.length : Int)))), (10, .dat (.sc (.int .i64 v))), (55, .dat (.sc (.bool v2)))], [], 32⟩ : X)) v2 ?_ ?_
          · have hm := hv1
            rcases btf (decide (0 < v)) with hb3 | hb3
            · have hm := it hb3 hm
              obtain ⟨e4, h9, hm⟩ := obind hm
              obtain ⟨r7, h10, hm⟩ := obind hm
              obtain ⟨e5, h11, hm⟩ := obind hm
              obtain ⟨r8, h12, hm⟩ := obind hm
              obtain ⟨r9, h13, hm⟩ := obind hm
              obtain rfl := some_inj hm
              refine X_draw mixed ty_ok Γok Γlive [] (by kernel_rfl) [(2, .b true), (6, .d (Enc.e e4)), (11, .c (cmp_Compare_int_r r7) (cmp_Compare_int_n r7) (cmp_Compare_int_o (e4.Day, e.Day) r7)), (15, .d (Enc.e e5)), (20, .c (cmp_Compare_int_r r8) (cmp_Compare_int_n r8) (cmp_Compare_int_o (e5.Time, e.Time) r8)), (22, .c (cmp_Or_int_r r9) (cmp_Or_int_n r9) (cmp_Or_int_o ([r7, r8] : List Int) r9))] (.cons hb3 (.cons (idx_m (f := Enc.e) h9) (.cons (cmp_Compare_int_c h10) (.cons (idx_m (f := Enc.e) h11) (.cons (cmp_Compare_int_c h12) (.cons (cmp_Or_int_c h13) .nil)))))) (by kernel_rfl) ?_
              exact thN (Wk_J hL ⟨[(0, []), (8, []), (9, []), (10, []), (55, [])], [], [], 32⟩ (by kernel_rfl))
            · have hm := ie hb3 hm
              obtain rfl := some_inj hm
              refine X_draw mixed ty_ok Γok Γlive [] (by kernel_rfl) [(2, .b false)] (.cons hb3 .nil) (by kernel_rfl) ?_
              exact thN (Wk_J hL ⟨[(0, []), (8, []), (9, []), (10, []), (55, [])], [], [], 32⟩ (by kernel_rfl))
          have hm := hk1
          refine X_cond v2 (by kernel_rfl) (fun hc3 => ?_) (fun hc3 => ?_)
          · have hm := it hc3 hm
            refine X_reg_seq ty_ok Γok hL [] .nil (by kernel_rfl) ?_
            obtain rfl := some_inj hm
            obtain rfl := hb _ rfl
            have hm := congrArg some (hr _ rfl)
            obtain rfl := some_inj hm
            refine Ok_ret ?_
            repeat (first | refine thR ?_ | refine ibR ?_)
            exact X_fin [] [] (by kernel_rfl) trivial
          · have hm := ie hc3 hm
            refine X_skip ?_
            refine ibN ?_
            refine thN ?_
            refine X_reg ty_ok Γok hL [] .nil (by kernel_rfl) ?_
            obtain rfl := some_inj hm
            exact thN ⟨_, rfl, Wk_J hL ⟨[(0, []), (8, []), (9, []), (10, [])], [], [], 32⟩ (by kernel_rfl)⟩
      · have hm := ie hc1 hm
        obtain rfl := some_inj hm
        obtain rfl := hb _ rfl
        refine Ok_exit ?_
        refine thE ?_
        refine thE ?_
        refine ibE ?_
        exact thN ⟨_, rfl, Wk_J hL ⟨[], [], [], 32⟩ (by kernel_rfl)⟩
    rintro ⟨⟩ hu s hw
    have hm := hk2 _ hu
    refine thN ?_
    refine Ok_weak hw ?_
    refine X_reg_seq ty_ok Γok hL [] .nil (by kernel_rfl) ?_
    obtain rfl := some_inj hm
    refine Ok_ret ?_
    repeat (first | refine thR ?_ | refine ibR ?_)
    exact X_fin [] [] (by kernel_rfl) trivial
abbrev i_rideDays_r (y : (List Int) × (List Int)) : AV := .tup [.own 0, .own 1]
abbrev i_rideDays_n (y : (List Int) × (List Int)) : List Obj' := [.arr 3 1 (List.map Enc.e y.1), .arr 3 1 (List.map Enc.e y.2)]
abbrev i_rideDays_o (x : Prices × (List Ride)) (y : (List Int) × (List Int)) : List Obj' := []
noncomputable def i_rideDays_S : FnSpec := modS [none, none] (fun x : Prices × (List Ride) => [Enc.e x.1, Enc.e x.2]) (fun x : Prices × (List Ride) => []) (fun x : Prices × (List Ride) => i_rideDays x.1 x.2) i_rideDays_r i_rideDays_n i_rideDays_o
theorem i_rideDays_c {p : Prices} {list : List Ride} {y : (List Int) × (List Int)} (h : i_rideDays p list = some y) : CallOK i_rideDays_S [Enc.e p, Enc.e list] [] (i_rideDays_r y) (i_rideDays_n y) (i_rideDays_o (p, list) y) :=
  modS_call (by
    rintro ⟨a0, a1⟩ ⟨b0, b1⟩ h h2
    simp only [List.cons.injEq, and_true] at h
    try simp only [List.cons.injEq, and_true, Obj'.box.injEq, Obj'.arr.injEq, true_and, AV.dat.injEq] at h2
    obtain ⟨h0, h1⟩ := h
    have q0 := Enc.inj _ _ h0
    have q1 := Enc.inj _ _ h1
    subst q0; subst q1; rfl) (x := (p, list)) h
theorem i_rideDays_ok : FnOK Try.prog 63 i_rideDays_S := by
  have Γok : ∀ f S, lookF f [] = some S → FnOK Try.prog f S := lookF_ok allF_nil
  have Γlive : Live (fun f => lookF f []) := lookF_live allL_nil
  refine fnOK_mod ty_ok (fun args w => Try.call63 args w) Try.func63 rfl [.tmp 4, .tmp 5] (by rw [Try.results63]) 69 Try.ntmps63 16 rfl (fun _ => by first | exact Nat.zero_le _ | (simp)) (fun _ => rfl) ?_
  rintro ⟨p, list⟩ y cx hm hL
  have hm : i_rideDays p list = some y := hm
  have hL : cx.L = 0 := hL
  unfold i_rideDays at hm
  refine X_reg_seq ty_ok Γok hL [] .nil (by kernel_rfl) ?_
  refine X_reg_seq ty_ok Γok hL [] .nil (by kernel_rfl) ?_
  refine Ok_seq ?_
  refine X_reg_seq ty_ok Γok hL [(1, .n (list.length : Int))] (.cons (len_m Enc.e list) .nil) (by kernel_rfl) ?_
  obtain ⟨vv1, hv2, hk2⟩ := obind hm
  refine X_tail (n := 69) (fun ((v4, r2) : (List Int) × (List Int)) => (⟨[(2, .ref 16 0), (6, .own 32), (7, .own 48)], [(16, some (.box [.dat (Enc.e p.Zones), .dat (.sc (.int .i64 p.Day)), .dat (.sc (.int .i64 p.Week))])), (32, some (.arr 3 1 (List.map Enc.e v4))), (48, some (.arr 3 1 (List.map Enc.e r2)))], 80⟩ : X)) vv1 ?_ ?_
  · have hm := hv2
    refine Ok_block ?_
    refine X_loop (n := 69) (step := i_rideDays_L1 list) (fun ((v, v1, r) : Int × (List Int) × (List Int)) => (⟨[(2, .ref 16 0), (6, .own 32), (7, .own 48), (13, .dat (Enc.e list)), (14, .dat (.sc (.int .i64 (list.length : Int)))), (15, .dat (.sc (.int .i64 v)))], [(16, some (.box [.dat (Enc.e p.Zones), .dat (.sc (.int .i64 p.Day)), .dat (.sc (.int .i64 p.Week))])), (32, some (.arr 3 1 (List.map Enc.e v1))), (48, some (.arr 3 1 (List.map Enc.e r)))], 80⟩ : X)) hm (Wk_J hL ⟨[(2, []), (6, [.o 32]), (7, [.o 48]), (13, []), (14, []), (15, [])], [(16, 16, [])], [(32, 3, 1), (48, 3, 1)], 80⟩ (by kernel_rfl)) ?_
    rintro ⟨v, v1, r⟩ r0 hm hb
    rw [i_rideDays_L1] at hm
    refine X_reg_seq ty_ok Γok hL [] .nil (by kernel_rfl) ?_
    refine Ok_seq ?_
    refine X_cond (decide (v < (list.length : Int))) (by kernel_rfl) (fun hc => ?_) (fun hc => ?_)
    · have hm := it hc hm
      refine X_skip ?_
      refine thN ?_
      obtain ⟨vv, hv, hk⟩ := obind hm
      refine X_join (n := 69) (fun ((v2, r1) : (List Int) × (List Int)) => (⟨[(2, .ref 16 0), (6, .own 32), (7, .own 48), (13, .dat (Enc.e list)), (14, .dat (.sc (.int .i64 (list.length : Int)))), (15, .dat (.sc (.int .i64 v)))], [(16, some (.box [.dat (Enc.e p.Zones), .dat (.sc (.int .i64 p.Day)), .dat (.sc (.int .i64 p.Week))])), (32, some (.arr 3 1 (List.map Enc.e v2))), (48, some (.arr 3 1 (List.map Enc.e r1)))], 80⟩ : X)) vv ?_ ?_
      · have hm := hv
        refine Ok_block ?_
        obtain ⟨e, h, hm⟩ := obind hm
        refine X_reg_seq ty_ok Γok hL [(0, .d (Enc.e e))] (.cons (idx_m (f := Enc.e) h) .nil) (by kernel_rfl) ?_
        refine X_reg_seq ty_ok Γok hL [(1, .n (v1.length : Int))] (.cons (len_m Enc.e v1) .nil) (by kernel_rfl) ?_
        obtain ⟨v3, hv1, hk1⟩ := obind hm
        refine X_join (n := 69) (fun (v3 : Bool) => (⟨[(2, .ref 16 0), (6, .own 32), (7, .own 48), (9, .ref 64 0), (10, .dat (.sc (.int .i64 (w64 ((v1.length : Int) - 1))))), (13, .dat (Enc.e list)), (14, .dat (.sc (.int .i64 (list.length : Int)))), (15, .dat (.sc (.int .i64 v))), (32, .dat (.sc (.bool v3)))], [(16, some (.box [.dat (Enc.e p.Zones), .dat (.sc (.int .i64 p.Day)), .dat (.sc (.int .i64 p.Week))])), (32, some (.arr 3 1 (List.map Enc.e v1))), (48, some (.arr 3 1 (List.map Enc.e r))), (64, some (.box [.dat (.sc (.int .i64 e.Day)), .dat (.sc (.int .i64 e.Time)), .dat (.sc (.int .i64 e.Fare))]))], 96⟩ : X)) v3 ?_ ?_
        · have hm := hv1
          rcases btf (decide (0 ≤ (w64 ((v1.length : Int) - 1)))) with hb1 | hb1
          · have hm := it hb1 hm
            obtain ⟨e2, h2, hm⟩ := obind hm
            obtain rfl := some_inj hm
            refine X_draw mixed ty_ok Γok Γlive [] (by kernel_rfl) [(2, .b true), (5, .d (Enc.e e2)), (6, .d (Enc.e e2))] (.cons hb1 (.cons (idx_m (f := Enc.e) h2) (.cons (idx_m2 (f := Enc.e) h2) .nil))) (by kernel_rfl) ?_
            exact thN (Wk_J hL ⟨[(2, []), (6, []), (7, []), (9, []), (10, []), (13, []), (14, []), (15, []), (32, [])], [(16, 16, []), (32, 32, []), (48, 48, []), (64, 128, [])], [], 96⟩ (by kernel_rfl))
          · have hm := ie hb1 hm
            obtain rfl := some_inj hm
            refine X_draw mixed ty_ok Γok Γlive [] (by kernel_rfl) [(2, .b false)] (.cons hb1 .nil) (by kernel_rfl) ?_
            exact thN (Wk_J hL ⟨[(2, []), (6, []), (7, []), (9, []), (10, []), (13, []), (14, []), (15, []), (32, [])], [(16, 16, []), (32, 32, []), (48, 48, []), (64, 128, [])], [], 96⟩ (by kernel_rfl))
        have hm := hk1
        refine X_cond v3 (by kernel_rfl) (fun hc1 => ?_) (fun hc1 => ?_)
        · have hm := it hc1 hm
          obtain ⟨e5, h5, hm⟩ := obind hm
          obtain ⟨e6, h6, hm⟩ := obind hm
          refine X_draw mixed ty_ok Γok Γlive [(8, [48])] (by kernel_rfl) [(2, .d (Enc.e e5)), (3, .d (Enc.e e5)), (7, .d (Enc.e e6)), (8, .sd (Enc.e e6) (List.map Enc.e (r.set (w64 ((v1.length : Int) - 1)).toNat (w64 (e5 + e.Fare)))))] (.cons (idx_m (f := Enc.e) h5) (.cons (idx_m2 (f := Enc.e) h5) (.cons (idx_m (f := Enc.e) h6) (.cons (idx_m2 (f := Enc.e) h6) (.cons (set_m Enc.e r (w64 ((v1.length : Int) - 1)).toNat (w64 (e5 + e.Fare))) .nil))))) (by kernel_rfl) ?_
          refine ibN ?_
          obtain rfl := some_inj hm
          exact thN (Wk_J hL ⟨[(2, []), (6, []), (7, []), (13, []), (14, []), (15, [])], [(16, 16, []), (32, 32, []), (48, 48, [])], [], 80⟩ (by kernel_rfl))
        · have hm := ie hc1 hm
          obtain ⟨u2, h9, hm⟩ := obind hm
          obtain ⟨u3, h10, hm⟩ := obind hm
          refine X_draw mixed ty_ok Γok Γlive [(4, [32, 144]), (9, [48, 224])] (by kernel_rfl) [(4, .l (List.map Enc.e (v1 ++ ([e.Day] : List Int)))), (9, .l (List.map Enc.e (r ++ ([e.Fare] : List Int))))] (.cons (app_p (f := Enc.e) (g := Enc.e) (l := v1) (r := ([e.Day] : List Int)) (b := 8) (chk_t h9) rfl) (.cons (app_m Enc.e v1 ([e.Day] : List Int)) (.cons (app_p (f := Enc.e) (g := Enc.e) (l := r) (r := ([e.Fare] : List Int)) (b := 8) (chk_t h10) rfl) (.cons (app_m Enc.e r ([e.Fare] : List Int)) .nil)))) (by kernel_rfl) ?_
          refine ibN ?_
          obtain rfl := some_inj hm
          exact thN (Wk_J hL ⟨[(2, []), (6, []), (7, []), (13, []), (14, []), (15, [])], [(16, 16, []), (32, 160, []), (48, 240, [])], [], 80⟩ (by kernel_rfl))
      obtain ⟨v2, r1⟩ := vv
      have hm := hk
      refine X_reg ty_ok Γok hL [] .nil (by kernel_rfl) ?_
      obtain rfl := some_inj hm
      exact thN ⟨_, rfl, Wk_J hL ⟨[(2, []), (6, []), (7, []), (13, []), (14, []), (15, [])], [(16, 16, []), (32, 32, []), (48, 48, [])], [], 80⟩ (by kernel_rfl)⟩
    · have hm := ie hc hm
      obtain rfl := some_inj hm
      obtain rfl := hb _ rfl
      refine Ok_exit ?_
      refine thE ?_
      refine thE ?_
      refine ibE ?_
      exact thN (Wk_J hL ⟨[(2, []), (6, []), (7, [])], [(16, 16, []), (32, 32, []), (48, 48, [])], [], 80⟩ (by kernel_rfl))
  obtain ⟨v4, r2⟩ := vv1
  intro s hw
  have hm := hk2
  refine thN ?_
  refine Ok_weak hw ?_
  refine Ok_seq ?_
  refine X_reg_seq ty_ok Γok hL [(1, .n (r2.length : Int))] (.cons (len_m Enc.e r2) .nil) (by kernel_rfl) ?_
  obtain ⟨r3, hv3, hk3⟩ := obind hm
  refine X_tail (n := 69) (fun (r3 : List Int) => (⟨[(6, .own 16), (7, .own 32)], [(16, some (.arr 3 1 (List.map Enc.e v4))), (32, some (.arr 3 1 (List.map Enc.e r3)))], 64⟩ : X)) r3 ?_ ?_
  · have hm := hv3
    refine Ok_block ?_
    refine X_loop (n := 69) (step := i_rideDays_L2 p r2) (fun ((v5, v6) : Int × (List Int)) => (⟨[(2, .ref 16 0), (6, .own 32), (7, .own 48), (52, .own 48), (53, .dat (.sc (.int .i64 (r2.length : Int)))), (54, .dat (.sc (.int .i64 v5)))], [(16, some (.box [.dat (Enc.e p.Zones), .dat (.sc (.int .i64 p.Day)), .dat (.sc (.int .i64 p.Week))])), (32, some (.arr 3 1 (List.map Enc.e v4))), (48, some (.arr 3 1 (List.map Enc.e v6)))], 80⟩ : X)) hm (Wk_J hL ⟨[(2, []), (6, []), (7, []), (52, []), (53, []), (54, [])], [(16, 16, []), (32, 32, []), (48, 48, [])], [], 80⟩ (by kernel_rfl)) ?_
    rintro ⟨v5, v6⟩ r0 hm hb2
    rw [i_rideDays_L2] at hm
    refine X_reg_seq ty_ok Γok hL [] .nil (by kernel_rfl) ?_
    refine Ok_seq ?_
    refine X_cond (decide (v5 < (r2.length : Int))) (by kernel_rfl) (fun hc2 => ?_) (fun hc2 => ?_)
    · have hm := it hc2 hm
      refine X_skip ?_
      refine thN ?_
      refine Ok_seq ?_
      refine Ok_block ?_
      obtain ⟨e7, h11, hm⟩ := obind hm
      refine X_reg_seq ty_ok Γok hL [(1, .d (Enc.e e7)), (2, .d (Enc.e e7))] (.cons (idx_m (f := Enc.e) h11) (.cons (idx_m2 (f := Enc.e) h11) .nil)) (by kernel_rfl) ?_
      obtain ⟨e8, h12, hm⟩ := obind hm
      refine X_reg ty_ok Γok hL [(6, .d (Enc.e e8)), (7, .sd (Enc.e e8) (List.map Enc.e (v6.set v5.toNat (if p.Day < e7 then p.Day else e7))))] (.cons (idx_m (f := Enc.e) h12) (.cons (idx_m2 (f := Enc.e) h12) (.cons (set_m Enc.e v6 v5.toNat (if p.Day < e7 then p.Day else e7)) .nil))) (by kernel_rfl) ?_
      refine ibN ?_
      refine thN ?_
      refine X_reg ty_ok Γok hL [] .nil (by kernel_rfl) ?_
      obtain rfl := some_inj hm
      exact thN ⟨_, rfl, Wk_J hL ⟨[(2, []), (6, []), (7, []), (52, []), (53, []), (54, [])], [(16, 16, []), (32, 32, []), (48, 48, [])], [], 80⟩ (by kernel_rfl)⟩
    · have hm := ie hc2 hm
      obtain rfl := some_inj hm
      obtain rfl := hb2 _ rfl
      refine Ok_exit ?_
      refine thE ?_
      refine thE ?_
      refine ibE ?_
      exact thN (Wk_J hL ⟨[(6, []), (7, [])], [(16, 32, []), (32, 48, [])], [], 64⟩ (by kernel_rfl))
  intro s1 hw1
  have hm := hk3
  refine thN ?_
  refine Ok_weak hw1 ?_
  refine X_reg_seq ty_ok Γok hL [] .nil (by kernel_rfl) ?_
  obtain rfl := some_inj hm
  refine Ok_ret ?_
  repeat (first | refine thR ?_ | refine ibR ?_)
  exact X_fin [16, 32] [] (by kernel_rfl) trivial
abbrev slices_Compare_int_r (y : Int) : AV := .dat (Enc.e y)
abbrev slices_Compare_int_n (y : Int) : List Obj' := []
abbrev slices_Compare_int_o (x : (List Int) × (List Int)) (y : Int) : List Obj' := []
noncomputable def slices_Compare_int_S : FnSpec := modS [none, none] (fun x : (List Int) × (List Int) => [Enc.e x.1, Enc.e x.2]) (fun x : (List Int) × (List Int) => []) (fun x : (List Int) × (List Int) => slices_Compare_int x.1 x.2) slices_Compare_int_r slices_Compare_int_n slices_Compare_int_o
theorem slices_Compare_int_c {s1 : List Int} {s2 : List Int} {y : Int} (h : slices_Compare_int s1 s2 = some y) : CallOK slices_Compare_int_S [Enc.e s1, Enc.e s2] [] (slices_Compare_int_r y) (slices_Compare_int_n y) (slices_Compare_int_o (s1, s2) y) :=
  modS_call (by
    rintro ⟨a0, a1⟩ ⟨b0, b1⟩ h h2
    simp only [List.cons.injEq, and_true] at h
    try simp only [List.cons.injEq, and_true, Obj'.box.injEq, Obj'.arr.injEq, true_and, AV.dat.injEq] at h2
    obtain ⟨h0, h1⟩ := h
    have q0 := Enc.inj _ _ h0
    have q1 := Enc.inj _ _ h1
    subst q0; subst q1; rfl) (x := (s1, s2)) h
theorem slices_Compare_int_ok : FnOK Try.prog 66 slices_Compare_int_S := by
  have Γok : ∀ f S, lookF f [(65, cmp_Compare_int_S)] = some S → FnOK Try.prog f S := lookF_ok (allF_cons cmp_Compare_int_ok allF_nil)
  have Γlive : Live (fun f => lookF f [(65, cmp_Compare_int_S)]) := lookF_live (allL_cons modS_live allL_nil)
  refine fnOK_mod ty_ok (fun args w => Try.call66 args w) Try.func66 rfl [.tmp 4] (by rw [Try.results66]) 36 Try.ntmps66 16 rfl (fun _ => by first | exact Nat.zero_le _ | (simp)) (fun _ => rfl) ?_
  rintro ⟨s1, s2⟩ y cx hm hL
  have hm : slices_Compare_int s1 s2 = some y := hm
  have hL : cx.L = 0 := hL
  unfold slices_Compare_int at hm
  refine X_reg_seq ty_ok Γok hL [] .nil (by kernel_rfl) ?_
  refine Ok_seq ?_
  refine X_reg_seq ty_ok Γok hL [(1, .n (s1.length : Int))] (.cons (len_m Enc.e s1) .nil) (by kernel_rfl) ?_
  obtain ⟨v1, hv, hr, hk⟩ := flb_t hm
  refine X_tailF (n := 36) (fun (_ : Unit) => (⟨[(0, .dat (Enc.e s1)), (1, .dat (Enc.e s2))], [], 32⟩ : X)) v1 ?_ ?_
  · have hm := hv
    refine Ok_block ?_
    refine X_loop (n := 36) (step := slices_Compare_int_L1 s1 s2) (fun (v : Int) => (⟨[(0, .dat (Enc.e s1)), (1, .dat (Enc.e s2)), (9, .dat (Enc.e s1)), (10, .dat (.sc (.int .i64 (s1.length : Int)))), (11, .dat (.sc (.int .i64 v)))], [], 32⟩ : X)) hm (Wk_J hL ⟨[(0, []), (1, []), (9, []), (10, []), (11, [])], [], [], 32⟩ (by kernel_rfl)) ?_
    rintro v r0 hm hb
    rw [slices_Compare_int_L1] at hm
    refine X_reg_seq ty_ok Γok hL [] .nil (by kernel_rfl) ?_
    refine Ok_seq ?_
    refine X_cond (decide (v < (s1.length : Int))) (by kernel_rfl) (fun hc => ?_) (fun hc => ?_)
    · have hm := it hc hm
      refine X_skip ?_
      refine thN ?_
      refine Ok_seq ?_
      refine Ok_block ?_
      obtain ⟨e, h, hm⟩ := obind hm
      refine X_reg_seq ty_ok Γok hL [(1, .d (Enc.e e))] (.cons (idx_m (f := Enc.e) h) .nil) (by kernel_rfl) ?_
      refine Ok_seq ?_
      refine X_reg_seq ty_ok Γok hL [(2, .n (s2.length : Int))] (.cons (len_m Enc.e s2) .nil) (by kernel_rfl) ?_
      refine X_cond (decide ((s2.length : Int) ≤ v)) (by kernel_rfl) (fun hc1 => ?_) (fun hc1 => ?_)
      · have hm := it hc1 hm
        refine X_reg_seq ty_ok Γok hL [] .nil (by kernel_rfl) ?_
        obtain rfl := some_inj hm
        obtain rfl := hb _ rfl
        have hm := congrArg some (hr _ rfl)
        obtain rfl := some_inj hm
        refine Ok_ret ?_
        repeat (first | refine thR ?_ | refine ibR ?_)
        exact X_fin [] [] (by kernel_rfl) trivial
      · have hm := ie hc1 hm
        refine X_skip ?_
        refine thN ?_
        obtain ⟨e2, h1, hm⟩ := obind hm
        refine X_reg_seq ty_ok Γok hL [(2, .d (Enc.e e2))] (.cons (idx_m (f := Enc.e) h1) .nil) (by kernel_rfl) ?_
        obtain ⟨r1, h2, hm⟩ := obind hm
        refine X_reg_seq ty_ok Γok hL [(2, .c (cmp_Compare_int_r r1) (cmp_Compare_int_n r1) (cmp_Compare_int_o (e, e2) r1))] (.cons (cmp_Compare_int_c h2) .nil) (by kernel_rfl) ?_
        refine X_reg_seq ty_ok Γok hL [] .nil (by kernel_rfl) ?_
        refine X_cond (r1 != 0) (by kernel_rfl) (fun hc2 => ?_) (fun hc2 => ?_)
        · have hm := it hc2 hm
          refine X_reg_seq ty_ok Γok hL [] .nil (by kernel_rfl) ?_
          obtain rfl := some_inj hm
          obtain rfl := hb _ rfl
          have hm := congrArg some (hr _ rfl)
          obtain rfl := some_inj hm
          refine Ok_ret ?_
          repeat (first | refine thR ?_ | refine ibR ?_)
          exact X_fin [] [] (by kernel_rfl) trivial
        · have hm := ie hc2 hm
          refine X_skip ?_
          refine ibN ?_
          refine thN ?_
          refine X_reg ty_ok Γok hL [] .nil (by kernel_rfl) ?_
          obtain rfl := some_inj hm
          exact thN ⟨_, rfl, Wk_J hL ⟨[(0, []), (1, []), (9, []), (10, []), (11, [])], [], [], 32⟩ (by kernel_rfl)⟩
    · have hm := ie hc hm
      obtain rfl := some_inj hm
      obtain rfl := hb _ rfl
      refine Ok_exit ?_
      refine thE ?_
      refine thE ?_
      refine ibE ?_
      exact thN ⟨_, rfl, Wk_J hL ⟨[(0, []), (1, [])], [], [], 32⟩ (by kernel_rfl)⟩
  rintro ⟨⟩ hu s hw
  have hm := hk _ hu
  refine thN ?_
  refine Ok_weak hw ?_
  refine Ok_seq ?_
  refine X_reg_seq ty_ok Γok hL [(1, .n (s1.length : Int)), (3, .n (s2.length : Int))] (.cons (len_m Enc.e s1) (.cons (len_m Enc.e s2) .nil)) (by kernel_rfl) ?_
  refine X_cond (decide ((s1.length : Int) < (s2.length : Int))) (by kernel_rfl) (fun hc3 => ?_) (fun hc3 => ?_)
  · have hm := it hc3 hm
    refine X_reg_seq ty_ok Γok hL [] .nil (by kernel_rfl) ?_
    obtain rfl := some_inj hm
    refine Ok_ret ?_
    repeat (first | refine thR ?_ | refine ibR ?_)
    exact X_fin [] [] (by kernel_rfl) trivial
  · have hm := ie hc3 hm
    refine X_skip ?_
    refine thN ?_
    refine X_reg_seq ty_ok Γok hL [] .nil (by kernel_rfl) ?_
    obtain rfl := some_inj hm
    refine Ok_ret ?_
    repeat (first | refine thR ?_ | refine ibR ?_)
    exact X_fin [] [] (by kernel_rfl) trivial
abbrev i_CheapestTickets_r (y : Int × (List Int) × Bool) : AV := .tup [.dat (Enc.e y.1), .dat (Enc.e y.2.1), .dat (Enc.e y.2.2)]
abbrev i_CheapestTickets_n (y : Int × (List Int) × Bool) : List Obj' := []
abbrev i_CheapestTickets_o (x : Prices × (List Ride)) (y : Int × (List Int) × Bool) : List Obj' := []
noncomputable def i_CheapestTickets_S : FnSpec := modS [none, none] (fun x : Prices × (List Ride) => [Enc.e x.1, Enc.e x.2]) (fun x : Prices × (List Ride) => []) (fun x : Prices × (List Ride) => i_CheapestTickets x.1 x.2) i_CheapestTickets_r i_CheapestTickets_n i_CheapestTickets_o
theorem i_CheapestTickets_c {p : Prices} {list : List Ride} {y : Int × (List Int) × Bool} (h : i_CheapestTickets p list = some y) : CallOK i_CheapestTickets_S [Enc.e p, Enc.e list] [] (i_CheapestTickets_r y) (i_CheapestTickets_n y) (i_CheapestTickets_o (p, list) y) :=
  modS_call (by
    rintro ⟨a0, a1⟩ ⟨b0, b1⟩ h h2
    simp only [List.cons.injEq, and_true] at h
    try simp only [List.cons.injEq, and_true, Obj'.box.injEq, Obj'.arr.injEq, true_and, AV.dat.injEq] at h2
    obtain ⟨h0, h1⟩ := h
    have q0 := Enc.inj _ _ h0
    have q1 := Enc.inj _ _ h1
    subst q0; subst q1; rfl) (x := (p, list)) h
theorem i_CheapestTickets_ok : FnOK Try.prog 21 i_CheapestTickets_S := by
  have Γok : ∀ f S, lookF f [(62, i_arePrices_S), (29, i_IsValidRides_S), (63, i_rideDays_S), (65, cmp_Compare_int_S), (66, slices_Compare_int_S), (64, cmp_Or_int_S)] = some S → FnOK Try.prog f S := lookF_ok (allF_cons i_arePrices_ok (allF_cons i_IsValidRides_ok (allF_cons i_rideDays_ok (allF_cons cmp_Compare_int_ok (allF_cons slices_Compare_int_ok (allF_cons cmp_Or_int_ok allF_nil))))))
  have Γlive : Live (fun f => lookF f [(62, i_arePrices_S), (29, i_IsValidRides_S), (63, i_rideDays_S), (65, cmp_Compare_int_S), (66, slices_Compare_int_S), (64, cmp_Or_int_S)]) := lookF_live (allL_cons modS_live (allL_cons modS_live (allL_cons modS_live (allL_cons modS_live (allL_cons modS_live (allL_cons modS_live allL_nil))))))
  refine fnOK_mod ty_ok (fun args w => Try.call21 args w) Try.func21 rfl [.tmp 4, .tmp 5, .tmp 6] (by rw [Try.results21]) 130 Try.ntmps21 16 rfl (fun _ => by first | exact Nat.zero_le _ | (simp)) (fun _ => rfl) ?_
  rintro ⟨p, list⟩ y cx hm hL
  have hm : i_CheapestTickets p list = some y := hm
  have hL : cx.L = 0 := hL
  unfold i_CheapestTickets at hm
  refine X_reg_seq ty_ok Γok hL [] .nil (by kernel_rfl) ?_
  refine Ok_seq ?_
  obtain ⟨r, h, hm⟩ := obind hm
  obtain ⟨v, hv, hk⟩ := obind hm
  refine X_join (n := 130) (fun (v : Bool) => (⟨[(1, .dat (Enc.e list)), (2, .ref 16 0), (22, .dat (.sc (.bool v)))], [(16, some (.box [.dat (Enc.e p.Zones), .dat (.sc (.int .i64 p.Day)), .dat (.sc (.int .i64 p.Week))]))], 48⟩ : X)) v ?_ ?_
  · have hm := hv
    rcases btf (!r) with hb | hb
    · have hm := it hb hm
      obtain rfl := some_inj hm
      refine X_reg ty_ok Γok hL [(1, .c (i_arePrices_r r) (i_arePrices_n r) (i_arePrices_o p r)), (3, .b true)] (.cons (i_arePrices_c h) (.cons hb .nil)) (by kernel_rfl) ?_
      exact thN (Wk_J hL ⟨[(1, []), (2, []), (22, [])], [(16, 16, [])], [], 48⟩ (by kernel_rfl))
    · have hm := ie hb hm
      obtain ⟨r1, h1, hm⟩ := obind hm
      obtain rfl := some_inj hm
      refine X_reg ty_ok Γok hL [(1, .c (i_arePrices_r r) (i_arePrices_n r) (i_arePrices_o p r)), (3, .b false), (5, .c (i_IsValidRides_r r1) (i_IsValidRides_n r1) (i_IsValidRides_o list r1))] (.cons (i_arePrices_c h) (.cons hb (.cons (i_IsValidRides_c h1) .nil))) (by kernel_rfl) ?_
      exact thN (Wk_J hL ⟨[(1, []), (2, []), (22, [])], [(16, 16, [])], [], 48⟩ (by kernel_rfl))
  have hm := hk
  refine X_cond v (by kernel_rfl) (fun hc => ?_) (fun hc => ?_)
  · have hm := it hc hm
    refine X_reg_seq ty_ok Γok hL [] .nil (by kernel_rfl) ?_
    obtain rfl := some_inj hm
    refine Ok_ret ?_
    repeat (first | refine thR ?_ | refine ibR ?_)
    exact X_fin [] [[], [.z 1]] (by kernel_rfl) trivial
  · have hm := ie hc hm
    refine X_skip ?_
    refine thN ?_
    obtain ⟨r2, h2, hm⟩ := obind hm
    refine X_reg_seq ty_ok Γok hL [(2, .c (i_rideDays_r r2) (i_rideDays_n r2) (i_rideDays_o (p, list) r2))] (.cons (i_rideDays_c h2) .nil) (by kernel_rfl) ?_
    obtain ⟨u2, h5, hm⟩ := obind hm
    obtain ⟨u3, h6, hm⟩ := obind hm
    refine X_draw_seq mixed ty_ok Γok Γlive [] (by kernel_rfl) [(1, .n (r2.1.length : Int)), (3, .l (List.map Enc.e (List.replicate (w64 ((r2.1.length : Int) + 1)).toNat (0 : Int)))), (5, .n (r2.1.length : Int)), (7, .l (List.map Enc.e (List.replicate (w64 ((r2.1.length : Int) + 1)).toNat (([] : List Int) : List Int))))] (.cons (len_m Enc.e r2.1) (.cons (mk_p (b := 8) (chk_t h5) rfl) (.cons (rep_m Enc.e (w64 ((r2.1.length : Int) + 1)).toNat (0 : Int)) (.cons (len_m Enc.e r2.1) (.cons (mk_p (b := 24) (chk_t h6) rfl) (.cons (rep_m Enc.e (w64 ((r2.1.length : Int) + 1)).toNat (([] : List Int) : List Int)) .nil)))))) (by kernel_rfl) ?_
    refine Ok_seq ?_
    refine X_reg_seq ty_ok Γok hL [(1, .n (r2.1.length : Int))] (.cons (len_m Enc.e r2.1) .nil) (by kernel_rfl) ?_
    obtain ⟨vv1, hv4, hk4⟩ := obind hm
    refine X_tail (n := 130) (fun ((i2, next2) : (List Int) × (List (List Int))) => (⟨[(9, .own 16), (10, .own 32)], [(16, some (.arr 3 1 (List.map Enc.e i2))), (32, some (.arr 33 1 (List.map Enc.e next2)))], 64⟩ : X)) vv1 ?_ ?_
    · have hm := hv4
      refine Ok_block ?_
      refine X_loop (n := 130) (step := i_CheapestTickets_L2 p r2) (fun ((sum, i, next) : Int × (List Int) × (List (List Int))) => (⟨[(2, .ref 16 0), (7, .own 32), (8, .own 48), (9, .own 64), (10, .own 80), (11, .dat (.sc (.int .i64 sum)))], [(16, some (.box [.dat (Enc.e p.Zones), .dat (.sc (.int .i64 p.Day)), .dat (.sc (.int .i64 p.Week))])), (32, some (.arr 3 1 (List.map Enc.e r2.1))), (48, some (.arr 3 1 (List.map Enc.e r2.2))), (64, some (.arr 3 1 (List.map Enc.e i))), (80, some (.arr 33 1 (List.map Enc.e next)))], 112⟩ : X)) hm (Wk_J hL ⟨[(2, []), (7, []), (8, []), (9, []), (10, []), (11, [])], [(16, 16, []), (32, 80, []), (48, 81, []), (64, 224, []), (80, 288, [])], [], 112⟩ (by kernel_rfl)) ?_
      rintro ⟨sum, i, next⟩ r0 hm hb1
      rw [i_CheapestTickets_L2] at hm
      refine Ok_seq ?_
      refine X_reg_seq ty_ok Γok hL [] .nil (by kernel_rfl) ?_
      refine X_cond (decide (0 ≤ sum)) (by kernel_rfl) (fun hc1 => ?_) (fun hc1 => ?_)
      · have hm := it hc1 hm
        refine X_skip ?_
        refine thN ?_
        obtain ⟨vv, hv1, hk1⟩ := obind hm
        refine X_join (n := 130) (fun ((i1, next1) : (List Int) × (List (List Int))) => (⟨[(2, .ref 16 0), (7, .own 32), (8, .own 48), (9, .own 64), (10, .own 80), (11, .dat (.sc (.int .i64 sum)))], [(16, some (.box [.dat (Enc.e p.Zones), .dat (.sc (.int .i64 p.Day)), .dat (.sc (.int .i64 p.Week))])), (32, some (.arr 3 1 (List.map Enc.e r2.1))), (48, some (.arr 3 1 (List.map Enc.e r2.2))), (64, some (.arr 3 1 (List.map Enc.e i1))), (80, some (.arr 33 1 (List.map Enc.e next1)))], 112⟩ : X)) vv ?_ ?_
        · have hm := hv1
          refine Ok_block ?_
          refine X_reg_seq ty_ok Γok hL [] .nil (by kernel_rfl) ?_
          obtain ⟨begin1, hv3, hk3⟩ := obind hm
          refine X_join (n := 130) (fun (begin1 : Int) => (⟨[(2, .ref 16 0), (7, .own 32), (8, .own 48), (9, .own 64), (10, .own 80), (11, .dat (.sc (.int .i64 sum))), (12, .dat (.sc (.int .i64 begin1)))], [(16, some (.box [.dat (Enc.e p.Zones), .dat (.sc (.int .i64 p.Day)), .dat (.sc (.int .i64 p.Week))])), (32, some (.arr 3 1 (List.map Enc.e r2.1))), (48, some (.arr 3 1 (List.map Enc.e r2.2))), (64, some (.arr 3 1 (List.map Enc.e i))), (80, some (.arr 33 1 (List.map Enc.e next)))], 112⟩ : X)) begin1 ?_ ?_
          · have hm := hv3
            refine Ok_block ?_
            refine X_loop (n := 130) (step := i_CheapestTickets_L1 r2 sum) (fun (begin : Int) => (⟨[(2, .ref 16 0), (7, .own 32), (8, .own 48), (9, .own 64), (10, .own 80), (11, .dat (.sc (.int .i64 sum))), (12, .dat (.sc (.int .i64 begin)))], [(16, some (.box [.dat (Enc.e p.Zones), .dat (.sc (.int .i64 p.Day)), .dat (.sc (.int .i64 p.Week))])), (32, some (.arr 3 1 (List.map Enc.e r2.1))), (48, some (.arr 3 1 (List.map Enc.e r2.2))), (64, some (.arr 3 1 (List.map Enc.e i))), (80, some (.arr 33 1 (List.map Enc.e next)))], 112⟩ : X)) hm (Wk_J hL ⟨[(2, []), (7, []), (8, []), (9, []), (10, []), (11, []), (12, [])], [(16, 16, []), (32, 32, []), (48, 48, []), (64, 64, []), (80, 80, [])], [], 112⟩ (by kernel_rfl)) ?_
            rintro begin r0 hm hb2
            rw [i_CheapestTickets_L1] at hm
            refine Ok_seq ?_
            obtain ⟨v1, hv2, hk2⟩ := obind hm
            refine X_join (n := 130) (fun (v1 : Bool) => (⟨[(2, .ref 16 0), (7, .own 32), (8, .own 48), (9, .own 64), (10, .own 80), (11, .dat (.sc (.int .i64 sum))), (12, .dat (.sc (.int .i64 begin))), (60, .dat (.sc (.bool v1)))], [(16, some (.box [.dat (Enc.e p.Zones), .dat (.sc (.int .i64 p.Day)), .dat (.sc (.int .i64 p.Week))])), (32, some (.arr 3 1 (List.map Enc.e r2.1))), (48, some (.arr 3 1 (List.map Enc.e r2.2))), (64, some (.arr 3 1 (List.map Enc.e i))), (80, some (.arr 33 1 (List.map Enc.e next)))], 112⟩ : X)) v1 ?_ ?_
            · have hm := hv2
              rcases btf (decide (begin < (r2.1.length : Int))) with hb3 | hb3
              · have hm := it hb3 hm
                obtain ⟨e2, h9, hm⟩ := obind hm
                obtain ⟨e3, h10, hm⟩ := obind hm
                obtain rfl := some_inj hm
                refine X_draw mixed ty_ok Γok Γlive [] (by kernel_rfl) [(2, .n (r2.1.length : Int)), (4, .b true), (7, .d (Enc.e e2)), (8, .d (Enc.e e2)), (11, .d (Enc.e e3)), (12, .d (Enc.e e3))] (.cons (len_m Enc.e r2.1) (.cons hb3 (.cons (idx_m (f := Enc.e) h9) (.cons (idx_m2 (f := Enc.e) h9) (.cons (idx_m (f := Enc.e) h10) (.cons (idx_m2 (f := Enc.e) h10) .nil)))))) (by kernel_rfl) ?_
                exact thN (Wk_J hL ⟨[(2, []), (7, []), (8, []), (9, []), (10, []), (11, []), (12, []), (60, [])], [(16, 16, []), (32, 32, []), (48, 48, []), (64, 64, []), (80, 80, [])], [], 112⟩ (by kernel_rfl))
              · have hm := ie hb3 hm
                obtain rfl := some_inj hm
                refine X_draw mixed ty_ok Γok Γlive [] (by kernel_rfl) [(2, .n (r2.1.length : Int)), (4, .b false)] (.cons (len_m Enc.e r2.1) (.cons hb3 .nil)) (by kernel_rfl) ?_
                exact thN (Wk_J hL ⟨[(2, []), (7, []), (8, []), (9, []), (10, []), (11, []), (12, []), (60, [])], [(16, 16, []), (32, 32, []), (48, 48, []), (64, 64, []), (80, 80, [])], [], 112⟩ (by kernel_rfl))
            have hm := hk2
            refine X_cond v1 (by kernel_rfl) (fun hc2 => ?_) (fun hc2 => ?_)
            · have hm := it hc2 hm
              refine X_skip ?_
              refine thN ?_
              refine Ok_block ?_
              refine X_reg ty_ok Γok hL [] .nil (by kernel_rfl) ?_
              refine ibN ?_
              obtain rfl := some_inj hm
              exact thN ⟨_, rfl, Wk_J hL ⟨[(2, []), (7, []), (8, []), (9, []), (10, []), (11, []), (12, [])], [(16, 16, []), (32, 32, []), (48, 48, []), (64, 64, []), (80, 80, [])], [], 112⟩ (by kernel_rfl)⟩
            · have hm := ie hc2 hm
              obtain rfl := some_inj hm
              obtain rfl := hb2 _ rfl
              refine Ok_exit ?_
              refine thE ?_
              refine thE ?_
              refine ibE ?_
              exact thN (Wk_J hL ⟨[(2, []), (7, []), (8, []), (9, []), (10, []), (11, []), (12, [])], [(16, 16, []), (32, 32, []), (48, 48, []), (64, 64, []), (80, 80, [])], [], 112⟩ (by kernel_rfl))
          have hm := hk3
          obtain ⟨e9, h16, hm⟩ := obind hm
          obtain ⟨e10, h17, hm⟩ := obind hm
          obtain ⟨e11, h18, hm⟩ := obind hm
          obtain ⟨e12, h19, hm⟩ := obind hm
          obtain ⟨e13, h20, hm⟩ := obind hm
          refine X_draw_seq mixed ty_ok Γok Γlive [(20, [64]), (22, [80])] (by kernel_rfl) [(6, .d (Enc.e e9)), (7, .d (Enc.e e9)), (11, .d (Enc.e e10)), (12, .d (Enc.e e10)), (17, .d (Enc.e e11)), (18, .d (Enc.e e11)), (19, .d (Enc.e e12)), (20, .sd (Enc.e e12) (List.map Enc.e (i.set sum.toNat (w64 (e9 + e10))))), (21, .d (Enc.e e13)), (22, .sd (Enc.e e13) (List.map Enc.e (next.set sum.toNat e11)))] (.cons (idx_m (f := Enc.e) h16) (.cons (idx_m2 (f := Enc.e) h16) (.cons (idx_m (f := Enc.e) h17) (.cons (idx_m2 (f := Enc.e) h17) (.cons (idx_m (f := Enc.e) h18) (.cons (idx_m2 (f := Enc.e) h18) (.cons (idx_m (f := Enc.e) h19) (.cons (idx_m2 (f := Enc.e) h19) (.cons (set_m Enc.e i sum.toNat (w64 (e9 + e10))) (.cons (idx_m (f := Enc.e) h20) (.cons (idx_m2 (f := Enc.e) h20) (.cons (set_m Enc.e next sum.toNat e11) .nil)))))))))))) (by kernel_rfl) ?_
          obtain ⟨e15, h22, hm⟩ := obind hm
          refine X_draw_seq mixed ty_ok Γok Γlive [] (by kernel_rfl) [(4, .d (Enc.e e15)), (5, .d (Enc.e e15))] (.cons (idx_m (f := Enc.e) h22) (.cons (idx_m2 (f := Enc.e) h22) .nil)) (by kernel_rfl) ?_
          obtain ⟨e18, h26, hm⟩ := obind hm
          obtain ⟨e19, h27, hm⟩ := obind hm
          obtain ⟨u5, h28, hm⟩ := obind hm
          refine X_draw_seq mixed ty_ok Γok Γlive [(9, [672])] (by kernel_rfl) [(2, .d (Enc.e e18)), (3, .d (Enc.e e18)), (7, .d (Enc.e e19)), (8, .d (Enc.e e19)), (9, .l (List.map Enc.e (([e18] : List Int) ++ e19)))] (.cons (idx_m (f := Enc.e) h26) (.cons (idx_m2 (f := Enc.e) h26) (.cons (idx_m (f := Enc.e) h27) (.cons (idx_m2 (f := Enc.e) h27) (.cons (app_p (f := Enc.e) (g := Enc.e) (l := ([e18] : List Int)) (r := e19) (b := 8) (chk_t h28) rfl) (.cons (app_m Enc.e ([e18] : List Int) e19) .nil)))))) (by kernel_rfl) ?_
          obtain ⟨e22, h34, hm⟩ := obind hm
          obtain ⟨r6, h35, hm⟩ := obind hm
          obtain ⟨e23, h36, hm⟩ := obind hm
          obtain ⟨r7, h37, hm⟩ := obind hm
          obtain ⟨r8, h38, hm⟩ := obind hm
          refine X_draw_seq mixed ty_ok Γok Γlive [] (by kernel_rfl) [(3, .d (Enc.e e22)), (4, .d (Enc.e e22)), (5, .c (cmp_Compare_int_r r6) (cmp_Compare_int_n r6) (cmp_Compare_int_o ((w64 (p.Week + e15)), e22) r6)), (9, .d (Enc.e e23)), (10, .d (Enc.e e23)), (11, .c (slices_Compare_int_r r7) (slices_Compare_int_n r7) (slices_Compare_int_o ((([e18] : List Int) ++ e19), e23) r7)), (13, .c (cmp_Or_int_r r8) (cmp_Or_int_n r8) (cmp_Or_int_o ([r6, r7] : List Int) r8))] (.cons (idx_m (f := Enc.e) h34) (.cons (idx_m2 (f := Enc.e) h34) (.cons (cmp_Compare_int_c h35) (.cons (idx_m (f := Enc.e) h36) (.cons (idx_m2 (f := Enc.e) h36) (.cons (slices_Compare_int_c h37) (.cons (cmp_Or_int_c h38) .nil))))))) (by kernel_rfl) ?_
          refine X_cond (decide (r8 < 0)) (by kernel_rfl) (fun hc3 => ?_) (fun hc3 => ?_)
          · have hm := it hc3 hm
            obtain ⟨e24, h39, hm⟩ := obind hm
            obtain ⟨e25, h40, hm⟩ := obind hm
            refine X_reg ty_ok Γok hL [(6, .d (Enc.e e24)), (7, .sd (Enc.e e24) (List.map Enc.e ((i.set sum.toNat (w64 (e9 + e10))).set sum.toNat (w64 (p.Week + e15))))), (8, .d (Enc.e e25)), (9, .fz [752] []), (9, .sd (Enc.e e25) (List.map Enc.e ((next.set sum.toNat e11).set sum.toNat (([e18] : List Int) ++ e19))))] (.cons (idx_m (f := Enc.e) h39) (.cons (idx_m2 (f := Enc.e) h39) (.cons (set_m Enc.e (i.set sum.toNat (w64 (e9 + e10))) sum.toNat (w64 (p.Week + e15))) (.cons (idx_m (f := Enc.e) h40) (.cons (idx_m2 (f := Enc.e) h40) (.cons (set_m Enc.e (next.set sum.toNat e11) sum.toNat (([e18] : List Int) ++ e19)) .nil)))))) (by kernel_rfl) ?_
            refine ibN ?_
            obtain rfl := some_inj hm
            exact thN (Wk_J hL ⟨[(2, []), (7, []), (8, []), (9, []), (10, []), (11, [])], [(16, 16, []), (32, 32, []), (48, 48, []), (64, 64, []), (80, 80, [])], [], 112⟩ (by kernel_rfl))
          · have hm := ie hc3 hm
            refine X_skip ?_
            refine ibN ?_
            obtain rfl := some_inj hm
            exact thN (Wk_J hL ⟨[(2, []), (7, []), (8, []), (9, []), (10, []), (11, [])], [(16, 16, []), (32, 32, []), (48, 48, []), (64, 64, []), (80, 80, [])], [], 112⟩ (by kernel_rfl))
        obtain ⟨i1, next1⟩ := vv
        have hm := hk1
        refine X_reg ty_ok Γok hL [] .nil (by kernel_rfl) ?_
        obtain rfl := some_inj hm
        exact thN ⟨_, rfl, Wk_J hL ⟨[(2, []), (7, []), (8, []), (9, []), (10, []), (11, [])], [(16, 16, []), (32, 32, []), (48, 48, []), (64, 64, []), (80, 80, [])], [], 112⟩ (by kernel_rfl)⟩
      · have hm := ie hc1 hm
        obtain rfl := some_inj hm
        obtain rfl := hb1 _ rfl
        refine Ok_exit ?_
        refine thE ?_
        refine thE ?_
        refine ibE ?_
        exact thN (Wk_J hL ⟨[(9, []), (10, [])], [(16, 64, []), (32, 80, [])], [], 64⟩ (by kernel_rfl))
    obtain ⟨i2, next2⟩ := vv1
    intro s hw
    have hm := hk4
    refine thN ?_
    refine Ok_weak hw ?_
    obtain ⟨e28, h43, hm⟩ := obind hm
    obtain ⟨e29, h44, hm⟩ := obind hm
    refine X_draw_seq mixed ty_ok Γok Γlive [] (by kernel_rfl) [(1, .d (Enc.e e28)), (2, .d (Enc.e e28)), (4, .d (Enc.e e29)), (5, .d (Enc.e e29))] (.cons (idx_m (f := Enc.e) h43) (.cons (idx_m2 (f := Enc.e) h43) (.cons (idx_m (f := Enc.e) h44) (.cons (idx_m2 (f := Enc.e) h44) .nil)))) (by kernel_rfl) ?_
    obtain rfl := some_inj hm
    refine Ok_ret ?_
    repeat (first | refine thR ?_ | refine ibR ?_)
    exact X_fin [] [] (by kernel_rfl) trivial
abbrev s_l1In_r (y : Bool) : AV := .dat (Enc.e y)
abbrev s_l1In_n (y : Bool) : List Obj' := []
abbrev s_l1In_o (x : Int × Int × Int) (y : Bool) : List Obj' := []
noncomputable def s_l1In_S : FnSpec := modS [none, none, none] (fun x : Int × Int × Int => [Enc.e x.1, Enc.e x.2.1, Enc.e x.2.2]) (fun x : Int × Int × Int => []) (fun x : Int × Int × Int => s_l1In x.1 x.2.1 x.2.2) s_l1In_r s_l1In_n s_l1In_o
theorem s_l1In_c {x : Int} {a : Int} {b : Int} {y : Bool} (h : s_l1In x a b = some y) : CallOK s_l1In_S [Enc.e x, Enc.e a, Enc.e b] [] (s_l1In_r y) (s_l1In_n y) (s_l1In_o (x, a, b) y) :=
  modS_call (by
    rintro ⟨a0, a1, a2⟩ ⟨b0, b1, b2⟩ h h2
    simp only [List.cons.injEq, and_true] at h
    try simp only [List.cons.injEq, and_true, Obj'.box.injEq, Obj'.arr.injEq, true_and, AV.dat.injEq] at h2
    obtain ⟨h0, h1, h2⟩ := h
    have q0 := Enc.inj _ _ h0
    have q1 := Enc.inj _ _ h1
    have q2 := Enc.inj _ _ h2
    subst q0; subst q1; subst q2; rfl) (x := (x, a, b)) h
theorem s_l1In_ok : FnOK Try.prog 56 s_l1In_S := by
  have Γok : ∀ f S, lookF f [] = some S → FnOK Try.prog f S := lookF_ok allF_nil
  have Γlive : Live (fun f => lookF f []) := lookF_live allL_nil
  refine fnOK_mod ty_ok (fun args w => Try.call56 args w) Try.func56 rfl [.tmp 6] (by rw [Try.results56]) 15 Try.ntmps56 16 rfl (fun _ => by first | exact Nat.zero_le _ | (simp)) (fun _ => rfl) ?_
  rintro ⟨x, a, b⟩ y cx hm hL
  have hm : s_l1In x a b = some y := hm
  have hL : cx.L = 0 := hL
  unfold s_l1In at hm
  refine X_reg_seq ty_ok Γok hL [] .nil (by kernel_rfl) ?_
  obtain ⟨v, hv, hk⟩ := obind hm
  refine X_join (n := 15) (fun (v : Bool) => (⟨[(6, .dat (.sc (.bool v)))], [], 32⟩ : X)) v ?_ ?_
  · have hm := hv
    rcases btf (decide (a ≤ x)) with hb | hb
    · have hm := it hb hm
      obtain rfl := some_inj hm
      refine X_reg ty_ok Γok hL [(3, .b true)] (.cons hb .nil) (by kernel_rfl) ?_
      exact thN (Wk_J hL ⟨[(6, [])], [], [], 32⟩ (by kernel_rfl))
    · have hm := ie hb hm
      obtain rfl := some_inj hm
      refine X_reg ty_ok Γok hL [(3, .b false)] (.cons hb .nil) (by kernel_rfl) ?_
      exact thN (Wk_J hL ⟨[(6, [])], [], [], 32⟩ (by kernel_rfl))
  have hm := hk
  obtain rfl := some_inj hm
  refine Ok_ret ?_
  repeat (first | refine thR ?_ | refine ibR ?_)
  exact X_fin [] [] (by kernel_rfl) trivial
abbrev s_l21Prices_r (y : Bool) : AV := .dat (Enc.e y)
abbrev s_l21Prices_n (y : Bool) : List Obj' := []
abbrev s_l21Prices_o (x : Prices) (y : Bool) : List Obj' := []
noncomputable def s_l21Prices_S : FnSpec := modS [none] (fun x : Prices => [Enc.e x]) (fun x : Prices => []) (fun x : Prices => s_l21Prices x) s_l21Prices_r s_l21Prices_n s_l21Prices_o
theorem s_l21Prices_c {p : Prices} {y : Bool} (h : s_l21Prices p = some y) : CallOK s_l21Prices_S [Enc.e p] [] (s_l21Prices_r y) (s_l21Prices_n y) (s_l21Prices_o p y) :=
  modS_call (by
    rintro a0 b0 h h2
    simp only [List.cons.injEq, and_true] at h
    try simp only [List.cons.injEq, and_true, Obj'.box.injEq, Obj'.arr.injEq, true_and, AV.dat.injEq] at h2
    have h0 := h
    have q0 := Enc.inj _ _ h0
    subst q0; rfl) (x := p) h
theorem s_l21Prices_ok : FnOK Try.prog 67 s_l21Prices_S := by
  have Γok : ∀ f S, lookF f [(56, s_l1In_S)] = some S → FnOK Try.prog f S := lookF_ok (allF_cons s_l1In_ok allF_nil)
  have Γlive : Live (fun f => lookF f [(56, s_l1In_S)]) := lookF_live (allL_cons modS_live allL_nil)
  refine fnOK_mod ty_ok (fun args w => Try.call67 args w) Try.func67 rfl [.tmp 2] (by rw [Try.results67]) 50 Try.ntmps67 16 rfl (fun _ => by first | exact Nat.zero_le _ | (simp)) (fun _ => rfl) ?_
  rintro p y cx hm hL
  have hm : s_l21Prices p = some y := hm
  have hL : cx.L = 0 := hL
  unfold s_l21Prices at hm
  refine X_reg_seq ty_ok Γok hL [] .nil (by kernel_rfl) ?_
  refine Ok_seq ?_
  refine X_reg_seq ty_ok Γok hL [] .nil (by kernel_rfl) ?_
  obtain ⟨v2, hv1, hr, hk1⟩ := flb_t hm
  refine X_tailF (n := 50) (fun (_ : Unit) => (⟨[(1, .ref 16 0)], [(16, some (.box [.dat (Enc.e p.Zones), .dat (.sc (.int .i64 p.Day)), .dat (.sc (.int .i64 p.Week))]))], 48⟩ : X)) v2 ?_ ?_
  · have hm := hv1
    refine Ok_block ?_
    refine X_loop (n := 50) (step := s_l21Prices_L1 p) (fun (v : Int) => (⟨[(1, .ref 16 0), (3, .dat (.sc (.int .i64 v)))], [(16, some (.box [.dat (Enc.e p.Zones), .dat (.sc (.int .i64 p.Day)), .dat (.sc (.int .i64 p.Week))]))], 48⟩ : X)) hm (Wk_J hL ⟨[(1, []), (3, [])], [(16, 16, [])], [], 48⟩ (by kernel_rfl)) ?_
    rintro v r0 hm hb
    rw [s_l21Prices_L1] at hm
    refine Ok_seq ?_
    refine X_reg_seq ty_ok Γok hL [(3, .n (p.Zones.length : Int))] (.cons (len_m Enc.e p.Zones) .nil) (by kernel_rfl) ?_
    refine X_cond (decide (v < (p.Zones.length : Int))) (by kernel_rfl) (fun hc => ?_) (fun hc => ?_)
    · have hm := it hc hm
      refine X_skip ?_
      refine thN ?_
      refine Ok_seq ?_
      refine Ok_block ?_
      obtain ⟨e3, h4, hm⟩ := obind hm
      obtain ⟨r1, h5, hm⟩ := obind hm
      obtain ⟨v1, hv, hk⟩ := obind hm
      refine X_join (n := 50) (fun (v1 : Bool) => (⟨[(1, .ref 16 0), (3, .dat (.sc (.int .i64 v))), (35, .dat (.sc (.bool v1)))], [(16, some (.box [.dat (Enc.e p.Zones), .dat (.sc (.int .i64 p.Day)), .dat (.sc (.int .i64 p.Week))]))], 48⟩ : X)) v1 ?_ ?_
      · have hm := hv
        rcases btf (!r1) with hb1 | hb1
        · have hm := it hb1 hm
          obtain rfl := some_inj hm
          refine X_draw mixed ty_ok Γok Γlive [] (by kernel_rfl) [(3, .d (Enc.e e3)), (5, .c (s_l1In_r r1) (s_l1In_n r1) (s_l1In_o (e3, 0, 10000) r1)), (7, .b true)] (.cons (idx_m (f := Enc.e) h4) (.cons (s_l1In_c h5) (.cons hb1 .nil))) (by kernel_rfl) ?_
          exact thN (Wk_J hL ⟨[(1, []), (3, []), (35, [])], [(16, 16, [])], [], 48⟩ (by kernel_rfl))
        · have hm := ie hb1 hm
          rcases btf (decide (0 < v)) with hb2 | hb2
          · have hm := it hb2 hm
            obtain ⟨e4, h6, hm⟩ := obind hm
            obtain ⟨e5, h7, hm⟩ := obind hm
            obtain rfl := some_inj hm
            refine X_draw mixed ty_ok Γok Γlive [] (by kernel_rfl) [(3, .d (Enc.e e3)), (5, .c (s_l1In_r r1) (s_l1In_n r1) (s_l1In_o (e3, 0, 10000) r1)), (7, .b false), (10, .b true), (15, .d (Enc.e e4)), (20, .d (Enc.e e5))] (.cons (idx_m (f := Enc.e) h4) (.cons (s_l1In_c h5) (.cons hb1 (.cons hb2 (.cons (idx_m (f := Enc.e) h6) (.cons (idx_m (f := Enc.e) h7) .nil)))))) (by kernel_rfl) ?_
            exact thN (Wk_J hL ⟨[(1, []), (3, []), (35, [])], [(16, 16, [])], [], 48⟩ (by kernel_rfl))
          · have hm := ie hb2 hm
            obtain rfl := some_inj hm
            refine X_draw mixed ty_ok Γok Γlive [] (by kernel_rfl) [(3, .d (Enc.e e3)), (5, .c (s_l1In_r r1) (s_l1In_n r1) (s_l1In_o (e3, 0, 10000) r1)), (7, .b false), (10, .b false)] (.cons (idx_m (f := Enc.e) h4) (.cons (s_l1In_c h5) (.cons hb1 (.cons hb2 .nil)))) (by kernel_rfl) ?_
            exact thN (Wk_J hL ⟨[(1, []), (3, []), (35, [])], [(16, 16, [])], [], 48⟩ (by kernel_rfl))
      have hm := hk
      refine X_cond v1 (by kernel_rfl) (fun hc1 => ?_) (fun hc1 => ?_)
      · have hm := it hc1 hm
        refine X_reg_seq ty_ok Γok hL [] .nil (by kernel_rfl) ?_
        obtain rfl := some_inj hm
        obtain rfl := hb _ rfl
        have hm := congrArg some (hr _ rfl)
        obtain rfl := some_inj hm
        refine Ok_ret ?_
        repeat (first | refine thR ?_ | refine ibR ?_)
        exact X_fin [] [] (by kernel_rfl) trivial
      · have hm := ie hc1 hm
        refine X_skip ?_
        refine ibN ?_
        refine thN ?_
        refine X_reg ty_ok Γok hL [] .nil (by kernel_rfl) ?_
        obtain rfl := some_inj hm
        exact thN ⟨_, rfl, Wk_J hL ⟨[(1, []), (3, [])], [(16, 16, [])], [], 48⟩ (by kernel_rfl)⟩
    · have hm := ie hc hm
      obtain rfl := some_inj hm
      obtain rfl := hb _ rfl
      refine Ok_exit ?_
      refine thE ?_
      refine thE ?_
      refine ibE ?_
      exact thN ⟨_, rfl, Wk_J hL ⟨[(1, [])], [(16, 16, [])], [], 48⟩ (by kernel_rfl)⟩
  rintro ⟨⟩ hu s hw
  have hm := hk1 _ hu
  refine thN ?_
  refine Ok_weak hw ?_
  obtain ⟨r3, h8, hm⟩ := obind hm
  obtain ⟨i, hv2, hk2⟩ := obind hm
  refine X_join (n := 50) (fun (i : Bool) => (⟨[(2, .dat (.sc (.bool i)))], [], 32⟩ : X)) i ?_ ?_
  · have hm := hv2
    rcases btf r3 with hb3 | hb3
    · have hm := it hb3 hm
      obtain ⟨r4, h9, hm⟩ := obind hm
      rcases btf r4 with hb4 | hb4
      · have hm := it hb4 hm
        obtain ⟨r5, h10, hm⟩ := obind hm
        obtain rfl := some_inj hm
        refine X_reg ty_ok Γok hL [(2, .n (p.Zones.length : Int)), (3, .c (s_l1In_r r3) (s_l1In_n r3) (s_l1In_o ((p.Zones.length : Int), 1, 9) r3)), (4, .b true), (7, .c (s_l1In_r r4) (s_l1In_n r4) (s_l1In_o (p.Day, 0, 10000) r4)), (9, .b true), (12, .c (s_l1In_r r5) (s_l1In_n r5) (s_l1In_o (p.Week, 0, 10000) r5))] (.cons (len_m Enc.e p.Zones) (.cons (s_l1In_c h8) (.cons hb3 (.cons (s_l1In_c h9) (.cons hb4 (.cons (s_l1In_c h10) .nil)))))) (by kernel_rfl) ?_
        exact thN (Wk_J hL ⟨[(2, [])], [], [], 32⟩ (by kernel_rfl))
      · have hm := ie hb4 hm
        obtain rfl := some_inj hm
        refine X_reg ty_ok Γok hL [(2, .n (p.Zones.length : Int)), (3, .c (s_l1In_r r3) (s_l1In_n r3) (s_l1In_o ((p.Zones.length : Int), 1, 9) r3)), (4, .b true), (7, .c (s_l1In_r r4) (s_l1In_n r4) (s_l1In_o (p.Day, 0, 10000) r4)), (9, .b false)] (.cons (len_m Enc.e p.Zones) (.cons (s_l1In_c h8) (.cons hb3 (.cons (s_l1In_c h9) (.cons hb4 .nil))))) (by kernel_rfl) ?_
        exact thN (Wk_J hL ⟨[(2, [])], [], [], 32⟩ (by kernel_rfl))
    · have hm := ie hb3 hm
      obtain rfl := some_inj hm
      refine X_reg ty_ok Γok hL [(2, .n (p.Zones.length : Int)), (3, .c (s_l1In_r r3) (s_l1In_n r3) (s_l1In_o ((p.Zones.length : Int), 1, 9) r3)), (4, .b false)] (.cons (len_m Enc.e p.Zones) (.cons (s_l1In_c h8) (.cons hb3 .nil))) (by kernel_rfl) ?_
      exact thN (Wk_J hL ⟨[(2, [])], [], [], 32⟩ (by kernel_rfl))
  have hm := hk2
  obtain rfl := some_inj hm
  refine Ok_ret ?_
  repeat (first | refine thR ?_ | refine ibR ?_)
  exact X_fin [] [] (by kernel_rfl) trivial
abbrev s_l4Time_r (y : Bool) : AV := .dat (Enc.e y)
abbrev s_l4Time_n (y : Bool) : List Obj' := []
abbrev s_l4Time_o (x : Int) (y : Bool) : List Obj' := []
noncomputable def s_l4Time_S : FnSpec := modS [none] (fun x : Int => [Enc.e x]) (fun x : Int => []) (fun x : Int => s_l4Time x) s_l4Time_r s_l4Time_n s_l4Time_o
theorem s_l4Time_c {t : Int} {y : Bool} (h : s_l4Time t = some y) : CallOK s_l4Time_S [Enc.e t] [] (s_l4Time_r y) (s_l4Time_n y) (s_l4Time_o t y) :=
  modS_call (by
    rintro a0 b0 h h2
    simp only [List.cons.injEq, and_true] at h
    try simp only [List.cons.injEq, and_true, Obj'.box.injEq, Obj'.arr.injEq, true_and, AV.dat.injEq] at h2
    have h0 := h
    have q0 := Enc.inj _ _ h0
    subst q0; rfl) (x := t) h
theorem s_l4Time_ok : FnOK Try.prog 110 s_l4Time_S := by
  have Γok : ∀ f S, lookF f [(56, s_l1In_S)] = some S → FnOK Try.prog f S := lookF_ok (allF_cons s_l1In_ok allF_nil)
  have Γlive : Live (fun f => lookF f [(56, s_l1In_S)]) := lookF_live (allL_cons modS_live allL_nil)
  refine fnOK_mod ty_ok (fun args w => Try.call110 args w) Try.func110 rfl [.tmp 2] (by rw [Try.results110]) 5 Try.ntmps110 16 rfl (fun _ => by first | exact Nat.zero_le _ | (simp)) (fun _ => rfl) ?_
  rintro t y cx hm hL
  have hm : s_l4Time t = some y := hm
  have hL : cx.L = 0 := hL
  unfold s_l4Time at hm
  refine X_reg_seq ty_ok Γok hL [] .nil (by kernel_rfl) ?_
  obtain ⟨r, h, hm⟩ := obind hm
  refine X_reg_seq ty_ok Γok hL [(1, .c (s_l1In_r r) (s_l1In_n r) (s_l1In_o (t, 0, 1799) r))] (.cons (s_l1In_c h) .nil) (by kernel_rfl) ?_
  obtain rfl := some_inj hm
  refine Ok_ret ?_
  repeat (first | refine thR ?_ | refine ibR ?_)
  exact X_fin [] [] (by kernel_rfl) trivial
abbrev s_l21Rides_r (y : Bool) : AV := .dat (Enc.e y)
abbrev s_l21Rides_n (y : Bool) : List Obj' := []
abbrev s_l21Rides_o (x : (List Ride)) (y : Bool) : List Obj' := []
noncomputable def s_l21Rides_S : FnSpec := modS [none] (fun x : (List Ride) => [Enc.e x]) (fun x : (List Ride) => []) (fun x : (List Ride) => s_l21Rides x) s_l21Rides_r s_l21Rides_n s_l21Rides_o
theorem s_l21Rides_c {list : List Ride} {y : Bool} (h : s_l21Rides list = some y) : CallOK s_l21Rides_S [Enc.e list] [] (s_l21Rides_r y) (s_l21Rides_n y) (s_l21Rides_o list y) :=
  modS_call (by
    rintro a0 b0 h h2
    simp only [List.cons.injEq, and_true] at h
    try simp only [List.cons.injEq, and_true, Obj'.box.injEq, Obj'.arr.injEq, true_and, AV.dat.injEq] at h2
    have h0 := h
    have q0 := Enc.inj _ _ h0
    subst q0; rfl) (x := list) h
theorem s_l21Rides_ok : FnOK Try.prog 68 s_l21Rides_S := by
  have Γok : ∀ f S, lookF f [(56, s_l1In_S), (110, s_l4Time_S)] = some S → FnOK Try.prog f S := lookF_ok (allF_cons s_l1In_ok (allF_cons s_l4Time_ok allF_nil))
  have Γlive : Live (fun f => lookF f [(56, s_l1In_S), (110, s_l4Time_S)]) := lookF_live (allL_cons modS_live (allL_cons modS_live allL_nil))
  refine fnOK_mod ty_ok (fun args w => Try.call68 args w) Try.func68 rfl [.tmp 2] (by rw [Try.results68]) 69 Try.ntmps68 16 rfl (fun _ => by first | exact Nat.zero_le _ | (simp)) (fun _ => rfl) ?_
  rintro list y cx hm hL
  have hm : s_l21Rides list = some y := hm
  have hL : cx.L = 0 := hL
  unfold s_l21Rides at hm
  refine X_reg_seq ty_ok Γok hL [] .nil (by kernel_rfl) ?_
  refine Ok_seq ?_
  refine X_reg_seq ty_ok Γok hL [] .nil (by kernel_rfl) ?_
  obtain ⟨v2, hv2, hr, hk2⟩ := flb_t hm
  refine X_tailF (n := 69) (fun (_ : Unit) => (⟨[(0, .dat (Enc.e list))], [], 32⟩ : X)) v2 ?_ ?_
  · have hm := hv2
    refine Ok_block ?_
    refine X_loop (n := 69) (step := s_l21Rides_L1 list) (fun (x : Int) => (⟨[(0, .dat (Enc.e list)), (3, .dat (.sc (.int .i64 x)))], [], 32⟩ : X)) hm (Wk_J hL ⟨[(0, []), (3, [])], [], [], 32⟩ (by kernel_rfl)) ?_
    rintro x r0 hm hb
    rw [s_l21Rides_L1] at hm
    refine Ok_seq ?_
    refine X_reg_seq ty_ok Γok hL [(2, .n (list.length : Int))] (.cons (len_m Enc.e list) .nil) (by kernel_rfl) ?_
    refine X_cond (decide (x < (list.length : Int))) (by kernel_rfl) (fun hc => ?_) (fun hc => ?_)
    · have hm := it hc hm
      refine X_skip ?_
      refine thN ?_
      refine Ok_seq ?_
      refine Ok_block ?_
      obtain ⟨e, h, hm⟩ := obind hm
      refine X_reg_seq ty_ok Γok hL [(2, .d (Enc.e e))] (.cons (idx_m (f := Enc.e) h) .nil) (by kernel_rfl) ?_
      refine Ok_seq ?_
      obtain ⟨r, h1, hm⟩ := obind hm
      obtain ⟨v, hv, hk⟩ := obind hm
      refine X_join (n := 69) (fun (v : Bool) => (⟨[(0, .dat (Enc.e list)), (3, .dat (.sc (.int .i64 x))), (4, .ref 16 0), (30, .dat (.sc (.bool v)))], [(16, some (.box [.dat (.sc (.int .i64 e.Day)), .dat (.sc (.int .i64 e.Time)), .dat (.sc (.int .i64 e.Fare))]))], 48⟩ : X)) v ?_ ?_
      · have hm := hv
        rcases btf (!r) with hb1 | hb1
        · have hm := it hb1 hm
          obtain rfl := some_inj hm
          refine X_reg ty_ok Γok hL [(2, .c (s_l1In_r r) (s_l1In_n r) (s_l1In_o (e.Day, 0, 60) r)), (4, .b true)] (.cons (s_l1In_c h1) (.cons hb1 .nil)) (by kernel_rfl) ?_
          exact thN (Wk_J hL ⟨[(0, []), (3, []), (4, []), (30, [])], [(16, 160, [])], [], 48⟩ (by kernel_rfl))
        · have hm := ie hb1 hm
          obtain ⟨r1, h2, hm⟩ := obind hm
          rcases btf (!r1) with hb2 | hb2
          · have hm := it hb2 hm
            obtain rfl := some_inj hm
            refine X_reg ty_ok Γok hL [(2, .c (s_l1In_r r) (s_l1In_n r) (s_l1In_o (e.Day, 0, 60) r)), (4, .b false), (7, .c (s_l4Time_r r1) (s_l4Time_n r1) (s_l4Time_o e.Time r1)), (10, .b true)] (.cons (s_l1In_c h1) (.cons hb1 (.cons (s_l4Time_c h2) (.cons hb2 .nil)))) (by kernel_rfl) ?_
            exact thN (Wk_J hL ⟨[(0, []), (3, []), (4, []), (30, [])], [(16, 160, [])], [], 48⟩ (by kernel_rfl))
          · have hm := ie hb2 hm
            obtain ⟨r2, h3, hm⟩ := obind hm
            obtain rfl := some_inj hm
            refine X_reg ty_ok Γok hL [(2, .c (s_l1In_r r) (s_l1In_n r) (s_l1In_o (e.Day, 0, 60) r)), (4, .b false), (7, .c (s_l4Time_r r1) (s_l4Time_n r1) (s_l4Time_o e.Time r1)), (10, .b false), (13, .c (s_l1In_r r2) (s_l1In_n r2) (s_l1In_o (e.Fare, 0, 10000) r2))] (.cons (s_l1In_c h1) (.cons hb1 (.cons (s_l4Time_c h2) (.cons hb2 (.cons (s_l1In_c h3) .nil))))) (by kernel_rfl) ?_
            exact thN (Wk_J hL ⟨[(0, []), (3, []), (4, []), (30, [])], [(16, 160, [])], [], 48⟩ (by kernel_rfl))
      have hm := hk
      refine X_cond v (by kernel_rfl) (fun hc1 => ?_) (fun hc1 => ?_)
      · have hm := it hc1 hm
        refine X_reg_seq ty_ok Γok hL [] .nil (by kernel_rfl) ?_
        obtain rfl := some_inj hm
        obtain rfl := hb _ rfl
        have hm := congrArg some (hr _ rfl)
        obtain rfl := some_inj hm
        refine Ok_ret ?_
        repeat (first | refine thR ?_ | refine ibR ?_)
        exact X_fin [] [] (by kernel_rfl) trivial
      · have hm := ie hc1 hm
        refine X_skip ?_
        refine thN ?_
        obtain ⟨v1, hv1, hk1⟩ := obind hm
        refine X_join (n := 69) (fun (v1 : Bool) => (⟨[(0, .dat (Enc.e list)), (3, .dat (.sc (.int .i64 x))), (65, .dat (.sc (.bool v1)))], [], 32⟩ : X)) v1 ?_ ?_
        · have hm := hv1
          rcases btf (decide (0 < x)) with hb3 | hb3
          · have hm := it hb3 hm
            obtain ⟨e5, h7, hm⟩ := obind hm
            rcases btf (decide (e.Day < e5.Day)) with hb4 | hb4
            · have hm := it hb4 hm
              obtain rfl := some_inj hm
              refine X_draw mixed ty_ok Γok Γlive [] (by kernel_rfl) [(2, .b true), (6, .d (Enc.e e5)), (12, .b true)] (.cons hb3 (.cons (idx_m (f := Enc.e) h7) (.cons hb4 .nil))) (by kernel_rfl) ?_
              exact thN (Wk_J hL ⟨[(0, []), (3, []), (65, [])], [], [], 32⟩ (by kernel_rfl))
            · have hm := ie hb4 hm
              obtain ⟨e6, h8, hm⟩ := obind hm
              rcases btf (e6.Day == e.Day) with hb5 | hb5
              · have hm := it hb5 hm
                obtain ⟨e7, h9, hm⟩ := obind hm
                obtain rfl := some_inj hm
                refine X_draw mixed ty_ok Γok Γlive [] (by kernel_rfl) [(2, .b true), (6, .d (Enc.e e5)), (12, .b false), (16, .d (Enc.e e6)), (22, .b true), (26, .d (Enc.e e7))] (.cons hb3 (.cons (idx_m (f := Enc.e) h7) (.cons hb4 (.cons (idx_m (f := Enc.e) h8) (.cons hb5 (.cons (idx_m (f := Enc.e) h9) .nil)))))) (by kernel_rfl) ?_
                exact thN (Wk_J hL ⟨[(0, []), (3, []), (65, [])], [], [], 32⟩ (by kernel_rfl))
              · have hm := ie hb5 hm
                obtain rfl := some_inj hm
                refine X_draw mixed ty_ok Γok Γlive [] (by kernel_rfl) [(2, .b true), (6, .d (Enc.e e5)), (12, .b false), (16, .d (Enc.e e6)), (22, .b false)] (.cons hb3 (.cons (idx_m (f := Enc.e) h7) (.cons hb4 (.cons (idx_m (f := Enc.e) h8) (.cons hb5 .nil))))) (by kernel_rfl) ?_
                exact thN (Wk_J hL ⟨[(0, []), (3, []), (65, [])], [], [], 32⟩ (by kernel_rfl))
          · have hm := ie hb3 hm
            obtain rfl := some_inj hm
            refine X_draw mixed ty_ok Γok Γlive [] (by kernel_rfl) [(2, .b false)] (.cons hb3 .nil) (by kernel_rfl) ?_
            exact thN (Wk_J hL ⟨[(0, []), (3, []), (65, [])], [], [], 32⟩ (by kernel_rfl))
        have hm := hk1
        refine X_cond v1 (by kernel_rfl) (fun hc2 => ?_) (fun hc2 => ?_)
        · have hm := it hc2 hm
          refine X_reg_seq ty_ok Γok hL [] .nil (by kernel_rfl) ?_
          obtain rfl := some_inj hm
          obtain rfl := hb _ rfl
          have hm := congrArg some (hr _ rfl)
          obtain rfl := some_inj hm
          refine Ok_ret ?_
          repeat (first | refine thR ?_ | refine ibR ?_)
          exact X_fin [] [] (by kernel_rfl) trivial
        · have hm := ie hc2 hm
          refine X_skip ?_
          refine ibN ?_
          refine thN ?_
          refine X_reg ty_ok Γok hL [] .nil (by kernel_rfl) ?_
          obtain rfl := some_inj hm
          exact thN ⟨_, rfl, Wk_J hL ⟨[(0, []), (3, [])], [], [], 32⟩ (by kernel_rfl)⟩
    · have hm := ie hc hm
      obtain rfl := some_inj hm
      obtain rfl := hb _ rfl
      refine Ok_exit ?_
      refine thE ?_
      refine thE ?_
      refine ibE ?_
      exact thN ⟨_, rfl, Wk_J hL ⟨[(0, [])], [], [], 32⟩ (by kernel_rfl)⟩
  rintro ⟨⟩ hu s hw
  have hm := hk2 _ hu
  refine thN ?_
  refine Ok_weak hw ?_
  refine X_reg_seq ty_ok Γok hL [(1, .n (list.length : Int))] (.cons (len_m Enc.e list) .nil) (by kernel_rfl) ?_
  obtain rfl := some_inj hm
  refine Ok_ret ?_
  repeat (first | refine thR ?_ | refine ibR ?_)
  exact X_fin [] [] (by kernel_rfl) trivial
abbrev s_l21Days_r (y : (List Int) × (List Int)) : AV := .tup [.own 0, .own 1]
abbrev s_l21Days_n (y : (List Int) × (List Int)) : List Obj' := [.arr 3 1 (List.map Enc.e y.1), .arr 3 1 (List.map Enc.e y.2)]
abbrev s_l21Days_o (x : Prices × (List Ride)) (y : (List Int) × (List Int)) : List Obj' := []
noncomputable def s_l21Days_S : FnSpec := modS [none, none] (fun x : Prices × (List Ride) => [Enc.e x.1, Enc.e x.2]) (fun x : Prices × (List Ride) => []) (fun x : Prices × (List Ride) => s_l21Days x.1 x.2) s_l21Days_r s_l21Days_n s_l21Days_o
theorem s_l21Days_c {p : Prices} {list : List Ride} {y : (List Int) × (List Int)} (h : s_l21Days p list = some y) : CallOK s_l21Days_S [Enc.e p, Enc.e list] [] (s_l21Days_r y) (s_l21Days_n y) (s_l21Days_o (p, list) y) :=
  modS_call (by
    rintro ⟨a0, a1⟩ ⟨b0, b1⟩ h h2
    simp only [List.cons.injEq, and_true] at h
    try simp only [List.cons.injEq, and_true, Obj'.box.injEq, Obj'.arr.injEq, true_and, AV.dat.injEq] at h2
    obtain ⟨h0, h1⟩ := h
    have q0 := Enc.inj _ _ h0
    have q1 := Enc.inj _ _ h1
    subst q0; subst q1; rfl) (x := (p, list)) h
theorem s_l21Days_ok : FnOK Try.prog 69 s_l21Days_S := by
  have Γok : ∀ f S, lookF f [(70, s_l1Least_S)] = some S → FnOK Try.prog f S := lookF_ok (allF_cons s_l1Least_ok allF_nil)
  have Γlive : Live (fun f => lookF f [(70, s_l1Least_S)]) := lookF_live (allL_cons modS_live allL_nil)
  refine fnOK_mod ty_ok (fun args w => Try.call69 args w) Try.func69 rfl [.tmp 4, .tmp 5] (by rw [Try.results69]) 82 Try.ntmps69 16 rfl (fun _ => by first | exact Nat.zero_le _ | (simp)) (fun _ => rfl) ?_
  rintro ⟨p, list⟩ y cx hm hL
  have hm : s_l21Days p list = some y := hm
  have hL : cx.L = 0 := hL
  unfold s_l21Days at hm
  refine X_reg_seq ty_ok Γok hL [] .nil (by kernel_rfl) ?_
  refine X_reg_seq ty_ok Γok hL [] .nil (by kernel_rfl) ?_
  refine Ok_seq ?_
  refine X_reg_seq ty_ok Γok hL [] .nil (by kernel_rfl) ?_
  obtain ⟨vv1, hv2, hk2⟩ := obind hm
  refine X_tail (n := 82) (fun ((i3, n2) : (List Int) × (List Int)) => (⟨[(2, .ref 16 0), (6, .own 32), (7, .own 48)], [(16, some (.box [.dat (Enc.e p.Zones), .dat (.sc (.int .i64 p.Day)), .dat (.sc (.int .i64 p.Week))])), (32, some (.arr 3 1 (List.map Enc.e i3))), (48, some (.arr 3 1 (List.map Enc.e n2)))], 80⟩ : X)) vv1 ?_ ?_
  · have hm := hv2
    refine Ok_block ?_
    refine X_loop (n := 82) (step := s_l21Days_L1 list) (fun ((i, i1, n) : Int × (List Int) × (List Int)) => (⟨[(1, .dat (Enc.e list)), (2, .ref 16 0), (6, .own 32), (7, .own 48), (8, .dat (.sc (.int .i64 i)))], [(16, some (.box [.dat (Enc.e p.Zones), .dat (.sc (.int .i64 p.Day)), .dat (.sc (.int .i64 p.Week))])), (32, some (.arr 3 1 (List.map Enc.e i1))), (48, some (.arr 3 1 (List.map Enc.e n)))], 80⟩ : X)) hm (Wk_J hL ⟨[(1, []), (2, []), (6, []), (7, []), (8, [])], [(16, 16, []), (32, 64, []), (48, 80, [])], [], 80⟩ (by kernel_rfl)) ?_
    rintro ⟨i, i1, n⟩ r0 hm hb
    rw [s_l21Days_L1] at hm
    refine Ok_seq ?_
    refine X_reg_seq ty_ok Γok hL [(2, .n (list.length : Int))] (.cons (len_m Enc.e list) .nil) (by kernel_rfl) ?_
    refine X_cond (decide (i < (list.length : Int))) (by kernel_rfl) (fun hc => ?_) (fun hc => ?_)
    · have hm := it hc hm
      refine X_skip ?_
      refine thN ?_
      refine Ok_seq ?_
      refine Ok_block ?_
      refine X_reg_seq ty_ok Γok hL [(1, .n (i1.length : Int))] (.cons (len_m Enc.e i1) .nil) (by kernel_rfl) ?_
      obtain ⟨vv, hv, hk⟩ := obind hm
      refine X_join (n := 82) (fun ((v, i2, n1) : Int × (List Int) × (List Int)) => (⟨[(1, .dat (Enc.e list)), (2, .ref 16 0), (6, .own 32), (7, .own 48), (8, .dat (.sc (.int .i64 i))), (9, .dat (.sc (.int .i64 v)))], [(16, some (.box [.dat (Enc.e p.Zones), .dat (.sc (.int .i64 p.Day)), .dat (.sc (.int .i64 p.Week))])), (32, some (.arr 3 1 (List.map Enc.e i2))), (48, some (.arr 3 1 (List.map Enc.e n1)))], 80⟩ : X)) vv ?_ ?_
      · have hm := hv
        obtain ⟨v1, hv1, hk1⟩ := obind hm
        refine X_join (n := 82) (fun (v1 : Bool) => (⟨[(1, .dat (Enc.e list)), (2, .ref 16 0), (6, .own 32), (7, .own 48), (8, .dat (.sc (.int .i64 i))), (9, .dat (.sc (.int .i64 (i1.length : Int)))), (35, .dat (.sc (.bool v1)))], [(16, some (.box [.dat (Enc.e p.Zones), .dat (.sc (.int .i64 p.Day)), .dat (.sc (.int .i64 p.Week))])), (32, some (.arr 3 1 (List.map Enc.e i1))), (48, some (.arr 3 1 (List.map Enc.e n)))], 80⟩ : X)) v1 ?_ ?_
        · have hm := hv1
          rcases btf ((i1.length : Int) == 0) with hb1 | hb1
          · have hm := it hb1 hm
            obtain rfl := some_inj hm
            refine X_draw mixed ty_ok Γok Γlive [] (by kernel_rfl) [(2, .b true)] (.cons hb1 .nil) (by kernel_rfl) ?_
            exact thN (Wk_J hL ⟨[(1, []), (2, []), (6, []), (7, []), (8, []), (9, []), (35, [])], [(16, 16, []), (32, 32, []), (48, 48, [])], [], 80⟩ (by kernel_rfl))
          · have hm := ie hb1 hm
            obtain ⟨e2, h2, hm⟩ := obind hm
            obtain ⟨e3, h3, hm⟩ := obind hm
            obtain rfl := some_inj hm
            refine X_draw mixed ty_ok Γok Γlive [] (by kernel_rfl) [(2, .b false), (6, .d (Enc.e e2)), (7, .d (Enc.e e2)), (10, .d (Enc.e e3))] (.cons hb1 (.cons (idx_m (f := Enc.e) h2) (.cons (idx_m2 (f := Enc.e) h2) (.cons (idx_m (f := Enc.e) h3) .nil)))) (by kernel_rfl) ?_
            exact thN (Wk_J hL ⟨[(1, []), (2, []), (6, []), (7, []), (8, []), (9, []), (35, [])], [(16, 16, []), (32, 32, []), (48, 48, [])], [], 80⟩ (by kernel_rfl))
        have hm := hk1
        refine X_cond v1 (by kernel_rfl) (fun hc1 => ?_) (fun hc1 => ?_)
        · have hm := it hc1 hm
          obtain ⟨e4, h4, hm⟩ := obind hm
          obtain ⟨u, h5, hm⟩ := obind hm
          refine X_reg_seq ty_ok Γok hL [(3, .d (Enc.e e4)), (7, .l (List.map Enc.e (i1 ++ ([e4.Day] : List Int))))] (.cons (idx_m (f := Enc.e) h4) (.cons (app_p (f := Enc.e) (g := Enc.e) (l := i1) (r := ([e4.Day] : List Int)) (b := 8) (chk_t h5) rfl) (.cons (app_m Enc.e i1 ([e4.Day] : List Int)) .nil))) (by kernel_rfl) ?_
          obtain ⟨u1, h6, hm⟩ := obind hm
          refine X_reg_seq ty_ok Γok hL [(2, .l (List.map Enc.e (n ++ ([0] : List Int))))] (.cons (app_p (f := Enc.e) (g := Enc.e) (l := n) (r := ([0] : List Int)) (b := 8) (chk_t h6) rfl) (.cons (app_m Enc.e n ([0] : List Int)) .nil)) (by kernel_rfl) ?_
          refine X_reg ty_ok Γok hL [] .nil (by kernel_rfl) ?_
          obtain rfl := some_inj hm
          exact thN (Wk_J hL ⟨[(1, []), (2, []), (6, []), (7, []), (8, []), (9, [])], [(16, 16, []), (32, 192, []), (48, 256, [])], [], 80⟩ (by kernel_rfl))
        · have hm := ie hc1 hm
          refine X_skip ?_
          obtain rfl := some_inj hm
          exact thN (Wk_J hL ⟨[(1, []), (2, []), (6, []), (7, []), (8, []), (9, [])], [(16, 16, []), (32, 32, []), (48, 48, [])], [], 80⟩ (by kernel_rfl))
      obtain ⟨v, i2, n1⟩ := vv
      have hm := hk
      obtain ⟨e8, h10, hm⟩ := obind hm
      obtain ⟨e9, h11, hm⟩ := obind hm
      obtain ⟨e10, h12, hm⟩ := obind hm
      refine X_draw mixed ty_ok Γok Γlive [(15, [48])] (by kernel_rfl) [(6, .d (Enc.e e8)), (7, .d (Enc.e e8)), (10, .d (Enc.e e9)), (14, .d (Enc.e e10)), (15, .sd (Enc.e e10) (List.map Enc.e (n1.set (w64 (v - 1)).toNat (w64 (e8 + e9.Fare)))))] (.cons (idx_m (f := Enc.e) h10) (.cons (idx_m2 (f := Enc.e) h10) (.cons (idx_m (f := Enc.e) h11) (.cons (idx_m (f := Enc.e) h12) (.cons (idx_m2 (f := Enc.e) h12) (.cons (set_m Enc.e n1 (w64 (v - 1)).toNat (w64 (e8 + e9.Fare))) .nil)))))) (by kernel_rfl) ?_
      refine ibN ?_
      refine thN ?_
      refine X_reg ty_ok Γok hL [] .nil (by kernel_rfl) ?_
      obtain rfl := some_inj hm
      exact thN ⟨_, rfl, Wk_J hL ⟨[(1, []), (2, []), (6, []), (7, []), (8, [])], [(16, 16, []), (32, 32, []), (48, 48, [])], [], 80⟩ (by kernel_rfl)⟩
    · have hm := ie hc hm
      obtain rfl := some_inj hm
      obtain rfl := hb _ rfl
      refine Ok_exit ?_
      refine thE ?_
      refine thE ?_
      refine ibE ?_
      exact thN (Wk_J hL ⟨[(2, []), (6, []), (7, [])], [(16, 16, []), (32, 32, []), (48, 48, [])], [], 80⟩ (by kernel_rfl))
  obtain ⟨i3, n2⟩ := vv1
  intro s hw
  have hm := hk2
  refine thN ?_
  refine Ok_weak hw ?_
  refine Ok_seq ?_
  refine X_reg_seq ty_ok Γok hL [] .nil (by kernel_rfl) ?_
  obtain ⟨n4, hv3, hk3⟩ := obind hm
  refine X_tail (n := 82) (fun (n4 : List Int) => (⟨[(6, .own 16), (7, .own 32)], [(16, some (.arr 3 1 (List.map Enc.e i3))), (32, some (.arr 3 1 (List.map Enc.e n4)))], 64⟩ : X)) n4 ?_ ?_
  · have hm := hv3
    refine Ok_block ?_
    refine X_loop (n := 82) (step := s_l21Days_L2 p) (fun ((v2, n3) : Int × (List Int)) => (⟨[(2, .ref 16 0), (6, .own 32), (7, .own 48), (10, .dat (.sc (.int .i64 v2)))], [(16, some (.box [.dat (Enc.e p.Zones), .dat (.sc (.int .i64 p.Day)), .dat (.sc (.int .i64 p.Week))])), (32, some (.arr 3 1 (List.map Enc.e i3))), (48, some (.arr 3 1 (List.map Enc.e n3)))], 80⟩ : X)) hm (Wk_J hL ⟨[(2, []), (6, []), (7, []), (10, [])], [(16, 16, []), (32, 32, []), (48, 48, [])], [], 80⟩ (by kernel_rfl)) ?_
    rintro ⟨v2, n3⟩ r0 hm hb2
    rw [s_l21Days_L2] at hm
    refine Ok_seq ?_
    refine X_reg_seq ty_ok Γok hL [(2, .n (n3.length : Int))] (.cons (len_m Enc.e n3) .nil) (by kernel_rfl) ?_
    refine X_cond (decide (v2 < (n3.length : Int))) (by kernel_rfl) (fun hc2 => ?_) (fun hc2 => ?_)
    · have hm := it hc2 hm
      refine X_skip ?_
      refine thN ?_
      refine Ok_seq ?_
      refine Ok_block ?_
      obtain ⟨e13, h16, hm⟩ := obind hm
      obtain ⟨r1, h17, hm⟩ := obind hm
      obtain ⟨e14, h18, hm⟩ := obind hm
      refine X_draw mixed ty_ok Γok Γlive [(10, [48])] (by kernel_rfl) [(4, .d (Enc.e e13)), (5, .d (Enc.e e13)), (8, .c (s_l1Least_r r1) (s_l1Least_n r1) (s_l1Least_o (e13, p.Day) r1)), (9, .d (Enc.e e14)), (10, .sd (Enc.e e14) (List.map Enc.e (n3.set v2.toNat r1)))] (.cons (idx_m (f := Enc.e) h16) (.cons (idx_m2 (f := Enc.e) h16) (.cons (s_l1Least_c h17) (.cons (idx_m (f := Enc.e) h18) (.cons (idx_m2 (f := Enc.e) h18) (.cons (set_m Enc.e n3 v2.toNat r1) .nil)))))) (by kernel_rfl) ?_
      refine ibN ?_
      refine thN ?_
      refine X_reg ty_ok Γok hL [] .nil (by kernel_rfl) ?_
      obtain rfl := some_inj hm
      exact thN ⟨_, rfl, Wk_J hL ⟨[(2, []), (6, []), (7, []), (10, [])], [(16, 16, []), (32, 32, []), (48, 48, [])], [], 80⟩ (by kernel_rfl)⟩
    · have hm := ie hc2 hm
      obtain rfl := some_inj hm
      obtain rfl := hb2 _ rfl
      refine Ok_exit ?_
      refine thE ?_
      refine thE ?_
      refine ibE ?_
      exact thN (Wk_J hL ⟨[(6, []), (7, [])], [(16, 32, []), (32, 48, [])], [], 64⟩ (by kernel_rfl))
  intro s1 hw1
  have hm := hk3
  refine thN ?_
  refine Ok_weak hw1 ?_
  refine X_reg_seq ty_ok Γok hL [] .nil (by kernel_rfl) ?_
  obtain rfl := some_inj hm
  refine Ok_ret ?_
  repeat (first | refine thR ?_ | refine ibR ?_)
  exact X_fin [16, 32] [] (by kernel_rfl) trivial
abbrev s_l21Next_r (y : Int) : AV := .dat (Enc.e y)
abbrev s_l21Next_n (y : Int) : List Obj' := []
abbrev s_l21Next_o (x : (List Int) × Int) (y : Int) : List Obj' := []
noncomputable def s_l21Next_S : FnSpec := modS [none, none] (fun x : (List Int) × Int => [Enc.e x.1, Enc.e x.2]) (fun x : (List Int) × Int => []) (fun x : (List Int) × Int => s_l21Next x.1 x.2) s_l21Next_r s_l21Next_n s_l21Next_o
theorem s_l21Next_c {days : List Int} {i : Int} {y : Int} (h : s_l21Next days i = some y) : CallOK s_l21Next_S [Enc.e days, Enc.e i] [] (s_l21Next_r y) (s_l21Next_n y) (s_l21Next_o (days, i) y) :=
  modS_call (by
    rintro ⟨a0, a1⟩ ⟨b0, b1⟩ h h2
    simp only [List.cons.injEq, and_true] at h
    try simp only [List.cons.injEq, and_true, Obj'.box.injEq, Obj'.arr.injEq, true_and, AV.dat.injEq] at h2
    obtain ⟨h0, h1⟩ := h
    have q0 := Enc.inj _ _ h0
    have q1 := Enc.inj _ _ h1
    subst q0; subst q1; rfl) (x := (days, i)) h
theorem s_l21Next_ok : FnOK Try.prog 71 s_l21Next_S := by
  have Γok : ∀ f S, lookF f [] = some S → FnOK Try.prog f S := lookF_ok allF_nil
  have Γlive : Live (fun f => lookF f []) := lookF_live allL_nil
  refine fnOK_mod ty_ok (fun args w => Try.call71 args w) Try.func71 rfl [.tmp 4] (by rw [Try.results71]) 26 Try.ntmps71 16 rfl (fun _ => by first | exact Nat.zero_le _ | (simp)) (fun _ => rfl) ?_
  rintro ⟨days, i⟩ y cx hm hL
  have hm : s_l21Next days i = some y := hm
  have hL : cx.L = 0 := hL
  unfold s_l21Next at hm
  refine X_reg_seq ty_ok Γok hL [] .nil (by kernel_rfl) ?_
  refine X_reg_seq ty_ok Γok hL [] .nil (by kernel_rfl) ?_
  obtain ⟨v2, hv1, hk1⟩ := obind hm
  refine X_join (n := 26) (fun (v2 : Int) => (⟨[(5, .dat (.sc (.int .i64 v2)))], [], 32⟩ : X)) v2 ?_ ?_
  · have hm := hv1
    refine Ok_block ?_
    refine X_loop (n := 26) (step := s_l21Next_L1 days i) (fun (v : Int) => (⟨[(0, .dat (Enc.e days)), (1, .dat (.sc (.int .i64 i))), (5, .dat (.sc (.int .i64 v)))], [], 32⟩ : X)) hm (Wk_J hL ⟨[(0, []), (1, []), (5, [])], [], [], 32⟩ (by kernel_rfl)) ?_
    rintro v r0 hm hb
    rw [s_l21Next_L1] at hm
    refine Ok_seq ?_
    obtain ⟨v1, hv, hk⟩ := obind hm
    refine X_join (n := 26) (fun (v1 : Bool) => (⟨[(0, .dat (Enc.e days)), (1, .dat (.sc (.int .i64 i))), (5, .dat (.sc (.int .i64 v))), (22, .dat (.sc (.bool v1)))], [], 32⟩ : X)) v1 ?_ ?_
    · have hm := hv
      rcases btf (decide (v < (days.length : Int))) with hb1 | hb1
      · have hm := it hb1 hm
        obtain ⟨e2, h2, hm⟩ := obind hm
        obtain ⟨e3, h3, hm⟩ := obind hm
        obtain rfl := some_inj hm
        refine X_draw mixed ty_ok Γok Γlive [] (by kernel_rfl) [(2, .n (days.length : Int)), (4, .b true), (7, .d (Enc.e e2)), (11, .d (Enc.e e3))] (.cons (len_m Enc.e days) (.cons hb1 (.cons (idx_m (f := Enc.e) h2) (.cons (idx_m (f := Enc.e) h3) .nil)))) (by kernel_rfl) ?_
        exact thN (Wk_J hL ⟨[(0, []), (1, []), (5, []), (22, [])], [], [], 32⟩ (by kernel_rfl))
      · have hm := ie hb1 hm
        obtain rfl := some_inj hm
        refine X_draw mixed ty_ok Γok Γlive [] (by kernel_rfl) [(2, .n (days.length : Int)), (4, .b false)] (.cons (len_m Enc.e days) (.cons hb1 .nil)) (by kernel_rfl) ?_
        exact thN (Wk_J hL ⟨[(0, []), (1, []), (5, []), (22, [])], [], [], 32⟩ (by kernel_rfl))
    have hm := hk
    refine X_cond v1 (by kernel_rfl) (fun hc => ?_) (fun hc => ?_)
    · have hm := it hc hm
      refine X_skip ?_
      refine thN ?_
      refine Ok_block ?_
      refine X_reg ty_ok Γok hL [] .nil (by kernel_rfl) ?_
      refine ibN ?_
      obtain rfl := some_inj hm
      exact thN ⟨_, rfl, Wk_J hL ⟨[(0, []), (1, []), (5, [])], [], [], 32⟩ (by kernel_rfl)⟩
    · have hm := ie hc hm
      obtain rfl := some_inj hm
      obtain rfl := hb _ rfl
      refine Ok_exit ?_
      refine thE ?_
      refine thE ?_
      refine ibE ?_
      exact thN (Wk_J hL ⟨[(5, [])], [], [], 32⟩ (by kernel_rfl))
  have hm := hk1
  refine X_reg_seq ty_ok Γok hL [] .nil (by kernel_rfl) ?_
  obtain rfl := some_inj hm
  refine Ok_ret ?_
  repeat (first | refine thR ?_ | refine ibR ?_)
  exact X_fin [] [] (by kernel_rfl) trivial
abbrev s_l21Plain_r (y : Bool) : AV := .dat (Enc.e y)
abbrev s_l21Plain_n (y : Bool) : List Obj' := []
abbrev s_l21Plain_o (x : (List Int) × (List Int) × Int) (y : Bool) : List Obj' := []
noncomputable def s_l21Plain_S : FnSpec := modS [none, none, none] (fun x : (List Int) × (List Int) × Int => [Enc.e x.1, Enc.e x.2.1, Enc.e x.2.2]) (fun x : (List Int) × (List Int) × Int => []) (fun x : (List Int) × (List Int) × Int => s_l21Plain x.1 x.2.1 x.2.2) s_l21Plain_r s_l21Plain_n s_l21Plain_o
theorem s_l21Plain_c {sums : List Int} {least : List Int} {i : Int} {y : Bool} (h : s_l21Plain sums least i = some y) : CallOK s_l21Plain_S [Enc.e sums, Enc.e least, Enc.e i] [] (s_l21Plain_r y) (s_l21Plain_n y) (s_l21Plain_o (sums, least, i) y) :=
  modS_call (by
    rintro ⟨a0, a1, a2⟩ ⟨b0, b1, b2⟩ h h2
    simp only [List.cons.injEq, and_true] at h
    try simp only [List.cons.injEq, and_true, Obj'.box.injEq, Obj'.arr.injEq, true_and, AV.dat.injEq] at h2
    obtain ⟨h0, h1, h2⟩ := h
    have q0 := Enc.inj _ _ h0
    have q1 := Enc.inj _ _ h1
    have q2 := Enc.inj _ _ h2
    subst q0; subst q1; subst q2; rfl) (x := (sums, least, i)) h
theorem s_l21Plain_ok : FnOK Try.prog 72 s_l21Plain_S := by
  have Γok : ∀ f S, lookF f [] = some S → FnOK Try.prog f S := lookF_ok allF_nil
  have Γlive : Live (fun f => lookF f []) := lookF_live allL_nil
  refine fnOK_mod ty_ok (fun args w => Try.call72 args w) Try.func72 rfl [.tmp 6] (by rw [Try.results72]) 28 Try.ntmps72 16 rfl (fun _ => by first | exact Nat.zero_le _ | (simp)) (fun _ => rfl) ?_
  rintro ⟨sums, least, i⟩ y cx hm hL
  have hm : s_l21Plain sums least i = some y := hm
  have hL : cx.L = 0 := hL
  unfold s_l21Plain at hm
  refine X_reg_seq ty_ok Γok hL [] .nil (by kernel_rfl) ?_
  refine X_reg_seq ty_ok Γok hL [] .nil (by kernel_rfl) ?_
  refine Ok_seq ?_
  refine X_reg_seq ty_ok Γok hL [] .nil (by kernel_rfl) ?_
  obtain ⟨v2, hv, hk⟩ := obind hm
  refine X_tail (n := 28) (fun (v2 : Int) => (⟨[(1, .dat (Enc.e least)), (2, .dat (.sc (.int .i64 i))), (7, .dat (.sc (.int .i64 v2)))], [], 32⟩ : X)) v2 ?_ ?_
  · have hm := hv
    refine Ok_block ?_
    refine X_loop (n := 28) (step := s_l21Plain_L1 sums) (fun ((v, v1) : Int × Int) => (⟨[(0, .dat (Enc.e sums)), (1, .dat (Enc.e least)), (2, .dat (.sc (.int .i64 i))), (7, .dat (.sc (.int .i64 v))), (8, .dat (.sc (.int .i64 v1)))], [], 32⟩ : X)) hm (Wk_J hL ⟨[(0, []), (1, []), (2, []), (7, []), (8, [])], [], [], 32⟩ (by kernel_rfl)) ?_
    rintro ⟨v, v1⟩ r0 hm hb
    rw [s_l21Plain_L1] at hm
    refine Ok_seq ?_
    refine X_reg_seq ty_ok Γok hL [(2, .n (sums.length : Int))] (.cons (len_m Enc.e sums) .nil) (by kernel_rfl) ?_
    refine X_cond (decide (v1 < (sums.length : Int))) (by kernel_rfl) (fun hc => ?_) (fun hc => ?_)
    · have hm := it hc hm
      refine X_skip ?_
      refine thN ?_
      refine Ok_seq ?_
      refine Ok_block ?_
      obtain ⟨e, h, hm⟩ := obind hm
      refine X_reg ty_ok Γok hL [(3, .d (Enc.e e))] (.cons (idx_m (f := Enc.e) h) .nil) (by kernel_rfl) ?_
      refine ibN ?_
      refine thN ?_
      refine X_reg ty_ok Γok hL [] .nil (by kernel_rfl) ?_
      obtain rfl := some_inj hm
      exact thN ⟨_, rfl, Wk_J hL ⟨[(0, []), (1, []), (2, []), (7, []), (8, [])], [], [], 32⟩ (by kernel_rfl)⟩
    · have hm := ie hc hm
      obtain rfl := some_inj hm
      obtain rfl := hb _ rfl
      refine Ok_exit ?_
      refine thE ?_
      refine thE ?_
      refine ibE ?_
      exact thN (Wk_J hL ⟨[(1, []), (2, []), (7, [])], [], [], 32⟩ (by kernel_rfl))
  intro s hw
  have hm := hk
  refine thN ?_
  refine Ok_weak hw ?_
  obtain ⟨e1, h1, hm⟩ := obind hm
  refine X_reg_seq ty_ok Γok hL [(3, .d (Enc.e e1))] (.cons (idx_m (f := Enc.e) h1) .nil) (by kernel_rfl) ?_
  obtain rfl := some_inj hm
  refine Ok_ret ?_
  repeat (first | refine thR ?_ | refine ibR ?_)
  exact X_fin [] [] (by kernel_rfl) trivial
abbrev s_CheapestTickets_r (y : Int × (List Int) × Bool) : AV := .tup [.dat (Enc.e y.1), .own 0, .dat (Enc.e y.2.2)]
abbrev s_CheapestTickets_n (y : Int × (List Int) × Bool) : List Obj' := [.arr 3 1 (List.map Enc.e y.2.1)]
abbrev s_CheapestTickets_o (x : Prices × (List Ride)) (y : Int × (List Int) × Bool) : List Obj' := []
noncomputable def s_CheapestTickets_S : FnSpec := modS [none, none] (fun x : Prices × (List Ride) => [Enc.e x.1, Enc.e x.2]) (fun x : Prices × (List Ride) => []) (fun x : Prices × (List Ride) => s_CheapestTickets x.1 x.2) s_CheapestTickets_r s_CheapestTickets_n s_CheapestTickets_o
theorem s_CheapestTickets_c {p : Prices} {list : List Ride} {y : Int × (List Int) × Bool} (h : s_CheapestTickets p list = some y) : CallOK s_CheapestTickets_S [Enc.e p, Enc.e list] [] (s_CheapestTickets_r y) (s_CheapestTickets_n y) (s_CheapestTickets_o (p, list) y) :=
  modS_call (by
    rintro ⟨a0, a1⟩ ⟨b0, b1⟩ h h2
    simp only [List.cons.injEq, and_true] at h
    try simp only [List.cons.injEq, and_true, Obj'.box.injEq, Obj'.arr.injEq, true_and, AV.dat.injEq] at h2
    obtain ⟨h0, h1⟩ := h
    have q0 := Enc.inj _ _ h0
    have q1 := Enc.inj _ _ h1
    subst q0; subst q1; rfl) (x := (p, list)) h
theorem s_CheapestTickets_ok : FnOK Try.prog 22 s_CheapestTickets_S := by
  have Γok : ∀ f S, lookF f [(67, s_l21Prices_S), (68, s_l21Rides_S), (69, s_l21Days_S), (71, s_l21Next_S), (70, s_l1Least_S), (72, s_l21Plain_S)] = some S → FnOK Try.prog f S := lookF_ok (allF_cons s_l21Prices_ok (allF_cons s_l21Rides_ok (allF_cons s_l21Days_ok (allF_cons s_l21Next_ok (allF_cons s_l1Least_ok (allF_cons s_l21Plain_ok allF_nil))))))
  have Γlive : Live (fun f => lookF f [(67, s_l21Prices_S), (68, s_l21Rides_S), (69, s_l21Days_S), (71, s_l21Next_S), (70, s_l1Least_S), (72, s_l21Plain_S)]) := lookF_live (allL_cons modS_live (allL_cons modS_live (allL_cons modS_live (allL_cons modS_live (allL_cons modS_live (allL_cons modS_live allL_nil))))))
  refine fnOK_mod ty_ok (fun args w => Try.call22 args w) Try.func22 rfl [.tmp 4, .tmp 5, .tmp 6] (by rw [Try.results22]) 101 Try.ntmps22 16 rfl (fun _ => by first | exact Nat.zero_le _ | (simp)) (fun _ => rfl) ?_
  rintro ⟨p, list⟩ y cx hm hL
  have hm : s_CheapestTickets p list = some y := hm
  have hL : cx.L = 0 := hL
  unfold s_CheapestTickets at hm
  refine X_reg_seq ty_ok Γok hL [] .nil (by kernel_rfl) ?_
  refine X_reg_seq ty_ok Γok hL [] .nil (by kernel_rfl) ?_
  refine Ok_seq ?_
  obtain ⟨r, h, hm⟩ := obind hm
  obtain ⟨v, hv, hk⟩ := obind hm
  refine X_join (n := 101) (fun (v : Bool) => (⟨[(1, .dat (Enc.e list)), (2, .ref 16 0), (7, .own 32), (22, .dat (.sc (.bool v)))], [(16, some (.box [.dat (Enc.e p.Zones), .dat (.sc (.int .i64 p.Day)), .dat (.sc (.int .i64 p.Week))])), (32, some (.arr 3 1 (List.map Enc.e ([] : List Int))))], 64⟩ : X)) v ?_ ?_
  · have hm := hv
    rcases btf (!r) with hb | hb
    · have hm := it hb hm
      obtain rfl := some_inj hm
      refine X_reg ty_ok Γok hL [(1, .c (s_l21Prices_r r) (s_l21Prices_n r) (s_l21Prices_o p r)), (3, .b true)] (.cons (s_l21Prices_c h) (.cons hb .nil)) (by kernel_rfl) ?_
      exact thN (Wk_J hL ⟨[(1, []), (2, []), (7, []), (22, [])], [(16, 16, []), (32, 80, [])], [], 64⟩ (by kernel_rfl))
    · have hm := ie hb hm
      obtain ⟨r1, h1, hm⟩ := obind hm
      obtain rfl := some_inj hm
      refine X_reg ty_ok Γok hL [(1, .c (s_l21Prices_r r) (s_l21Prices_n r) (s_l21Prices_o p r)), (3, .b false), (5, .c (s_l21Rides_r r1) (s_l21Rides_n r1) (s_l21Rides_o list r1))] (.cons (s_l21Prices_c h) (.cons hb (.cons (s_l21Rides_c h1) .nil))) (by kernel_rfl) ?_
      exact thN (Wk_J hL ⟨[(1, []), (2, []), (7, []), (22, [])], [(16, 16, []), (32, 80, [])], [], 64⟩ (by kernel_rfl))
  have hm := hk
  refine X_cond v (by kernel_rfl) (fun hc => ?_) (fun hc => ?_)
  · have hm := it hc hm
    refine X_reg_seq ty_ok Γok hL [] .nil (by kernel_rfl) ?_
    obtain rfl := some_inj hm
    refine Ok_ret ?_
    repeat (first | refine thR ?_ | refine ibR ?_)
    exact X_fin [32] [] (by kernel_rfl) trivial
  · have hm := ie hc hm
    refine X_skip ?_
    refine thN ?_
    obtain ⟨r2, h2, hm⟩ := obind hm
    refine X_reg_seq ty_ok Γok hL [(2, .c (s_l21Days_r r2) (s_l21Days_n r2) (s_l21Days_o (p, list) r2))] (.cons (s_l21Days_c h2) .nil) (by kernel_rfl) ?_
    refine X_reg_seq ty_ok Γok hL [(1, .n (r2.1.length : Int))] (.cons (len_m Enc.e r2.1) .nil) (by kernel_rfl) ?_
    obtain ⟨u, h3, hm⟩ := obind hm
    refine X_reg_seq ty_ok Γok hL [(2, .l (List.map Enc.e (List.replicate (w64 ((r2.1.length : Int) + 1)).toNat (0 : Int))))] (.cons (mk_p (b := 8) (chk_t h3) rfl) (.cons (rep_m Enc.e (w64 ((r2.1.length : Int) + 1)).toNat (0 : Int)) .nil)) (by kernel_rfl) ?_
    refine Ok_seq ?_
    refine X_reg_seq ty_ok Γok hL [] .nil (by kernel_rfl) ?_
    obtain ⟨i1, hv1, hk1⟩ := obind hm
    refine X_tail (n := 101) (fun (i1 : List Int) => (⟨[(2, .ref 16 0), (7, .own 32), (8, .own 48), (9, .own 64), (10, .dat (.sc (.int .i64 (r2.1.length : Int)))), (11, .own 80)], [(16, some (.box [.dat (Enc.e p.Zones), .dat (.sc (.int .i64 p.Day)), .dat (.sc (.int .i64 p.Week))])), (32, some (.arr 3 1 (List.map Enc.e ([] : List Int)))), (48, some (.arr 3 1 (List.map Enc.e r2.1))), (64, some (.arr 3 1 (List.map Enc.e r2.2))), (80, some (.arr 3 1 (List.map Enc.e i1)))], 112⟩ : X)) i1 ?_ ?_
    · have hm := hv1
      refine Ok_block ?_
      refine X_loop (n := 101) (step := s_CheapestTickets_L1 p r2) (fun ((v1, i) : Int × (List Int)) => (⟨[(2, .ref 16 0), (7, .own 32), (8, .own 48), (9, .own 64), (10, .dat (.sc (.int .i64 (r2.1.length : Int)))), (11, .own 80), (12, .dat (.sc (.int .i64 v1)))], [(16, some (.box [.dat (Enc.e p.Zones), .dat (.sc (.int .i64 p.Day)), .dat (.sc (.int .i64 p.Week))])), (32, some (.arr 3 1 (List.map Enc.e ([] : List Int)))), (48, some (.arr 3 1 (List.map Enc.e r2.1))), (64, some (.arr 3 1 (List.map Enc.e r2.2))), (80, some (.arr 3 1 (List.map Enc.e i)))], 112⟩ : X)) hm (Wk_J hL ⟨[(2, []), (7, []), (8, []), (9, []), (10, []), (11, []), (12, [])], [(16, 16, []), (32, 32, []), (48, 96, []), (64, 97, []), (80, 272, [])], [], 112⟩ (by kernel_rfl)) ?_
      rintro ⟨v1, i⟩ r0 hm hb1
      rw [s_CheapestTickets_L1] at hm
      refine Ok_seq ?_
      refine X_reg_seq ty_ok Γok hL [] .nil (by kernel_rfl) ?_
      refine X_cond (decide (0 ≤ v1)) (by kernel_rfl) (fun hc1 => ?_) (fun hc1 => ?_)
      · have hm := it hc1 hm
        refine X_skip ?_
        refine thN ?_
        refine Ok_seq ?_
        refine Ok_block ?_
        obtain ⟨e4, h10, hm⟩ := obind hm
        obtain ⟨e5, h11, hm⟩ := obind hm
        obtain ⟨r5, h12, hm⟩ := obind hm
        obtain ⟨e6, h13, hm⟩ := obind hm
        obtain ⟨r6, h14, hm⟩ := obind hm
        obtain ⟨e7, h15, hm⟩ := obind hm
        refine X_draw mixed ty_ok Γok Γlive [(23, [80])] (by kernel_rfl) [(4, .d (Enc.e e4)), (5, .d (Enc.e e4)), (9, .d (Enc.e e5)), (10, .d (Enc.e e5)), (17, .c (s_l21Next_r r5) (s_l21Next_n r5) (s_l21Next_o (r2.1, v1) r5)), (18, .d (Enc.e e6)), (19, .d (Enc.e e6)), (21, .c (s_l1Least_r r6) (s_l1Least_n r6) (s_l1Least_o ((w64 (e4 + e5)), (w64 (p.Week + e6))) r6)), (22, .d (Enc.e e7)), (23, .sd (Enc.e e7) (List.map Enc.e (i.set v1.toNat r6)))] (.cons (idx_m (f := Enc.e) h10) (.cons (idx_m2 (f := Enc.e) h10) (.cons (idx_m (f := Enc.e) h11) (.cons (idx_m2 (f := Enc.e) h11) (.cons (s_l21Next_c h12) (.cons (idx_m (f := Enc.e) h13) (.cons (idx_m2 (f := Enc.e) h13) (.cons (s_l1Least_c h14) (.cons (idx_m (f := Enc.e) h15) (.cons (idx_m2 (f := Enc.e) h15) (.cons (set_m Enc.e i v1.toNat r6) .nil))))))))))) (by kernel_rfl) ?_
        refine ibN ?_
        refine thN ?_
        refine X_reg ty_ok Γok hL [] .nil (by kernel_rfl) ?_
        obtain rfl := some_inj hm
        exact thN ⟨_, rfl, Wk_J hL ⟨[(2, []), (7, []), (8, []), (9, []), (10, []), (11, []), (12, [])], [(16, 16, []), (32, 32, []), (48, 48, []), (64, 64, []), (80, 80, [])], [], 112⟩ (by kernel_rfl)⟩
      · have hm := ie hc1 hm
        obtain rfl := some_inj hm
        obtain rfl := hb1 _ rfl
        refine Ok_exit ?_
        refine thE ?_
        refine thE ?_
        refine ibE ?_
        exact thN (Wk_J hL ⟨[(2, []), (7, []), (8, []), (9, []), (10, []), (11, [])], [(16, 16, []), (32, 32, []), (48, 48, []), (64, 64, []), (80, 80, [])], [], 112⟩ (by kernel_rfl))
    intro s hw
    have hm := hk1
    refine thN ?_
    refine Ok_weak hw ?_
    obtain ⟨sums, hv2, hk2⟩ := obind hm
    refine X_join (n := 101) (fun (sums : List Int) => (⟨[(7, .own 16), (11, .own 32)], [(16, some (.arr 3 1 (List.map Enc.e sums))), (32, some (.arr 3 1 (List.map Enc.e i1)))], 64⟩ : X)) sums ?_ ?_
    · have hm := hv2
      refine X_reg_seq ty_ok Γok hL [] .nil (by kernel_rfl) ?_
      obtain ⟨sums2, hv3, hk3⟩ := obind hm
      refine X_tail (n := 101) (fun (sums2 : List Int) => (⟨[(7, .own 16), (11, .own 32)], [(16, some (.arr 3 1 (List.map Enc.e sums2))), (32, some (.arr 3 1 (List.map Enc.e i1)))], 64⟩ : X)) sums2 ?_ ?_
      · have hm := hv3
        refine Ok_block ?_
        refine X_loop (n := 101) (step := s_CheapestTickets_L2 p r2 i1) (fun ((v2, sums1) : Int × (List Int)) => (⟨[(2, .ref 16 0), (7, .own 32), (8, .own 48), (9, .own 64), (10, .dat (.sc (.int .i64 (r2.1.length : Int)))), (11, .own 80), (13, .dat (.sc (.int .i64 v2)))], [(16, some (.box [.dat (Enc.e p.Zones), .dat (.sc (.int .i64 p.Day)), .dat (.sc (.int .i64 p.Week))])), (32, some (.arr 3 1 (List.map Enc.e sums1))), (48, some (.arr 3 1 (List.map Enc.e r2.1))), (64, some (.arr 3 1 (List.map Enc.e r2.2))), (80, some (.arr 3 1 (List.map Enc.e i1)))], 112⟩ : X)) hm (Wk_J hL ⟨[(2, []), (7, []), (8, []), (9, []), (10, []), (11, []), (13, [])], [(16, 16, []), (32, 32, []), (48, 48, []), (64, 64, []), (80, 80, [])], [], 112⟩ (by kernel_rfl)) ?_
        rintro ⟨v2, sums1⟩ r0 hm hb2
        rw [s_CheapestTickets_L2] at hm
        refine Ok_seq ?_
        refine X_reg_seq ty_ok Γok hL [] .nil (by kernel_rfl) ?_
        refine X_cond (decide (v2 < (r2.1.length : Int))) (by kernel_rfl) (fun hc2 => ?_) (fun hc2 => ?_)
        · have hm := it hc2 hm
          refine X_skip ?_
          refine thN ?_
          refine Ok_block ?_
          refine Ok_seq ?_
          obtain ⟨r7, h16, hm⟩ := obind hm
          refine X_reg_seq ty_ok Γok hL [(3, .c (s_l21Plain_r r7) (s_l21Plain_n r7) (s_l21Plain_o (r2.2, i1, v2) r7))] (.cons (s_l21Plain_c h16) .nil) (by kernel_rfl) ?_
          refine X_cond r7 (by kernel_rfl) (fun hc3 => ?_) (fun hc3 => ?_)
          · have hm := it hc3 hm
            obtain rfl := some_inj hm
            obtain rfl := hb2 _ rfl
            refine Ok_exit ?_
            refine thE ?_
            refine ibX rfl ?_
            refine thE ?_
            refine ibE ?_
            exact thN (Wk_J hL ⟨[(7, []), (11, [])], [(16, 32, []), (32, 80, [])], [], 64⟩ (by kernel_rfl))
          · have hm := ie hc3 hm
            refine X_skip ?_
            refine thN ?_
            obtain ⟨r9, h20, hm⟩ := obind hm
            obtain ⟨e10, h21, hm⟩ := obind hm
            obtain ⟨e11, h22, hm⟩ := obind hm
            refine X_draw_seq mixed ty_ok Γok Γlive [] (by kernel_rfl) [(5, .c (s_l21Next_r r9) (s_l21Next_n r9) (s_l21Next_o (r2.1, v2) r9)), (6, .d (Enc.e e10)), (7, .d (Enc.e e10)), (11, .d (Enc.e e11)), (12, .d (Enc.e e11))] (.cons (s_l21Next_c h20) (.cons (idx_m (f := Enc.e) h21) (.cons (idx_m2 (f := Enc.e) h21) (.cons (idx_m (f := Enc.e) h22) (.cons (idx_m2 (f := Enc.e) h22) .nil))))) (by kernel_rfl) ?_
            refine X_cond ((w64 (p.Week + e10)) == e11) (by kernel_rfl) (fun hc4 => ?_) (fun hc4 => ?_)
            · have hm := it hc4 hm
              obtain ⟨e12, h23, hm⟩ := obind hm
              obtain ⟨u1, h24, hm⟩ := obind hm
              refine X_reg_seq ty_ok Γok hL [(3, .d (Enc.e e12)), (4, .d (Enc.e e12)), (6, .l (List.map Enc.e (sums1 ++ ([e12] : List Int))))] (.cons (idx_m (f := Enc.e) h23) (.cons (idx_m2 (f := Enc.e) h23) (.cons (app_p (f := Enc.e) (g := Enc.e) (l := sums1) (r := ([e12] : List Int)) (b := 8) (chk_t h24) rfl) (.cons (app_m Enc.e sums1 ([e12] : List Int)) .nil)))) (by kernel_rfl) ?_
              obtain ⟨r10, h25, hm⟩ := obind hm
              refine X_reg ty_ok Γok hL [(2, .c (s_l21Next_r r10) (s_l21Next_n r10) (s_l21Next_o (r2.1, v2) r10))] (.cons (s_l21Next_c h25) .nil) (by kernel_rfl) ?_
              refine ibN ?_
              obtain rfl := some_inj hm
              exact thN ⟨_, rfl, Wk_J hL ⟨[(2, []), (7, []), (8, []), (9, []), (10, []), (11, []), (13, [])], [(16, 16, []), (32, 544, []), (48, 48, []), (64, 64, []), (80, 80, [])], [], 112⟩ (by kernel_rfl)⟩
            · have hm := ie hc4 hm
              refine X_reg ty_ok Γok hL [] .nil (by kernel_rfl) ?_
              refine ibN ?_
              obtain rfl := some_inj hm
              exact thN ⟨_, rfl, Wk_J hL ⟨[(2, []), (7, []), (8, []), (9, []), (10, []), (11, []), (13, [])], [(16, 16, []), (32, 32, []), (48, 48, []), (64, 64, []), (80, 80, [])], [], 112⟩ (by kernel_rfl)⟩
        · have hm := ie hc2 hm
          obtain rfl := some_inj hm
          obtain rfl := hb2 _ rfl
          refine Ok_exit ?_
          refine thE ?_
          refine thE ?_
          refine ibE ?_
          exact thN (Wk_J hL ⟨[(7, []), (11, [])], [(16, 32, []), (32, 80, [])], [], 64⟩ (by kernel_rfl))
      intro s1 hw1
      have hm := hk3
      obtain rfl := some_inj hm
      exact thN (Wk.trans hw1 (Wk_J hL ⟨[(7, []), (11, [])], [(16, 16, []), (32, 32, [])], [], 64⟩ (by kernel_rfl)))
    have hm := hk2
    obtain ⟨e13, h26, hm⟩ := obind hm
    refine X_reg_seq ty_ok Γok hL [(1, .d (Enc.e e13)), (2, .d (Enc.e e13))] (.cons (idx_m (f := Enc.e) h26) (.cons (idx_m2 (f := Enc.e) h26) .nil)) (by kernel_rfl) ?_
    obtain rfl := some_inj hm
    refine Ok_ret ?_
    repeat (first | refine thR ?_ | refine ibR ?_)
    exact X_fin [16] [] (by kernel_rfl) trivial
abbrev v_rInts_r (y : Bool) : AV := .dat (Enc.e y)
abbrev v_rInts_n (y : Bool) : List Obj' := []
abbrev v_rInts_o (x : (List Int) × (List Int)) (y : Bool) : List Obj' := []
noncomputable def v_rInts_S : FnSpec := modS [none, none] (fun x : (List Int) × (List Int) => [Enc.e x.1, Enc.e x.2]) (fun x : (List Int) × (List Int) => []) (fun x : (List Int) × (List Int) => v_rInts x.1 x.2) v_rInts_r v_rInts_n v_rInts_o
theorem v_rInts_c {a : List Int} {b : List Int} {y : Bool} (h : v_rInts a b = some y) : CallOK v_rInts_S [Enc.e a, Enc.e b] [] (v_rInts_r y) (v_rInts_n y) (v_rInts_o (a, b) y) :=
  modS_call (by
    rintro ⟨a0, a1⟩ ⟨b0, b1⟩ h h2
    simp only [List.cons.injEq, and_true] at h
    try simp only [List.cons.injEq, and_true, Obj'.box.injEq, Obj'.arr.injEq, true_and, AV.dat.injEq] at h2
    obtain ⟨h0, h1⟩ := h
    have q0 := Enc.inj _ _ h0
    have q1 := Enc.inj _ _ h1
    subst q0; subst q1; rfl) (x := (a, b)) h
theorem v_rInts_ok : FnOK Try.prog 19 v_rInts_S := by
  have Γok : ∀ f S, lookF f [] = some S → FnOK Try.prog f S := lookF_ok allF_nil
  have Γlive : Live (fun f => lookF f []) := lookF_live allL_nil
  refine fnOK_mod ty_ok (fun args w => Try.call19 args w) Try.func19 rfl [.tmp 4] (by rw [Try.results19]) 26 Try.ntmps19 16 rfl (fun _ => by first | exact Nat.zero_le _ | (simp)) (fun _ => rfl) ?_
  rintro ⟨a, b⟩ y cx hm hL
  have hm : v_rInts a b = some y := hm
  have hL : cx.L = 0 := hL
  unfold v_rInts at hm
  refine X_reg_seq ty_ok Γok hL [] .nil (by kernel_rfl) ?_
  refine Ok_seq ?_
  refine X_reg_seq ty_ok Γok hL [(1, .n (a.length : Int)), (3, .n (b.length : Int))] (.cons (len_m Enc.e a) (.cons (len_m Enc.e b) .nil)) (by kernel_rfl) ?_
  refine X_cond ((a.length : Int) != (b.length : Int)) (by kernel_rfl) (fun hc => ?_) (fun hc => ?_)
  · have hm := it hc hm
    refine X_reg_seq ty_ok Γok hL [] .nil (by kernel_rfl) ?_
    obtain rfl := some_inj hm
    refine Ok_ret ?_
    repeat (first | refine thR ?_ | refine ibR ?_)
    exact X_fin [] [] (by kernel_rfl) trivial
  · have hm := ie hc hm
    refine X_skip ?_
    refine thN ?_
    refine Ok_seq ?_
    refine X_reg_seq ty_ok Γok hL [] .nil (by kernel_rfl) ?_
    obtain ⟨v1, hv, hr, hk⟩ := flb_t hm
    refine X_tailF (n := 26) (fun (_ : Unit) => (⟨[], [], 32⟩ : X)) v1 ?_ ?_
    · have hm := hv
      refine Ok_block ?_
      refine X_loop (n := 26) (step := v_rInts_L1 a b) (fun (v : Int) => (⟨[(0, .dat (Enc.e a)), (1, .dat (Enc.e b)), (5, .dat (.sc (.int .i64 v)))], [], 32⟩ : X)) hm (Wk_J hL ⟨[(0, []), (1, []), (5, [])], [], [], 32⟩ (by kernel_rfl)) ?_
      rintro v r0 hm hb
      rw [v_rInts_L1] at hm
      refine Ok_seq ?_
      refine X_reg_seq ty_ok Γok hL [(2, .n (a.length : Int))] (.cons (len_m Enc.e a) .nil) (by kernel_rfl) ?_
      refine X_cond (decide (v < (a.length : Int))) (by kernel_rfl) (fun hc1 => ?_) (fun hc1 => ?_)
      · have hm := it hc1 hm
        refine X_skip ?_
        refine thN ?_
        refine Ok_seq ?_
        refine Ok_block ?_
        obtain ⟨e2, h2, hm⟩ := obind hm
        obtain ⟨e3, h3, hm⟩ := obind hm
        refine X_draw_seq mixed ty_ok Γok Γlive [] (by kernel_rfl) [(2, .d (Enc.e e2)), (6, .d (Enc.e e3))] (.cons (idx_m (f := Enc.e) h2) (.cons (idx_m (f := Enc.e) h3) .nil)) (by kernel_rfl) ?_
        refine X_cond (e2 != e3) (by kernel_rfl) (fun hc2 => ?_) (fun hc2 => ?_)
        · have hm := it hc2 hm
          refine X_reg_seq ty_ok Γok hL [] .nil (by kernel_rfl) ?_
          obtain rfl := some_inj hm
          obtain rfl := hb _ rfl
          have hm := congrArg some (hr _ rfl)
          obtain rfl := some_inj hm
          refine Ok_ret ?_
          repeat (first | refine thR ?_ | refine ibR ?_)
          exact X_fin [] [] (by kernel_rfl) trivial
        · have hm := ie hc2 hm
          refine X_skip ?_
          refine ibN ?_
          refine thN ?_
          refine X_reg ty_ok Γok hL [] .nil (by kernel_rfl) ?_
          obtain rfl := some_inj hm
          exact thN ⟨_, rfl, Wk_J hL ⟨[(0, []), (1, []), (5, [])], [], [], 32⟩ (by kernel_rfl)⟩
      · have hm := ie hc1 hm
        obtain rfl := some_inj hm
        obtain rfl := hb _ rfl
        refine Ok_exit ?_
        refine thE ?_
        refine thE ?_
        refine ibE ?_
        exact thN ⟨_, rfl, Wk_J hL ⟨[], [], [], 32⟩ (by kernel_rfl)⟩
    rintro ⟨⟩ hu s hw
    have hm := hk _ hu
    refine thN ?_
    refine Ok_weak hw ?_
    refine X_reg_seq ty_ok Γok hL [] .nil (by kernel_rfl) ?_
    obtain rfl := some_inj hm
    refine Ok_ret ?_
    repeat (first | refine thR ?_ | refine ibR ?_)
    exact X_fin [] [] (by kernel_rfl) trivial
abbrev i_total_r (y : Int) : AV := .dat (Enc.e y)
abbrev i_total_n (y : Int) : List Obj' := []
abbrev i_total_o (x : (List Int)) (y : Int) : List Obj' := []
noncomputable def i_total_S : FnSpec := modS [none] (fun x : (List Int) => [Enc.e x]) (fun x : (List Int) => []) (fun x : (List Int) => i_total x) i_total_r i_total_n i_total_o
theorem i_total_c {list : List Int} {y : Int} (h : i_total list = some y) : CallOK i_total_S [Enc.e list] [] (i_total_r y) (i_total_n y) (i_total_o list y) :=
  modS_call (by
    rintro a0 b0 h h2
    simp only [List.cons.injEq, and_true] at h
    try simp only [List.cons.injEq, and_true, Obj'.box.injEq, Obj'.arr.injEq, true_and, AV.dat.injEq] at h2
    have h0 := h
    have q0 := Enc.inj _ _ h0
    subst q0; rfl) (x := list) h
theorem i_total_ok : FnOK Try.prog 73 i_total_S := by
  have Γok : ∀ f S, lookF f [] = some S → FnOK Try.prog f S := lookF_ok allF_nil
  have Γlive : Live (fun f => lookF f []) := lookF_live allL_nil
  refine fnOK_mod ty_ok (fun args w => Try.call73 args w) Try.func73 rfl [.tmp 2] (by rw [Try.results73]) 17 Try.ntmps73 16 rfl (fun _ => by first | exact Nat.zero_le _ | (simp)) (fun _ => rfl) ?_
  rintro list y cx hm hL
  have hm : i_total list = some y := hm
  have hL : cx.L = 0 := hL
  unfold i_total at hm
  refine X_reg_seq ty_ok Γok hL [] .nil (by kernel_rfl) ?_
  refine X_reg_seq ty_ok Γok hL [] .nil (by kernel_rfl) ?_
  refine Ok_seq ?_
  refine X_reg_seq ty_ok Γok hL [(1, .n (list.length : Int))] (.cons (len_m Enc.e list) .nil) (by kernel_rfl) ?_
  obtain ⟨v2, hv, hk⟩ := obind hm
  refine X_tail (n := 17) (fun (v2 : Int) => (⟨[(3, .dat (.sc (.int .i64 v2)))], [], 32⟩ : X)) v2 ?_ ?_
  · have hm := hv
    refine Ok_block ?_
    refine X_loop (n := 17) (step := i_total_L1 list) (fun ((v, v1) : Int × Int) => (⟨[(3, .dat (.sc (.int .i64 v))), (6, .dat (Enc.e list)), (7, .dat (.sc (.int .i64 (list.length : Int)))), (8, .dat (.sc (.int .i64 v1)))], [], 32⟩ : X)) hm (Wk_J hL ⟨[(3, []), (6, []), (7, []), (8, [])], [], [], 32⟩ (by kernel_rfl)) ?_
    rintro ⟨v, v1⟩ r0 hm hb
    rw [i_total_L1] at hm
    refine X_reg_seq ty_ok Γok hL [] .nil (by kernel_rfl) ?_
    refine Ok_seq ?_
    refine X_cond (decide (v1 < (list.length : Int))) (by kernel_rfl) (fun hc => ?_) (fun hc => ?_)
    · have hm := it hc hm
      refine X_skip ?_
      refine thN ?_
      refine Ok_seq ?_
      refine Ok_block ?_
      obtain ⟨e, h, hm⟩ := obind hm
      refine X_reg_seq ty_ok Γok hL [(0, .d (Enc.e e))] (.cons (idx_m (f := Enc.e) h) .nil) (by kernel_rfl) ?_
      refine X_reg ty_ok Γok hL [] .nil (by kernel_rfl) ?_
      refine ibN ?_
      refine thN ?_
      refine X_reg ty_ok Γok hL [] .nil (by kernel_rfl) ?_
      obtain rfl := some_inj hm
      exact thN ⟨_, rfl, Wk_J hL ⟨[(3, []), (6, []), (7, []), (8, [])], [], [], 32⟩ (by kernel_rfl)⟩
    · have hm := ie hc hm
      obtain rfl := some_inj hm
      obtain rfl := hb _ rfl
      refine Ok_exit ?_
      refine thE ?_
      refine thE ?_
      refine ibE ?_
      exact thN (Wk_J hL ⟨[(3, [])], [], [], 32⟩ (by kernel_rfl))
  intro s hw
  have hm := hk
  refine thN ?_
  refine Ok_weak hw ?_
  refine X_reg_seq ty_ok Γok hL [] .nil (by kernel_rfl) ?_
  obtain rfl := some_inj hm
  refine Ok_ret ?_
  repeat (first | refine thR ?_ | refine ibR ?_)
  exact X_fin [] [] (by kernel_rfl) trivial
abbrev i_DailyCaps_r (y : (List Int) × Int × Bool) : AV := .tup [.dat (Enc.e y.1), .dat (Enc.e y.2.1), .dat (Enc.e y.2.2)]
abbrev i_DailyCaps_n (y : (List Int) × Int × Bool) : List Obj' := []
abbrev i_DailyCaps_o (x : Prices × (List Ride)) (y : (List Int) × Int × Bool) : List Obj' := []
noncomputable def i_DailyCaps_S : FnSpec := modS [none, none] (fun x : Prices × (List Ride) => [Enc.e x.1, Enc.e x.2]) (fun x : Prices × (List Ride) => []) (fun x : Prices × (List Ride) => i_DailyCaps x.1 x.2) i_DailyCaps_r i_DailyCaps_n i_DailyCaps_o
theorem i_DailyCaps_c {p : Prices} {list : List Ride} {y : (List Int) × Int × Bool} (h : i_DailyCaps p list = some y) : CallOK i_DailyCaps_S [Enc.e p, Enc.e list] [] (i_DailyCaps_r y) (i_DailyCaps_n y) (i_DailyCaps_o (p, list) y) :=
  modS_call (by
    rintro ⟨a0, a1⟩ ⟨b0, b1⟩ h h2
    simp only [List.cons.injEq, and_true] at h
    try simp only [List.cons.injEq, and_true, Obj'.box.injEq, Obj'.arr.injEq, true_and, AV.dat.injEq] at h2
    obtain ⟨h0, h1⟩ := h
    have q0 := Enc.inj _ _ h0
    have q1 := Enc.inj _ _ h1
    subst q0; subst q1; rfl) (x := (p, list)) h
theorem i_DailyCaps_ok : FnOK Try.prog 23 i_DailyCaps_S := by
  have Γok : ∀ f S, lookF f [(62, i_arePrices_S), (29, i_IsValidRides_S), (63, i_rideDays_S), (73, i_total_S)] = some S → FnOK Try.prog f S := lookF_ok (allF_cons i_arePrices_ok (allF_cons i_IsValidRides_ok (allF_cons i_rideDays_ok (allF_cons i_total_ok allF_nil))))
  have Γlive : Live (fun f => lookF f [(62, i_arePrices_S), (29, i_IsValidRides_S), (63, i_rideDays_S), (73, i_total_S)]) := lookF_live (allL_cons modS_live (allL_cons modS_live (allL_cons modS_live (allL_cons modS_live allL_nil))))
  refine fnOK_mod ty_ok (fun args w => Try.call23 args w) Try.func23 rfl [.tmp 4, .tmp 5, .tmp 6] (by rw [Try.results23]) 26 Try.ntmps23 16 rfl (fun _ => by first | exact Nat.zero_le _ | (simp)) (fun _ => rfl) ?_
  rintro ⟨p, list⟩ y cx hm hL
  have hm : i_DailyCaps p list = some y := hm
  have hL : cx.L = 0 := hL
  unfold i_DailyCaps at hm
  refine X_reg_seq ty_ok Γok hL [] .nil (by kernel_rfl) ?_
  refine Ok_seq ?_
  obtain ⟨r, h, hm⟩ := obind hm
  obtain ⟨v, hv, hk⟩ := obind hm
  refine X_join (n := 26) (fun (v : Bool) => (⟨[(1, .dat (Enc.e list)), (2, .ref 16 0), (16, .dat (.sc (.bool v)))], [(16, some (.box [.dat (Enc.e p.Zones), .dat (.sc (.int .i64 p.Day)), .dat (.sc (.int .i64 p.Week))]))], 48⟩ : X)) v ?_ ?_
  · have hm := hv
    rcases btf (!r) with hb | hb
    · have hm := it hb hm
      obtain rfl := some_inj hm
      refine X_reg ty_ok Γok hL [(1, .c (i_arePrices_r r) (i_arePrices_n r) (i_arePrices_o p r)), (3, .b true)] (.cons (i_arePrices_c h) (.cons hb .nil)) (by kernel_rfl) ?_
      exact thN (Wk_J hL ⟨[(1, []), (2, []), (16, [])], [(16, 16, [])], [], 48⟩ (by kernel_rfl))
    · have hm := ie hb hm
      obtain ⟨r1, h1, hm⟩ := obind hm
      obtain rfl := some_inj hm
      refine X_reg ty_ok Γok hL [(1, .c (i_arePrices_r r) (i_arePrices_n r) (i_arePrices_o p r)), (3, .b false), (5, .c (i_IsValidRides_r r1) (i_IsValidRides_n r1) (i_IsValidRides_o list r1))] (.cons (i_arePrices_c h) (.cons hb (.cons (i_IsValidRides_c h1) .nil))) (by kernel_rfl) ?_
      exact thN (Wk_J hL ⟨[(1, []), (2, []), (16, [])], [(16, 16, [])], [], 48⟩ (by kernel_rfl))
  have hm := hk
  refine X_cond v (by kernel_rfl) (fun hc => ?_) (fun hc => ?_)
  · have hm := it hc hm
    refine X_reg_seq ty_ok Γok hL [] .nil (by kernel_rfl) ?_
    obtain rfl := some_inj hm
    refine Ok_ret ?_
    repeat (first | refine thR ?_ | refine ibR ?_)
    exact X_fin [] [[.z 1]] (by kernel_rfl) trivial
  · have hm := ie hc hm
    refine X_skip ?_
    refine thN ?_
    obtain ⟨r2, h2, hm⟩ := obind hm
    refine X_reg_seq ty_ok Γok hL [(2, .c (i_rideDays_r r2) (i_rideDays_n r2) (i_rideDays_o (p, list) r2))] (.cons (i_rideDays_c h2) .nil) (by kernel_rfl) ?_
    obtain ⟨r3, h3, hm⟩ := obind hm
    refine X_reg_seq ty_ok Γok hL [(2, .c (i_total_r r3) (i_total_n r3) (i_total_o r2.2 r3))] (.cons (i_total_c h3) .nil) (by kernel_rfl) ?_
    obtain rfl := some_inj hm
    refine Ok_ret ?_
    repeat (first | refine thR ?_ | refine ibR ?_)
    exact X_fin [] [] (by kernel_rfl) trivial
abbrev s_DailyCaps_r (y : (List Int) × Int × Bool) : AV := .tup [.own 0, .dat (Enc.e y.2.1), .dat (Enc.e y.2.2)]
abbrev s_DailyCaps_n (y : (List Int) × Int × Bool) : List Obj' := [.arr 3 1 (List.map Enc.e y.1)]
abbrev s_DailyCaps_o (x : Prices × (List Ride)) (y : (List Int) × Int × Bool) : List Obj' := []
noncomputable def s_DailyCaps_S : FnSpec := modS [none, none] (fun x : Prices × (List Ride) => [Enc.e x.1, Enc.e x.2]) (fun x : Prices × (List Ride) => []) (fun x : Prices × (List Ride) => s_DailyCaps x.1 x.2) s_DailyCaps_r s_DailyCaps_n s_DailyCaps_o
theorem s_DailyCaps_c {p : Prices} {list : List Ride} {y : (List Int) × Int × Bool} (h : s_DailyCaps p list = some y) : CallOK s_DailyCaps_S [Enc.e p, Enc.e list] [] (s_DailyCaps_r y) (s_DailyCaps_n y) (s_DailyCaps_o (p, list) y) :=
  modS_call (by
    rintro ⟨a0, a1⟩ ⟨b0, b1⟩ h h2
    simp only [List.cons.injEq, and_true] at h
    try simp only [List.cons.injEq, and_true, Obj'.box.injEq, Obj'.arr.injEq, true_and, AV.dat.injEq] at h2
    obtain ⟨h0, h1⟩ := h
    have q0 := Enc.inj _ _ h0
    have q1 := Enc.inj _ _ h1
    subst q0; subst q1; rfl) (x := (p, list)) h
theorem s_DailyCaps_ok : FnOK Try.prog 24 s_DailyCaps_S := by
  have Γok : ∀ f S, lookF f [(67, s_l21Prices_S), (68, s_l21Rides_S), (69, s_l21Days_S)] = some S → FnOK Try.prog f S := lookF_ok (allF_cons s_l21Prices_ok (allF_cons s_l21Rides_ok (allF_cons s_l21Days_ok allF_nil)))
  have Γlive : Live (fun f => lookF f [(67, s_l21Prices_S), (68, s_l21Rides_S), (69, s_l21Days_S)]) := lookF_live (allL_cons modS_live (allL_cons modS_live (allL_cons modS_live allL_nil)))
  refine fnOK_mod ty_ok (fun args w => Try.call24 args w) Try.func24 rfl [.tmp 4, .tmp 5, .tmp 6] (by rw [Try.results24]) 40 Try.ntmps24 16 rfl (fun _ => by first | exact Nat.zero_le _ | (simp)) (fun _ => rfl) ?_
  rintro ⟨p, list⟩ y cx hm hL
  have hm : s_DailyCaps p list = some y := hm
  have hL : cx.L = 0 := hL
  unfold s_DailyCaps at hm
  refine X_reg_seq ty_ok Γok hL [] .nil (by kernel_rfl) ?_
  refine Ok_seq ?_
  obtain ⟨r, h, hm⟩ := obind hm
  obtain ⟨v, hv, hk⟩ := obind hm
  refine X_join (n := 40) (fun (v : Bool) => (⟨[(1, .dat (Enc.e list)), (2, .ref 16 0), (18, .dat (.sc (.bool v)))], [(16, some (.box [.dat (Enc.e p.Zones), .dat (.sc (.int .i64 p.Day)), .dat (.sc (.int .i64 p.Week))]))], 48⟩ : X)) v ?_ ?_
  · have hm := hv
    rcases btf (!r) with hb | hb
    · have hm := it hb hm
      obtain rfl := some_inj hm
      refine X_reg ty_ok Γok hL [(1, .c (s_l21Prices_r r) (s_l21Prices_n r) (s_l21Prices_o p r)), (3, .b true)] (.cons (s_l21Prices_c h) (.cons hb .nil)) (by kernel_rfl) ?_
      exact thN (Wk_J hL ⟨[(1, []), (2, []), (18, [])], [(16, 16, [])], [], 48⟩ (by kernel_rfl))
    · have hm := ie hb hm
      obtain ⟨r1, h1, hm⟩ := obind hm
      obtain rfl := some_inj hm
      refine X_reg ty_ok Γok hL [(1, .c (s_l21Prices_r r) (s_l21Prices_n r) (s_l21Prices_o p r)), (3, .b false), (5, .c (s_l21Rides_r r1) (s_l21Rides_n r1) (s_l21Rides_o list r1))] (.cons (s_l21Prices_c h) (.cons hb (.cons (s_l21Rides_c h1) .nil))) (by kernel_rfl) ?_
      exact thN (Wk_J hL ⟨[(1, []), (2, []), (18, [])], [(16, 16, [])], [], 48⟩ (by kernel_rfl))
  have hm := hk
  refine X_cond v (by kernel_rfl) (fun hc => ?_) (fun hc => ?_)
  · have hm := it hc hm
    refine X_reg_seq ty_ok Γok hL [] .nil (by kernel_rfl) ?_
    obtain rfl := some_inj hm
    refine Ok_ret ?_
    repeat (first | refine thR ?_ | refine ibR ?_)
    exact X_fin [48] [] (by kernel_rfl) trivial
  · have hm := ie hc hm
    refine X_skip ?_
    refine thN ?_
    obtain ⟨r2, h2, hm⟩ := obind hm
    refine X_reg_seq ty_ok Γok hL [(2, .c (s_l21Days_r r2) (s_l21Days_n r2) (s_l21Days_o (p, list) r2))] (.cons (s_l21Days_c h2) .nil) (by kernel_rfl) ?_
    refine X_reg_seq ty_ok Γok hL [] .nil (by kernel_rfl) ?_
    refine Ok_seq ?_
    refine X_reg_seq ty_ok Γok hL [] .nil (by kernel_rfl) ?_
    obtain ⟨v3, hv1, hk1⟩ := obind hm
    refine X_tail (n := 40) (fun (v3 : Int) => (⟨[(8, .own 16), (9, .dat (.sc (.int .i64 v3)))], [(16, some (.arr 3 1 (List.map Enc.e r2.2)))], 48⟩ : X)) v3 ?_ ?_
    · have hm := hv1
      refine Ok_block ?_
      refine X_loop (n := 40) (step := s_DailyCaps_L1 r2) (fun ((v1, v2) : Int × Int) => (⟨[(8, .own 16), (9, .dat (.sc (.int .i64 v1))), (10, .dat (.sc (.int .i64 v2)))], [(16, some (.arr 3 1 (List.map Enc.e r2.2)))], 48⟩ : X)) hm (Wk_J hL ⟨[(8, []), (9, []), (10, [])], [(16, 81, [])], [], 48⟩ (by kernel_rfl)) ?_
      rintro ⟨v1, v2⟩ r0 hm hb1
      rw [s_DailyCaps_L1] at hm
      refine Ok_seq ?_
      refine X_reg_seq ty_ok Γok hL [(2, .n (r2.2.length : Int))] (.cons (len_m Enc.e r2.2) .nil) (by kernel_rfl) ?_
      refine X_cond (decide (v2 < (r2.2.length : Int))) (by kernel_rfl) (fun hc1 => ?_) (fun hc1 => ?_)
      · have hm := it hc1 hm
        refine X_skip ?_
        refine thN ?_
        refine Ok_seq ?_
        refine Ok_block ?_
        obtain ⟨e, h3, hm⟩ := obind hm
        refine X_reg ty_ok Γok hL [(3, .d (Enc.e e)), (4, .d (Enc.e e))] (.cons (idx_m (f := Enc.e) h3) (.cons (idx_m2 (f := Enc.e) h3) .nil)) (by kernel_rfl) ?_
        refine ibN ?_
        refine thN ?_
        refine X_reg ty_ok Γok hL [] .nil (by kernel_rfl) ?_
        obtain rfl := some_inj hm
        exact thN ⟨_, rfl, Wk_J hL ⟨[(8, []), (9, []), (10, [])], [(16, 16, [])], [], 48⟩ (by kernel_rfl)⟩
      · have hm := ie hc1 hm
        obtain rfl := some_inj hm
        obtain rfl := hb1 _ rfl
        refine Ok_exit ?_
        refine thE ?_
        refine thE ?_
        refine ibE ?_
        exact thN (Wk_J hL ⟨[(8, []), (9, [])], [(16, 16, [])], [], 48⟩ (by kernel_rfl))
    intro s hw
    have hm := hk1
    refine thN ?_
    refine Ok_weak hw ?_
    refine X_reg_seq ty_ok Γok hL [] .nil (by kernel_rfl) ?_
    obtain rfl := some_inj hm
    refine Ok_ret ?_
    repeat (first | refine thR ?_ | refine ibR ?_)
    exact X_fin [16] [] (by kernel_rfl) trivial
end Go.Proofs.Ytmpgpfekekobfaa
