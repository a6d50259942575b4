/- Each function computes what its model says. Made by program (dec.py). -/
import Derived.Test.YtepdapiceklppaaTy
import Derived.Test.YtepdapiceklppaaAbEx5
import Derived.Test.YtepdapiceklppaaSpM
namespace Go.Proofs.Ytepdapiceklppaa
open Go Go.Ab
set_option maxRecDepth 100000
set_option maxHeartbeats 4000000
set_option linter.unusedVariables false
set_option linter.unusedSimpArgs false
theorem mixed : Try.prog.follows .mixedOrders = true := by kernel_rfl
abbrev v_vBig_r (y : Bool) : AV := .dat (Enc.e y)
abbrev v_vBig_n (y : Bool) : List Obj' := []
abbrev v_vBig_o (x : (List UInt8)) (y : Bool) : List Obj' := []
noncomputable def v_vBig_S : FnSpec := modS [.rd] (fun x : (List UInt8) => [Enc.e x]) (fun x : (List UInt8) => []) (fun x : (List UInt8) => v_vBig x) v_vBig_r v_vBig_n v_vBig_o
theorem v_vBig_c {code : List UInt8} {y : Bool} (h : v_vBig code = some y) : CallOK v_vBig_S [Enc.e code] [] (v_vBig_r y) (v_vBig_n y) (v_vBig_o code y) :=
  modS_call (by
    rintro a0 b0 h hO
    have q0 : a0 = b0 := Enc.inj _ _ (congrArg (fun l => List.getD l 0 (.sc undef)) h)
    subst q0; rfl) (x := code) h
theorem v_vBig_ok : FnOK Try.prog 24 v_vBig_S := by
  have Γok : ∀ f S, lookF f [] = some S → FnOK Try.prog f S := lookF_ok allF_nil
  have Γlive : Live (fun f => lookF f []) := lookF_live allL_nil
  refine fnOK_mod ty_ok (fun args w => Try.call24 args w) Try.func24 rfl [.tmp 2] (by rw [Try.results24]) 6 Try.ntmps24 16 rfl (fun _ => by first | exact Nat.zero_le _ | (simp)) ?_
  rintro code y cx hm hL
  have hm : v_vBig code = some y := hm
  have hL : cx.L = 0 := hL
  unfold v_vBig at hm
  refine X_reg_seq ty_ok Γok hL [] .nil (by kernel_rfl) ?_
  refine X_reg_seq ty_ok Γok hL [(1, .n (code.length : Int))] (.cons (len_m Enc.e code) .nil) (by kernel_rfl) ?_
  obtain rfl := some_inj hm
  refine Ok_ret ?_
  repeat (first | refine thR ?_ | refine ibR ?_)
  exact X_fin [] [] (by kernel_rfl) trivial
abbrev s_l1Cur_next_r (y : Int × l1Cur) : AV := .dat (Enc.e y.1)
abbrev s_l1Cur_next_n (y : Int × l1Cur) : List Obj' := []
abbrev s_l1Cur_next_o (x : l1Cur) (y : Int × l1Cur) : List Obj' := [.box [.dat (Enc.e y.2.code_), .dat (.sc (.int .i64 y.2.at_)), .dat (.sc (.int .u64 y.2.seed_.v))]]
noncomputable def s_l1Cur_next_S : FnSpec := modS [.bx] (fun x : l1Cur => [.sc undef]) (fun x : l1Cur => [.box [.dat (Enc.e x.code_), .dat (.sc (.int .i64 x.at_)), .dat (.sc (.int .u64 x.seed_.v))]]) (fun x : l1Cur => s_l1Cur_next x) s_l1Cur_next_r s_l1Cur_next_n s_l1Cur_next_o
theorem s_l1Cur_next_c {c : l1Cur} {y : Int × l1Cur} (h : s_l1Cur_next c = some y) : CallOK s_l1Cur_next_S [.sc undef] [.box [.dat (Enc.e c.code_), .dat (.sc (.int .i64 c.at_)), .dat (.sc (.int .u64 c.seed_.v))]] (s_l1Cur_next_r y) (s_l1Cur_next_n y) (s_l1Cur_next_o c y) :=
  modS_call (by
    rintro a0 b0 h hO
    have q0 : a0 = b0 := Enc.inj _ _ (congrArg (fun l => D.agg (obD l 0)) hO)
    subst q0; rfl) (x := c) h
theorem s_l1Cur_next_ok : FnOK Try.prog 197 s_l1Cur_next_S := by
  have Γok : ∀ f S, lookF f [] = some S → FnOK Try.prog f S := lookF_ok allF_nil
  have Γlive : Live (fun f => lookF f []) := lookF_live allL_nil
  refine fnOK_mod ty_ok (fun args w => Try.call197 args w) Try.func197 rfl [.tmp 2] (by rw [Try.results197]) 62 Try.ntmps197 16 rfl (fun _ => by first | exact Nat.zero_le _ | (simp)) ?_
  rintro c y cx hm hL
  have hm : s_l1Cur_next c = some y := hm
  have hL : cx.L = 1 := hL
  unfold s_l1Cur_next at hm
  refine X_reg_seq ty_ok Γok hL [] .nil (by kernel_rfl) ?_
  refine X_reg_seq ty_ok Γok hL [] .nil (by kernel_rfl) ?_
  obtain ⟨v, hv, hk⟩ := obind hm
  refine X_join (n := 62) (fun (v : Int) => (⟨[(0, .ref 0 0), (3, .dat (.sc (.int .i64 v)))], [(0, some (.box [.dat (Enc.e c.code_), .dat (.sc (.int .i64 c.at_)), .dat (.sc (.int .u64 c.seed_.v))]))], 48⟩ : X)) v ?_ ?_
  · have hm := hv
    refine X_draw_seq mixed ty_ok Γok Γlive [] (by kernel_rfl) [(8, .n (c.code_.length : Int))] (.cons (len_m Enc.e c.code_) .nil) (by kernel_rfl) ?_
    refine X_cond (decide (c.at_ < (c.code_.length : Int))) (by kernel_rfl) (fun hc => ?_) (fun hc => ?_)
    · have hm := it hc hm
      obtain ⟨e1, h1, hm⟩ := obind hm
      refine X_draw mixed ty_ok Γok Γlive [] (by kernel_rfl) [(8, .d (Enc.e e1))] (.cons (idx_m (f := Enc.e) h1) .nil) (by kernel_rfl) ?_
      obtain rfl := some_inj hm
      exact thN (Wk_J hL ⟨[(0, []), (3, [])], [(0, 0, [])], [], 48⟩ (by kernel_rfl))
    · have hm := ie hc hm
      refine X_skip ?_
      obtain rfl := some_inj hm
      exact thN (Wk_J hL ⟨[(0, []), (3, [])], [(0, 0, [])], [], 48⟩ (by kernel_rfl))
  have hm := hk
  refine X_reg_seq ty_ok Γok hL [] .nil (by kernel_rfl) ?_
  refine X_reg_seq ty_ok Γok hL [] .nil (by kernel_rfl) ?_
  refine Ok_seq ?_
  refine X_draw_seq mixed ty_ok Γok Γlive [] (by kernel_rfl) [(8, .n (c.code_.length : Int))] (.cons (len_m Enc.e c.code_) .nil) (by kernel_rfl) ?_
  refine X_cond (decide ((w64 (c.at_ + 1)) ≤ (c.code_.length : Int))) (by kernel_rfl) (fun hc1 => ?_) (fun hc1 => ?_)
  · have hm := it hc1 hm
    refine X_reg_seq ty_ok Γok hL [] .nil (by kernel_rfl) ?_
    obtain rfl := some_inj hm
    refine Ok_ret ?_
    repeat (first | refine thR ?_ | refine ibR ?_)
    exact X_fin [] [] (by kernel_rfl) trivial
  · have hm := ie hc1 hm
    refine X_skip ?_
    refine thN ?_
    obtain ⟨u, h2, hm⟩ := obind hm
    refine X_reg_seq ty_ok Γok hL [] (.cons (chk_t h2) .nil) (by kernel_rfl) ?_
    obtain rfl := some_inj hm
    refine Ok_ret ?_
    repeat (first | refine thR ?_ | refine ibR ?_)
    exact X_fin [] [] (by kernel_rfl) trivial
abbrev s_l1Cur_pick_r (y : Int × l1Cur) : AV := .dat (Enc.e y.1)
abbrev s_l1Cur_pick_n (y : Int × l1Cur) : List Obj' := []
abbrev s_l1Cur_pick_o (x : l1Cur × Int) (y : Int × l1Cur) : List Obj' := [.box [.dat (Enc.e y.2.code_), .dat (.sc (.int .i64 y.2.at_)), .dat (.sc (.int .u64 y.2.seed_.v))]]
noncomputable def s_l1Cur_pick_S : FnSpec := modS [.bx, .rd] (fun x : l1Cur × Int => [.sc undef, Enc.e x.2]) (fun x : l1Cur × Int => [.box [.dat (Enc.e x.1.code_), .dat (.sc (.int .i64 x.1.at_)), .dat (.sc (.int .u64 x.1.seed_.v))]]) (fun x : l1Cur × Int => s_l1Cur_pick x.1 x.2) s_l1Cur_pick_r s_l1Cur_pick_n s_l1Cur_pick_o
theorem s_l1Cur_pick_c {c : l1Cur} {n : Int} {y : Int × l1Cur} (h : s_l1Cur_pick c n = some y) : CallOK s_l1Cur_pick_S [.sc undef, Enc.e n] [.box [.dat (Enc.e c.code_), .dat (.sc (.int .i64 c.at_)), .dat (.sc (.int .u64 c.seed_.v))]] (s_l1Cur_pick_r y) (s_l1Cur_pick_n y) (s_l1Cur_pick_o (c, n) y) :=
  modS_call (by
    rintro ⟨a0, a1⟩ ⟨b0, b1⟩ h hO
    have q0 : a0 = b0 := Enc.inj _ _ (congrArg (fun l => D.agg (obD l 0)) hO)
    have q1 : a1 = b1 := Enc.inj _ _ (congrArg (fun l => List.getD l 1 (.sc undef)) h)
    subst q0; subst q1; rfl) (x := (c, n)) h
theorem s_l1Cur_pick_ok : FnOK Try.prog 103 s_l1Cur_pick_S := by
  have Γok : ∀ f S, lookF f [(197, s_l1Cur_next_S)] = some S → FnOK Try.prog f S := lookF_ok (allF_cons s_l1Cur_next_ok allF_nil)
  have Γlive : Live (fun f => lookF f [(197, s_l1Cur_next_S)]) := lookF_live (allL_cons modS_live allL_nil)
  refine fnOK_mod ty_ok (fun args w => Try.call103 args w) Try.func103 rfl [.tmp 4] (by rw [Try.results103]) 20 Try.ntmps103 16 rfl (fun _ => by first | exact Nat.zero_le _ | (simp)) ?_
  rintro ⟨c, n⟩ y cx hm hL
  have hm : s_l1Cur_pick c n = some y := hm
  have hL : cx.L = 1 := hL
  unfold s_l1Cur_pick at hm
  refine X_reg_seq ty_ok Γok hL [] .nil (by kernel_rfl) ?_
  refine Ok_seq ?_
  refine X_reg_seq ty_ok Γok hL [] .nil (by kernel_rfl) ?_
  refine X_cond (decide (n ≤ 1)) (by kernel_rfl) (fun hc => ?_) (fun hc => ?_)
  · have hm := it hc hm
    refine X_reg_seq ty_ok Γok hL [] .nil (by kernel_rfl) ?_
    obtain rfl := some_inj hm
    refine Ok_ret ?_
    repeat (first | refine thR ?_ | refine ibR ?_)
    exact X_fin [] [] (by kernel_rfl) trivial
  · have hm := ie hc hm
    refine X_skip ?_
    refine thN ?_
    obtain ⟨r, h, hm⟩ := obind hm
    refine X_reg_seq ty_ok Γok hL [(1, .c (s_l1Cur_next_r r) (s_l1Cur_next_n r) (s_l1Cur_next_o c r))] (.cons (s_l1Cur_next_c h) .nil) (by kernel_rfl) ?_
    obtain ⟨vv, hv, hk⟩ := obind hm
    refine X_join (n := 20) (fun ((v, v1, v2, v3) : Int × (List UInt8) × Int × Int) => (⟨[(0, .ref 0 0), (1, .dat (.sc (.int .i64 n))), (5, .dat (.sc (.int .i64 v)))], [(0, some (.box [.dat (Enc.e v1), .dat (.sc (.int .i64 v2)), .dat (.sc (.int .u64 v3))]))], 48⟩ : X)) vv ?_ ?_
    · have hm := hv
      refine X_reg_seq ty_ok Γok hL [] .nil (by kernel_rfl) ?_
      refine X_cond (decide (200 < n)) (by kernel_rfl) (fun hc1 => ?_) (fun hc1 => ?_)
      · have hm := it hc1 hm
        obtain ⟨r1, h1, hm⟩ := obind hm
        refine X_reg ty_ok Γok hL [(3, .c (s_l1Cur_next_r r1) (s_l1Cur_next_n r1) (s_l1Cur_next_o r.2 r1))] (.cons (s_l1Cur_next_c h1) .nil) (by kernel_rfl) ?_
        obtain rfl := some_inj hm
        exact thN (Wk_J hL ⟨[(0, []), (1, []), (5, [])], [(0, 0, [])], [], 48⟩ (by kernel_rfl))
      · have hm := ie hc1 hm
        refine X_skip ?_
        obtain rfl := some_inj hm
        exact thN (Wk_J hL ⟨[(0, []), (1, []), (5, [])], [(0, 0, [])], [], 48⟩ (by kernel_rfl))
    obtain ⟨v, v1, v2, v3⟩ := vv
    have hm := hk
    obtain ⟨u, h2, hm⟩ := obind hm
    refine X_reg_seq ty_ok Γok hL [] (.cons (chk_t h2) .nil) (by kernel_rfl) ?_
    obtain rfl := some_inj hm
    refine Ok_ret ?_
    repeat (first | refine thR ?_ | refine ibR ?_)
    exact X_fin [] [] (by kernel_rfl) trivial
abbrev s_l1Cur_one_r (y : Bool × l1Cur) : AV := .dat (Enc.e y.1)
abbrev s_l1Cur_one_n (y : Bool × l1Cur) : List Obj' := []
abbrev s_l1Cur_one_o (x : l1Cur × Int) (y : Bool × l1Cur) : List Obj' := [.box [.dat (Enc.e y.2.code_), .dat (.sc (.int .i64 y.2.at_)), .dat (.sc (.int .u64 y.2.seed_.v))]]
noncomputable def s_l1Cur_one_S : FnSpec := modS [.bx, .rd] (fun x : l1Cur × Int => [.sc undef, Enc.e x.2]) (fun x : l1Cur × Int => [.box [.dat (Enc.e x.1.code_), .dat (.sc (.int .i64 x.1.at_)), .dat (.sc (.int .u64 x.1.seed_.v))]]) (fun x : l1Cur × Int => s_l1Cur_one x.1 x.2) s_l1Cur_one_r s_l1Cur_one_n s_l1Cur_one_o
theorem s_l1Cur_one_c {c : l1Cur} {n : Int} {y : Bool × l1Cur} (h : s_l1Cur_one c n = some y) : CallOK s_l1Cur_one_S [.sc undef, Enc.e n] [.box [.dat (Enc.e c.code_), .dat (.sc (.int .i64 c.at_)), .dat (.sc (.int .u64 c.seed_.v))]] (s_l1Cur_one_r y) (s_l1Cur_one_n y) (s_l1Cur_one_o (c, n) y) :=
  modS_call (by
    rintro ⟨a0, a1⟩ ⟨b0, b1⟩ h hO
    have q0 : a0 = b0 := Enc.inj _ _ (congrArg (fun l => D.agg (obD l 0)) hO)
    have q1 : a1 = b1 := Enc.inj _ _ (congrArg (fun l => List.getD l 1 (.sc undef)) h)
    subst q0; subst q1; rfl) (x := (c, n)) h
theorem s_l1Cur_one_ok : FnOK Try.prog 106 s_l1Cur_one_S := by
  have Γok : ∀ f S, lookF f [(103, s_l1Cur_pick_S)] = some S → FnOK Try.prog f S := lookF_ok (allF_cons s_l1Cur_pick_ok allF_nil)
  have Γlive : Live (fun f => lookF f [(103, s_l1Cur_pick_S)]) := lookF_live (allL_cons modS_live allL_nil)
  refine fnOK_mod ty_ok (fun args w => Try.call106 args w) Try.func106 rfl [.tmp 4] (by rw [Try.results106]) 9 Try.ntmps106 16 rfl (fun _ => by first | exact Nat.zero_le _ | (simp)) ?_
  rintro ⟨c, n⟩ y cx hm hL
  have hm : s_l1Cur_one c n = some y := hm
  have hL : cx.L = 1 := hL
  unfold s_l1Cur_one at hm
  refine X_reg_seq ty_ok Γok hL [] .nil (by kernel_rfl) ?_
  obtain ⟨r, h, hm⟩ := obind hm
  refine X_reg_seq ty_ok Γok hL [(2, .c (s_l1Cur_pick_r r) (s_l1Cur_pick_n r) (s_l1Cur_pick_o (c, n) r))] (.cons (s_l1Cur_pick_c h) .nil) (by kernel_rfl) ?_
  obtain rfl := some_inj hm
  refine Ok_ret ?_
  repeat (first | refine thR ?_ | refine ibR ?_)
  exact X_fin [] [] (by kernel_rfl) trivial
abbrev s_l1Cur_among_r (y : Int × l1Cur) : AV := .dat (Enc.e y.1)
abbrev s_l1Cur_among_n (y : Int × l1Cur) : List Obj' := []
abbrev s_l1Cur_among_o (x : l1Cur × (List Int)) (y : Int × l1Cur) : List Obj' := [.box [.dat (Enc.e y.2.code_), .dat (.sc (.int .i64 y.2.at_)), .dat (.sc (.int .u64 y.2.seed_.v))]]
noncomputable def s_l1Cur_among_S : FnSpec := modS [.bx, .rd] (fun x : l1Cur × (List Int) => [.sc undef, Enc.e x.2]) (fun x : l1Cur × (List Int) => [.box [.dat (Enc.e x.1.code_), .dat (.sc (.int .i64 x.1.at_)), .dat (.sc (.int .u64 x.1.seed_.v))]]) (fun x : l1Cur × (List Int) => s_l1Cur_among x.1 x.2) s_l1Cur_among_r s_l1Cur_among_n s_l1Cur_among_o
theorem s_l1Cur_among_c {c : l1Cur} {list : List Int} {y : Int × l1Cur} (h : s_l1Cur_among c list = some y) : CallOK s_l1Cur_among_S [.sc undef, Enc.e list] [.box [.dat (Enc.e c.code_), .dat (.sc (.int .i64 c.at_)), .dat (.sc (.int .u64 c.seed_.v))]] (s_l1Cur_among_r y) (s_l1Cur_among_n y) (s_l1Cur_among_o (c, list) y) :=
  modS_call (by
    rintro ⟨a0, a1⟩ ⟨b0, b1⟩ h hO
    have q0 : a0 = b0 := Enc.inj _ _ (congrArg (fun l => D.agg (obD l 0)) hO)
    have q1 : a1 = b1 := Enc.inj _ _ (congrArg (fun l => List.getD l 1 (.sc undef)) h)
    subst q0; subst q1; rfl) (x := (c, list)) h
theorem s_l1Cur_among_ok : FnOK Try.prog 167 s_l1Cur_among_S := by
  have Γok : ∀ f S, lookF f [(103, s_l1Cur_pick_S)] = some S → FnOK Try.prog f S := lookF_ok (allF_cons s_l1Cur_pick_ok allF_nil)
  have Γlive : Live (fun f => lookF f [(103, s_l1Cur_pick_S)]) := lookF_live (allL_cons modS_live allL_nil)
  refine fnOK_mod ty_ok (fun args w => Try.call167 args w) Try.func167 rfl [.tmp 4] (by rw [Try.results167]) 12 Try.ntmps167 16 rfl (fun _ => by first | exact Nat.zero_le _ | (simp)) ?_
  rintro ⟨c, list⟩ y cx hm hL
  have hm : s_l1Cur_among c list = some y := hm
  have hL : cx.L = 1 := hL
  unfold s_l1Cur_among at hm
  refine X_reg_seq ty_ok Γok hL [] .nil (by kernel_rfl) ?_
  obtain ⟨r, h, hm⟩ := obind hm
  obtain ⟨e, h1, hm⟩ := obind hm
  refine X_reg_seq ty_ok Γok hL [(3, .n (list.length : Int)), (4, .c (s_l1Cur_pick_r r) (s_l1Cur_pick_n r) (s_l1Cur_pick_o (c, (list.length : Int)) r)), (5, .d (Enc.e e))] (.cons (len_m Enc.e list) (.cons (s_l1Cur_pick_c h) (.cons (idx_m (f := Enc.e) h1) .nil))) (by kernel_rfl) ?_
  obtain rfl := some_inj hm
  refine Ok_ret ?_
  repeat (first | refine thR ?_ | refine ibR ?_)
  exact X_fin [] [] (by kernel_rfl) trivial
abbrev s_l1Cur_time_r (y : Int × l1Cur) : AV := .dat (Enc.e y.1)
abbrev s_l1Cur_time_n (y : Int × l1Cur) : List Obj' := []
abbrev s_l1Cur_time_o (x : l1Cur) (y : Int × l1Cur) : List Obj' := [.box [.dat (Enc.e y.2.code_), .dat (.sc (.int .i64 y.2.at_)), .dat (.sc (.int .u64 y.2.seed_.v))]]
noncomputable def s_l1Cur_time_S : FnSpec := modS [.bx] (fun x : l1Cur => [.sc undef]) (fun x : l1Cur => [.box [.dat (Enc.e x.code_), .dat (.sc (.int .i64 x.at_)), .dat (.sc (.int .u64 x.seed_.v))]]) (fun x : l1Cur => s_l1Cur_time x) s_l1Cur_time_r s_l1Cur_time_n s_l1Cur_time_o
theorem s_l1Cur_time_c {c : l1Cur} {y : Int × l1Cur} (h : s_l1Cur_time c = some y) : CallOK s_l1Cur_time_S [.sc undef] [.box [.dat (Enc.e c.code_), .dat (.sc (.int .i64 c.at_)), .dat (.sc (.int .u64 c.seed_.v))]] (s_l1Cur_time_r y) (s_l1Cur_time_n y) (s_l1Cur_time_o c y) :=
  modS_call (by
    rintro a0 b0 h hO
    have q0 : a0 = b0 := Enc.inj _ _ (congrArg (fun l => D.agg (obD l 0)) hO)
    subst q0; rfl) (x := c) h
theorem s_l1Cur_time_ok : FnOK Try.prog 200 s_l1Cur_time_S := by
  have Γok : ∀ f S, lookF f [(106, s_l1Cur_one_S), (167, s_l1Cur_among_S), (103, s_l1Cur_pick_S)] = some S → FnOK Try.prog f S := lookF_ok (allF_cons s_l1Cur_one_ok (allF_cons s_l1Cur_among_ok (allF_cons s_l1Cur_pick_ok allF_nil)))
  have Γlive : Live (fun f => lookF f [(106, s_l1Cur_one_S), (167, s_l1Cur_among_S), (103, s_l1Cur_pick_S)]) := lookF_live (allL_cons modS_live (allL_cons modS_live (allL_cons modS_live allL_nil)))
  refine fnOK_mod ty_ok (fun args w => Try.call200 args w) Try.func200 rfl [.tmp 2] (by rw [Try.results200]) 11 Try.ntmps200 16 rfl (fun _ => by first | exact Nat.zero_le _ | (simp)) ?_
  rintro c y cx hm hL
  have hm : s_l1Cur_time c = some y := hm
  have hL : cx.L = 1 := hL
  unfold s_l1Cur_time at hm
  refine X_reg_seq ty_ok Γok hL [] .nil (by kernel_rfl) ?_
  refine Ok_seq ?_
  obtain ⟨r, h, hm⟩ := obind hm
  refine X_reg_seq ty_ok Γok hL [(1, .c (s_l1Cur_one_r r) (s_l1Cur_one_n r) (s_l1Cur_one_o (c, 16) r))] (.cons (s_l1Cur_one_c h) .nil) (by kernel_rfl) ?_
  refine X_cond r.1 (by kernel_rfl) (fun hc => ?_) (fun hc => ?_)
  · have hm := it hc hm
    obtain ⟨r1, h1, hm⟩ := obind hm
    refine X_reg_seq ty_ok Γok hL [(2, .fz [80] [] []), (2, .c (s_l1Cur_among_r r1) (s_l1Cur_among_n r1) (s_l1Cur_among_o (r.2, ([0, 1799, 1800, (-1), 1440, 1439] : List Int)) r1))] (.cons (s_l1Cur_among_c h1) .nil) (by kernel_rfl) ?_
    obtain rfl := some_inj hm
    refine Ok_ret ?_
    repeat (first | refine thR ?_ | refine ibR ?_)
    exact X_fin [] [] (by kernel_rfl) trivial
  · have hm := ie hc hm
    refine X_skip ?_
    refine thN ?_
    obtain ⟨r2, h2, hm⟩ := obind hm
    refine X_reg_seq ty_ok Γok hL [(1, .c (s_l1Cur_pick_r r2) (s_l1Cur_pick_n r2) (s_l1Cur_pick_o (r.2, 240) r2))] (.cons (s_l1Cur_pick_c h2) .nil) (by kernel_rfl) ?_
    obtain rfl := some_inj hm
    refine Ok_ret ?_
    repeat (first | refine thR ?_ | refine ibR ?_)
    exact X_fin [] [] (by kernel_rfl) trivial
abbrev s_l1Cur_span_r (y : Span × l1Cur) : AV := .dat (Enc.e y.1)
abbrev s_l1Cur_span_n (y : Span × l1Cur) : List Obj' := []
abbrev s_l1Cur_span_o (x : l1Cur) (y : Span × l1Cur) : List Obj' := [.box [.dat (Enc.e y.2.code_), .dat (.sc (.int .i64 y.2.at_)), .dat (.sc (.int .u64 y.2.seed_.v))]]
noncomputable def s_l1Cur_span_S : FnSpec := modS [.bx] (fun x : l1Cur => [.sc undef]) (fun x : l1Cur => [.box [.dat (Enc.e x.code_), .dat (.sc (.int .i64 x.at_)), .dat (.sc (.int .u64 x.seed_.v))]]) (fun x : l1Cur => s_l1Cur_span x) s_l1Cur_span_r s_l1Cur_span_n s_l1Cur_span_o
theorem s_l1Cur_span_c {c : l1Cur} {y : Span × l1Cur} (h : s_l1Cur_span c = some y) : CallOK s_l1Cur_span_S [.sc undef] [.box [.dat (Enc.e c.code_), .dat (.sc (.int .i64 c.at_)), .dat (.sc (.int .u64 c.seed_.v))]] (s_l1Cur_span_r y) (s_l1Cur_span_n y) (s_l1Cur_span_o c y) :=
  modS_call (by
    rintro a0 b0 h hO
    have q0 : a0 = b0 := Enc.inj _ _ (congrArg (fun l => D.agg (obD l 0)) hO)
    subst q0; rfl) (x := c) h
theorem s_l1Cur_span_ok : FnOK Try.prog 107 s_l1Cur_span_S := by
  have Γok : ∀ f S, lookF f [(200, s_l1Cur_time_S), (103, s_l1Cur_pick_S), (106, s_l1Cur_one_S)] = some S → FnOK Try.prog f S := lookF_ok (allF_cons s_l1Cur_time_ok (allF_cons s_l1Cur_pick_ok (allF_cons s_l1Cur_one_ok allF_nil)))
  have Γlive : Live (fun f => lookF f [(200, s_l1Cur_time_S), (103, s_l1Cur_pick_S), (106, s_l1Cur_one_S)]) := lookF_live (allL_cons modS_live (allL_cons modS_live (allL_cons modS_live allL_nil)))
  refine fnOK_mod ty_ok (fun args w => Try.call107 args w) Try.func107 rfl [.cell 2 49] (by rw [Try.results107]) 19 Try.ntmps107 16 rfl (fun _ => by first | exact Nat.zero_le _ | (simp)) ?_
  rintro c y cx hm hL
  have hm : s_l1Cur_span c = some y := hm
  have hL : cx.L = 1 := hL
  unfold s_l1Cur_span at hm
  refine X_reg_seq ty_ok Γok hL [] .nil (by kernel_rfl) ?_
  obtain ⟨r, h, hm⟩ := obind hm
  refine X_reg_seq ty_ok Γok hL [(1, .c (s_l1Cur_time_r r) (s_l1Cur_time_n r) (s_l1Cur_time_o c r))] (.cons (s_l1Cur_time_c h) .nil) (by kernel_rfl) ?_
  obtain ⟨r1, h1, hm⟩ := obind hm
  refine X_reg_seq ty_ok Γok hL [(3, .c (s_l1Cur_pick_r r1) (s_l1Cur_pick_n r1) (s_l1Cur_pick_o (r.2, 90) r1))] (.cons (s_l1Cur_pick_c h1) .nil) (by kernel_rfl) ?_
  obtain ⟨vv, hv, hk⟩ := obind hm
  refine X_join (n := 19) (fun ((v, v1, v2, v3) : (List UInt8) × Int × Int × Int) => (⟨[(0, .ref 0 0), (2, .ref 32 0), (4, .ref 48 0)], [(0, some (.box [.dat (Enc.e v), .dat (.sc (.int .i64 v1)), .dat (.sc (.int .u64 v2))])), (32, some (.box [.dat (.sc (.int .i64 0)), .dat (.sc (.int .i64 0))])), (48, some (.box [.dat (.sc (.int .i64 r.1)), .dat (.sc (.int .i64 v3))]))], 80⟩ : X)) vv ?_ ?_
  · have hm := hv
    obtain ⟨r2, h2, hm⟩ := obind hm
    refine X_reg_seq ty_ok Γok hL [(1, .c (s_l1Cur_one_r r2) (s_l1Cur_one_n r2) (s_l1Cur_one_o (r1.2, 16) r2))] (.cons (s_l1Cur_one_c h2) .nil) (by kernel_rfl) ?_
    refine X_cond r2.1 (by kernel_rfl) (fun hc => ?_) (fun hc => ?_)
    · have hm := it hc hm
      obtain ⟨r3, h3, hm⟩ := obind hm
      refine X_reg ty_ok Γok hL [(1, .c (s_l1Cur_time_r r3) (s_l1Cur_time_n r3) (s_l1Cur_time_o r2.2 r3))] (.cons (s_l1Cur_time_c h3) .nil) (by kernel_rfl) ?_
      obtain rfl := some_inj hm
      exact thN (Wk_J hL ⟨[(0, []), (2, []), (4, [])], [(0, 0, []), (32, 16, []), (48, 176, [])], [], 80⟩ (by kernel_rfl))
    · have hm := ie hc hm
      refine X_skip ?_
      obtain rfl := some_inj hm
      exact thN (Wk_J hL ⟨[(0, []), (2, []), (4, [])], [(0, 0, []), (32, 16, []), (48, 176, [])], [], 80⟩ (by kernel_rfl))
  obtain ⟨v, v1, v2, v3⟩ := vv
  have hm := hk
  refine X_reg_seq ty_ok Γok hL [] .nil (by kernel_rfl) ?_
  obtain rfl := some_inj hm
  refine Ok_ret ?_
  repeat (first | refine thR ?_ | refine ibR ?_)
  exact X_fin [] [] (by kernel_rfl) trivial
abbrev s_l1Cur_spans_r (y : (List Span) × l1Cur) : AV := .own 0
abbrev s_l1Cur_spans_n (y : (List Span) × l1Cur) : List Obj' := [.arr 49 2 (List.map Enc.e y.1)]
abbrev s_l1Cur_spans_o (x : l1Cur) (y : (List Span) × l1Cur) : List Obj' := [.box [.dat (Enc.e y.2.code_), .dat (.sc (.int .i64 y.2.at_)), .dat (.sc (.int .u64 y.2.seed_.v))]]
noncomputable def s_l1Cur_spans_S : FnSpec := modS [.bx] (fun x : l1Cur => [.sc undef]) (fun x : l1Cur => [.box [.dat (Enc.e x.code_), .dat (.sc (.int .i64 x.at_)), .dat (.sc (.int .u64 x.seed_.v))]]) (fun x : l1Cur => s_l1Cur_spans x) s_l1Cur_spans_r s_l1Cur_spans_n s_l1Cur_spans_o
theorem s_l1Cur_spans_c {c : l1Cur} {y : (List Span) × l1Cur} (h : s_l1Cur_spans c = some y) : CallOK s_l1Cur_spans_S [.sc undef] [.box [.dat (Enc.e c.code_), .dat (.sc (.int .i64 c.at_)), .dat (.sc (.int .u64 c.seed_.v))]] (s_l1Cur_spans_r y) (s_l1Cur_spans_n y) (s_l1Cur_spans_o c y) :=
  modS_call (by
    rintro a0 b0 h hO
    have q0 : a0 = b0 := Enc.inj _ _ (congrArg (fun l => D.agg (obD l 0)) hO)
    subst q0; rfl) (x := c) h
theorem s_l1Cur_spans_ok : FnOK Try.prog 105 s_l1Cur_spans_S := by
  have Γok : ∀ f S, lookF f [(103, s_l1Cur_pick_S), (107, s_l1Cur_span_S), (106, s_l1Cur_one_S)] = some S → FnOK Try.prog f S := lookF_ok (allF_cons s_l1Cur_pick_ok (allF_cons s_l1Cur_span_ok (allF_cons s_l1Cur_one_ok allF_nil)))
  have Γlive : Live (fun f => lookF f [(103, s_l1Cur_pick_S), (107, s_l1Cur_span_S), (106, s_l1Cur_one_S)]) := lookF_live (allL_cons modS_live (allL_cons modS_live (allL_cons modS_live allL_nil)))
  refine fnOK_mod ty_ok (fun args w => Try.call105 args w) Try.func105 rfl [.tmp 2] (by rw [Try.results105]) 37 Try.ntmps105 16 rfl (fun _ => by first | exact Nat.zero_le _ | (simp)) ?_
  rintro c y cx hm hL
  have hm : s_l1Cur_spans c = some y := hm
  have hL : cx.L = 1 := hL
  unfold s_l1Cur_spans at hm
  refine X_reg_seq ty_ok Γok hL [] .nil (by kernel_rfl) ?_
  refine X_reg_seq ty_ok Γok hL [] .nil (by kernel_rfl) ?_
  refine Ok_seq ?_
  obtain ⟨r, h, hm⟩ := obind hm
  refine X_reg_seq ty_ok Γok hL [(1, .c (s_l1Cur_pick_r r) (s_l1Cur_pick_n r) (s_l1Cur_pick_o (c, 7) r))] (.cons (s_l1Cur_pick_c h) .nil) (by kernel_rfl) ?_
  obtain ⟨vv2, hv, hk⟩ := obind hm
  refine X_tail (n := 37) (fun ((v4, v5, v6, n1) : (List UInt8) × Int × Int × (List Span)) => (⟨[(0, .ref 0 0), (3, .own 32)], [(0, some (.box [.dat (Enc.e v4), .dat (.sc (.int .i64 v5)), .dat (.sc (.int .u64 v6))])), (32, some (.arr 49 2 (List.map Enc.e n1)))], 64⟩ : X)) vv2 ?_ ?_
  · have hm := hv
    refine Ok_block ?_
    refine X_loop (n := 37) (step := s_l1Cur_spans_L1) (fun ((v, v1, v2, v3, n) : Int × (List UInt8) × Int × Int × (List Span)) => (⟨[(0, .ref 0 0), (3, .own 32), (4, .dat (.sc (.int .i64 v)))], [(0, some (.box [.dat (Enc.e v1), .dat (.sc (.int .i64 v2)), .dat (.sc (.int .u64 v3))])), (32, some (.arr 49 2 (List.map Enc.e n)))], 64⟩ : X)) hm (Wk_J hL ⟨[(0, []), (3, []), (4, [])], [(0, 0, []), (32, 32, [])], [], 64⟩ (by kernel_rfl)) ?_
    rintro ⟨v, v1, v2, v3, n⟩ r0 hm hb
    rw [s_l1Cur_spans_L1] at hm
    refine Ok_seq ?_
    refine X_reg_seq ty_ok Γok hL [] .nil (by kernel_rfl) ?_
    refine X_cond (decide (0 < v)) (by kernel_rfl) (fun hc => ?_) (fun hc => ?_)
    · have hm := it hc hm
      refine X_skip ?_
      refine thN ?_
      refine Ok_seq ?_
      refine Ok_block ?_
      obtain ⟨r1, h1, hm⟩ := obind hm
      obtain ⟨u, h2, hm⟩ := obind hm
      refine X_reg ty_ok Γok hL [(2, .c (s_l1Cur_span_r r1) (s_l1Cur_span_n r1) (s_l1Cur_span_o (⟨v1, v2, (⟨v3⟩ : IK .u64)⟩ : l1Cur) r1)), (4, .l (List.map Enc.e (n ++ ([r1.1] : List Span))))] (.cons (s_l1Cur_span_c h1) (.cons (app_p (f := Enc.e) (g := Enc.e) (l := n) (r := ([r1.1] : List Span)) (b := 16) (chk_t h2) rfl) (.cons (app_m Enc.e n ([r1.1] : List Span)) .nil))) (by kernel_rfl) ?_
      refine ibN ?_
      refine thN ?_
      refine X_reg ty_ok Γok hL [] .nil (by kernel_rfl) ?_
      obtain rfl := some_inj hm
      exact thN ⟨_, rfl, Wk_J hL ⟨[(0, []), (3, []), (4, [])], [(0, 0, []), (32, 160, [])], [], 64⟩ (by kernel_rfl)⟩
    · have hm := ie hc hm
      obtain rfl := some_inj hm
      obtain rfl := hb _ rfl
      refine Ok_exit ?_
      refine thE ?_
      refine thE ?_
      refine ibE ?_
      exact thN (Wk_J hL ⟨[(0, []), (3, [])], [(0, 0, []), (32, 32, [])], [], 64⟩ (by kernel_rfl))
  obtain ⟨v4, v5, v6, n1⟩ := vv2
  intro s hw
  have hm := hk
  refine thN ?_
  refine Ok_weak hw ?_
  obtain ⟨vv1, hv1, hk1⟩ := obind hm
  refine X_join (n := 37) (fun ((v7, v8, v9, n2) : (List UInt8) × Int × Int × (List Span)) => (⟨[(0, .ref 0 0), (3, .own 32)], [(0, some (.box [.dat (Enc.e v7), .dat (.sc (.int .i64 v8)), .dat (.sc (.int .u64 v9))])), (32, some (.arr 49 2 (List.map Enc.e n2)))], 64⟩ : X)) vv1 ?_ ?_
  · have hm := hv1
    obtain ⟨r2, h3, hm⟩ := obind hm
    refine X_reg_seq ty_ok Γok hL [(1, .c (s_l1Cur_one_r r2) (s_l1Cur_one_n r2) (s_l1Cur_one_o ((⟨v4, v5, (⟨v6⟩ : IK .u64)⟩ : l1Cur), 24) r2))] (.cons (s_l1Cur_one_c h3) .nil) (by kernel_rfl) ?_
    refine X_cond r2.1 (by kernel_rfl) (fun hc1 => ?_) (fun hc1 => ?_)
    · have hm := it hc1 hm
      obtain ⟨vv, hv2, hk2⟩ := obind hm
      refine X_tail (n := 37) (fun ((v13, v14, v15, n4) : (List UInt8) × Int × Int × (List Span)) => (⟨[(0, .ref 0 0), (3, .own 32)], [(0, some (.box [.dat (Enc.e v13), .dat (.sc (.int .i64 v14)), .dat (.sc (.int .u64 v15))])), (32, some (.arr 49 2 (List.map Enc.e n4)))], 64⟩ : X)) vv ?_ ?_
      · have hm := hv2
        refine Ok_block ?_
        refine X_loop (n := 37) (step := s_l1Cur_spans_L2) (fun ((v10, v11, v12, n3) : (List UInt8) × Int × Int × (List Span)) => (⟨[(0, .ref 0 0), (3, .own 32)], [(0, some (.box [.dat (Enc.e v10), .dat (.sc (.int .i64 v11)), .dat (.sc (.int .u64 v12))])), (32, some (.arr 49 2 (List.map Enc.e n3)))], 64⟩ : X)) hm (Wk_J hL ⟨[(0, []), (3, [])], [(0, 0, []), (32, 32, [])], [], 64⟩ (by kernel_rfl)) ?_
        rintro ⟨v10, v11, v12, n3⟩ r0 hm hb1
        rw [s_l1Cur_spans_L2] at hm
        refine Ok_seq ?_
        obtain ⟨r3, h4, hm⟩ := obind hm
        refine X_reg_seq ty_ok Γok hL [(1, .n (n3.length : Int)), (3, .c (s_l1Cur_pick_r r3) (s_l1Cur_pick_n r3) (s_l1Cur_pick_o ((⟨v10, v11, (⟨v12⟩ : IK .u64)⟩ : l1Cur), 2) r3))] (.cons (len_m Enc.e n3) (.cons (s_l1Cur_pick_c h4) .nil)) (by kernel_rfl) ?_
        refine X_cond (decide ((n3.length : Int) < (w64 (20 + r3.1)))) (by kernel_rfl) (fun hc2 => ?_) (fun hc2 => ?_)
        · have hm := it hc2 hm
          refine X_skip ?_
          refine thN ?_
          refine Ok_block ?_
          obtain ⟨u1, h5, hm⟩ := obind hm
          refine X_reg ty_ok Γok hL [(2, .n (n3.length : Int)), (5, .n (n3.length : Int)), (10, .l (List.map Enc.e (n3 ++ ([(⟨(w64 (10 * (n3.length : Int))), (w64 ((w64 (10 * (n3.length : Int))) + 5))⟩ : Span)] : List Span))))] (.cons (len_m Enc.e n3) (.cons (len_m Enc.e n3) (.cons (app_p (f := Enc.e) (g := Enc.e) (l := n3) (r := ([(⟨(w64 (10 * (n3.length : Int))), (w64 ((w64 (10 * (n3.length : Int))) + 5))⟩ : Span)] : List Span)) (b := 16) (chk_t h5) rfl) (.cons (app_m Enc.e n3 ([(⟨(w64 (10 * (n3.length : Int))), (w64 ((w64 (10 * (n3.length : Int))) + 5))⟩ : Span)] : List Span)) .nil)))) (by kernel_rfl) ?_
          refine ibN ?_
          obtain rfl := some_inj hm
          exact thN ⟨_, rfl, Wk_J hL ⟨[(0, []), (3, [])], [(0, 0, []), (32, 320, [])], [], 64⟩ (by kernel_rfl)⟩
        · have hm := ie hc2 hm
          obtain rfl := some_inj hm
          obtain rfl := hb1 _ rfl
          refine Ok_exit ?_
          refine thE ?_
          refine thE ?_
          refine ibE ?_
          exact thN (Wk_J hL ⟨[(0, []), (3, [])], [(0, 0, []), (32, 32, [])], [], 64⟩ (by kernel_rfl))
      obtain ⟨v13, v14, v15, n4⟩ := vv
      intro s1 hw1
      have hm := hk2
      obtain rfl := some_inj hm
      exact thN (Wk.trans hw1 (Wk_J hL ⟨[(0, []), (3, [])], [(0, 0, []), (32, 32, [])], [], 64⟩ (by kernel_rfl)))
    · have hm := ie hc1 hm
      refine X_skip ?_
      obtain rfl := some_inj hm
      exact thN (Wk_J hL ⟨[(0, []), (3, [])], [(0, 0, []), (32, 32, [])], [], 64⟩ (by kernel_rfl))
  obtain ⟨v7, v8, v9, n2⟩ := vv1
  have hm := hk1
  refine X_reg_seq ty_ok Γok hL [] .nil (by kernel_rfl) ?_
  obtain rfl := some_inj hm
  refine Ok_ret ?_
  repeat (first | refine thR ?_ | refine ibR ?_)
  exact X_fin [32] [] (by kernel_rfl) trivial
abbrev s_DrawFreeSpans_r (y : (List Span) × Span) : AV := .tup [.own 0, .dat (Enc.e y.2)]
abbrev s_DrawFreeSpans_n (y : (List Span) × Span) : List Obj' := [.arr 49 2 (List.map Enc.e y.1)]
abbrev s_DrawFreeSpans_o (x : (List UInt8)) (y : (List Span) × Span) : List Obj' := []
noncomputable def s_DrawFreeSpans_S : FnSpec := modS [.rd] (fun x : (List UInt8) => [Enc.e x]) (fun x : (List UInt8) => []) (fun x : (List UInt8) => s_DrawFreeSpans x) s_DrawFreeSpans_r s_DrawFreeSpans_n s_DrawFreeSpans_o
theorem s_DrawFreeSpans_c {code : List UInt8} {y : (List Span) × Span} (h : s_DrawFreeSpans code = some y) : CallOK s_DrawFreeSpans_S [Enc.e code] [] (s_DrawFreeSpans_r y) (s_DrawFreeSpans_n y) (s_DrawFreeSpans_o code y) :=
  modS_call (by
    rintro a0 b0 h hO
    have q0 : a0 = b0 := Enc.inj _ _ (congrArg (fun l => List.getD l 0 (.sc undef)) h)
    subst q0; rfl) (x := code) h
theorem s_DrawFreeSpans_ok : FnOK Try.prog 25 s_DrawFreeSpans_S := by
  have Γok : ∀ f S, lookF f [(105, s_l1Cur_spans_S), (106, s_l1Cur_one_S), (107, s_l1Cur_span_S)] = some S → FnOK Try.prog f S := lookF_ok (allF_cons s_l1Cur_spans_ok (allF_cons s_l1Cur_one_ok (allF_cons s_l1Cur_span_ok allF_nil)))
  have Γlive : Live (fun f => lookF f [(105, s_l1Cur_spans_S), (106, s_l1Cur_one_S), (107, s_l1Cur_span_S)]) := lookF_live (allL_cons modS_live (allL_cons modS_live (allL_cons modS_live allL_nil)))
  refine fnOK_mod ty_ok (fun args w => Try.call25 args w) Try.func25 rfl [.tmp 2, .cell 3 49] (by rw [Try.results25]) 18 Try.ntmps25 16 rfl (fun _ => by first | exact Nat.zero_le _ | (simp)) ?_
  rintro code y cx hm hL
  have hm : s_DrawFreeSpans code = some y := hm
  have hL : cx.L = 0 := hL
  unfold s_DrawFreeSpans at hm
  refine X_reg_seq ty_ok Γok hL [] .nil (by kernel_rfl) ?_
  refine X_reg_seq ty_ok Γok hL [] .nil (by kernel_rfl) ?_
  obtain ⟨r, h, hm⟩ := obind hm
  refine X_reg_seq ty_ok Γok hL [(1, .c (s_l1Cur_spans_r r) (s_l1Cur_spans_n r) (s_l1Cur_spans_o (⟨code, 0, (⟨0⟩ : IK .u64)⟩ : l1Cur) r))] (.cons (s_l1Cur_spans_c h) .nil) (by kernel_rfl) ?_
  refine Ok_seq ?_
  obtain ⟨r1, h1, hm⟩ := obind hm
  refine X_reg_seq ty_ok Γok hL [(1, .c (s_l1Cur_one_r r1) (s_l1Cur_one_n r1) (s_l1Cur_one_o (r.2, 4) r1))] (.cons (s_l1Cur_one_c h1) .nil) (by kernel_rfl) ?_
  refine X_cond r1.1 (by kernel_rfl) (fun hc => ?_) (fun hc => ?_)
  · have hm := it hc hm
    obtain ⟨r2, h2, hm⟩ := obind hm
    refine X_reg_seq ty_ok Γok hL [(2, .c (s_l1Cur_span_r r2) (s_l1Cur_span_n r2) (s_l1Cur_span_o r1.2 r2))] (.cons (s_l1Cur_span_c h2) .nil) (by kernel_rfl) ?_
    obtain rfl := some_inj hm
    refine Ok_ret ?_
    repeat (first | refine thR ?_ | refine ibR ?_)
    exact X_fin [128] [] (by kernel_rfl) trivial
  · have hm := ie hc hm
    refine X_skip ?_
    refine thN ?_
    refine X_reg_seq ty_ok Γok hL [] .nil (by kernel_rfl) ?_
    obtain rfl := some_inj hm
    refine Ok_ret ?_
    repeat (first | refine thR ?_ | refine ibR ?_)
    exact X_fin [128] [] (by kernel_rfl) trivial
abbrev i_within_r (y : Bool) : AV := .dat (Enc.e y)
abbrev i_within_n (y : Bool) : List Obj' := []
abbrev i_within_o (x : Int × Int × Int) (y : Bool) : List Obj' := []
noncomputable def i_within_S : FnSpec := modS [.rd, .rd, .rd] (fun x : Int × Int × Int => [Enc.e x.1, Enc.e x.2.1, Enc.e x.2.2]) (fun x : Int × Int × Int => []) (fun x : Int × Int × Int => i_within x.1 x.2.1 x.2.2) i_within_r i_within_n i_within_o
theorem i_within_c {n : Int} {lo : Int} {hi : Int} {y : Bool} (h : i_within n lo hi = some y) : CallOK i_within_S [Enc.e n, Enc.e lo, Enc.e hi] [] (i_within_r y) (i_within_n y) (i_within_o (n, lo, hi) y) :=
  modS_call (by
    rintro ⟨a0, a1, a2⟩ ⟨b0, b1, b2⟩ h hO
    have q0 : a0 = b0 := Enc.inj _ _ (congrArg (fun l => List.getD l 0 (.sc undef)) h)
    have q1 : a1 = b1 := Enc.inj _ _ (congrArg (fun l => List.getD l 1 (.sc undef)) h)
    have q2 : a2 = b2 := Enc.inj _ _ (congrArg (fun l => List.getD l 2 (.sc undef)) h)
    subst q0; subst q1; subst q2; rfl) (x := (n, lo, hi)) h
theorem i_within_ok : FnOK Try.prog 94 i_within_S := by
  have Γok : ∀ f S, lookF f [] = some S → FnOK Try.prog f S := lookF_ok allF_nil
  have Γlive : Live (fun f => lookF f []) := lookF_live allL_nil
  refine fnOK_mod ty_ok (fun args w => Try.call94 args w) Try.func94 rfl [.tmp 6] (by rw [Try.results94]) 15 Try.ntmps94 16 rfl (fun _ => by first | exact Nat.zero_le _ | (simp)) ?_
  rintro ⟨n, lo, hi⟩ y cx hm hL
  have hm : i_within n lo hi = some y := hm
  have hL : cx.L = 0 := hL
  unfold i_within at hm
  refine X_reg_seq ty_ok Γok hL [] .nil (by kernel_rfl) ?_
  obtain ⟨v, hv, hk⟩ := obind hm
  refine X_join (n := 15) (fun (v : Bool) => (⟨[(6, .dat (.sc (.bool v)))], [], 32⟩ : X)) v ?_ ?_
  · have hm := hv
    rcases btf (decide (lo ≤ n)) with hb | hb
    · have hm := it hb hm
      obtain rfl := some_inj hm
      refine X_reg ty_ok Γok hL [(3, .b true)] (.cons hb .nil) (by kernel_rfl) ?_
      exact thN (Wk_J hL ⟨[(6, [])], [], [], 32⟩ (by kernel_rfl))
    · have hm := ie hb hm
      obtain rfl := some_inj hm
      refine X_reg ty_ok Γok hL [(3, .b false)] (.cons hb .nil) (by kernel_rfl) ?_
      exact thN (Wk_J hL ⟨[(6, [])], [], [], 32⟩ (by kernel_rfl))
  have hm := hk
  obtain rfl := some_inj hm
  refine Ok_ret ?_
  repeat (first | refine thR ?_ | refine ibR ?_)
  exact X_fin [] [] (by kernel_rfl) trivial
abbrev i_IsValidTime_r (y : Bool) : AV := .dat (Enc.e y)
abbrev i_IsValidTime_n (y : Bool) : List Obj' := []
abbrev i_IsValidTime_o (x : Int) (y : Bool) : List Obj' := []
noncomputable def i_IsValidTime_S : FnSpec := modS [.rd] (fun x : Int => [Enc.e x]) (fun x : Int => []) (fun x : Int => i_IsValidTime x) i_IsValidTime_r i_IsValidTime_n i_IsValidTime_o
theorem i_IsValidTime_c {t : Int} {y : Bool} (h : i_IsValidTime t = some y) : CallOK i_IsValidTime_S [Enc.e t] [] (i_IsValidTime_r y) (i_IsValidTime_n y) (i_IsValidTime_o t y) :=
  modS_call (by
    rintro a0 b0 h hO
    have q0 : a0 = b0 := Enc.inj _ _ (congrArg (fun l => List.getD l 0 (.sc undef)) h)
    subst q0; rfl) (x := t) h
theorem i_IsValidTime_ok : FnOK Try.prog 201 i_IsValidTime_S := by
  have Γok : ∀ f S, lookF f [(94, i_within_S)] = some S → FnOK Try.prog f S := lookF_ok (allF_cons i_within_ok allF_nil)
  have Γlive : Live (fun f => lookF f [(94, i_within_S)]) := lookF_live (allL_cons modS_live allL_nil)
  refine fnOK_mod ty_ok (fun args w => Try.call201 args w) Try.func201 rfl [.tmp 2] (by rw [Try.results201]) 5 Try.ntmps201 16 rfl (fun _ => by first | exact Nat.zero_le _ | (simp)) ?_
  rintro t y cx hm hL
  have hm : i_IsValidTime t = some y := hm
  have hL : cx.L = 0 := hL
  unfold i_IsValidTime at hm
  refine X_reg_seq ty_ok Γok hL [] .nil (by kernel_rfl) ?_
  obtain ⟨r, h, hm⟩ := obind hm
  refine X_reg_seq ty_ok Γok hL [(1, .c (i_within_r r) (i_within_n r) (i_within_o (t, 0, 1799) r))] (.cons (i_within_c h) .nil) (by kernel_rfl) ?_
  obtain rfl := some_inj hm
  refine Ok_ret ?_
  repeat (first | refine thR ?_ | refine ibR ?_)
  exact X_fin [] [] (by kernel_rfl) trivial
abbrev i_isSpan_r (y : Bool) : AV := .dat (Enc.e y)
abbrev i_isSpan_n (y : Bool) : List Obj' := []
abbrev i_isSpan_o (x : Span) (y : Bool) : List Obj' := []
noncomputable def i_isSpan_S : FnSpec := modS [.rd] (fun x : Span => [Enc.e x]) (fun x : Span => []) (fun x : Span => i_isSpan x) i_isSpan_r i_isSpan_n i_isSpan_o
theorem i_isSpan_c {s : Span} {y : Bool} (h : i_isSpan s = some y) : CallOK i_isSpan_S [Enc.e s] [] (i_isSpan_r y) (i_isSpan_n y) (i_isSpan_o s y) :=
  modS_call (by
    rintro a0 b0 h hO
    have q0 : a0 = b0 := Enc.inj _ _ (congrArg (fun l => List.getD l 0 (.sc undef)) h)
    subst q0; rfl) (x := s) h
theorem i_isSpan_ok : FnOK Try.prog 108 i_isSpan_S := by
  have Γok : ∀ f S, lookF f [(201, i_IsValidTime_S)] = some S → FnOK Try.prog f S := lookF_ok (allF_cons i_IsValidTime_ok allF_nil)
  have Γlive : Live (fun f => lookF f [(201, i_IsValidTime_S)]) := lookF_live (allL_cons modS_live allL_nil)
  refine fnOK_mod ty_ok (fun args w => Try.call108 args w) Try.func108 rfl [.tmp 2] (by rw [Try.results108]) 18 Try.ntmps108 16 rfl (fun _ => by first | exact Nat.zero_le _ | (simp)) ?_
  rintro s y cx hm hL
  have hm : i_isSpan s = some y := hm
  have hL : cx.L = 0 := hL
  unfold i_isSpan at hm
  refine X_reg_seq ty_ok Γok hL [] .nil (by kernel_rfl) ?_
  obtain ⟨r, h, hm⟩ := obind hm
  obtain ⟨v, hv, hk⟩ := obind hm
  refine X_join (n := 18) (fun (v : Bool) => (⟨[(2, .dat (.sc (.bool v)))], [], 32⟩ : X)) v ?_ ?_
  · have hm := hv
    rcases btf r with hb | hb
    · have hm := it hb hm
      obtain ⟨r1, h1, hm⟩ := obind hm
      rcases btf r1 with hb1 | hb1
      · have hm := it hb1 hm
        obtain rfl := some_inj hm
        refine X_reg ty_ok Γok hL [(2, .c (i_IsValidTime_r r) (i_IsValidTime_n r) (i_IsValidTime_o s.From r)), (3, .b true), (6, .c (i_IsValidTime_r r1) (i_IsValidTime_n r1) (i_IsValidTime_o s.To r1)), (8, .b true)] (.cons (i_IsValidTime_c h) (.cons hb (.cons (i_IsValidTime_c h1) (.cons hb1 .nil)))) (by kernel_rfl) ?_
        exact thN (Wk_J hL ⟨[(2, [])], [], [], 32⟩ (by kernel_rfl))
      · have hm := ie hb1 hm
        obtain rfl := some_inj hm
        refine X_reg ty_ok Γok hL [(2, .c (i_IsValidTime_r r) (i_IsValidTime_n r) (i_IsValidTime_o s.From r)), (3, .b true), (6, .c (i_IsValidTime_r r1) (i_IsValidTime_n r1) (i_IsValidTime_o s.To r1)), (8, .b false)] (.cons (i_IsValidTime_c h) (.cons hb (.cons (i_IsValidTime_c h1) (.cons hb1 .nil)))) (by kernel_rfl) ?_
        exact thN (Wk_J hL ⟨[(2, [])], [], [], 32⟩ (by kernel_rfl))
    · have hm := ie hb hm
      obtain rfl := some_inj hm
      refine X_reg ty_ok Γok hL [(2, .c (i_IsValidTime_r r) (i_IsValidTime_n r) (i_IsValidTime_o s.From r)), (3, .b false)] (.cons (i_IsValidTime_c h) (.cons hb .nil)) (by kernel_rfl) ?_
      exact thN (Wk_J hL ⟨[(2, [])], [], [], 32⟩ (by kernel_rfl))
  have hm := hk
  obtain rfl := some_inj hm
  refine Ok_ret ?_
  repeat (first | refine thR ?_ | refine ibR ?_)
  exact X_fin [] [] (by kernel_rfl) trivial
abbrev i_areSpans_r (y : Bool) : AV := .dat (Enc.e y)
abbrev i_areSpans_n (y : Bool) : List Obj' := []
abbrev i_areSpans_o (x : (List Span)) (y : Bool) : List Obj' := []
noncomputable def i_areSpans_S : FnSpec := modS [.rd] (fun x : (List Span) => [Enc.e x]) (fun x : (List Span) => []) (fun x : (List Span) => i_areSpans x) i_areSpans_r i_areSpans_n i_areSpans_o
theorem i_areSpans_c {list : List Span} {y : Bool} (h : i_areSpans list = some y) : CallOK i_areSpans_S [Enc.e list] [] (i_areSpans_r y) (i_areSpans_n y) (i_areSpans_o list y) :=
  modS_call (by
    rintro a0 b0 h hO
    have q0 : a0 = b0 := Enc.inj _ _ (congrArg (fun l => List.getD l 0 (.sc undef)) h)
    subst q0; rfl) (x := list) h
theorem i_areSpans_ok : FnOK Try.prog 95 i_areSpans_S := by
  have Γok : ∀ f S, lookF f [(108, i_isSpan_S)] = some S → FnOK Try.prog f S := lookF_ok (allF_cons i_isSpan_ok allF_nil)
  have Γlive : Live (fun f => lookF f [(108, i_isSpan_S)]) := lookF_live (allL_cons modS_live allL_nil)
  refine fnOK_mod ty_ok (fun args w => Try.call95 args w) Try.func95 rfl [.tmp 2] (by rw [Try.results95]) 18 Try.ntmps95 16 rfl (fun _ => by first | exact Nat.zero_le _ | (simp)) ?_
  rintro list y cx hm hL
  have hm : i_areSpans list = some y := hm
  have hL : cx.L = 0 := hL
  unfold i_areSpans at hm
  refine X_reg_seq ty_ok Γok hL [] .nil (by kernel_rfl) ?_
  refine Ok_seq ?_
  refine X_reg_seq ty_ok Γok hL [(1, .n (list.length : Int))] (.cons (len_m Enc.e list) .nil) (by kernel_rfl) ?_
  refine X_cond (decide (20 < (list.length : Int))) (by kernel_rfl) (fun hc => ?_) (fun hc => ?_)
  · have hm := it hc hm
    refine X_reg_seq ty_ok Γok hL [] .nil (by kernel_rfl) ?_
    obtain rfl := some_inj hm
    refine Ok_ret ?_
    repeat (first | refine thR ?_ | refine ibR ?_)
    exact X_fin [] [] (by kernel_rfl) trivial
  · have hm := ie hc hm
    refine X_skip ?_
    refine thN ?_
    refine Ok_seq ?_
    refine X_reg_seq ty_ok Γok hL [(1, .n (list.length : Int))] (.cons (len_m Enc.e list) .nil) (by kernel_rfl) ?_
    obtain ⟨v1, hv, hr, hk⟩ := flb_t hm
    refine X_tailF (n := 18) (fun (_ : Unit) => (⟨[], [], 32⟩ : X)) v1 ?_ ?_
    · have hm := hv
      refine Ok_block ?_
      refine X_loop (n := 18) (step := i_areSpans_L1 list) (fun (v : Int) => (⟨[(8, .dat (Enc.e list)), (9, .dat (.sc (.int .i64 (list.length : Int)))), (10, .dat (.sc (.int .i64 v)))], [], 32⟩ : X)) hm (Wk_J hL ⟨[(8, []), (9, []), (10, [])], [], [], 32⟩ (by kernel_rfl)) ?_
      rintro v r0 hm hb
      rw [i_areSpans_L1] at hm
      refine X_reg_seq ty_ok Γok hL [] .nil (by kernel_rfl) ?_
      refine Ok_seq ?_
      refine X_cond (decide (v < (list.length : Int))) (by kernel_rfl) (fun hc1 => ?_) (fun hc1 => ?_)
      · have hm := it hc1 hm
        refine X_skip ?_
        refine thN ?_
        refine Ok_seq ?_
        refine Ok_block ?_
        obtain ⟨e, h, hm⟩ := obind hm
        refine X_reg_seq ty_ok Γok hL [(0, .d (Enc.e e))] (.cons (idx_m (f := Enc.e) h) .nil) (by kernel_rfl) ?_
        obtain ⟨r, h1, hm⟩ := obind hm
        refine X_reg_seq ty_ok Γok hL [(1, .c (i_isSpan_r r) (i_isSpan_n r) (i_isSpan_o e r))] (.cons (i_isSpan_c h1) .nil) (by kernel_rfl) ?_
        refine X_cond (!r) (by kernel_rfl) (fun hc2 => ?_) (fun hc2 => ?_)
        · have hm := it hc2 hm
          refine X_reg_seq ty_ok Γok hL [] .nil (by kernel_rfl) ?_
          obtain rfl := some_inj hm
          obtain rfl := hb _ rfl
          have hm := congrArg some (hr _ rfl)
          obtain rfl := some_inj hm
          refine Ok_ret ?_
          repeat (first | refine thR ?_ | refine ibR ?_)
          exact X_fin [] [] (by kernel_rfl) trivial
        · have hm := ie hc2 hm
          refine X_skip ?_
          refine ibN ?_
          refine thN ?_
          refine X_reg ty_ok Γok hL [] .nil (by kernel_rfl) ?_
          obtain rfl := some_inj hm
          exact thN ⟨_, rfl, Wk_J hL ⟨[(8, []), (9, []), (10, [])], [], [], 32⟩ (by kernel_rfl)⟩
      · have hm := ie hc1 hm
        obtain rfl := some_inj hm
        obtain rfl := hb _ rfl
        refine Ok_exit ?_
        refine thE ?_
        refine thE ?_
        refine ibE ?_
        exact thN ⟨_, rfl, Wk_J hL ⟨[], [], [], 32⟩ (by kernel_rfl)⟩
    rintro ⟨⟩ hu s hw
    have hm := hk _ hu
    refine thN ?_
    refine Ok_weak hw ?_
    refine X_reg_seq ty_ok Γok hL [] .nil (by kernel_rfl) ?_
    obtain rfl := some_inj hm
    refine Ok_ret ?_
    repeat (first | refine thR ?_ | refine ibR ?_)
    exact X_fin [] [] (by kernel_rfl) trivial
abbrev slices_Clone_Span_r (y : (List Span)) : AV := .own 0
abbrev slices_Clone_Span_n (y : (List Span)) : List Obj' := [.arr 49 2 (List.map Enc.e y)]
abbrev slices_Clone_Span_o (x : (List Span)) (y : (List Span)) : List Obj' := []
noncomputable def slices_Clone_Span_S : FnSpec := modS [.rd] (fun x : (List Span) => [Enc.e x]) (fun x : (List Span) => []) (fun x : (List Span) => slices_Clone_Span x) slices_Clone_Span_r slices_Clone_Span_n slices_Clone_Span_o
theorem slices_Clone_Span_c {s : List Span} {y : (List Span)} (h : slices_Clone_Span s = some y) : CallOK slices_Clone_Span_S [Enc.e s] [] (slices_Clone_Span_r y) (slices_Clone_Span_n y) (slices_Clone_Span_o s y) :=
  modS_call (by
    rintro a0 b0 h hO
    have q0 : a0 = b0 := Enc.inj _ _ (congrArg (fun l => List.getD l 0 (.sc undef)) h)
    subst q0; rfl) (x := s) h
theorem slices_Clone_Span_ok : FnOK Try.prog 188 slices_Clone_Span_S := by
  have Γok : ∀ f S, lookF f [] = some S → FnOK Try.prog f S := lookF_ok allF_nil
  have Γlive : Live (fun f => lookF f []) := lookF_live allL_nil
  refine fnOK_mod ty_ok (fun args w => Try.call188 args w) Try.func188 rfl [.tmp 2] (by rw [Try.results188]) 8 Try.ntmps188 16 rfl (fun _ => by first | exact Nat.zero_le _ | (simp)) ?_
  rintro s y cx hm hL
  have hm : slices_Clone_Span s = some y := hm
  have hL : cx.L = 0 := hL
  unfold slices_Clone_Span at hm
  obtain ⟨u, h, hm⟩ := obind hm
  obtain rfl := some_inj hm
  refine X_reg_seq ty_ok Γok hL [] .nil (by kernel_rfl) ?_
  refine Ok_seq ?_
  refine X_nil_seq ty_ok Γok 1 (ds := List.map Enc.e s) (es := 2) [] .nil (by kernel_rfl) (by rfl) (by rfl) (by kernel_rfl) ?_
  intro b hb
  refine X_cond b (by kernel_rfl) (fun hc => ?_) (fun hc => ?_)
  · have hl : s = [] := by
      cases s with
      | nil => rfl
      | cons a r => have := hb (by simp); rw [hc] at this; cases this
    subst hl
    refine X_reg_seq ty_ok Γok hL [] .nil (by kernel_rfl) ?_
    refine Ok_weak (Wk_J (x' := ⟨[(2, .own 16)], [(16, some (.arr 49 2 []))], 32⟩) hL ⟨[(2, [.o 16])], [], [(16, 49, 2, [])], 32⟩ (by kernel_rfl)) ?_
    refine Ok_ret ?_
    repeat (first | refine thR ?_ | refine ibR ?_)
    exact X_fin [16] [] (by kernel_rfl) trivial
  · refine X_skip ?_
    refine thN ?_
    refine X_reg_seq ty_ok Γok hL [(2, .l (List.map Enc.e (([] : List Span) ++ s)))] (.cons (app_p (f := Enc.e) (g := Enc.e) (l := ([] : List Span)) (r := s) (b := 16) (chk_t h) rfl) (.cons (app_m Enc.e ([] : List Span) s) .nil)) (by kernel_rfl) ?_
    refine Ok_ret ?_
    repeat (first | refine thR ?_ | refine ibR ?_)
    exact X_fin [96] [] (by kernel_rfl) trivial
abbrev cmp_isNaN_int_r (y : Bool) : AV := .dat (Enc.e y)
abbrev cmp_isNaN_int_n (y : Bool) : List Obj' := []
abbrev cmp_isNaN_int_o (x : Int) (y : Bool) : List Obj' := []
noncomputable def cmp_isNaN_int_S : FnSpec := modS [.rd] (fun x : Int => [Enc.e x]) (fun x : Int => []) (fun x : Int => cmp_isNaN_int x) cmp_isNaN_int_r cmp_isNaN_int_n cmp_isNaN_int_o
theorem cmp_isNaN_int_c {x : Int} {y : Bool} (h : cmp_isNaN_int x = some y) : CallOK cmp_isNaN_int_S [Enc.e x] [] (cmp_isNaN_int_r y) (cmp_isNaN_int_n y) (cmp_isNaN_int_o x y) :=
  modS_call (by
    rintro a0 b0 h hO
    have q0 : a0 = b0 := Enc.inj _ _ (congrArg (fun l => List.getD l 0 (.sc undef)) h)
    subst q0; rfl) (x := x) h
theorem cmp_isNaN_int_ok : FnOK Try.prog 231 cmp_isNaN_int_S := by
  have Γok : ∀ f S, lookF f [] = some S → FnOK Try.prog f S := lookF_ok allF_nil
  have Γlive : Live (fun f => lookF f []) := lookF_live allL_nil
  refine fnOK_mod ty_ok (fun args w => Try.call231 args w) Try.func231 rfl [.tmp 2] (by rw [Try.results231]) 6 Try.ntmps231 16 rfl (fun _ => by first | exact Nat.zero_le _ | (simp)) ?_
  rintro x y cx hm hL
  have hm : cmp_isNaN_int x = some y := hm
  have hL : cx.L = 0 := hL
  unfold cmp_isNaN_int at hm
  refine X_reg_seq ty_ok Γok hL [] .nil (by kernel_rfl) ?_
  refine X_reg_seq ty_ok Γok hL [] .nil (by kernel_rfl) ?_
  obtain rfl := some_inj hm
  refine Ok_ret ?_
  repeat (first | refine thR ?_ | refine ibR ?_)
  exact X_fin [] [] (by kernel_rfl) trivial
abbrev cmp_Compare_int_r (y : Int) : AV := .dat (Enc.e y)
abbrev cmp_Compare_int_n (y : Int) : List Obj' := []
abbrev cmp_Compare_int_o (x : Int × Int) (y : Int) : List Obj' := []
noncomputable def cmp_Compare_int_S : FnSpec := modS [.rd, .rd] (fun x : Int × Int => [Enc.e x.1, Enc.e x.2]) (fun x : Int × Int => []) (fun x : Int × Int => cmp_Compare_int x.1 x.2) cmp_Compare_int_r cmp_Compare_int_n cmp_Compare_int_o
theorem cmp_Compare_int_c {x : Int} {y_ : Int} {y : Int} (h : cmp_Compare_int x y_ = some y) : CallOK cmp_Compare_int_S [Enc.e x, Enc.e y_] [] (cmp_Compare_int_r y) (cmp_Compare_int_n y) (cmp_Compare_int_o (x, y_) y) :=
  modS_call (by
    rintro ⟨a0, a1⟩ ⟨b0, b1⟩ h hO
    have q0 : a0 = b0 := Enc.inj _ _ (congrArg (fun l => List.getD l 0 (.sc undef)) h)
    have q1 : a1 = b1 := Enc.inj _ _ (congrArg (fun l => List.getD l 1 (.sc undef)) h)
    subst q0; subst q1; rfl) (x := (x, y_)) h
theorem cmp_Compare_int_ok : FnOK Try.prog 178 cmp_Compare_int_S := by
  have Γok : ∀ f S, lookF f [(231, cmp_isNaN_int_S)] = some S → FnOK Try.prog f S := lookF_ok (allF_cons cmp_isNaN_int_ok allF_nil)
  have Γlive : Live (fun f => lookF f [(231, cmp_isNaN_int_S)]) := lookF_live (allL_cons modS_live allL_nil)
  refine fnOK_mod ty_ok (fun args w => Try.call178 args w) Try.func178 rfl [.tmp 4] (by rw [Try.results178]) 20 Try.ntmps178 16 rfl (fun _ => by first | exact Nat.zero_le _ | (simp)) ?_
  rintro ⟨x, y_⟩ y cx hm hL
  have hm : cmp_Compare_int x y_ = some y := hm
  have hL : cx.L = 0 := hL
  unfold cmp_Compare_int at hm
  refine X_reg_seq ty_ok Γok hL [] .nil (by kernel_rfl) ?_
  obtain ⟨r, h, hm⟩ := obind hm
  refine X_reg_seq ty_ok Γok hL [(1, .c (cmp_isNaN_int_r r) (cmp_isNaN_int_n r) (cmp_isNaN_int_o x r))] (.cons (cmp_isNaN_int_c h) .nil) (by kernel_rfl) ?_
  obtain ⟨r1, h1, hm⟩ := obind hm
  refine X_reg_seq ty_ok Γok hL [(1, .c (cmp_isNaN_int_r r1) (cmp_isNaN_int_n r1) (cmp_isNaN_int_o y_ r1))] (.cons (cmp_isNaN_int_c h1) .nil) (by kernel_rfl) ?_
  refine Ok_seq ?_
  refine X_reg_seq ty_ok Γok hL [] .nil (by kernel_rfl) ?_
  refine X_cond r (by kernel_rfl) (fun hc => ?_) (fun hc => ?_)
  · have hm := it hc hm
    refine Ok_seq ?_
    refine X_reg_seq ty_ok Γok hL [] .nil (by kernel_rfl) ?_
    refine X_cond r1 (by kernel_rfl) (fun hc1 => ?_) (fun hc1 => ?_)
    · have hm := it hc1 hm
      refine X_reg_seq ty_ok Γok hL [] .nil (by kernel_rfl) ?_
      obtain rfl := some_inj hm
      refine Ok_ret ?_
      repeat (first | refine thR ?_ | refine ibR ?_)
      exact X_fin [] [] (by kernel_rfl) trivial
    · have hm := ie hc1 hm
      refine X_skip ?_
      refine thN ?_
      refine X_reg_seq ty_ok Γok hL [] .nil (by kernel_rfl) ?_
      obtain rfl := some_inj hm
      refine Ok_ret ?_
      repeat (first | refine thR ?_ | refine ibR ?_)
      exact X_fin [] [] (by kernel_rfl) trivial
  · have hm := ie hc hm
    refine X_skip ?_
    refine thN ?_
    refine Ok_seq ?_
    refine X_reg_seq ty_ok Γok hL [] .nil (by kernel_rfl) ?_
    refine X_cond r1 (by kernel_rfl) (fun hc2 => ?_) (fun hc2 => ?_)
    · have hm := it hc2 hm
      refine X_reg_seq ty_ok Γok hL [] .nil (by kernel_rfl) ?_
      obtain rfl := some_inj hm
      refine Ok_ret ?_
      repeat (first | refine thR ?_ | refine ibR ?_)
      exact X_fin [] [] (by kernel_rfl) trivial
    · have hm := ie hc2 hm
      refine X_skip ?_
      refine thN ?_
      refine Ok_seq ?_
      refine X_reg_seq ty_ok Γok hL [] .nil (by kernel_rfl) ?_
      refine X_cond (decide (x < y_)) (by kernel_rfl) (fun hc3 => ?_) (fun hc3 => ?_)
      · have hm := it hc3 hm
        refine X_reg_seq ty_ok Γok hL [] .nil (by kernel_rfl) ?_
        obtain rfl := some_inj hm
        refine Ok_ret ?_
        repeat (first | refine thR ?_ | refine ibR ?_)
        exact X_fin [] [] (by kernel_rfl) trivial
      · have hm := ie hc3 hm
        refine X_skip ?_
        refine thN ?_
        refine Ok_seq ?_
        refine X_reg_seq ty_ok Γok hL [] .nil (by kernel_rfl) ?_
        refine X_cond (decide (y_ < x)) (by kernel_rfl) (fun hc4 => ?_) (fun hc4 => ?_)
        · have hm := it hc4 hm
          refine X_reg_seq ty_ok Γok hL [] .nil (by kernel_rfl) ?_
          obtain rfl := some_inj hm
          refine Ok_ret ?_
          repeat (first | refine thR ?_ | refine ibR ?_)
          exact X_fin [] [] (by kernel_rfl) trivial
        · have hm := ie hc4 hm
          refine X_skip ?_
          refine thN ?_
          refine X_reg_seq ty_ok Γok hL [] .nil (by kernel_rfl) ?_
          obtain rfl := some_inj hm
          refine Ok_ret ?_
          repeat (first | refine thR ?_ | refine ibR ?_)
          exact X_fin [] [] (by kernel_rfl) trivial
abbrev i_mergeSpans_1_r (y : Int) : AV := .dat (Enc.e y)
abbrev i_mergeSpans_1_n (y : Int) : List Obj' := []
abbrev i_mergeSpans_1_o (x : Span × Span) (y : Int) : List Obj' := []
noncomputable def i_mergeSpans_1_S : FnSpec := modS [.rd, .rd] (fun x : Span × Span => [Enc.e x.1, Enc.e x.2]) (fun x : Span × Span => []) (fun x : Span × Span => i_mergeSpans_1 x.1 x.2) i_mergeSpans_1_r i_mergeSpans_1_n i_mergeSpans_1_o
theorem i_mergeSpans_1_c {a : Span} {b : Span} {y : Int} (h : i_mergeSpans_1 a b = some y) : CallOK i_mergeSpans_1_S [Enc.e a, Enc.e b] [] (i_mergeSpans_1_r y) (i_mergeSpans_1_n y) (i_mergeSpans_1_o (a, b) y) :=
  modS_call (by
    rintro ⟨a0, a1⟩ ⟨b0, b1⟩ h hO
    have q0 : a0 = b0 := Enc.inj _ _ (congrArg (fun l => List.getD l 0 (.sc undef)) h)
    have q1 : a1 = b1 := Enc.inj _ _ (congrArg (fun l => List.getD l 1 (.sc undef)) h)
    subst q0; subst q1; rfl) (x := (a, b)) h
theorem i_mergeSpans_1_ok : FnOK Try.prog 203 i_mergeSpans_1_S := by
  have Γok : ∀ f S, lookF f [(178, cmp_Compare_int_S)] = some S → FnOK Try.prog f S := lookF_ok (allF_cons cmp_Compare_int_ok allF_nil)
  have Γlive : Live (fun f => lookF f [(178, cmp_Compare_int_S)]) := lookF_live (allL_cons modS_live allL_nil)
  refine fnOK_mod ty_ok (fun args w => Try.call203 args w) Try.func203 rfl [.tmp 4] (by rw [Try.results203]) 10 Try.ntmps203 16 rfl (fun _ => by first | exact Nat.zero_le _ | (simp)) ?_
  rintro ⟨a, b⟩ y cx hm hL
  have hm : i_mergeSpans_1 a b = some y := hm
  have hL : cx.L = 0 := hL
  unfold i_mergeSpans_1 at hm
  refine X_reg_seq ty_ok Γok hL [] .nil (by kernel_rfl) ?_
  obtain ⟨r, h, hm⟩ := obind hm
  refine X_reg_seq ty_ok Γok hL [(4, .c (cmp_Compare_int_r r) (cmp_Compare_int_n r) (cmp_Compare_int_o (a.From, b.From) r))] (.cons (cmp_Compare_int_c h) .nil) (by kernel_rfl) ?_
  obtain rfl := some_inj hm
  refine Ok_ret ?_
  repeat (first | refine thR ?_ | refine ibR ?_)
  exact X_fin [] [] (by kernel_rfl) trivial
abbrev math_bits_Len64_r (y : Int) : AV := .dat (Enc.e y)
abbrev math_bits_Len64_n (y : Int) : List Obj' := []
abbrev math_bits_Len64_o (x : (IK .u64)) (y : Int) : List Obj' := []
noncomputable def math_bits_Len64_S : FnSpec := modS [.rd] (fun x : (IK .u64) => [Enc.e x]) (fun x : (IK .u64) => []) (fun x : (IK .u64) => math_bits_Len64 x) math_bits_Len64_r math_bits_Len64_n math_bits_Len64_o
theorem math_bits_Len64_c {x : IK .u64} {y : Int} (h : math_bits_Len64 x = some y) : CallOK math_bits_Len64_S [Enc.e x] [] (math_bits_Len64_r y) (math_bits_Len64_n y) (math_bits_Len64_o x y) :=
  modS_call (by
    rintro a0 b0 h hO
    have q0 : a0 = b0 := Enc.inj _ _ (congrArg (fun l => List.getD l 0 (.sc undef)) h)
    subst q0; rfl) (x := x) h
theorem math_bits_Len64_ok : FnOK Try.prog 259 math_bits_Len64_S := by
  have Γok : ∀ f S, lookF f [] = some S → FnOK Try.prog f S := lookF_ok allF_nil
  have Γlive : Live (fun f => lookF f []) := lookF_live allL_nil
  refine fnOK_mod ty_ok (fun args w => Try.call259 args w) Try.func259 rfl [.tmp 2] (by rw [Try.results259]) 25 Try.ntmps259 16 rfl (fun _ => by first | exact Nat.zero_le _ | (simp)) ?_
  rintro x y cx hm hL
  have hm : math_bits_Len64 x = some y := hm
  have hL : cx.L = 0 := hL
  unfold math_bits_Len64 at hm
  refine X_reg_seq ty_ok Γok hL [] .nil (by kernel_rfl) ?_
  obtain ⟨vv2, hv, hk⟩ := obind hm
  refine X_join (n := 25) (fun ((x1, v) : Int × Int) => (⟨[(0, .dat (.sc (.int .u64 x1))), (2, .dat (.sc (.int .i64 v)))], [], 32⟩ : X)) vv2 ?_ ?_
  · have hm := hv
    refine X_reg_seq ty_ok Γok hL [] .nil (by kernel_rfl) ?_
    refine X_cond (decide (4294967296 ≤ x.v)) (by kernel_rfl) (fun hc => ?_) (fun hc => ?_)
    · have hm := it hc hm
      obtain ⟨u, h, hm⟩ := obind hm
      refine X_reg_seq ty_ok Γok hL [] (.cons (chk_t h) .nil) (by kernel_rfl) ?_
      refine X_reg ty_ok Γok hL [] .nil (by kernel_rfl) ?_
      obtain rfl := some_inj hm
      exact thN (Wk_J hL ⟨[(0, []), (2, [])], [], [], 32⟩ (by kernel_rfl))
    · have hm := ie hc hm
      refine X_skip ?_
      obtain rfl := some_inj hm
      exact thN (Wk_J hL ⟨[(0, []), (2, [])], [], [], 32⟩ (by kernel_rfl))
  obtain ⟨x1, v⟩ := vv2
  have hm := hk
  obtain ⟨vv1, hv1, hk1⟩ := obind hm
  refine X_join (n := 25) (fun ((x2, v1) : Int × Int) => (⟨[(0, .dat (.sc (.int .u64 x2))), (2, .dat (.sc (.int .i64 v1)))], [], 32⟩ : X)) vv1 ?_ ?_
  · have hm := hv1
    refine X_reg_seq ty_ok Γok hL [] .nil (by kernel_rfl) ?_
    refine X_cond (decide (65536 ≤ x1)) (by kernel_rfl) (fun hc1 => ?_) (fun hc1 => ?_)
    · have hm := it hc1 hm
      obtain ⟨u1, h1, hm⟩ := obind hm
      refine X_reg_seq ty_ok Γok hL [] (.cons (chk_t h1) .nil) (by kernel_rfl) ?_
      refine X_reg ty_ok Γok hL [] .nil (by kernel_rfl) ?_
      obtain rfl := some_inj hm
      exact thN (Wk_J hL ⟨[(0, []), (2, [])], [], [], 32⟩ (by kernel_rfl))
    · have hm := ie hc1 hm
      refine X_skip ?_
      obtain rfl := some_inj hm
      exact thN (Wk_J hL ⟨[(0, []), (2, [])], [], [], 32⟩ (by kernel_rfl))
  obtain ⟨x2, v1⟩ := vv1
  have hm := hk1
  obtain ⟨vv, hv2, hk2⟩ := obind hm
  refine X_join (n := 25) (fun ((x3, v2) : Int × Int) => (⟨[(0, .dat (.sc (.int .u64 x3))), (2, .dat (.sc (.int .i64 v2)))], [], 32⟩ : X)) vv ?_ ?_
  · have hm := hv2
    refine X_reg_seq ty_ok Γok hL [] .nil (by kernel_rfl) ?_
    refine X_cond (decide (256 ≤ x2)) (by kernel_rfl) (fun hc2 => ?_) (fun hc2 => ?_)
    · have hm := it hc2 hm
      obtain ⟨u2, h2, hm⟩ := obind hm
      refine X_reg_seq ty_ok Γok hL [] (.cons (chk_t h2) .nil) (by kernel_rfl) ?_
      refine X_reg ty_ok Γok hL [] .nil (by kernel_rfl) ?_
      obtain rfl := some_inj hm
      exact thN (Wk_J hL ⟨[(0, []), (2, [])], [], [], 32⟩ (by kernel_rfl))
    · have hm := ie hc2 hm
      refine X_skip ?_
      obtain rfl := some_inj hm
      exact thN (Wk_J hL ⟨[(0, []), (2, [])], [], [], 32⟩ (by kernel_rfl))
  obtain ⟨x3, v2⟩ := vv
  have hm := hk2
  obtain ⟨u3, h3, hm⟩ := obind hm
  refine X_reg_seq ty_ok Γok hL [] (.cons (chk_t h3) .nil) (by kernel_rfl) ?_
  obtain rfl := some_inj hm
  refine Ok_ret ?_
  repeat (first | refine thR ?_ | refine ibR ?_)
  exact X_fin [] [] (by kernel_rfl) trivial
abbrev math_bits_Len_r (y : Int) : AV := .dat (Enc.e y)
abbrev math_bits_Len_n (y : Int) : List Obj' := []
abbrev math_bits_Len_o (x : (IK .u64)) (y : Int) : List Obj' := []
noncomputable def math_bits_Len_S : FnSpec := modS [.rd] (fun x : (IK .u64) => [Enc.e x]) (fun x : (IK .u64) => []) (fun x : (IK .u64) => math_bits_Len x) math_bits_Len_r math_bits_Len_n math_bits_Len_o
theorem math_bits_Len_c {x : IK .u64} {y : Int} (h : math_bits_Len x = some y) : CallOK math_bits_Len_S [Enc.e x] [] (math_bits_Len_r y) (math_bits_Len_n y) (math_bits_Len_o x y) :=
  modS_call (by
    rintro a0 b0 h hO
    have q0 : a0 = b0 := Enc.inj _ _ (congrArg (fun l => List.getD l 0 (.sc undef)) h)
    subst q0; rfl) (x := x) h
theorem math_bits_Len_ok : FnOK Try.prog 229 math_bits_Len_S := by
  have Γok : ∀ f S, lookF f [(259, math_bits_Len64_S)] = some S → FnOK Try.prog f S := lookF_ok (allF_cons math_bits_Len64_ok allF_nil)
  have Γlive : Live (fun f => lookF f [(259, math_bits_Len64_S)]) := lookF_live (allL_cons modS_live allL_nil)
  refine fnOK_mod ty_ok (fun args w => Try.call229 args w) Try.func229 rfl [.tmp 2] (by rw [Try.results229]) 8 Try.ntmps229 16 rfl (fun _ => by first | exact Nat.zero_le _ | (simp)) ?_
  rintro x y cx hm hL
  have hm : math_bits_Len x = some y := hm
  have hL : cx.L = 0 := hL
  unfold math_bits_Len at hm
  refine X_reg_seq ty_ok Γok hL [] .nil (by kernel_rfl) ?_
  refine Ok_seq ?_
  refine X_cond false (by kernel_rfl) (fun hc => by cases hc) (fun _ => ?_)
  refine X_skip ?_
  refine thN ?_
  obtain ⟨r, h, hm⟩ := obind hm
  refine X_reg_seq ty_ok Γok hL [(1, .c (math_bits_Len64_r r) (math_bits_Len64_n r) (math_bits_Len64_o x r))] (.cons (math_bits_Len64_c h) .nil) (by kernel_rfl) ?_
  obtain rfl := some_inj hm
  refine Ok_ret ?_
  repeat (first | refine thR ?_ | refine ibR ?_)
  exact X_fin [] [] (by kernel_rfl) trivial
abbrev slices_insertionSortCmpFunc_Span_w__i_mergeSpans_1_r (y : (List Span)) : AV := .tup []
abbrev slices_insertionSortCmpFunc_Span_w__i_mergeSpans_1_n (y : (List Span)) : List Obj' := []
abbrev slices_insertionSortCmpFunc_Span_w__i_mergeSpans_1_o (x : (List Span) × Int × Int) (y : (List Span)) : List Obj' := [.arr 49 2 (List.map Enc.e y)]
noncomputable def slices_insertionSortCmpFunc_Span_w__i_mergeSpans_1_S : FnSpec := modS [.sl, .rd, .rd, .fn 203 []] (fun x : (List Span) × Int × Int => [.sc undef, Enc.e x.2.1, Enc.e x.2.2, .agg []]) (fun x : (List Span) × Int × Int => [.arr 49 2 (List.map Enc.e x.1)]) (fun x : (List Span) × Int × Int => slices_insertionSortCmpFunc_Span_w__i_mergeSpans_1 x.1 x.2.1 x.2.2) slices_insertionSortCmpFunc_Span_w__i_mergeSpans_1_r slices_insertionSortCmpFunc_Span_w__i_mergeSpans_1_n slices_insertionSortCmpFunc_Span_w__i_mergeSpans_1_o
theorem slices_insertionSortCmpFunc_Span_w__i_mergeSpans_1_c {data : List Span} {a : Int} {b : Int} {y : (List Span)} (h : slices_insertionSortCmpFunc_Span_w__i_mergeSpans_1 data a b = some y) : CallOK slices_insertionSortCmpFunc_Span_w__i_mergeSpans_1_S [.sc undef, Enc.e a, Enc.e b, .agg []] [.arr 49 2 (List.map Enc.e data)] (slices_insertionSortCmpFunc_Span_w__i_mergeSpans_1_r y) (slices_insertionSortCmpFunc_Span_w__i_mergeSpans_1_n y) (slices_insertionSortCmpFunc_Span_w__i_mergeSpans_1_o (data, a, b) y) :=
  modS_call (by
    rintro ⟨a0, a1, a2⟩ ⟨b0, b1, b2⟩ h hO
    have q0 : a0 = b0 := Enc.inj _ _ (congrArg (fun l => D.sl 2 (obL l 0)) hO)
    have q1 : a1 = b1 := Enc.inj _ _ (congrArg (fun l => List.getD l 1 (.sc undef)) h)
    have q2 : a2 = b2 := Enc.inj _ _ (congrArg (fun l => List.getD l 2 (.sc undef)) h)
    subst q0; subst q1; subst q2; rfl) (x := (data, a, b)) h
theorem slices_insertionSortCmpFunc_Span_w__i_mergeSpans_1_ok : FnOK Try.prog 260 slices_insertionSortCmpFunc_Span_w__i_mergeSpans_1_S := by
  have Γok : ∀ f S, lookF f [(203, i_mergeSpans_1_S)] = some S → FnOK Try.prog f S := lookF_ok (allF_cons i_mergeSpans_1_ok allF_nil)
  have Γlive : Live (fun f => lookF f [(203, i_mergeSpans_1_S)]) := lookF_live (allL_cons modS_live allL_nil)
  refine fnOK_mod ty_ok (fun args w => Try.call260 args w) Try.func260 rfl [] (by rw [Try.results260]) 53 Try.ntmps260 16 rfl (fun _ => by first | exact Nat.zero_le _ | (simp)) ?_
  rintro ⟨data, a, b⟩ y cx hm hL
  have hm : slices_insertionSortCmpFunc_Span_w__i_mergeSpans_1 data a b = some y := hm
  have hL : cx.L = 1 := hL
  obtain ⟨cmp, hf_cmp⟩ : ∃ q, (fun (z0 : Span) (z1 : Span) => i_mergeSpans_1 z0 z1) = q := ⟨_, rfl⟩
  have hm : slices_insertionSortCmpFunc_Span_w data a b cmp = some y := by rw [← hf_cmp]; exact hm
  unfold slices_insertionSortCmpFunc_Span_w at hm
  refine X_reg_seq ty_ok Γok hL [] .nil (by kernel_rfl) ?_
  refine Ok_block ?_
  refine X_loop (n := 53) (step := slices_insertionSortCmpFunc_Span_w_L2 a b cmp) (fun ((v, data1) : Int × (List Span)) => (⟨[(0, .own 0), (1, .dat (.sc (.int .i64 a))), (2, .dat (.sc (.int .i64 b))), (3, .fn 203 []), (8, .dat (.sc (.int .i64 v)))], [(0, some (.arr 49 2 (List.map Enc.e data1)))], 48⟩ : X)) hm (Wk_J hL ⟨[(0, []), (1, []), (2, []), (3, []), (8, [])], [(0, 0, [])], [], 48⟩ (by kernel_rfl)) ?_
  rintro ⟨v, data1⟩ r0 hm hb
  rw [slices_insertionSortCmpFunc_Span_w_L2] at hm
  refine Ok_seq ?_
  refine X_reg_seq ty_ok Γok hL [] .nil (by kernel_rfl) ?_
  refine X_cond (decide (v < b)) (by kernel_rfl) (fun hc => ?_) (fun hc => ?_)
  · have hm := it hc hm
    refine X_skip ?_
    refine thN ?_
    refine Ok_seq ?_
    refine Ok_block ?_
    refine X_reg_seq ty_ok Γok hL [] .nil (by kernel_rfl) ?_
    obtain ⟨data3, hv1, hk1⟩ := obind hm
    refine X_tail (n := 53) (fun (data3 : List Span) => (⟨[(0, .own 0), (1, .dat (.sc (.int .i64 a))), (2, .dat (.sc (.int .i64 b))), (3, .fn 203 []), (8, .dat (.sc (.int .i64 v)))], [(0, some (.arr 49 2 (List.map Enc.e data3)))], 48⟩ : X)) data3 ?_ ?_
    · have hm := hv1
      refine Ok_block ?_
      refine X_loop (n := 53) (step := slices_insertionSortCmpFunc_Span_w_L1 a cmp) (fun ((v1, data2) : Int × (List Span)) => (⟨[(0, .own 0), (1, .dat (.sc (.int .i64 a))), (2, .dat (.sc (.int .i64 b))), (3, .fn 203 []), (8, .dat (.sc (.int .i64 v))), (9, .dat (.sc (.int .i64 v1)))], [(0, some (.arr 49 2 (List.map Enc.e data2)))], 48⟩ : X)) hm (Wk_J hL ⟨[(0, []), (1, []), (2, []), (3, []), (8, []), (9, [])], [(0, 0, [])], [], 48⟩ (by kernel_rfl)) ?_
      rintro ⟨v1, data2⟩ r0 hm hb1
      rw [slices_insertionSortCmpFunc_Span_w_L1] at hm
      refine Ok_seq ?_
      obtain ⟨v2, hv, hk⟩ := obind hm
      refine X_join (n := 53) (fun (v2 : Bool) => (⟨[(0, .own 0), (1, .dat (.sc (.int .i64 a))), (2, .dat (.sc (.int .i64 b))), (3, .fn 203 []), (8, .dat (.sc (.int .i64 v))), (9, .dat (.sc (.int .i64 v1))), (34, .dat (.sc (.bool v2)))], [(0, some (.arr 49 2 (List.map Enc.e data2)))], 48⟩ : X)) v2 ?_ ?_
      · have hm := hv
        rcases btf (decide (a < v1)) with hb2 | hb2
        · have hm := it hb2 hm
          obtain ⟨e2, h3, hm⟩ := obind hm
          obtain ⟨e3, h4, hm⟩ := obind hm
          obtain ⟨r1, h5, hm⟩ := obind hm
          have h5 : i_mergeSpans_1 e2 e3 = some r1 := by rw [← hf_cmp] at h5; exact h5
          obtain rfl := some_inj hm
          refine X_draw mixed ty_ok Γok Γlive [(14, [])] (by kernel_rfl) [(3, .b true), (7, .d (Enc.e e2)), (8, .d (Enc.e e2)), (12, .d (Enc.e e3)), (13, .d (Enc.e e3)), (14, .c (i_mergeSpans_1_r r1) (i_mergeSpans_1_n r1) (i_mergeSpans_1_o (e2, e3) r1))] (.cons hb2 (.cons (idx_m (f := Enc.e) h3) (.cons (idx_m2 (f := Enc.e) h3) (.cons (idx_m (f := Enc.e) h4) (.cons (idx_m2 (f := Enc.e) h4) (.cons (i_mergeSpans_1_c h5) .nil)))))) (by kernel_rfl) ?_
          exact thN (Wk_J hL ⟨[(0, []), (1, []), (2, []), (3, []), (8, []), (9, []), (34, [])], [(0, 0, [])], [], 48⟩ (by kernel_rfl))
        · have hm := ie hb2 hm
          obtain rfl := some_inj hm
          refine X_draw mixed ty_ok Γok Γlive [(14, [])] (by kernel_rfl) [(3, .b false)] (.cons hb2 .nil) (by kernel_rfl) ?_
          exact thN (Wk_J hL ⟨[(0, []), (1, []), (2, []), (3, []), (8, []), (9, []), (34, [])], [(0, 0, [])], [], 48⟩ (by kernel_rfl))
      have hm := hk
      refine X_cond v2 (by kernel_rfl) (fun hc1 => ?_) (fun hc1 => ?_)
      · have hm := it hc1 hm
        refine X_skip ?_
        refine thN ?_
        refine Ok_seq ?_
        refine Ok_block ?_
        obtain ⟨e8, h10, hm⟩ := obind hm
        obtain ⟨e9, h11, hm⟩ := obind hm
        obtain ⟨e10, h12, hm⟩ := obind hm
        obtain ⟨e11, h13, hm⟩ := obind hm
        refine X_draw mixed ty_ok Γok Γlive [(15, [0]), (17, [0])] (by kernel_rfl) [(8, .d (Enc.e e8)), (9, .d (Enc.e e8)), (12, .d (Enc.e e9)), (13, .d (Enc.e e9)), (14, .d (Enc.e e10)), (15, .sd (Enc.e e10) (List.map Enc.e (data2.set v1.toNat e8))), (16, .d (Enc.e e11)), (17, .sd (Enc.e e11) (List.map Enc.e ((data2.set v1.toNat e8).set (w64 (v1 - 1)).toNat e9)))] (.cons (idx_m (f := Enc.e) h10) (.cons (idx_m2 (f := Enc.e) h10) (.cons (idx_m (f := Enc.e) h11) (.cons (idx_m2 (f := Enc.e) h11) (.cons (idx_m (f := Enc.e) h12) (.cons (idx_m2 (f := Enc.e) h12) (.cons (set_m Enc.e data2 v1.toNat e8) (.cons (idx_m (f := Enc.e) h13) (.cons (idx_m2 (f := Enc.e) h13) (.cons (set_m Enc.e (data2.set v1.toNat e8) (w64 (v1 - 1)).toNat e9) .nil)))))))))) (by kernel_rfl) ?_
        refine ibN ?_
        refine thN ?_
        refine X_reg ty_ok Γok hL [] .nil (by kernel_rfl) ?_
        obtain rfl := some_inj hm
        exact thN ⟨_, rfl, Wk_J hL ⟨[(0, []), (1, []), (2, []), (3, []), (8, []), (9, [])], [(0, 0, [])], [], 48⟩ (by kernel_rfl)⟩
      · have hm := ie hc1 hm
        obtain rfl := some_inj hm
        obtain rfl := hb1 _ rfl
        refine Ok_exit ?_
        refine thE ?_
        refine thE ?_
        refine ibE ?_
        exact thN (Wk_J hL ⟨[(0, []), (1, []), (2, []), (3, []), (8, [])], [(0, 0, [])], [], 48⟩ (by kernel_rfl))
    intro s hw
    have hm := hk1
    refine ibN ?_
    refine thN ?_
    refine Ok_weak hw ?_
    refine X_reg ty_ok Γok hL [] .nil (by kernel_rfl) ?_
    obtain rfl := some_inj hm
    exact thN ⟨_, rfl, Wk_J hL ⟨[(0, []), (1, []), (2, []), (3, []), (8, [])], [(0, 0, [])], [], 48⟩ (by kernel_rfl)⟩
  · have hm := ie hc hm
    obtain rfl := some_inj hm
    have hm := congrArg some (hb _ rfl)
    refine Ok_exit ?_
    refine thE ?_
    refine thE ?_
    refine ibE ?_
    obtain rfl := some_inj hm
    exact X_fin [] [] (by kernel_rfl) trivial
abbrev slices_siftDownCmpFunc_Span_w__i_mergeSpans_1_r (y : (List Span)) : AV := .tup []
abbrev slices_siftDownCmpFunc_Span_w__i_mergeSpans_1_n (y : (List Span)) : List Obj' := []
abbrev slices_siftDownCmpFunc_Span_w__i_mergeSpans_1_o (x : (List Span) × Int × Int × Int) (y : (List Span)) : List Obj' := [.arr 49 2 (List.map Enc.e y)]
noncomputable def slices_siftDownCmpFunc_Span_w__i_mergeSpans_1_S : FnSpec := modS [.sl, .rd, .rd, .rd, .fn 203 []] (fun x : (List Span) × Int × Int × Int => [.sc undef, Enc.e x.2.1, Enc.e x.2.2.1, Enc.e x.2.2.2, .agg []]) (fun x : (List Span) × Int × Int × Int => [.arr 49 2 (List.map Enc.e x.1)]) (fun x : (List Span) × Int × Int × Int => slices_siftDownCmpFunc_Span_w__i_mergeSpans_1 x.1 x.2.1 x.2.2.1 x.2.2.2) slices_siftDownCmpFunc_Span_w__i_mergeSpans_1_r slices_siftDownCmpFunc_Span_w__i_mergeSpans_1_n slices_siftDownCmpFunc_Span_w__i_mergeSpans_1_o
theorem slices_siftDownCmpFunc_Span_w__i_mergeSpans_1_c {data : List Span} {lo : Int} {hi : Int} {first : Int} {y : (List Span)} (h : slices_siftDownCmpFunc_Span_w__i_mergeSpans_1 data lo hi first = some y) : CallOK slices_siftDownCmpFunc_Span_w__i_mergeSpans_1_S [.sc undef, Enc.e lo, Enc.e hi, Enc.e first, .agg []] [.arr 49 2 (List.map Enc.e data)] (slices_siftDownCmpFunc_Span_w__i_mergeSpans_1_r y) (slices_siftDownCmpFunc_Span_w__i_mergeSpans_1_n y) (slices_siftDownCmpFunc_Span_w__i_mergeSpans_1_o (data, lo, hi, first) y) :=
  modS_call (by
    rintro ⟨a0, a1, a2, a3⟩ ⟨b0, b1, b2, b3⟩ h hO
    have q0 : a0 = b0 := Enc.inj _ _ (congrArg (fun l => D.sl 2 (obL l 0)) hO)
    have q1 : a1 = b1 := Enc.inj _ _ (congrArg (fun l => List.getD l 1 (.sc undef)) h)
    have q2 : a2 = b2 := Enc.inj _ _ (congrArg (fun l => List.getD l 2 (.sc undef)) h)
    have q3 : a3 = b3 := Enc.inj _ _ (congrArg (fun l => List.getD l 3 (.sc undef)) h)
    subst q0; subst q1; subst q2; subst q3; rfl) (x := (data, lo, hi, first)) h
theorem slices_siftDownCmpFunc_Span_w__i_mergeSpans_1_ok : FnOK Try.prog 281 slices_siftDownCmpFunc_Span_w__i_mergeSpans_1_S := by
  have Γok : ∀ f S, lookF f [(203, i_mergeSpans_1_S)] = some S → FnOK Try.prog f S := lookF_ok (allF_cons i_mergeSpans_1_ok allF_nil)
  have Γlive : Live (fun f => lookF f [(203, i_mergeSpans_1_S)]) := lookF_live (allL_cons modS_live allL_nil)
  refine fnOK_mod ty_ok (fun args w => Try.call281 args w) Try.func281 rfl [] (by rw [Try.results281]) 82 Try.ntmps281 16 rfl (fun _ => by first | exact Nat.zero_le _ | (simp)) ?_
  rintro ⟨data, lo, hi, first⟩ y cx hm hL
  have hm : slices_siftDownCmpFunc_Span_w__i_mergeSpans_1 data lo hi first = some y := hm
  have hL : cx.L = 1 := hL
  obtain ⟨cmp, hf_cmp⟩ : ∃ q, (fun (z0 : Span) (z1 : Span) => i_mergeSpans_1 z0 z1) = q := ⟨_, rfl⟩
  have hm : slices_siftDownCmpFunc_Span_w data lo hi first cmp = some y := by rw [← hf_cmp]; exact hm
  unfold slices_siftDownCmpFunc_Span_w at hm
  refine X_reg_seq ty_ok Γok hL [] .nil (by kernel_rfl) ?_
  refine Ok_block ?_
  refine X_loop (n := 82) (step := slices_siftDownCmpFunc_Span_w_L1 hi first cmp) (fun ((v, data1) : Int × (List Span)) => (⟨[(0, .own 0), (2, .dat (.sc (.int .i64 hi))), (3, .dat (.sc (.int .i64 first))), (4, .fn 203 []), (10, .dat (.sc (.int .i64 v)))], [(0, some (.arr 49 2 (List.map Enc.e data1)))], 48⟩ : X)) hm (Wk_J hL ⟨[(0, []), (2, []), (3, []), (4, []), (10, [])], [(0, 0, [])], [], 48⟩ (by kernel_rfl)) ?_
  rintro ⟨v, data1⟩ r0 hm hb
  rw [slices_siftDownCmpFunc_Span_w_L1] at hm
  refine Ok_block ?_
  refine X_reg_seq ty_ok Γok hL [] .nil (by kernel_rfl) ?_
  refine Ok_seq ?_
  refine X_reg_seq ty_ok Γok hL [] .nil (by kernel_rfl) ?_
  refine X_cond (decide (hi ≤ (w64 ((w64 (2 * v)) + 1)))) (by kernel_rfl) (fun hc => ?_) (fun hc => ?_)
  · have hm := it hc hm
    obtain rfl := some_inj hm
    have hm := congrArg some (hb _ rfl)
    refine Ok_exit ?_
    refine thE ?_
    refine ibX rfl ?_
    refine thE ?_
    refine ibE ?_
    obtain rfl := some_inj hm
    exact X_fin [] [] (by kernel_rfl) trivial
  · have hm := ie hc hm
    refine X_skip ?_
    refine thN ?_
    obtain ⟨v1, hv, hk⟩ := obind hm
    refine X_join (n := 82) (fun (v1 : Int) => (⟨[(0, .own 0), (2, .dat (.sc (.int .i64 hi))), (3, .dat (.sc (.int .i64 first))), (4, .fn 203 []), (10, .dat (.sc (.int .i64 v))), (11, .dat (.sc (.int .i64 v1)))], [(0, some (.arr 49 2 (List.map Enc.e data1)))], 48⟩ : X)) v1 ?_ ?_
    · have hm := hv
      obtain ⟨v2, hv1, hk1⟩ := obind hm
      refine X_join (n := 82) (fun (v2 : Bool) => (⟨[(0, .own 0), (2, .dat (.sc (.int .i64 hi))), (3, .dat (.sc (.int .i64 first))), (4, .fn 203 []), (10, .dat (.sc (.int .i64 v))), (11, .dat (.sc (.int .i64 (w64 ((w64 (2 * v)) + 1))))), (40, .dat (.sc (.bool v2)))], [(0, some (.arr 49 2 (List.map Enc.e data1)))], 48⟩ : X)) v2 ?_ ?_
      · have hm := hv1
        rcases btf (decide ((w64 ((w64 ((w64 (2 * v)) + 1)) + 1)) < hi)) with hb1 | hb1
        · have hm := it hb1 hm
          obtain ⟨e3, h3, hm⟩ := obind hm
          obtain ⟨e4, h4, hm⟩ := obind hm
          obtain ⟨r2, h5, hm⟩ := obind hm
          have h5 : i_mergeSpans_1 e3 e4 = some r2 := by rw [← hf_cmp] at h5; exact h5
          obtain rfl := some_inj hm
          refine X_draw mixed ty_ok Γok Γlive [(19, [])] (by kernel_rfl) [(4, .b true), (10, .d (Enc.e e3)), (11, .d (Enc.e e3)), (17, .d (Enc.e e4)), (18, .d (Enc.e e4)), (19, .c (i_mergeSpans_1_r r2) (i_mergeSpans_1_n r2) (i_mergeSpans_1_o (e3, e4) r2))] (.cons hb1 (.cons (idx_m (f := Enc.e) h3) (.cons (idx_m2 (f := Enc.e) h3) (.cons (idx_m (f := Enc.e) h4) (.cons (idx_m2 (f := Enc.e) h4) (.cons (i_mergeSpans_1_c h5) .nil)))))) (by kernel_rfl) ?_
          exact thN (Wk_J hL ⟨[(0, []), (2, []), (3, []), (4, []), (10, []), (11, []), (40, [])], [(0, 0, [])], [], 48⟩ (by kernel_rfl))
        · have hm := ie hb1 hm
          obtain rfl := some_inj hm
          refine X_draw mixed ty_ok Γok Γlive [(19, [])] (by kernel_rfl) [(4, .b false)] (.cons hb1 .nil) (by kernel_rfl) ?_
          exact thN (Wk_J hL ⟨[(0, []), (2, []), (3, []), (4, []), (10, []), (11, []), (40, [])], [(0, 0, [])], [], 48⟩ (by kernel_rfl))
      have hm := hk1
      refine X_cond v2 (by kernel_rfl) (fun hc1 => ?_) (fun hc1 => ?_)
      · have hm := it hc1 hm
        refine X_reg ty_ok Γok hL [] .nil (by kernel_rfl) ?_
        obtain rfl := some_inj hm
        exact thN (Wk_J hL ⟨[(0, []), (2, []), (3, []), (4, []), (10, []), (11, [])], [(0, 0, [])], [], 48⟩ (by kernel_rfl))
      · have hm := ie hc1 hm
        refine X_skip ?_
        obtain rfl := some_inj hm
        exact thN (Wk_J hL ⟨[(0, []), (2, []), (3, []), (4, []), (10, []), (11, [])], [(0, 0, [])], [], 48⟩ (by kernel_rfl))
    have hm := hk
    refine Ok_seq ?_
    obtain ⟨e7, h9, hm⟩ := obind hm
    obtain ⟨e8, h10, hm⟩ := obind hm
    obtain ⟨r4, h11, hm⟩ := obind hm
    have h11 : i_mergeSpans_1 e7 e8 = some r4 := by rw [← hf_cmp] at h11; exact h11
    refine X_draw_seq mixed ty_ok Γok Γlive [(13, [])] (by kernel_rfl) [(5, .d (Enc.e e7)), (6, .d (Enc.e e7)), (11, .d (Enc.e e8)), (12, .d (Enc.e e8)), (13, .c (i_mergeSpans_1_r r4) (i_mergeSpans_1_n r4) (i_mergeSpans_1_o (e7, e8) r4))] (.cons (idx_m (f := Enc.e) h9) (.cons (idx_m2 (f := Enc.e) h9) (.cons (idx_m (f := Enc.e) h10) (.cons (idx_m2 (f := Enc.e) h10) (.cons (i_mergeSpans_1_c h11) .nil))))) (by kernel_rfl) ?_
    refine X_cond (!(decide (r4 < 0))) (by kernel_rfl) (fun hc2 => ?_) (fun hc2 => ?_)
    · have hm := it hc2 hm
      obtain rfl := some_inj hm
      have hm := congrArg some (hb _ rfl)
      obtain rfl := some_inj hm
      refine Ok_ret ?_
      repeat (first | refine thR ?_ | refine ibR ?_)
      exact X_fin [] [] (by kernel_rfl) trivial
    · have hm := ie hc2 hm
      refine X_skip ?_
      refine thN ?_
      obtain ⟨e14, h16, hm⟩ := obind hm
      obtain ⟨e15, h17, hm⟩ := obind hm
      obtain ⟨e16, h18, hm⟩ := obind hm
      obtain ⟨e17, h19, hm⟩ := obind hm
      refine X_draw_seq mixed ty_ok Γok Γlive [(21, [0]), (23, [0])] (by kernel_rfl) [(12, .d (Enc.e e14)), (13, .d (Enc.e e14)), (18, .d (Enc.e e15)), (19, .d (Enc.e e15)), (20, .d (Enc.e e16)), (21, .sd (Enc.e e16) (List.map Enc.e (data1.set (w64 (first + v)).toNat e14))), (22, .d (Enc.e e17)), (23, .sd (Enc.e e17) (List.map Enc.e ((data1.set (w64 (first + v)).toNat e14).set (w64 (first + v1)).toNat e15)))] (.cons (idx_m (f := Enc.e) h16) (.cons (idx_m2 (f := Enc.e) h16) (.cons (idx_m (f := Enc.e) h17) (.cons (idx_m2 (f := Enc.e) h17) (.cons (idx_m (f := Enc.e) h18) (.cons (idx_m2 (f := Enc.e) h18) (.cons (set_m Enc.e data1 (w64 (first + v)).toNat e14) (.cons (idx_m (f := Enc.e) h19) (.cons (idx_m2 (f := Enc.e) h19) (.cons (set_m Enc.e (data1.set (w64 (first + v)).toNat e14) (w64 (first + v1)).toNat e15) .nil)))))))))) (by kernel_rfl) ?_
      refine X_reg ty_ok Γok hL [] .nil (by kernel_rfl) ?_
      refine ibN ?_
      obtain rfl := some_inj hm
      exact thN ⟨_, rfl, Wk_J hL ⟨[(0, []), (2, []), (3, []), (4, []), (10, [])], [(0, 0, [])], [], 48⟩ (by kernel_rfl)⟩
abbrev slices_heapSortCmpFunc_Span_w__i_mergeSpans_1_r (y : (List Span)) : AV := .tup []
abbrev slices_heapSortCmpFunc_Span_w__i_mergeSpans_1_n (y : (List Span)) : List Obj' := []
abbrev slices_heapSortCmpFunc_Span_w__i_mergeSpans_1_o (x : (List Span) × Int × Int) (y : (List Span)) : List Obj' := [.arr 49 2 (List.map Enc.e y)]
noncomputable def slices_heapSortCmpFunc_Span_w__i_mergeSpans_1_S : FnSpec := modS [.sl, .rd, .rd, .fn 203 []] (fun x : (List Span) × Int × Int => [.sc undef, Enc.e x.2.1, Enc.e x.2.2, .agg []]) (fun x : (List Span) × Int × Int => [.arr 49 2 (List.map Enc.e x.1)]) (fun x : (List Span) × Int × Int => slices_heapSortCmpFunc_Span_w__i_mergeSpans_1 x.1 x.2.1 x.2.2) slices_heapSortCmpFunc_Span_w__i_mergeSpans_1_r slices_heapSortCmpFunc_Span_w__i_mergeSpans_1_n slices_heapSortCmpFunc_Span_w__i_mergeSpans_1_o
theorem slices_heapSortCmpFunc_Span_w__i_mergeSpans_1_c {data : List Span} {a : Int} {b : Int} {y : (List Span)} (h : slices_heapSortCmpFunc_Span_w__i_mergeSpans_1 data a b = some y) : CallOK slices_heapSortCmpFunc_Span_w__i_mergeSpans_1_S [.sc undef, Enc.e a, Enc.e b, .agg []] [.arr 49 2 (List.map Enc.e data)] (slices_heapSortCmpFunc_Span_w__i_mergeSpans_1_r y) (slices_heapSortCmpFunc_Span_w__i_mergeSpans_1_n y) (slices_heapSortCmpFunc_Span_w__i_mergeSpans_1_o (data, a, b) y) :=
  modS_call (by
    rintro ⟨a0, a1, a2⟩ ⟨b0, b1, b2⟩ h hO
    have q0 : a0 = b0 := Enc.inj _ _ (congrArg (fun l => D.sl 2 (obL l 0)) hO)
    have q1 : a1 = b1 := Enc.inj _ _ (congrArg (fun l => List.getD l 1 (.sc undef)) h)
    have q2 : a2 = b2 := Enc.inj _ _ (congrArg (fun l => List.getD l 2 (.sc undef)) h)
    subst q0; subst q1; subst q2; rfl) (x := (data, a, b)) h
theorem slices_heapSortCmpFunc_Span_w__i_mergeSpans_1_ok : FnOK Try.prog 261 slices_heapSortCmpFunc_Span_w__i_mergeSpans_1_S := by
  have Γok : ∀ f S, lookF f [(281, slices_siftDownCmpFunc_Span_w__i_mergeSpans_1_S)] = some S → FnOK Try.prog f S := lookF_ok (allF_cons slices_siftDownCmpFunc_Span_w__i_mergeSpans_1_ok allF_nil)
  have Γlive : Live (fun f => lookF f [(281, slices_siftDownCmpFunc_Span_w__i_mergeSpans_1_S)]) := lookF_live (allL_cons modS_live allL_nil)
  refine fnOK_mod ty_ok (fun args w => Try.call261 args w) Try.func261 rfl [] (by rw [Try.results261]) 60 Try.ntmps261 16 rfl (fun _ => by first | exact Nat.zero_le _ | (simp)) ?_
  rintro ⟨data, a, b⟩ y cx hm hL
  have hm : slices_heapSortCmpFunc_Span_w__i_mergeSpans_1 data a b = some y := hm
  have hL : cx.L = 1 := hL
  obtain ⟨cmp, hf_cmp⟩ : ∃ q, (fun (z0 : Span) (z1 : Span) => i_mergeSpans_1 z0 z1) = q := ⟨_, rfl⟩
  have hm : slices_heapSortCmpFunc_Span_w data a b cmp = some y := by rw [← hf_cmp]; exact hm
  unfold slices_heapSortCmpFunc_Span_w at hm
  refine X_reg_seq ty_ok Γok hL [] .nil (by kernel_rfl) ?_
  refine X_reg_seq ty_ok Γok hL [] .nil (by kernel_rfl) ?_
  refine X_reg_seq ty_ok Γok hL [] .nil (by kernel_rfl) ?_
  refine Ok_seq ?_
  obtain ⟨u, h, hm⟩ := obind hm
  refine X_reg_seq ty_ok Γok hL [] (.cons (chk_t h) .nil) (by kernel_rfl) ?_
  obtain ⟨data2, hv, hk⟩ := obind hm
  refine X_tail (n := 60) (fun (data2 : List Span) => (⟨[(0, .own 0), (3, .fn 203 []), (8, .dat (.sc (.int .i64 a))), (9, .dat (.sc (.int .i64 0))), (10, .dat (.sc (.int .i64 (w64 (b - a)))))], [(0, some (.arr 49 2 (List.map Enc.e data2)))], 48⟩ : X)) data2 ?_ ?_
  · have hm := hv
    refine Ok_block ?_
    refine X_loop (n := 60) (step := slices_heapSortCmpFunc_Span_w_L1 a b cmp) (fun ((v, data1) : Int × (List Span)) => (⟨[(0, .own 0), (3, .fn 203 []), (8, .dat (.sc (.int .i64 a))), (9, .dat (.sc (.int .i64 0))), (10, .dat (.sc (.int .i64 (w64 (b - a))))), (11, .dat (.sc (.int .i64 v)))], [(0, some (.arr 49 2 (List.map Enc.e data1)))], 48⟩ : X)) hm (Wk_J hL ⟨[(0, []), (3, []), (8, []), (9, []), (10, []), (11, [])], [(0, 0, [])], [], 48⟩ (by kernel_rfl)) ?_
    rintro ⟨v, data1⟩ r0 hm hb
    rw [slices_heapSortCmpFunc_Span_w_L1] at hm
    refine Ok_seq ?_
    refine X_reg_seq ty_ok Γok hL [] .nil (by kernel_rfl) ?_
    refine X_cond (decide (0 ≤ v)) (by kernel_rfl) (fun hc => ?_) (fun hc => ?_)
    · have hm := it hc hm
      refine X_skip ?_
      refine thN ?_
      refine Ok_seq ?_
      refine Ok_block ?_
      obtain ⟨r, h1, hm⟩ := obind hm
      have h1 : slices_siftDownCmpFunc_Span_w__i_mergeSpans_1 data1 v (w64 (b - a)) a = some r := by rw [← hf_cmp] at h1; exact h1
      refine X_reg ty_ok Γok hL [(5, .c (slices_siftDownCmpFunc_Span_w__i_mergeSpans_1_r r) (slices_siftDownCmpFunc_Span_w__i_mergeSpans_1_n r) (slices_siftDownCmpFunc_Span_w__i_mergeSpans_1_o (data1, v, (w64 (b - a)), a) r))] (.cons (slices_siftDownCmpFunc_Span_w__i_mergeSpans_1_c h1) .nil) (by kernel_rfl) ?_
      refine ibN ?_
      refine thN ?_
      refine X_reg ty_ok Γok hL [] .nil (by kernel_rfl) ?_
      obtain rfl := some_inj hm
      exact thN ⟨_, rfl, Wk_J hL ⟨[(0, []), (3, []), (8, []), (9, []), (10, []), (11, [])], [(0, 0, [])], [], 48⟩ (by kernel_rfl)⟩
    · have hm := ie hc hm
      obtain rfl := some_inj hm
      obtain rfl := hb _ rfl
      refine Ok_exit ?_
      refine thE ?_
      refine thE ?_
      refine ibE ?_
      exact thN (Wk_J hL ⟨[(0, []), (3, []), (8, []), (9, []), (10, [])], [(0, 0, [])], [], 48⟩ (by kernel_rfl))
  intro s hw
  have hm := hk
  refine thN ?_
  refine Ok_weak hw ?_
  refine X_reg_seq ty_ok Γok hL [] .nil (by kernel_rfl) ?_
  refine Ok_block ?_
  refine X_loop (n := 60) (step := slices_heapSortCmpFunc_Span_w_L2 a cmp) (fun ((v1, data3) : Int × (List Span)) => (⟨[(0, .own 0), (3, .fn 203 []), (8, .dat (.sc (.int .i64 a))), (9, .dat (.sc (.int .i64 0))), (12, .dat (.sc (.int .i64 v1)))], [(0, some (.arr 49 2 (List.map Enc.e data3)))], 48⟩ : X)) hm (Wk_J hL ⟨[(0, []), (3, []), (8, []), (9, []), (12, [])], [(0, 0, [])], [], 48⟩ (by kernel_rfl)) ?_
  rintro ⟨v1, data3⟩ r0 hm hb1
  rw [slices_heapSortCmpFunc_Span_w_L2] at hm
  refine Ok_seq ?_
  refine X_reg_seq ty_ok Γok hL [] .nil (by kernel_rfl) ?_
  refine X_cond (decide (0 ≤ v1)) (by kernel_rfl) (fun hc1 => ?_) (fun hc1 => ?_)
  · have hm := it hc1 hm
    refine X_skip ?_
    refine thN ?_
    refine Ok_seq ?_
    refine Ok_block ?_
    obtain ⟨e4, h6, hm⟩ := obind hm
    obtain ⟨e5, h7, hm⟩ := obind hm
    obtain ⟨e6, h8, hm⟩ := obind hm
    obtain ⟨e7, h9, hm⟩ := obind hm
    refine X_draw_seq mixed ty_ok Γok Γlive [(17, [0]), (19, [0])] (by kernel_rfl) [(10, .d (Enc.e e4)), (11, .d (Enc.e e4)), (14, .d (Enc.e e5)), (15, .d (Enc.e e5)), (16, .d (Enc.e e6)), (17, .sd (Enc.e e6) (List.map Enc.e (data3.set a.toNat e4))), (18, .d (Enc.e e7)), (19, .sd (Enc.e e7) (List.map Enc.e ((data3.set a.toNat e4).set (w64 (a + v1)).toNat e5)))] (.cons (idx_m (f := Enc.e) h6) (.cons (idx_m2 (f := Enc.e) h6) (.cons (idx_m (f := Enc.e) h7) (.cons (idx_m2 (f := Enc.e) h7) (.cons (idx_m (f := Enc.e) h8) (.cons (idx_m2 (f := Enc.e) h8) (.cons (set_m Enc.e data3 a.toNat e4) (.cons (idx_m (f := Enc.e) h9) (.cons (idx_m2 (f := Enc.e) h9) (.cons (set_m Enc.e (data3.set a.toNat e4) (w64 (a + v1)).toNat e5) .nil)))))))))) (by kernel_rfl) ?_
    obtain ⟨r1, h10, hm⟩ := obind hm
    have h10 : slices_siftDownCmpFunc_Span_w__i_mergeSpans_1 ((data3.set a.toNat e4).set (w64 (a + v1)).toNat e5) 0 v1 a = some r1 := by rw [← hf_cmp] at h10; exact h10
    refine X_reg ty_ok Γok hL [(5, .c (slices_siftDownCmpFunc_Span_w__i_mergeSpans_1_r r1) (slices_siftDownCmpFunc_Span_w__i_mergeSpans_1_n r1) (slices_siftDownCmpFunc_Span_w__i_mergeSpans_1_o (((data3.set a.toNat e4).set (w64 (a + v1)).toNat e5), 0, v1, a) r1))] (.cons (slices_siftDownCmpFunc_Span_w__i_mergeSpans_1_c h10) .nil) (by kernel_rfl) ?_
    refine ibN ?_
    refine thN ?_
    refine X_reg ty_ok Γok hL [] .nil (by kernel_rfl) ?_
    obtain rfl := some_inj hm
    exact thN ⟨_, rfl, Wk_J hL ⟨[(0, []), (3, []), (8, []), (9, []), (12, [])], [(0, 0, [])], [], 48⟩ (by kernel_rfl)⟩
  · have hm := ie hc1 hm
    obtain rfl := some_inj hm
    have hm := congrArg some (hb1 _ rfl)
    refine Ok_exit ?_
    refine thE ?_
    refine thE ?_
    refine ibE ?_
    obtain rfl := some_inj hm
    exact X_fin [] [] (by kernel_rfl) trivial
abbrev slices_order2CmpFunc_Span__i_mergeSpans_1_r (y : Int × Int × Int) : AV := .tup [.dat (Enc.e y.1), .dat (Enc.e y.2.1)]
abbrev slices_order2CmpFunc_Span__i_mergeSpans_1_n (y : Int × Int × Int) : List Obj' := []
abbrev slices_order2CmpFunc_Span__i_mergeSpans_1_o (x : (List Span) × Int × Int × Int) (y : Int × Int × Int) : List Obj' := [.box [.dat (.sc (.int .i64 y.2.2))]]
noncomputable def slices_order2CmpFunc_Span__i_mergeSpans_1_S : FnSpec := modS [.rd, .rd, .rd, .bx, .fn 203 []] (fun x : (List Span) × Int × Int × Int => [Enc.e x.1, Enc.e x.2.1, Enc.e x.2.2.1, .sc undef, .agg []]) (fun x : (List Span) × Int × Int × Int => [.box [.dat (.sc (.int .i64 x.2.2.2))]]) (fun x : (List Span) × Int × Int × Int => slices_order2CmpFunc_Span__i_mergeSpans_1 x.1 x.2.1 x.2.2.1 x.2.2.2) slices_order2CmpFunc_Span__i_mergeSpans_1_r slices_order2CmpFunc_Span__i_mergeSpans_1_n slices_order2CmpFunc_Span__i_mergeSpans_1_o
theorem slices_order2CmpFunc_Span__i_mergeSpans_1_c {data : List Span} {a : Int} {b : Int} {swaps : Int} {y : Int × Int × Int} (h : slices_order2CmpFunc_Span__i_mergeSpans_1 data a b swaps = some y) : CallOK slices_order2CmpFunc_Span__i_mergeSpans_1_S [Enc.e data, Enc.e a, Enc.e b, .sc undef, .agg []] [.box [.dat (.sc (.int .i64 swaps))]] (slices_order2CmpFunc_Span__i_mergeSpans_1_r y) (slices_order2CmpFunc_Span__i_mergeSpans_1_n y) (slices_order2CmpFunc_Span__i_mergeSpans_1_o (data, a, b, swaps) y) :=
  modS_call (by
    rintro ⟨a0, a1, a2, a3⟩ ⟨b0, b1, b2, b3⟩ h hO
    have q0 : a0 = b0 := Enc.inj _ _ (congrArg (fun l => List.getD l 0 (.sc undef)) h)
    have q1 : a1 = b1 := Enc.inj _ _ (congrArg (fun l => List.getD l 1 (.sc undef)) h)
    have q2 : a2 = b2 := Enc.inj _ _ (congrArg (fun l => List.getD l 2 (.sc undef)) h)
    have q3 : a3 = b3 := Enc.inj _ _ (congrArg (fun l => (obD l 0).getD 0 (.sc undef)) hO)
    subst q0; subst q1; subst q2; subst q3; rfl) (x := (data, a, b, swaps)) h
theorem slices_order2CmpFunc_Span__i_mergeSpans_1_ok : FnOK Try.prog 286 slices_order2CmpFunc_Span__i_mergeSpans_1_S := by
  have Γok : ∀ f S, lookF f [(203, i_mergeSpans_1_S)] = some S → FnOK Try.prog f S := lookF_ok (allF_cons i_mergeSpans_1_ok allF_nil)
  have Γlive : Live (fun f => lookF f [(203, i_mergeSpans_1_S)]) := lookF_live (allL_cons modS_live allL_nil)
  refine fnOK_mod ty_ok (fun args w => Try.call286 args w) Try.func286 rfl [.tmp 10, .tmp 11] (by rw [Try.results286]) 32 Try.ntmps286 16 rfl (fun _ => by first | exact Nat.zero_le _ | (simp)) ?_
  rintro ⟨data, a, b, swaps⟩ y cx hm hL
  have hm : slices_order2CmpFunc_Span__i_mergeSpans_1 data a b swaps = some y := hm
  have hL : cx.L = 1 := hL
  obtain ⟨cmp, hf_cmp⟩ : ∃ q, (fun (z0 : Span) (z1 : Span) => i_mergeSpans_1 z0 z1) = q := ⟨_, rfl⟩
  have hm : slices_order2CmpFunc_Span data a b swaps cmp = some y := by rw [← hf_cmp]; exact hm
  unfold slices_order2CmpFunc_Span at hm
  refine X_reg_seq ty_ok Γok hL [] .nil (by kernel_rfl) ?_
  refine Ok_seq ?_
  obtain ⟨e2, h3, hm⟩ := obind hm
  obtain ⟨e3, h4, hm⟩ := obind hm
  obtain ⟨r1, h5, hm⟩ := obind hm
  have h5 : i_mergeSpans_1 e2 e3 = some r1 := by rw [← hf_cmp] at h5; exact h5
  refine X_draw_seq mixed ty_ok Γok Γlive [(9, [])] (by kernel_rfl) [(3, .d (Enc.e e2)), (7, .d (Enc.e e3)), (9, .c (i_mergeSpans_1_r r1) (i_mergeSpans_1_n r1) (i_mergeSpans_1_o (e2, e3) r1))] (.cons (idx_m (f := Enc.e) h3) (.cons (idx_m (f := Enc.e) h4) (.cons (i_mergeSpans_1_c h5) .nil))) (by kernel_rfl) ?_
  refine X_cond (decide (r1 < 0)) (by kernel_rfl) (fun hc => ?_) (fun hc => ?_)
  · have hm := it hc hm
    refine X_reg_seq ty_ok Γok hL [] .nil (by kernel_rfl) ?_
    refine X_reg_seq ty_ok Γok hL [] .nil (by kernel_rfl) ?_
    obtain rfl := some_inj hm
    refine Ok_ret ?_
    repeat (first | refine thR ?_ | refine ibR ?_)
    exact X_fin [] [] (by kernel_rfl) trivial
  · have hm := ie hc hm
    refine X_skip ?_
    refine thN ?_
    refine X_reg_seq ty_ok Γok hL [] .nil (by kernel_rfl) ?_
    obtain rfl := some_inj hm
    refine Ok_ret ?_
    repeat (first | refine thR ?_ | refine ibR ?_)
    exact X_fin [] [] (by kernel_rfl) trivial
abbrev slices_medianCmpFunc_Span__i_mergeSpans_1_r (y : Int × Int) : AV := .dat (Enc.e y.1)
abbrev slices_medianCmpFunc_Span__i_mergeSpans_1_n (y : Int × Int) : List Obj' := []
abbrev slices_medianCmpFunc_Span__i_mergeSpans_1_o (x : (List Span) × Int × Int × Int × Int) (y : Int × Int) : List Obj' := [.box [.dat (.sc (.int .i64 y.2))]]
noncomputable def slices_medianCmpFunc_Span__i_mergeSpans_1_S : FnSpec := modS [.rd, .rd, .rd, .rd, .bx, .fn 203 []] (fun x : (List Span) × Int × Int × Int × Int => [Enc.e x.1, Enc.e x.2.1, Enc.e x.2.2.1, Enc.e x.2.2.2.1, .sc undef, .agg []]) (fun x : (List Span) × Int × Int × Int × Int => [.box [.dat (.sc (.int .i64 x.2.2.2.2))]]) (fun x : (List Span) × Int × Int × Int × Int => slices_medianCmpFunc_Span__i_mergeSpans_1 x.1 x.2.1 x.2.2.1 x.2.2.2.1 x.2.2.2.2) slices_medianCmpFunc_Span__i_mergeSpans_1_r slices_medianCmpFunc_Span__i_mergeSpans_1_n slices_medianCmpFunc_Span__i_mergeSpans_1_o
theorem slices_medianCmpFunc_Span__i_mergeSpans_1_c {data : List Span} {a : Int} {b : Int} {c : Int} {swaps : Int} {y : Int × Int} (h : slices_medianCmpFunc_Span__i_mergeSpans_1 data a b c swaps = some y) : CallOK slices_medianCmpFunc_Span__i_mergeSpans_1_S [Enc.e data, Enc.e a, Enc.e b, Enc.e c, .sc undef, .agg []] [.box [.dat (.sc (.int .i64 swaps))]] (slices_medianCmpFunc_Span__i_mergeSpans_1_r y) (slices_medianCmpFunc_Span__i_mergeSpans_1_n y) (slices_medianCmpFunc_Span__i_mergeSpans_1_o (data, a, b, c, swaps) y) :=
  modS_call (by
    rintro ⟨a0, a1, a2, a3, a4⟩ ⟨b0, b1, b2, b3, b4⟩ h hO
    have q0 : a0 = b0 := Enc.inj _ _ (congrArg (fun l => List.getD l 0 (.sc undef)) h)
    have q1 : a1 = b1 := Enc.inj _ _ (congrArg (fun l => List.getD l 1 (.sc undef)) h)
    have q2 : a2 = b2 := Enc.inj _ _ (congrArg (fun l => List.getD l 2 (.sc undef)) h)
    have q3 : a3 = b3 := Enc.inj _ _ (congrArg (fun l => List.getD l 3 (.sc undef)) h)
    have q4 : a4 = b4 := Enc.inj _ _ (congrArg (fun l => (obD l 0).getD 0 (.sc undef)) hO)
    subst q0; subst q1; subst q2; subst q3; subst q4; rfl) (x := (data, a, b, c, swaps)) h
theorem slices_medianCmpFunc_Span__i_mergeSpans_1_ok : FnOK Try.prog 283 slices_medianCmpFunc_Span__i_mergeSpans_1_S := by
  have Γok : ∀ f S, lookF f [(286, slices_order2CmpFunc_Span__i_mergeSpans_1_S)] = some S → FnOK Try.prog f S := lookF_ok (allF_cons slices_order2CmpFunc_Span__i_mergeSpans_1_ok allF_nil)
  have Γlive : Live (fun f => lookF f [(286, slices_order2CmpFunc_Span__i_mergeSpans_1_S)]) := lookF_live (allL_cons modS_live allL_nil)
  refine fnOK_mod ty_ok (fun args w => Try.call283 args w) Try.func283 rfl [.tmp 12] (by rw [Try.results283]) 41 Try.ntmps283 16 rfl (fun _ => by first | exact Nat.zero_le _ | (simp)) ?_
  rintro ⟨data, a, b, c, swaps⟩ y cx hm hL
  have hm : slices_medianCmpFunc_Span__i_mergeSpans_1 data a b c swaps = some y := hm
  have hL : cx.L = 1 := hL
  obtain ⟨cmp, hf_cmp⟩ : ∃ q, (fun (z0 : Span) (z1 : Span) => i_mergeSpans_1 z0 z1) = q := ⟨_, rfl⟩
  have hm : slices_medianCmpFunc_Span data a b c swaps cmp = some y := by rw [← hf_cmp]; exact hm
  unfold slices_medianCmpFunc_Span at hm
  refine X_reg_seq ty_ok Γok hL [] .nil (by kernel_rfl) ?_
  obtain ⟨r, h, hm⟩ := obind hm
  have h : slices_order2CmpFunc_Span__i_mergeSpans_1 data a b swaps = some r := by rw [← hf_cmp] at h; exact h
  refine X_reg_seq ty_ok Γok hL [(5, .c (slices_order2CmpFunc_Span__i_mergeSpans_1_r r) (slices_order2CmpFunc_Span__i_mergeSpans_1_n r) (slices_order2CmpFunc_Span__i_mergeSpans_1_o (data, a, b, swaps) r))] (.cons (slices_order2CmpFunc_Span__i_mergeSpans_1_c h) .nil) (by kernel_rfl) ?_
  obtain ⟨r1, h1, hm⟩ := obind hm
  have h1 : slices_order2CmpFunc_Span__i_mergeSpans_1 data r.2.1 c r.2.2 = some r1 := by rw [← hf_cmp] at h1; exact h1
  refine X_reg_seq ty_ok Γok hL [(5, .c (slices_order2CmpFunc_Span__i_mergeSpans_1_r r1) (slices_order2CmpFunc_Span__i_mergeSpans_1_n r1) (slices_order2CmpFunc_Span__i_mergeSpans_1_o (data, r.2.1, c, r.2.2) r1))] (.cons (slices_order2CmpFunc_Span__i_mergeSpans_1_c h1) .nil) (by kernel_rfl) ?_
  obtain ⟨r2, h2, hm⟩ := obind hm
  have h2 : slices_order2CmpFunc_Span__i_mergeSpans_1 data r.1 r1.1 r1.2.2 = some r2 := by rw [← hf_cmp] at h2; exact h2
  refine X_reg_seq ty_ok Γok hL [(5, .c (slices_order2CmpFunc_Span__i_mergeSpans_1_r r2) (slices_order2CmpFunc_Span__i_mergeSpans_1_n r2) (slices_order2CmpFunc_Span__i_mergeSpans_1_o (data, r.1, r1.1, r1.2.2) r2))] (.cons (slices_order2CmpFunc_Span__i_mergeSpans_1_c h2) .nil) (by kernel_rfl) ?_
  refine X_reg_seq ty_ok Γok hL [] .nil (by kernel_rfl) ?_
  obtain rfl := some_inj hm
  refine Ok_ret ?_
  repeat (first | refine thR ?_ | refine ibR ?_)
  exact X_fin [] [] (by kernel_rfl) trivial
abbrev slices_medianAdjacentCmpFunc_Span__i_mergeSpans_1_r (y : Int × Int) : AV := .dat (Enc.e y.1)
abbrev slices_medianAdjacentCmpFunc_Span__i_mergeSpans_1_n (y : Int × Int) : List Obj' := []
abbrev slices_medianAdjacentCmpFunc_Span__i_mergeSpans_1_o (x : (List Span) × Int × Int) (y : Int × Int) : List Obj' := [.box [.dat (.sc (.int .i64 y.2))]]
noncomputable def slices_medianAdjacentCmpFunc_Span__i_mergeSpans_1_S : FnSpec := modS [.rd, .rd, .bx, .fn 203 []] (fun x : (List Span) × Int × Int => [Enc.e x.1, Enc.e x.2.1, .sc undef, .agg []]) (fun x : (List Span) × Int × Int => [.box [.dat (.sc (.int .i64 x.2.2))]]) (fun x : (List Span) × Int × Int => slices_medianAdjacentCmpFunc_Span__i_mergeSpans_1 x.1 x.2.1 x.2.2) slices_medianAdjacentCmpFunc_Span__i_mergeSpans_1_r slices_medianAdjacentCmpFunc_Span__i_mergeSpans_1_n slices_medianAdjacentCmpFunc_Span__i_mergeSpans_1_o
theorem slices_medianAdjacentCmpFunc_Span__i_mergeSpans_1_c {data : List Span} {a : Int} {swaps : Int} {y : Int × Int} (h : slices_medianAdjacentCmpFunc_Span__i_mergeSpans_1 data a swaps = some y) : CallOK slices_medianAdjacentCmpFunc_Span__i_mergeSpans_1_S [Enc.e data, Enc.e a, .sc undef, .agg []] [.box [.dat (.sc (.int .i64 swaps))]] (slices_medianAdjacentCmpFunc_Span__i_mergeSpans_1_r y) (slices_medianAdjacentCmpFunc_Span__i_mergeSpans_1_n y) (slices_medianAdjacentCmpFunc_Span__i_mergeSpans_1_o (data, a, swaps) y) :=
  modS_call (by
    rintro ⟨a0, a1, a2⟩ ⟨b0, b1, b2⟩ h hO
    have q0 : a0 = b0 := Enc.inj _ _ (congrArg (fun l => List.getD l 0 (.sc undef)) h)
    have q1 : a1 = b1 := Enc.inj _ _ (congrArg (fun l => List.getD l 1 (.sc undef)) h)
    have q2 : a2 = b2 := Enc.inj _ _ (congrArg (fun l => (obD l 0).getD 0 (.sc undef)) hO)
    subst q0; subst q1; subst q2; rfl) (x := (data, a, swaps)) h
theorem slices_medianAdjacentCmpFunc_Span__i_mergeSpans_1_ok : FnOK Try.prog 282 slices_medianAdjacentCmpFunc_Span__i_mergeSpans_1_S := by
  have Γok : ∀ f S, lookF f [(283, slices_medianCmpFunc_Span__i_mergeSpans_1_S)] = some S → FnOK Try.prog f S := lookF_ok (allF_cons slices_medianCmpFunc_Span__i_mergeSpans_1_ok allF_nil)
  have Γlive : Live (fun f => lookF f [(283, slices_medianCmpFunc_Span__i_mergeSpans_1_S)]) := lookF_live (allL_cons modS_live allL_nil)
  refine fnOK_mod ty_ok (fun args w => Try.call282 args w) Try.func282 rfl [.tmp 8] (by rw [Try.results282]) 18 Try.ntmps282 16 rfl (fun _ => by first | exact Nat.zero_le _ | (simp)) ?_
  rintro ⟨data, a, swaps⟩ y cx hm hL
  have hm : slices_medianAdjacentCmpFunc_Span__i_mergeSpans_1 data a swaps = some y := hm
  have hL : cx.L = 1 := hL
  obtain ⟨cmp, hf_cmp⟩ : ∃ q, (fun (z0 : Span) (z1 : Span) => i_mergeSpans_1 z0 z1) = q := ⟨_, rfl⟩
  have hm : slices_medianAdjacentCmpFunc_Span data a swaps cmp = some y := by rw [← hf_cmp]; exact hm
  unfold slices_medianAdjacentCmpFunc_Span at hm
  refine X_reg_seq ty_ok Γok hL [] .nil (by kernel_rfl) ?_
  obtain ⟨r, h, hm⟩ := obind hm
  have h : slices_medianCmpFunc_Span__i_mergeSpans_1 data (w64 (a - 1)) a (w64 (a + 1)) swaps = some r := by rw [← hf_cmp] at h; exact h
  refine X_reg_seq ty_ok Γok hL [(8, .c (slices_medianCmpFunc_Span__i_mergeSpans_1_r r) (slices_medianCmpFunc_Span__i_mergeSpans_1_n r) (slices_medianCmpFunc_Span__i_mergeSpans_1_o (data, (w64 (a - 1)), a, (w64 (a + 1)), swaps) r))] (.cons (slices_medianCmpFunc_Span__i_mergeSpans_1_c h) .nil) (by kernel_rfl) ?_
  obtain rfl := some_inj hm
  refine Ok_ret ?_
  repeat (first | refine thR ?_ | refine ibR ?_)
  exact X_fin [] [] (by kernel_rfl) trivial
abbrev slices_choosePivotCmpFunc_Span__i_mergeSpans_1_r (y : Int × Int) : AV := .tup [.dat (Enc.e y.1), .dat (Enc.e y.2)]
abbrev slices_choosePivotCmpFunc_Span__i_mergeSpans_1_n (y : Int × Int) : List Obj' := []
abbrev slices_choosePivotCmpFunc_Span__i_mergeSpans_1_o (x : (List Span) × Int × Int) (y : Int × Int) : List Obj' := []
noncomputable def slices_choosePivotCmpFunc_Span__i_mergeSpans_1_S : FnSpec := modS [.rd, .rd, .rd, .fn 203 []] (fun x : (List Span) × Int × Int => [Enc.e x.1, Enc.e x.2.1, Enc.e x.2.2, .agg []]) (fun x : (List Span) × Int × Int => []) (fun x : (List Span) × Int × Int => slices_choosePivotCmpFunc_Span__i_mergeSpans_1 x.1 x.2.1 x.2.2) slices_choosePivotCmpFunc_Span__i_mergeSpans_1_r slices_choosePivotCmpFunc_Span__i_mergeSpans_1_n slices_choosePivotCmpFunc_Span__i_mergeSpans_1_o
theorem slices_choosePivotCmpFunc_Span__i_mergeSpans_1_c {data : List Span} {a : Int} {b : Int} {y : Int × Int} (h : slices_choosePivotCmpFunc_Span__i_mergeSpans_1 data a b = some y) : CallOK slices_choosePivotCmpFunc_Span__i_mergeSpans_1_S [Enc.e data, Enc.e a, Enc.e b, .agg []] [] (slices_choosePivotCmpFunc_Span__i_mergeSpans_1_r y) (slices_choosePivotCmpFunc_Span__i_mergeSpans_1_n y) (slices_choosePivotCmpFunc_Span__i_mergeSpans_1_o (data, a, b) y) :=
  modS_call (by
    rintro ⟨a0, a1, a2⟩ ⟨b0, b1, b2⟩ h hO
    have q0 : a0 = b0 := Enc.inj _ _ (congrArg (fun l => List.getD l 0 (.sc undef)) h)
    have q1 : a1 = b1 := Enc.inj _ _ (congrArg (fun l => List.getD l 1 (.sc undef)) h)
    have q2 : a2 = b2 := Enc.inj _ _ (congrArg (fun l => List.getD l 2 (.sc undef)) h)
    subst q0; subst q1; subst q2; rfl) (x := (data, a, b)) h
theorem slices_choosePivotCmpFunc_Span__i_mergeSpans_1_ok : FnOK Try.prog 263 slices_choosePivotCmpFunc_Span__i_mergeSpans_1_S := by
  have Γok : ∀ f S, lookF f [(282, slices_medianAdjacentCmpFunc_Span__i_mergeSpans_1_S), (283, slices_medianCmpFunc_Span__i_mergeSpans_1_S)] = some S → FnOK Try.prog f S := lookF_ok (allF_cons slices_medianAdjacentCmpFunc_Span__i_mergeSpans_1_ok (allF_cons slices_medianCmpFunc_Span__i_mergeSpans_1_ok allF_nil))
  have Γlive : Live (fun f => lookF f [(282, slices_medianAdjacentCmpFunc_Span__i_mergeSpans_1_S), (283, slices_medianCmpFunc_Span__i_mergeSpans_1_S)]) := lookF_live (allL_cons modS_live (allL_cons modS_live allL_nil))
  refine fnOK_mod ty_ok (fun args w => Try.call263 args w) Try.func263 rfl [.tmp 8, .tmp 9] (by rw [Try.results263]) 63 Try.ntmps263 16 rfl (fun _ => by first | exact Nat.zero_le _ | (simp)) ?_
  rintro ⟨data, a, b⟩ y cx hm hL
  have hm : slices_choosePivotCmpFunc_Span__i_mergeSpans_1 data a b = some y := hm
  have hL : cx.L = 0 := hL
  obtain ⟨cmp, hf_cmp⟩ : ∃ q, (fun (z0 : Span) (z1 : Span) => i_mergeSpans_1 z0 z1) = q := ⟨_, rfl⟩
  have hm : slices_choosePivotCmpFunc_Span data a b cmp = some y := by rw [← hf_cmp]; exact hm
  unfold slices_choosePivotCmpFunc_Span at hm
  refine X_reg_seq ty_ok Γok hL [] .nil (by kernel_rfl) ?_
  refine X_reg_seq ty_ok Γok hL [] .nil (by kernel_rfl) ?_
  refine X_reg_seq ty_ok Γok hL [] .nil (by kernel_rfl) ?_
  obtain ⟨u, h, hm⟩ := obind hm
  refine X_reg_seq ty_ok Γok hL [] (.cons (chk_t h) .nil) (by kernel_rfl) ?_
  obtain ⟨u1, h1, hm⟩ := obind hm
  refine X_reg_seq ty_ok Γok hL [] (.cons (chk_t h1) .nil) (by kernel_rfl) ?_
  obtain ⟨u2, h2, hm⟩ := obind hm
  refine X_reg_seq ty_ok Γok hL [] (.cons (chk_t h2) .nil) (by kernel_rfl) ?_
  obtain ⟨vv1, hv, hk⟩ := obind hm
  refine X_join (n := 63) (fun ((v, v1) : Int × Int) => (⟨[(3, .fn 203 []), (11, .ref 16 0), (13, .dat (.sc (.int .i64 v)))], [(16, some (.box [.dat (.sc (.int .i64 v1))]))], 48⟩ : X)) vv1 ?_ ?_
  · have hm := hv
    refine X_reg_seq ty_ok Γok hL [] .nil (by kernel_rfl) ?_
    refine X_cond (decide (8 ≤ (w64 (b - a)))) (by kernel_rfl) (fun hc => ?_) (fun hc => ?_)
    · have hm := it hc hm
      obtain ⟨vv, hv1, hk1⟩ := obind hm
      refine X_join (n := 63) (fun ((v2, v3, v4, v5) : Int × Int × Int × Int) => (⟨[(0, .dat (Enc.e data)), (3, .fn 203 []), (11, .ref 16 0), (12, .dat (.sc (.int .i64 v2))), (13, .dat (.sc (.int .i64 v3))), (14, .dat (.sc (.int .i64 v4)))], [(16, some (.box [.dat (.sc (.int .i64 v5))]))], 48⟩ : X)) vv ?_ ?_
      · have hm := hv1
        refine X_reg_seq ty_ok Γok hL [] .nil (by kernel_rfl) ?_
        refine X_cond (decide (50 ≤ (w64 (b - a)))) (by kernel_rfl) (fun hc1 => ?_) (fun hc1 => ?_)
        · have hm := it hc1 hm
          obtain ⟨r, h3, hm⟩ := obind hm
          have h3 : slices_medianAdjacentCmpFunc_Span__i_mergeSpans_1 data (w64 (a + (w64 ((w64 ((w64 (b - a)).tdiv 4)) * 1)))) 0 = some r := by rw [← hf_cmp] at h3; exact h3
          refine X_reg_seq ty_ok Γok hL [(3, .c (slices_medianAdjacentCmpFunc_Span__i_mergeSpans_1_r r) (slices_medianAdjacentCmpFunc_Span__i_mergeSpans_1_n r) (slices_medianAdjacentCmpFunc_Span__i_mergeSpans_1_o (data, (w64 (a + (w64 ((w64 ((w64 (b - a)).tdiv 4)) * 1)))), 0) r))] (.cons (slices_medianAdjacentCmpFunc_Span__i_mergeSpans_1_c h3) .nil) (by kernel_rfl) ?_
          obtain ⟨r1, h4, hm⟩ := obind hm
          have h4 : slices_medianAdjacentCmpFunc_Span__i_mergeSpans_1 data (w64 (a + (w64 ((w64 ((w64 (b - a)).tdiv 4)) * 2)))) r.2 = some r1 := by rw [← hf_cmp] at h4; exact h4
          refine X_reg_seq ty_ok Γok hL [(3, .c (slices_medianAdjacentCmpFunc_Span__i_mergeSpans_1_r r1) (slices_medianAdjacentCmpFunc_Span__i_mergeSpans_1_n r1) (slices_medianAdjacentCmpFunc_Span__i_mergeSpans_1_o (data, (w64 (a + (w64 ((w64 ((w64 (b - a)).tdiv 4)) * 2)))), r.2) r1))] (.cons (slices_medianAdjacentCmpFunc_Span__i_mergeSpans_1_c h4) .nil) (by kernel_rfl) ?_
          obtain ⟨r2, h5, hm⟩ := obind hm
          have h5 : slices_medianAdjacentCmpFunc_Span__i_mergeSpans_1 data (w64 (a + (w64 ((w64 ((w64 (b - a)).tdiv 4)) * 3)))) r1.2 = some r2 := by rw [← hf_cmp] at h5; exact h5
          refine X_reg ty_ok Γok hL [(3, .c (slices_medianAdjacentCmpFunc_Span__i_mergeSpans_1_r r2) (slices_medianAdjacentCmpFunc_Span__i_mergeSpans_1_n r2) (slices_medianAdjacentCmpFunc_Span__i_mergeSpans_1_o (data, (w64 (a + (w64 ((w64 ((w64 (b - a)).tdiv 4)) * 3)))), r1.2) r2))] (.cons (slices_medianAdjacentCmpFunc_Span__i_mergeSpans_1_c h5) .nil) (by kernel_rfl) ?_
          obtain rfl := some_inj hm
          exact thN (Wk_J hL ⟨[(0, []), (3, []), (11, []), (12, []), (13, []), (14, [])], [(16, 112, [])], [], 48⟩ (by kernel_rfl))
        · have hm := ie hc1 hm
          refine X_skip ?_
          obtain rfl := some_inj hm
          exact thN (Wk_J hL ⟨[(0, []), (3, []), (11, []), (12, []), (13, []), (14, [])], [(16, 112, [])], [], 48⟩ (by kernel_rfl))
      obtain ⟨v2, v3, v4, v5⟩ := vv
      have hm := hk1
      obtain ⟨r3, h6, hm⟩ := obind hm
      have h6 : slices_medianCmpFunc_Span__i_mergeSpans_1 data v2 v3 v4 v5 = some r3 := by rw [← hf_cmp] at h6; exact h6
      refine X_reg ty_ok Γok hL [(5, .c (slices_medianCmpFunc_Span__i_mergeSpans_1_r r3) (slices_medianCmpFunc_Span__i_mergeSpans_1_n r3) (slices_medianCmpFunc_Span__i_mergeSpans_1_o (data, v2, v3, v4, v5) r3))] (.cons (slices_medianCmpFunc_Span__i_mergeSpans_1_c h6) .nil) (by kernel_rfl) ?_
      obtain rfl := some_inj hm
      exact thN (Wk_J hL ⟨[(3, []), (11, []), (13, [])], [(16, 16, [])], [], 48⟩ (by kernel_rfl))
    · have hm := ie hc hm
      refine X_skip ?_
      obtain rfl := some_inj hm
      exact thN (Wk_J hL ⟨[(3, []), (11, []), (13, [])], [(16, 112, [])], [], 48⟩ (by kernel_rfl))
  obtain ⟨v, v1⟩ := vv1
  have hm := hk
  refine X_reg_seq ty_ok Γok hL [] .nil (by kernel_rfl) ?_
  refine Ok_block ?_
  refine X_reg_seq ty_ok Γok hL [] .nil (by kernel_rfl) ?_
  refine X_cond (v1 == 0) (by kernel_rfl) (fun hc2 => ?_) (fun hc2 => ?_)
  · have hm := it hc2 hm
    refine X_reg_seq ty_ok Γok hL [] .nil (by kernel_rfl) ?_
    obtain rfl := some_inj hm
    refine Ok_ret ?_
    repeat (first | refine thR ?_ | refine ibR ?_)
    exact X_fin [] [] (by kernel_rfl) trivial
  · have hm := ie hc2 hm
    refine X_reg_seq ty_ok Γok hL [] .nil (by kernel_rfl) ?_
    refine X_cond (v1 == 12) (by kernel_rfl) (fun hc3 => ?_) (fun hc3 => ?_)
    · have hm := it hc3 hm
      refine X_reg_seq ty_ok Γok hL [] .nil (by kernel_rfl) ?_
      obtain rfl := some_inj hm
      refine Ok_ret ?_
      repeat (first | refine thR ?_ | refine ibR ?_)
      exact X_fin [] [] (by kernel_rfl) trivial
    · have hm := ie hc3 hm
      refine X_reg_seq ty_ok Γok hL [] .nil (by kernel_rfl) ?_
      obtain rfl := some_inj hm
      refine Ok_ret ?_
      repeat (first | refine thR ?_ | refine ibR ?_)
      exact X_fin [] [] (by kernel_rfl) trivial
abbrev slices_reverseRangeCmpFunc_Span_w__i_mergeSpans_1_r (y : (List Span)) : AV := .tup []
abbrev slices_reverseRangeCmpFunc_Span_w__i_mergeSpans_1_n (y : (List Span)) : List Obj' := []
abbrev slices_reverseRangeCmpFunc_Span_w__i_mergeSpans_1_o (x : (List Span) × Int × Int) (y : (List Span)) : List Obj' := [.arr 49 2 (List.map Enc.e y)]
noncomputable def slices_reverseRangeCmpFunc_Span_w__i_mergeSpans_1_S : FnSpec := modS [.sl, .rd, .rd, .fn 203 []] (fun x : (List Span) × Int × Int => [.sc undef, Enc.e x.2.1, Enc.e x.2.2, .agg []]) (fun x : (List Span) × Int × Int => [.arr 49 2 (List.map Enc.e x.1)]) (fun x : (List Span) × Int × Int => slices_reverseRangeCmpFunc_Span_w__i_mergeSpans_1 x.1 x.2.1 x.2.2) slices_reverseRangeCmpFunc_Span_w__i_mergeSpans_1_r slices_reverseRangeCmpFunc_Span_w__i_mergeSpans_1_n slices_reverseRangeCmpFunc_Span_w__i_mergeSpans_1_o
theorem slices_reverseRangeCmpFunc_Span_w__i_mergeSpans_1_c {data : List Span} {a : Int} {b : Int} {y : (List Span)} (h : slices_reverseRangeCmpFunc_Span_w__i_mergeSpans_1 data a b = some y) : CallOK slices_reverseRangeCmpFunc_Span_w__i_mergeSpans_1_S [.sc undef, Enc.e a, Enc.e b, .agg []] [.arr 49 2 (List.map Enc.e data)] (slices_reverseRangeCmpFunc_Span_w__i_mergeSpans_1_r y) (slices_reverseRangeCmpFunc_Span_w__i_mergeSpans_1_n y) (slices_reverseRangeCmpFunc_Span_w__i_mergeSpans_1_o (data, a, b) y) :=
  modS_call (by
    rintro ⟨a0, a1, a2⟩ ⟨b0, b1, b2⟩ h hO
    have q0 : a0 = b0 := Enc.inj _ _ (congrArg (fun l => D.sl 2 (obL l 0)) hO)
    have q1 : a1 = b1 := Enc.inj _ _ (congrArg (fun l => List.getD l 1 (.sc undef)) h)
    have q2 : a2 = b2 := Enc.inj _ _ (congrArg (fun l => List.getD l 2 (.sc undef)) h)
    subst q0; subst q1; subst q2; rfl) (x := (data, a, b)) h
theorem slices_reverseRangeCmpFunc_Span_w__i_mergeSpans_1_ok : FnOK Try.prog 264 slices_reverseRangeCmpFunc_Span_w__i_mergeSpans_1_S := by
  have Γok : ∀ f S, lookF f [] = some S → FnOK Try.prog f S := lookF_ok allF_nil
  have Γlive : Live (fun f => lookF f []) := lookF_live allL_nil
  refine fnOK_mod ty_ok (fun args w => Try.call264 args w) Try.func264 rfl [] (by rw [Try.results264]) 34 Try.ntmps264 16 rfl (fun _ => by first | exact Nat.zero_le _ | (simp)) ?_
  rintro ⟨data, a, b⟩ y cx hm hL
  have hm : slices_reverseRangeCmpFunc_Span_w__i_mergeSpans_1 data a b = some y := hm
  have hL : cx.L = 1 := hL
  obtain ⟨cmp, hf_cmp⟩ : ∃ q, (fun (z0 : Span) (z1 : Span) => i_mergeSpans_1 z0 z1) = q := ⟨_, rfl⟩
  have hm : slices_reverseRangeCmpFunc_Span_w data a b cmp = some y := by rw [← hf_cmp]; exact hm
  unfold slices_reverseRangeCmpFunc_Span_w at hm
  refine X_reg_seq ty_ok Γok hL [] .nil (by kernel_rfl) ?_
  refine X_reg_seq ty_ok Γok hL [] .nil (by kernel_rfl) ?_
  refine Ok_block ?_
  refine X_loop (n := 34) (step := slices_reverseRangeCmpFunc_Span_w_L1) (fun ((v, v1, data1) : Int × Int × (List Span)) => (⟨[(0, .own 0), (3, .fn 203 []), (8, .dat (.sc (.int .i64 v))), (9, .dat (.sc (.int .i64 v1)))], [(0, some (.arr 49 2 (List.map Enc.e data1)))], 48⟩ : X)) hm (Wk_J hL ⟨[(0, []), (3, []), (8, []), (9, [])], [(0, 0, [])], [], 48⟩ (by kernel_rfl)) ?_
  rintro ⟨v, v1, data1⟩ r0 hm hb
  rw [slices_reverseRangeCmpFunc_Span_w_L1] at hm
  refine Ok_seq ?_
  refine X_reg_seq ty_ok Γok hL [] .nil (by kernel_rfl) ?_
  refine X_cond (decide (v < v1)) (by kernel_rfl) (fun hc => ?_) (fun hc => ?_)
  · have hm := it hc hm
    refine X_skip ?_
    refine thN ?_
    refine Ok_block ?_
    obtain ⟨e4, h4, hm⟩ := obind hm
    obtain ⟨e5, h5, hm⟩ := obind hm
    obtain ⟨e6, h6, hm⟩ := obind hm
    obtain ⟨e7, h7, hm⟩ := obind hm
    refine X_draw_seq mixed ty_ok Γok Γlive [(13, [0]), (15, [0])] (by kernel_rfl) [(6, .d (Enc.e e4)), (7, .d (Enc.e e4)), (10, .d (Enc.e e5)), (11, .d (Enc.e e5)), (12, .d (Enc.e e6)), (13, .sd (Enc.e e6) (List.map Enc.e (data1.set v.toNat e4))), (14, .d (Enc.e e7)), (15, .sd (Enc.e e7) (List.map Enc.e ((data1.set v.toNat e4).set v1.toNat e5)))] (.cons (idx_m (f := Enc.e) h4) (.cons (idx_m2 (f := Enc.e) h4) (.cons (idx_m (f := Enc.e) h5) (.cons (idx_m2 (f := Enc.e) h5) (.cons (idx_m (f := Enc.e) h6) (.cons (idx_m2 (f := Enc.e) h6) (.cons (set_m Enc.e data1 v.toNat e4) (.cons (idx_m (f := Enc.e) h7) (.cons (idx_m2 (f := Enc.e) h7) (.cons (set_m Enc.e (data1.set v.toNat e4) v1.toNat e5) .nil)))))))))) (by kernel_rfl) ?_
    refine X_reg_seq ty_ok Γok hL [] .nil (by kernel_rfl) ?_
    refine X_reg ty_ok Γok hL [] .nil (by kernel_rfl) ?_
    refine ibN ?_
    obtain rfl := some_inj hm
    exact thN ⟨_, rfl, Wk_J hL ⟨[(0, []), (3, []), (8, []), (9, [])], [(0, 0, [])], [], 48⟩ (by kernel_rfl)⟩
  · have hm := ie hc hm
    obtain rfl := some_inj hm
    have hm := congrArg some (hb _ rfl)
    refine Ok_exit ?_
    refine thE ?_
    refine thE ?_
    refine ibE ?_
    obtain rfl := some_inj hm
    exact X_fin [] [] (by kernel_rfl) trivial
abbrev slices_partialInsertionSortCmpFunc_Span_w__i_mergeSpans_1_r (y : Bool × (List Span)) : AV := .dat (Enc.e y.1)
abbrev slices_partialInsertionSortCmpFunc_Span_w__i_mergeSpans_1_n (y : Bool × (List Span)) : List Obj' := []
abbrev slices_partialInsertionSortCmpFunc_Span_w__i_mergeSpans_1_o (x : (List Span) × Int × Int) (y : Bool × (List Span)) : List Obj' := [.arr 49 2 (List.map Enc.e y.2)]
noncomputable def slices_partialInsertionSortCmpFunc_Span_w__i_mergeSpans_1_S : FnSpec := modS [.sl, .rd, .rd, .fn 203 []] (fun x : (List Span) × Int × Int => [.sc undef, Enc.e x.2.1, Enc.e x.2.2, .agg []]) (fun x : (List Span) × Int × Int => [.arr 49 2 (List.map Enc.e x.1)]) (fun x : (List Span) × Int × Int => slices_partialInsertionSortCmpFunc_Span_w__i_mergeSpans_1 x.1 x.2.1 x.2.2) slices_partialInsertionSortCmpFunc_Span_w__i_mergeSpans_1_r slices_partialInsertionSortCmpFunc_Span_w__i_mergeSpans_1_n slices_partialInsertionSortCmpFunc_Span_w__i_mergeSpans_1_o
theorem slices_partialInsertionSortCmpFunc_Span_w__i_mergeSpans_1_c {data : List Span} {a : Int} {b : Int} {y : Bool × (List Span)} (h : slices_partialInsertionSortCmpFunc_Span_w__i_mergeSpans_1 data a b = some y) : CallOK slices_partialInsertionSortCmpFunc_Span_w__i_mergeSpans_1_S [.sc undef, Enc.e a, Enc.e b, .agg []] [.arr 49 2 (List.map Enc.e data)] (slices_partialInsertionSortCmpFunc_Span_w__i_mergeSpans_1_r y) (slices_partialInsertionSortCmpFunc_Span_w__i_mergeSpans_1_n y) (slices_partialInsertionSortCmpFunc_Span_w__i_mergeSpans_1_o (data, a, b) y) :=
  modS_call (by
    rintro ⟨a0, a1, a2⟩ ⟨b0, b1, b2⟩ h hO
    have q0 : a0 = b0 := Enc.inj _ _ (congrArg (fun l => D.sl 2 (obL l 0)) hO)
    have q1 : a1 = b1 := Enc.inj _ _ (congrArg (fun l => List.getD l 1 (.sc undef)) h)
    have q2 : a2 = b2 := Enc.inj _ _ (congrArg (fun l => List.getD l 2 (.sc undef)) h)
    subst q0; subst q1; subst q2; rfl) (x := (data, a, b)) h
theorem slices_partialInsertionSortCmpFunc_Span_w__i_mergeSpans_1_ok : FnOK Try.prog 265 slices_partialInsertionSortCmpFunc_Span_w__i_mergeSpans_1_S := by
  have Γok : ∀ f S, lookF f [(203, i_mergeSpans_1_S)] = some S → FnOK Try.prog f S := lookF_ok (allF_cons i_mergeSpans_1_ok allF_nil)
  have Γlive : Live (fun f => lookF f [(203, i_mergeSpans_1_S)]) := lookF_live (allL_cons modS_live allL_nil)
  refine fnOK_mod ty_ok (fun args w => Try.call265 args w) Try.func265 rfl [.tmp 8] (by rw [Try.results265]) 141 Try.ntmps265 16 rfl (fun _ => by first | exact Nat.zero_le _ | (simp)) ?_
  rintro ⟨data, a, b⟩ y cx hm hL
  have hm : slices_partialInsertionSortCmpFunc_Span_w__i_mergeSpans_1 data a b = some y := hm
  have hL : cx.L = 1 := hL
  obtain ⟨cmp, hf_cmp⟩ : ∃ q, (fun (z0 : Span) (z1 : Span) => i_mergeSpans_1 z0 z1) = q := ⟨_, rfl⟩
  have hm : slices_partialInsertionSortCmpFunc_Span_w data a b cmp = some y := by rw [← hf_cmp]; exact hm
  unfold slices_partialInsertionSortCmpFunc_Span_w at hm
  refine X_reg_seq ty_ok Γok hL [] .nil (by kernel_rfl) ?_
  refine X_reg_seq ty_ok Γok hL [] .nil (by kernel_rfl) ?_
  refine Ok_seq ?_
  refine X_reg_seq ty_ok Γok hL [] .nil (by kernel_rfl) ?_
  obtain ⟨v9, hv6, hr, hk6⟩ := flb_t hm
  refine X_tailF (n := 141) (fun (data8 : List Span) => (⟨[(0, .own 0), (3, .fn 203 [])], [(0, some (.arr 49 2 (List.map Enc.e data8)))], 48⟩ : X)) v9 ?_ ?_
  · have hm := hv6
    refine Ok_block ?_
    refine X_loop (n := 141) (step := slices_partialInsertionSortCmpFunc_Span_w_L4 a b cmp) (fun ((v, v1, data1) : Int × Int × (List Span)) => (⟨[(0, .own 0), (1, .dat (.sc (.int .i64 a))), (2, .dat (.sc (.int .i64 b))), (3, .fn 203 []), (9, .dat (.sc (.int .i64 v))), (10, .dat (.sc (.int .i64 v1)))], [(0, some (.arr 49 2 (List.map Enc.e data1)))], 48⟩ : X)) hm (Wk_J hL ⟨[(0, []), (1, []), (2, []), (3, []), (9, []), (10, [])], [(0, 0, [])], [], 48⟩ (by kernel_rfl)) ?_
    rintro ⟨v, v1, data1⟩ r0 hm hb
    rw [slices_partialInsertionSortCmpFunc_Span_w_L4] at hm
    refine Ok_seq ?_
    refine X_reg_seq ty_ok Γok hL [] .nil (by kernel_rfl) ?_
    refine X_cond (decide (v1 < 5)) (by kernel_rfl) (fun hc => ?_) (fun hc => ?_)
    · have hm := it hc hm
      refine X_skip ?_
      refine thN ?_
      obtain ⟨v8, hv, hr1, hk⟩ := flb_t hm
      refine X_joinF (n := 141) (fun ((v2, data2) : Int × (List Span)) => (⟨[(0, .own 0), (1, .dat (.sc (.int .i64 a))), (2, .dat (.sc (.int .i64 b))), (3, .fn 203 []), (9, .dat (.sc (.int .i64 v2))), (10, .dat (.sc (.int .i64 v1)))], [(0, some (.arr 49 2 (List.map Enc.e data2)))], 48⟩ : X)) v8 ?_ ?_
      · have hm := hv
        refine Ok_block ?_
        obtain ⟨v5, hv2, hk2⟩ := obind hm
        refine X_join (n := 141) (fun (v5 : Int) => (⟨[(0, .own 0), (1, .dat (.sc (.int .i64 a))), (2, .dat (.sc (.int .i64 b))), (3, .fn 203 []), (9, .dat (.sc (.int .i64 v5))), (10, .dat (.sc (.int .i64 v1)))], [(0, some (.arr 49 2 (List.map Enc.e data1)))], 48⟩ : X)) v5 ?_ ?_
        · have hm := hv2
          refine Ok_block ?_
          refine X_loop (n := 141) (step := slices_partialInsertionSortCmpFunc_Span_w_L1 b cmp data1) (fun (v3 : Int) => (⟨[(0, .own 0), (1, .dat (.sc (.int .i64 a))), (2, .dat (.sc (.int .i64 b))), (3, .fn 203 []), (9, .dat (.sc (.int .i64 v3))), (10, .dat (.sc (.int .i64 v1)))], [(0, some (.arr 49 2 (List.map Enc.e data1)))], 48⟩ : X)) hm (Wk_J hL ⟨[(0, []), (1, []), (2, []), (3, []), (9, []), (10, [])], [(0, 0, [])], [], 48⟩ (by kernel_rfl)) ?_
          rintro v3 r0 hm hb1
          rw [slices_partialInsertionSortCmpFunc_Span_w_L1] at hm
          refine Ok_seq ?_
          obtain ⟨v4, hv1, hk1⟩ := obind hm
          refine X_join (n := 141) (fun (v4 : Bool) => (⟨[(0, .own 0), (1, .dat (.sc (.int .i64 a))), (2, .dat (.sc (.int .i64 b))), (3, .fn 203 []), (9, .dat (.sc (.int .i64 v3))), (10, .dat (.sc (.int .i64 v1))), (36, .dat (.sc (.bool v4)))], [(0, some (.arr 49 2 (List.map Enc.e data1)))], 48⟩ : X)) v4 ?_ ?_
          · have hm := hv1
            rcases btf (decide (v3 < b)) with hb2 | hb2
            · have hm := it hb2 hm
              obtain ⟨e2, h3, hm⟩ := obind hm
              obtain ⟨e3, h4, hm⟩ := obind hm
              obtain ⟨r1, h5, hm⟩ := obind hm
              have h5 : i_mergeSpans_1 e2 e3 = some r1 := by rw [← hf_cmp] at h5; exact h5
              obtain rfl := some_inj hm
              refine X_draw mixed ty_ok Γok Γlive [(14, [])] (by kernel_rfl) [(3, .b true), (7, .d (Enc.e e2)), (8, .d (Enc.e e2)), (12, .d (Enc.e e3)), (13, .d (Enc.e e3)), (14, .c (i_mergeSpans_1_r r1) (i_mergeSpans_1_n r1) (i_mergeSpans_1_o (e2, e3) r1))] (.cons hb2 (.cons (idx_m (f := Enc.e) h3) (.cons (idx_m2 (f := Enc.e) h3) (.cons (idx_m (f := Enc.e) h4) (.cons (idx_m2 (f := Enc.e) h4) (.cons (i_mergeSpans_1_c h5) .nil)))))) (by kernel_rfl) ?_
              exact thN (Wk_J hL ⟨[(0, []), (1, []), (2, []), (3, []), (9, []), (10, []), (36, [])], [(0, 0, [])], [], 48⟩ (by kernel_rfl))
            · have hm := ie hb2 hm
              obtain rfl := some_inj hm
              refine X_draw mixed ty_ok Γok Γlive [(14, [])] (by kernel_rfl) [(3, .b false)] (.cons hb2 .nil) (by kernel_rfl) ?_
              exact thN (Wk_J hL ⟨[(0, []), (1, []), (2, []), (3, []), (9, []), (10, []), (36, [])], [(0, 0, [])], [], 48⟩ (by kernel_rfl))
          have hm := hk1
          refine X_cond v4 (by kernel_rfl) (fun hc1 => ?_) (fun hc1 => ?_)
          · have hm := it hc1 hm
            refine X_skip ?_
            refine thN ?_
            refine Ok_block ?_
            refine X_reg ty_ok Γok hL [] .nil (by kernel_rfl) ?_
            refine ibN ?_
            obtain rfl := some_inj hm
            exact thN ⟨_, rfl, Wk_J hL ⟨[(0, []), (1, []), (2, []), (3, []), (9, []), (10, [])], [(0, 0, [])], [], 48⟩ (by kernel_rfl)⟩
          · have hm := ie hc1 hm
            obtain rfl := some_inj hm
            obtain rfl := hb1 _ rfl
            refine Ok_exit ?_
            refine thE ?_
            refine thE ?_
            refine ibE ?_
            exact thN (Wk_J hL ⟨[(0, []), (1, []), (2, []), (3, []), (9, []), (10, [])], [(0, 0, [])], [], 48⟩ (by kernel_rfl))
        have hm := hk2
        refine Ok_seq ?_
        refine X_reg_seq ty_ok Γok hL [] .nil (by kernel_rfl) ?_
        refine X_cond (v5 == b) (by kernel_rfl) (fun hc2 => ?_) (fun hc2 => ?_)
        · have hm := it hc2 hm
          refine X_reg_seq ty_ok Γok hL [] .nil (by kernel_rfl) ?_
          obtain rfl := some_inj hm
          have hm := congrArg some (hr1 _ rfl)
          obtain rfl := some_inj hm
          obtain rfl := hb _ rfl
          have hm := congrArg some (hr _ rfl)
          obtain rfl := some_inj hm
          refine Ok_ret ?_
          repeat (first | refine thR ?_ | refine ibR ?_)
          exact X_fin [] [] (by kernel_rfl) trivial
        · have hm := ie hc2 hm
          refine X_skip ?_
          refine thN ?_
          refine Ok_seq ?_
          refine X_reg_seq ty_ok Γok hL [] .nil (by kernel_rfl) ?_
          refine X_cond (decide ((w64 (b - a)) < 50)) (by kernel_rfl) (fun hc3 => ?_) (fun hc3 => ?_)
          · have hm := it hc3 hm
            refine X_reg_seq ty_ok Γok hL [] .nil (by kernel_rfl) ?_
            obtain rfl := some_inj hm
            have hm := congrArg some (hr1 _ rfl)
            obtain rfl := some_inj hm
            obtain rfl := hb _ rfl
            have hm := congrArg some (hr _ rfl)
            obtain rfl := some_inj hm
            refine Ok_ret ?_
            repeat (first | refine thR ?_ | refine ibR ?_)
            exact X_fin [] [] (by kernel_rfl) trivial
          · have hm := ie hc3 hm
            refine X_skip ?_
            refine thN ?_
            obtain ⟨e12, h10, hm⟩ := obind hm
            obtain ⟨e13, h11, hm⟩ := obind hm
            obtain ⟨e14, h12, hm⟩ := obind hm
            obtain ⟨e15, h13, hm⟩ := obind hm
            refine X_draw_seq mixed ty_ok Γok Γlive [(15, [0]), (17, [0])] (by kernel_rfl) [(8, .d (Enc.e e12)), (9, .d (Enc.e e12)), (12, .d (Enc.e e13)), (13, .d (Enc.e e13)), (14, .d (Enc.e e14)), (15, .sd (Enc.e e14) (List.map Enc.e (data1.set v5.toNat e12))), (16, .d (Enc.e e15)), (17, .sd (Enc.e e15) (List.map Enc.e ((data1.set v5.toNat e12).set (w64 (v5 - 1)).toNat e13)))] (.cons (idx_m (f := Enc.e) h10) (.cons (idx_m2 (f := Enc.e) h10) (.cons (idx_m (f := Enc.e) h11) (.cons (idx_m2 (f := Enc.e) h11) (.cons (idx_m (f := Enc.e) h12) (.cons (idx_m2 (f := Enc.e) h12) (.cons (set_m Enc.e data1 v5.toNat e12) (.cons (idx_m (f := Enc.e) h13) (.cons (idx_m2 (f := Enc.e) h13) (.cons (set_m Enc.e (data1.set v5.toNat e12) (w64 (v5 - 1)).toNat e13) .nil)))))))))) (by kernel_rfl) ?_
            obtain ⟨data3, hv3, hk3⟩ := obind hm
            refine X_join (n := 141) (fun (data3 : List Span) => (⟨[(0, .own 0), (1, .dat (.sc (.int .i64 a))), (2, .dat (.sc (.int .i64 b))), (3, .fn 203 []), (9, .dat (.sc (.int .i64 v5))), (10, .dat (.sc (.int .i64 v1)))], [(0, some (.arr 49 2 (List.map Enc.e data3)))], 48⟩ : X)) data3 ?_ ?_
            · have hm := hv3
              refine X_reg_seq ty_ok Γok hL [] .nil (by kernel_rfl) ?_
              refine X_cond (decide (2 ≤ (w64 (v5 - a)))) (by kernel_rfl) (fun hc4 => ?_) (fun hc4 => ?_)
              · have hm := it hc4 hm
                refine X_reg_seq ty_ok Γok hL [] .nil (by kernel_rfl) ?_
                obtain ⟨data5, hv4, hk4⟩ := obind hm
                refine X_tail (n := 141) (fun (data5 : List Span) => (⟨[(0, .own 0), (1, .dat (.sc (.int .i64 a))), (2, .dat (.sc (.int .i64 b))), (3, .fn 203 []), (9, .dat (.sc (.int .i64 v5))), (10, .dat (.sc (.int .i64 v1)))], [(0, some (.arr 49 2 (List.map Enc.e data5)))], 48⟩ : X)) data5 ?_ ?_
                · have hm := hv4
                  refine Ok_block ?_
                  refine X_loop (n := 141) (step := slices_partialInsertionSortCmpFunc_Span_w_L2 cmp) (fun ((v6, data4) : Int × (List Span)) => (⟨[(0, .own 0), (1, .dat (.sc (.int .i64 a))), (2, .dat (.sc (.int .i64 b))), (3, .fn 203 []), (9, .dat (.sc (.int .i64 v5))), (10, .dat (.sc (.int .i64 v1))), (11, .dat (.sc (.int .i64 v6)))], [(0, some (.arr 49 2 (List.map Enc.e data4)))], 48⟩ : X)) hm (Wk_J hL ⟨[(0, []), (1, []), (2, []), (3, []), (9, []), (10, []), (11, [])], [(0, 0, [])], [], 48⟩ (by kernel_rfl)) ?_
                  rintro ⟨v6, data4⟩ r0 hm hb3
                  rw [slices_partialInsertionSortCmpFunc_Span_w_L2] at hm
                  refine Ok_seq ?_
                  refine X_reg_seq ty_ok Γok hL [] .nil (by kernel_rfl) ?_
                  refine X_cond (decide (1 ≤ v6)) (by kernel_rfl) (fun hc5 => ?_) (fun hc5 => ?_)
                  · have hm := it hc5 hm
                    refine X_skip ?_
                    refine thN ?_
                    refine Ok_seq ?_
                    refine Ok_block ?_
                    refine Ok_seq ?_
                    obtain ⟨e18, h17, hm⟩ := obind hm
                    obtain ⟨e19, h18, hm⟩ := obind hm
                    obtain ⟨r7, h19, hm⟩ := obind hm
                    have h19 : i_mergeSpans_1 e18 e19 = some r7 := by rw [← hf_cmp] at h19; exact h19
                    refine X_draw_seq mixed ty_ok Γok Γlive [(10, [])] (by kernel_rfl) [(3, .d (Enc.e e18)), (4, .d (Enc.e e18)), (8, .d (Enc.e e19)), (9, .d (Enc.e e19)), (10, .c (i_mergeSpans_1_r r7) (i_mergeSpans_1_n r7) (i_mergeSpans_1_o (e18, e19) r7))] (.cons (idx_m (f := Enc.e) h17) (.cons (idx_m2 (f := Enc.e) h17) (.cons (idx_m (f := Enc.e) h18) (.cons (idx_m2 (f := Enc.e) h18) (.cons (i_mergeSpans_1_c h19) .nil))))) (by kernel_rfl) ?_
                    refine X_cond (!(decide (r7 < 0))) (by kernel_rfl) (fun hc6 => ?_) (fun hc6 => ?_)
                    · have hm := it hc6 hm
                      obtain rfl := some_inj hm
                      obtain rfl := hb3 _ rfl
                      refine Ok_exit ?_
                      refine thE ?_
                      refine ibX rfl ?_
                      refine thE ?_
                      refine thE ?_
                      refine ibE ?_
                      exact thN (Wk_J hL ⟨[(0, []), (1, []), (2, []), (3, []), (9, []), (10, [])], [(0, 0, [])], [], 48⟩ (by kernel_rfl))
                    · have hm := ie hc6 hm
                      refine X_skip ?_
                      refine thN ?_
                      obtain ⟨e24, h24, hm⟩ := obind hm
                      obtain ⟨e25, h25, hm⟩ := obind hm
                      obtain ⟨e26, h26, hm⟩ := obind hm
                      obtain ⟨e27, h27, hm⟩ := obind hm
                      refine X_draw mixed ty_ok Γok Γlive [(15, [0]), (17, [0])] (by kernel_rfl) [(8, .d (Enc.e e24)), (9, .d (Enc.e e24)), (12, .d (Enc.e e25)), (13, .d (Enc.e e25)), (14, .d (Enc.e e26)), (15, .sd (Enc.e e26) (List.map Enc.e (data4.set v6.toNat e24))), (16, .d (Enc.e e27)), (17, .sd (Enc.e e27) (List.map Enc.e ((data4.set v6.toNat e24).set (w64 (v6 - 1)).toNat e25)))] (.cons (idx_m (f := Enc.e) h24) (.cons (idx_m2 (f := Enc.e) h24) (.cons (idx_m (f := Enc.e) h25) (.cons (idx_m2 (f := Enc.e) h25) (.cons (idx_m (f := Enc.e) h26) (.cons (idx_m2 (f := Enc.e) h26) (.cons (set_m Enc.e data4 v6.toNat e24) (.cons (idx_m (f := Enc.e) h27) (.cons (idx_m2 (f := Enc.e) h27) (.cons (set_m Enc.e (data4.set v6.toNat e24) (w64 (v6 - 1)).toNat e25) .nil)))))))))) (by kernel_rfl) ?_
                      refine ibN ?_
                      refine thN ?_
                      refine X_reg ty_ok Γok hL [] .nil (by kernel_rfl) ?_
                      obtain rfl := some_inj hm
                      exact thN ⟨_, rfl, Wk_J hL ⟨[(0, []), (1, []), (2, []), (3, []), (9, []), (10, []), (11, [])], [(0, 0, [])], [], 48⟩ (by kernel_rfl)⟩
                  · have hm := ie hc5 hm
                    obtain rfl := some_inj hm
                    obtain rfl := hb3 _ rfl
                    refine Ok_exit ?_
                    refine thE ?_
                    refine thE ?_
                    refine ibE ?_
                    exact thN (Wk_J hL ⟨[(0, []), (1, []), (2, []), (3, []), (9, []), (10, [])], [(0, 0, [])], [], 48⟩ (by kernel_rfl))
                intro s hw
                have hm := hk4
                obtain rfl := some_inj hm
                exact thN (Wk.trans hw (Wk_J hL ⟨[(0, []), (1, []), (2, []), (3, []), (9, []), (10, [])], [(0, 0, [])], [], 48⟩ (by kernel_rfl)))
              · have hm := ie hc4 hm
                refine X_skip ?_
                obtain rfl := some_inj hm
                exact thN (Wk_J hL ⟨[(0, []), (1, []), (2, []), (3, []), (9, []), (10, [])], [(0, 0, [])], [], 48⟩ (by kernel_rfl))
            have hm := hk3
            refine X_reg_seq ty_ok Γok hL [] .nil (by kernel_rfl) ?_
            refine X_cond (decide (2 ≤ (w64 (b - v5)))) (by kernel_rfl) (fun hc7 => ?_) (fun hc7 => ?_)
            · have hm := it hc7 hm
              refine X_reg_seq ty_ok Γok hL [] .nil (by kernel_rfl) ?_
              obtain ⟨data7, hv5, hk5⟩ := obind hm
              refine X_tail (n := 141) (fun (data7 : List Span) => (⟨[(0, .own 0), (1, .dat (.sc (.int .i64 a))), (2, .dat (.sc (.int .i64 b))), (3, .fn 203 []), (9, .dat (.sc (.int .i64 v5))), (10, .dat (.sc (.int .i64 v1)))], [(0, some (.arr 49 2 (List.map Enc.e data7)))], 48⟩ : X)) data7 ?_ ?_
              · have hm := hv5
                refine Ok_block ?_
                refine X_loop (n := 141) (step := slices_partialInsertionSortCmpFunc_Span_w_L3 b cmp) (fun ((v7, data6) : Int × (List Span)) => (⟨[(0, .own 0), (1, .dat (.sc (.int .i64 a))), (2, .dat (.sc (.int .i64 b))), (3, .fn 203 []), (9, .dat (.sc (.int .i64 v5))), (10, .dat (.sc (.int .i64 v1))), (12, .dat (.sc (.int .i64 v7)))], [(0, some (.arr 49 2 (List.map Enc.e data6)))], 48⟩ : X)) hm (Wk_J hL ⟨[(0, []), (1, []), (2, []), (3, []), (9, []), (10, []), (12, [])], [(0, 0, [])], [], 48⟩ (by kernel_rfl)) ?_
                rintro ⟨v7, data6⟩ r0 hm hb4
                rw [slices_partialInsertionSortCmpFunc_Span_w_L3] at hm
                refine Ok_seq ?_
                refine X_reg_seq ty_ok Γok hL [] .nil (by kernel_rfl) ?_
                refine X_cond (decide (v7 < b)) (by kernel_rfl) (fun hc8 => ?_) (fun hc8 => ?_)
                · have hm := it hc8 hm
                  refine X_skip ?_
                  refine thN ?_
                  refine Ok_seq ?_
                  refine Ok_block ?_
                  refine Ok_seq ?_
                  obtain ⟨e30, h31, hm⟩ := obind hm
                  obtain ⟨e31, h32, hm⟩ := obind hm
                  obtain ⟨r9, h33, hm⟩ := obind hm
                  have h33 : i_mergeSpans_1 e30 e31 = some r9 := by rw [← hf_cmp] at h33; exact h33
                  refine X_draw_seq mixed ty_ok Γok Γlive [(10, [])] (by kernel_rfl) [(3, .d (Enc.e e30)), (4, .d (Enc.e e30)), (8, .d (Enc.e e31)), (9, .d (Enc.e e31)), (10, .c (i_mergeSpans_1_r r9) (i_mergeSpans_1_n r9) (i_mergeSpans_1_o (e30, e31) r9))] (.cons (idx_m (f := Enc.e) h31) (.cons (idx_m2 (f := Enc.e) h31) (.cons (idx_m (f := Enc.e) h32) (.cons (idx_m2 (f := Enc.e) h32) (.cons (i_mergeSpans_1_c h33) .nil))))) (by kernel_rfl) ?_
                  refine X_cond (!(decide (r9 < 0))) (by kernel_rfl) (fun hc9 => ?_) (fun hc9 => ?_)
                  · have hm := it hc9 hm
                    obtain rfl := some_inj hm
                    obtain rfl := hb4 _ rfl
                    refine Ok_exit ?_
                    refine thE ?_
                    refine ibX rfl ?_
                    refine thE ?_
                    refine thE ?_
                    refine ibE ?_
                    exact thN (Wk_J hL ⟨[(0, []), (1, []), (2, []), (3, []), (9, []), (10, [])], [(0, 0, [])], [], 48⟩ (by kernel_rfl))
                  · have hm := ie hc9 hm
                    refine X_skip ?_
                    refine thN ?_
                    obtain ⟨e36, h38, hm⟩ := obind hm
                    obtain ⟨e37, h39, hm⟩ := obind hm
                    obtain ⟨e38, h40, hm⟩ := obind hm
                    obtain ⟨e39, h41, hm⟩ := obind hm
                    refine X_draw mixed ty_ok Γok Γlive [(15, [0]), (17, [0])] (by kernel_rfl) [(8, .d (Enc.e e36)), (9, .d (Enc.e e36)), (12, .d (Enc.e e37)), (13, .d (Enc.e e37)), (14, .d (Enc.e e38)), (15, .sd (Enc.e e38) (List.map Enc.e (data6.set v7.toNat e36))), (16, .d (Enc.e e39)), (17, .sd (Enc.e e39) (List.map Enc.e ((data6.set v7.toNat e36).set (w64 (v7 - 1)).toNat e37)))] (.cons (idx_m (f := Enc.e) h38) (.cons (idx_m2 (f := Enc.e) h38) (.cons (idx_m (f := Enc.e) h39) (.cons (idx_m2 (f := Enc.e) h39) (.cons (idx_m (f := Enc.e) h40) (.cons (idx_m2 (f := Enc.e) h40) (.cons (set_m Enc.e data6 v7.toNat e36) (.cons (idx_m (f := Enc.e) h41) (.cons (idx_m2 (f := Enc.e) h41) (.cons (set_m Enc.e (data6.set v7.toNat e36) (w64 (v7 - 1)).toNat e37) .nil)))))))))) (by kernel_rfl) ?_
                    refine ibN ?_
                    refine thN ?_
                    refine X_reg ty_ok Γok hL [] .nil (by kernel_rfl) ?_
                    obtain rfl := some_inj hm
                    exact thN ⟨_, rfl, Wk_J hL ⟨[(0, []), (1, []), (2, []), (3, []), (9, []), (10, []), (12, [])], [(0, 0, [])], [], 48⟩ (by kernel_rfl)⟩
                · have hm := ie hc8 hm
                  obtain rfl := some_inj hm
                  obtain rfl := hb4 _ rfl
                  refine Ok_exit ?_
                  refine thE ?_
                  refine thE ?_
                  refine ibE ?_
                  exact thN (Wk_J hL ⟨[(0, []), (1, []), (2, []), (3, []), (9, []), (10, [])], [(0, 0, [])], [], 48⟩ (by kernel_rfl))
              intro s1 hw1
              have hm := hk5
              refine ibN ?_
              obtain rfl := some_inj hm
              exact thN ⟨_, rfl, Wk.trans hw1 (Wk_J hL ⟨[(0, []), (1, []), (2, []), (3, []), (9, []), (10, [])], [(0, 0, [])], [], 48⟩ (by kernel_rfl))⟩
            · have hm := ie hc7 hm
              refine X_skip ?_
              refine ibN ?_
              obtain rfl := some_inj hm
              exact thN ⟨_, rfl, Wk_J hL ⟨[(0, []), (1, []), (2, []), (3, []), (9, []), (10, [])], [(0, 0, [])], [], 48⟩ (by kernel_rfl)⟩
      rintro ⟨v2, data2⟩ hu
      have hm := hk _ hu
      refine X_reg ty_ok Γok hL [] .nil (by kernel_rfl) ?_
      obtain rfl := some_inj hm
      exact thN ⟨_, rfl, Wk_J hL ⟨[(0, []), (1, []), (2, []), (3, []), (9, []), (10, [])], [(0, 0, [])], [], 48⟩ (by kernel_rfl)⟩
    · have hm := ie hc hm
      obtain rfl := some_inj hm
      obtain rfl := hb _ rfl
      refine Ok_exit ?_
      refine thE ?_
      refine thE ?_
      refine ibE ?_
      exact thN ⟨_, rfl, Wk_J hL ⟨[(0, []), (3, [])], [(0, 0, [])], [], 48⟩ (by kernel_rfl)⟩
  rintro data8 hu1 s2 hw2
  have hm := hk6 _ hu1
  refine thN ?_
  refine Ok_weak hw2 ?_
  refine X_reg_seq ty_ok Γok hL [] .nil (by kernel_rfl) ?_
  obtain rfl := some_inj hm
  refine Ok_ret ?_
  repeat (first | refine thR ?_ | refine ibR ?_)
  exact X_fin [] [] (by kernel_rfl) trivial
abbrev slices_partitionEqualCmpFunc_Span_w__i_mergeSpans_1_r (y : Int × (List Span)) : AV := .dat (Enc.e y.1)
abbrev slices_partitionEqualCmpFunc_Span_w__i_mergeSpans_1_n (y : Int × (List Span)) : List Obj' := []
abbrev slices_partitionEqualCmpFunc_Span_w__i_mergeSpans_1_o (x : (List Span) × Int × Int × Int) (y : Int × (List Span)) : List Obj' := [.arr 49 2 (List.map Enc.e y.2)]
noncomputable def slices_partitionEqualCmpFunc_Span_w__i_mergeSpans_1_S : FnSpec := modS [.sl, .rd, .rd, .rd, .fn 203 []] (fun x : (List Span) × Int × Int × Int => [.sc undef, Enc.e x.2.1, Enc.e x.2.2.1, Enc.e x.2.2.2, .agg []]) (fun x : (List Span) × Int × Int × Int => [.arr 49 2 (List.map Enc.e x.1)]) (fun x : (List Span) × Int × Int × Int => slices_partitionEqualCmpFunc_Span_w__i_mergeSpans_1 x.1 x.2.1 x.2.2.1 x.2.2.2) slices_partitionEqualCmpFunc_Span_w__i_mergeSpans_1_r slices_partitionEqualCmpFunc_Span_w__i_mergeSpans_1_n slices_partitionEqualCmpFunc_Span_w__i_mergeSpans_1_o
theorem slices_partitionEqualCmpFunc_Span_w__i_mergeSpans_1_c {data : List Span} {a : Int} {b : Int} {pivot : Int} {y : Int × (List Span)} (h : slices_partitionEqualCmpFunc_Span_w__i_mergeSpans_1 data a b pivot = some y) : CallOK slices_partitionEqualCmpFunc_Span_w__i_mergeSpans_1_S [.sc undef, Enc.e a, Enc.e b, Enc.e pivot, .agg []] [.arr 49 2 (List.map Enc.e data)] (slices_partitionEqualCmpFunc_Span_w__i_mergeSpans_1_r y) (slices_partitionEqualCmpFunc_Span_w__i_mergeSpans_1_n y) (slices_partitionEqualCmpFunc_Span_w__i_mergeSpans_1_o (data, a, b, pivot) y) :=
  modS_call (by
    rintro ⟨a0, a1, a2, a3⟩ ⟨b0, b1, b2, b3⟩ h hO
    have q0 : a0 = b0 := Enc.inj _ _ (congrArg (fun l => D.sl 2 (obL l 0)) hO)
    have q1 : a1 = b1 := Enc.inj _ _ (congrArg (fun l => List.getD l 1 (.sc undef)) h)
    have q2 : a2 = b2 := Enc.inj _ _ (congrArg (fun l => List.getD l 2 (.sc undef)) h)
    have q3 : a3 = b3 := Enc.inj _ _ (congrArg (fun l => List.getD l 3 (.sc undef)) h)
    subst q0; subst q1; subst q2; subst q3; rfl) (x := (data, a, b, pivot)) h
theorem slices_partitionEqualCmpFunc_Span_w__i_mergeSpans_1_ok : FnOK Try.prog 266 slices_partitionEqualCmpFunc_Span_w__i_mergeSpans_1_S := by
  have Γok : ∀ f S, lookF f [(203, i_mergeSpans_1_S)] = some S → FnOK Try.prog f S := lookF_ok (allF_cons i_mergeSpans_1_ok allF_nil)
  have Γlive : Live (fun f => lookF f [(203, i_mergeSpans_1_S)]) := lookF_live (allL_cons modS_live allL_nil)
  refine fnOK_mod ty_ok (fun args w => Try.call266 args w) Try.func266 rfl [.tmp 10] (by rw [Try.results266]) 90 Try.ntmps266 16 rfl (fun _ => by first | exact Nat.zero_le _ | (simp)) ?_
  rintro ⟨data, a, b, pivot⟩ y cx hm hL
  have hm : slices_partitionEqualCmpFunc_Span_w__i_mergeSpans_1 data a b pivot = some y := hm
  have hL : cx.L = 1 := hL
  obtain ⟨cmp, hf_cmp⟩ : ∃ q, (fun (z0 : Span) (z1 : Span) => i_mergeSpans_1 z0 z1) = q := ⟨_, rfl⟩
  have hm : slices_partitionEqualCmpFunc_Span_w data a b pivot cmp = some y := by rw [← hf_cmp]; exact hm
  unfold slices_partitionEqualCmpFunc_Span_w at hm
  refine X_reg_seq ty_ok Γok hL [] .nil (by kernel_rfl) ?_
  obtain ⟨e4, h4, hm⟩ := obind hm
  obtain ⟨e5, h5, hm⟩ := obind hm
  obtain ⟨e6, h6, hm⟩ := obind hm
  obtain ⟨e7, h7, hm⟩ := obind hm
  refine X_draw_seq mixed ty_ok Γok Γlive [(13, [0]), (15, [0])] (by kernel_rfl) [(6, .d (Enc.e e4)), (7, .d (Enc.e e4)), (10, .d (Enc.e e5)), (11, .d (Enc.e e5)), (12, .d (Enc.e e6)), (13, .sd (Enc.e e6) (List.map Enc.e (data.set a.toNat e4))), (14, .d (Enc.e e7)), (15, .sd (Enc.e e7) (List.map Enc.e ((data.set a.toNat e4).set pivot.toNat e5)))] (.cons (idx_m (f := Enc.e) h4) (.cons (idx_m2 (f := Enc.e) h4) (.cons (idx_m (f := Enc.e) h5) (.cons (idx_m2 (f := Enc.e) h5) (.cons (idx_m (f := Enc.e) h6) (.cons (idx_m2 (f := Enc.e) h6) (.cons (set_m Enc.e data a.toNat e4) (.cons (idx_m (f := Enc.e) h7) (.cons (idx_m2 (f := Enc.e) h7) (.cons (set_m Enc.e (data.set a.toNat e4) pivot.toNat e5) .nil)))))))))) (by kernel_rfl) ?_
  refine X_reg_seq ty_ok Γok hL [] .nil (by kernel_rfl) ?_
  obtain ⟨vv, hv4, hk4⟩ := obind hm
  refine X_join (n := 90) (fun ((v8, data2) : Int × (List Span)) => (⟨[(0, .own 0), (4, .fn 203 []), (11, .dat (.sc (.int .i64 v8)))], [(0, some (.arr 49 2 (List.map Enc.e data2)))], 48⟩ : X)) vv ?_ ?_
  · have hm := hv4
    refine Ok_block ?_
    refine X_loop (n := 90) (step := slices_partitionEqualCmpFunc_Span_w_L3 a cmp) (fun ((v, v1, data1) : Int × Int × (List Span)) => (⟨[(0, .own 0), (1, .dat (.sc (.int .i64 a))), (4, .fn 203 []), (11, .dat (.sc (.int .i64 v))), (12, .dat (.sc (.int .i64 v1)))], [(0, some (.arr 49 2 (List.map Enc.e data1)))], 48⟩ : X)) hm (Wk_J hL ⟨[(0, []), (1, []), (4, []), (11, []), (12, [])], [(0, 0, [])], [], 48⟩ (by kernel_rfl)) ?_
    rintro ⟨v, v1, data1⟩ r0 hm hb
    rw [slices_partitionEqualCmpFunc_Span_w_L3] at hm
    refine Ok_block ?_
    obtain ⟨v4, hv1, hk1⟩ := obind hm
    refine X_join (n := 90) (fun (v4 : Int) => (⟨[(0, .own 0), (1, .dat (.sc (.int .i64 a))), (4, .fn 203 []), (11, .dat (.sc (.int .i64 v4))), (12, .dat (.sc (.int .i64 v1)))], [(0, some (.arr 49 2 (List.map Enc.e data1)))], 48⟩ : X)) v4 ?_ ?_
    · have hm := hv1
      refine Ok_block ?_
      refine X_loop (n := 90) (step := slices_partitionEqualCmpFunc_Span_w_L1 a cmp v1 data1) (fun (v2 : Int) => (⟨[(0, .own 0), (1, .dat (.sc (.int .i64 a))), (4, .fn 203 []), (11, .dat (.sc (.int .i64 v2))), (12, .dat (.sc (.int .i64 v1)))], [(0, some (.arr 49 2 (List.map Enc.e data1)))], 48⟩ : X)) hm (Wk_J hL ⟨[(0, []), (1, []), (4, []), (11, []), (12, [])], [(0, 0, [])], [], 48⟩ (by kernel_rfl)) ?_
      rintro v2 r0 hm hb1
      rw [slices_partitionEqualCmpFunc_Span_w_L1] at hm
      refine Ok_seq ?_
      obtain ⟨v3, hv, hk⟩ := obind hm
      refine X_join (n := 90) (fun (v3 : Bool) => (⟨[(0, .own 0), (1, .dat (.sc (.int .i64 a))), (4, .fn 203 []), (11, .dat (.sc (.int .i64 v2))), (12, .dat (.sc (.int .i64 v1))), (47, .dat (.sc (.bool v3)))], [(0, some (.arr 49 2 (List.map Enc.e data1)))], 48⟩ : X)) v3 ?_ ?_
      · have hm := hv
        rcases btf (decide (v2 ≤ v1)) with hb2 | hb2
        · have hm := it hb2 hm
          obtain ⟨e10, h11, hm⟩ := obind hm
          obtain ⟨e11, h12, hm⟩ := obind hm
          obtain ⟨r1, h13, hm⟩ := obind hm
          have h13 : i_mergeSpans_1 e10 e11 = some r1 := by rw [← hf_cmp] at h13; exact h13
          obtain rfl := some_inj hm
          refine X_draw mixed ty_ok Γok Γlive [(13, [])] (by kernel_rfl) [(3, .b true), (7, .d (Enc.e e10)), (8, .d (Enc.e e10)), (11, .d (Enc.e e11)), (12, .d (Enc.e e11)), (13, .c (i_mergeSpans_1_r r1) (i_mergeSpans_1_n r1) (i_mergeSpans_1_o (e10, e11) r1))] (.cons hb2 (.cons (idx_m (f := Enc.e) h11) (.cons (idx_m2 (f := Enc.e) h11) (.cons (idx_m (f := Enc.e) h12) (.cons (idx_m2 (f := Enc.e) h12) (.cons (i_mergeSpans_1_c h13) .nil)))))) (by kernel_rfl) ?_
          exact thN (Wk_J hL ⟨[(0, []), (1, []), (4, []), (11, []), (12, []), (47, [])], [(0, 0, [])], [], 48⟩ (by kernel_rfl))
        · have hm := ie hb2 hm
          obtain rfl := some_inj hm
          refine X_draw mixed ty_ok Γok Γlive [(13, [])] (by kernel_rfl) [(3, .b false)] (.cons hb2 .nil) (by kernel_rfl) ?_
          exact thN (Wk_J hL ⟨[(0, []), (1, []), (4, []), (11, []), (12, []), (47, [])], [(0, 0, [])], [], 48⟩ (by kernel_rfl))
      have hm := hk
      refine X_cond v3 (by kernel_rfl) (fun hc => ?_) (fun hc => ?_)
      · have hm := it hc hm
        refine X_skip ?_
        refine thN ?_
        refine Ok_block ?_
        refine X_reg ty_ok Γok hL [] .nil (by kernel_rfl) ?_
        refine ibN ?_
        obtain rfl := some_inj hm
        exact thN ⟨_, rfl, Wk_J hL ⟨[(0, []), (1, []), (4, []), (11, []), (12, [])], [(0, 0, [])], [], 48⟩ (by kernel_rfl)⟩
      · have hm := ie hc hm
        obtain rfl := some_inj hm
        obtain rfl := hb1 _ rfl
        refine Ok_exit ?_
        refine thE ?_
        refine thE ?_
        refine ibE ?_
        exact thN (Wk_J hL ⟨[(0, []), (1, []), (4, []), (11, []), (12, [])], [(0, 0, [])], [], 48⟩ (by kernel_rfl))
    have hm := hk1
    obtain ⟨v7, hv3, hk3⟩ := obind hm
    refine X_join (n := 90) (fun (v7 : Int) => (⟨[(0, .own 0), (1, .dat (.sc (.int .i64 a))), (4, .fn 203 []), (11, .dat (.sc (.int .i64 v4))), (12, .dat (.sc (.int .i64 v7)))], [(0, some (.arr 49 2 (List.map Enc.e data1)))], 48⟩ : X)) v7 ?_ ?_
    · have hm := hv3
      refine Ok_block ?_
      refine X_loop (n := 90) (step := slices_partitionEqualCmpFunc_Span_w_L2 a cmp data1 v4) (fun (v5 : Int) => (⟨[(0, .own 0), (1, .dat (.sc (.int .i64 a))), (4, .fn 203 []), (11, .dat (.sc (.int .i64 v4))), (12, .dat (.sc (.int .i64 v5)))], [(0, some (.arr 49 2 (List.map Enc.e data1)))], 48⟩ : X)) hm (Wk_J hL ⟨[(0, []), (1, []), (4, []), (11, []), (12, [])], [(0, 0, [])], [], 48⟩ (by kernel_rfl)) ?_
      rintro v5 r0 hm hb3
      rw [slices_partitionEqualCmpFunc_Span_w_L2] at hm
      refine Ok_seq ?_
      obtain ⟨v6, hv2, hk2⟩ := obind hm
      refine X_join (n := 90) (fun (v6 : Bool) => (⟨[(0, .own 0), (1, .dat (.sc (.int .i64 a))), (4, .fn 203 []), (11, .dat (.sc (.int .i64 v4))), (12, .dat (.sc (.int .i64 v5))), (65, .dat (.sc (.bool v6)))], [(0, some (.arr 49 2 (List.map Enc.e data1)))], 48⟩ : X)) v6 ?_ ?_
      · have hm := hv2
        rcases btf (decide (v4 ≤ v5)) with hb4 | hb4
        · have hm := it hb4 hm
          obtain ⟨e14, h17, hm⟩ := obind hm
          obtain ⟨e15, h18, hm⟩ := obind hm
          obtain ⟨r3, h19, hm⟩ := obind hm
          have h19 : i_mergeSpans_1 e14 e15 = some r3 := by rw [← hf_cmp] at h19; exact h19
          obtain rfl := some_inj hm
          refine X_draw mixed ty_ok Γok Γlive [(13, [])] (by kernel_rfl) [(3, .b true), (7, .d (Enc.e e14)), (8, .d (Enc.e e14)), (11, .d (Enc.e e15)), (12, .d (Enc.e e15)), (13, .c (i_mergeSpans_1_r r3) (i_mergeSpans_1_n r3) (i_mergeSpans_1_o (e14, e15) r3))] (.cons hb4 (.cons (idx_m (f := Enc.e) h17) (.cons (idx_m2 (f := Enc.e) h17) (.cons (idx_m (f := Enc.e) h18) (.cons (idx_m2 (f := Enc.e) h18) (.cons (i_mergeSpans_1_c h19) .nil)))))) (by kernel_rfl) ?_
          exact thN (Wk_J hL ⟨[(0, []), (1, []), (4, []), (11, []), (12, []), (65, [])], [(0, 0, [])], [], 48⟩ (by kernel_rfl))
        · have hm := ie hb4 hm
          obtain rfl := some_inj hm
          refine X_draw mixed ty_ok Γok Γlive [(13, [])] (by kernel_rfl) [(3, .b false)] (.cons hb4 .nil) (by kernel_rfl) ?_
          exact thN (Wk_J hL ⟨[(0, []), (1, []), (4, []), (11, []), (12, []), (65, [])], [(0, 0, [])], [], 48⟩ (by kernel_rfl))
      have hm := hk2
      refine X_cond v6 (by kernel_rfl) (fun hc1 => ?_) (fun hc1 => ?_)
      · have hm := it hc1 hm
        refine X_skip ?_
        refine thN ?_
        refine Ok_block ?_
        refine X_reg ty_ok Γok hL [] .nil (by kernel_rfl) ?_
        refine ibN ?_
        obtain rfl := some_inj hm
        exact thN ⟨_, rfl, Wk_J hL ⟨[(0, []), (1, []), (4, []), (11, []), (12, [])], [(0, 0, [])], [], 48⟩ (by kernel_rfl)⟩
      · have hm := ie hc1 hm
        obtain rfl := some_inj hm
        obtain rfl := hb3 _ rfl
        refine Ok_exit ?_
        refine thE ?_
        refine thE ?_
        refine ibE ?_
        exact thN (Wk_J hL ⟨[(0, []), (1, []), (4, []), (11, []), (12, [])], [(0, 0, [])], [], 48⟩ (by kernel_rfl))
    have hm := hk3
    refine Ok_seq ?_
    refine X_reg_seq ty_ok Γok hL [] .nil (by kernel_rfl) ?_
    refine X_cond (decide (v7 < v4)) (by kernel_rfl) (fun hc2 => ?_) (fun hc2 => ?_)
    · have hm := it hc2 hm
      obtain rfl := some_inj hm
      obtain rfl := hb _ rfl
      refine Ok_exit ?_
      refine thE ?_
      refine ibX rfl ?_
      refine thE ?_
      refine ibE ?_
      exact thN (Wk_J hL ⟨[(0, []), (4, []), (11, [])], [(0, 0, [])], [], 48⟩ (by kernel_rfl))
    · have hm := ie hc2 hm
      refine X_skip ?_
      refine thN ?_
      obtain ⟨e20, h24, hm⟩ := obind hm
      obtain ⟨e21, h25, hm⟩ := obind hm
      obtain ⟨e22, h26, hm⟩ := obind hm
      obtain ⟨e23, h27, hm⟩ := obind hm
      refine X_draw_seq mixed ty_ok Γok Γlive [(13, [0]), (15, [0])] (by kernel_rfl) [(6, .d (Enc.e e20)), (7, .d (Enc.e e20)), (10, .d (Enc.e e21)), (11, .d (Enc.e e21)), (12, .d (Enc.e e22)), (13, .sd (Enc.e e22) (List.map Enc.e (data1.set v4.toNat e20))), (14, .d (Enc.e e23)), (15, .sd (Enc.e e23) (List.map Enc.e ((data1.set v4.toNat e20).set v7.toNat e21)))] (.cons (idx_m (f := Enc.e) h24) (.cons (idx_m2 (f := Enc.e) h24) (.cons (idx_m (f := Enc.e) h25) (.cons (idx_m2 (f := Enc.e) h25) (.cons (idx_m (f := Enc.e) h26) (.cons (idx_m2 (f := Enc.e) h26) (.cons (set_m Enc.e data1 v4.toNat e20) (.cons (idx_m (f := Enc.e) h27) (.cons (idx_m2 (f := Enc.e) h27) (.cons (set_m Enc.e (data1.set v4.toNat e20) v7.toNat e21) .nil)))))))))) (by kernel_rfl) ?_
      refine X_reg_seq ty_ok Γok hL [] .nil (by kernel_rfl) ?_
      refine X_reg ty_ok Γok hL [] .nil (by kernel_rfl) ?_
      refine ibN ?_
      obtain rfl := some_inj hm
      exact thN ⟨_, rfl, Wk_J hL ⟨[(0, []), (1, []), (4, []), (11, []), (12, [])], [(0, 0, [])], [], 48⟩ (by kernel_rfl)⟩
  obtain ⟨v8, data2⟩ := vv
  have hm := hk4
  refine X_reg_seq ty_ok Γok hL [] .nil (by kernel_rfl) ?_
  obtain rfl := some_inj hm
  refine Ok_ret ?_
  repeat (first | refine thR ?_ | refine ibR ?_)
  exact X_fin [] [] (by kernel_rfl) trivial
abbrev slices_partitionCmpFunc_Span_w__i_mergeSpans_1_r (y : Int × Bool × (List Span)) : AV := .tup [.dat (Enc.e y.1), .dat (Enc.e y.2.1)]
abbrev slices_partitionCmpFunc_Span_w__i_mergeSpans_1_n (y : Int × Bool × (List Span)) : List Obj' := []
abbrev slices_partitionCmpFunc_Span_w__i_mergeSpans_1_o (x : (List Span) × Int × Int × Int) (y : Int × Bool × (List Span)) : List Obj' := [.arr 49 2 (List.map Enc.e y.2.2)]
noncomputable def slices_partitionCmpFunc_Span_w__i_mergeSpans_1_S : FnSpec := modS [.sl, .rd, .rd, .rd, .fn 203 []] (fun x : (List Span) × Int × Int × Int => [.sc undef, Enc.e x.2.1, Enc.e x.2.2.1, Enc.e x.2.2.2, .agg []]) (fun x : (List Span) × Int × Int × Int => [.arr 49 2 (List.map Enc.e x.1)]) (fun x : (List Span) × Int × Int × Int => slices_partitionCmpFunc_Span_w__i_mergeSpans_1 x.1 x.2.1 x.2.2.1 x.2.2.2) slices_partitionCmpFunc_Span_w__i_mergeSpans_1_r slices_partitionCmpFunc_Span_w__i_mergeSpans_1_n slices_partitionCmpFunc_Span_w__i_mergeSpans_1_o
theorem slices_partitionCmpFunc_Span_w__i_mergeSpans_1_c {data : List Span} {a : Int} {b : Int} {pivot : Int} {y : Int × Bool × (List Span)} (h : slices_partitionCmpFunc_Span_w__i_mergeSpans_1 data a b pivot = some y) : CallOK slices_partitionCmpFunc_Span_w__i_mergeSpans_1_S [.sc undef, Enc.e a, Enc.e b, Enc.e pivot, .agg []] [.arr 49 2 (List.map Enc.e data)] (slices_partitionCmpFunc_Span_w__i_mergeSpans_1_r y) (slices_partitionCmpFunc_Span_w__i_mergeSpans_1_n y) (slices_partitionCmpFunc_Span_w__i_mergeSpans_1_o (data, a, b, pivot) y) :=
  modS_call (by
    rintro ⟨a0, a1, a2, a3⟩ ⟨b0, b1, b2, b3⟩ h hO
    have q0 : a0 = b0 := Enc.inj _ _ (congrArg (fun l => D.sl 2 (obL l 0)) hO)
    have q1 : a1 = b1 := Enc.inj _ _ (congrArg (fun l => List.getD l 1 (.sc undef)) h)
    have q2 : a2 = b2 := Enc.inj _ _ (congrArg (fun l => List.getD l 2 (.sc undef)) h)
    have q3 : a3 = b3 := Enc.inj _ _ (congrArg (fun l => List.getD l 3 (.sc undef)) h)
    subst q0; subst q1; subst q2; subst q3; rfl) (x := (data, a, b, pivot)) h
theorem slices_partitionCmpFunc_Span_w__i_mergeSpans_1_ok : FnOK Try.prog 267 slices_partitionCmpFunc_Span_w__i_mergeSpans_1_S := by
  have Γok : ∀ f S, lookF f [(203, i_mergeSpans_1_S)] = some S → FnOK Try.prog f S := lookF_ok (allF_cons i_mergeSpans_1_ok allF_nil)
  have Γlive : Live (fun f => lookF f [(203, i_mergeSpans_1_S)]) := lookF_live (allL_cons modS_live allL_nil)
  refine fnOK_mod ty_ok (fun args w => Try.call267 args w) Try.func267 rfl [.tmp 10, .tmp 11] (by rw [Try.results267]) 178 Try.ntmps267 16 rfl (fun _ => by first | exact Nat.zero_le _ | (simp)) ?_
  rintro ⟨data, a, b, pivot⟩ y cx hm hL
  have hm : slices_partitionCmpFunc_Span_w__i_mergeSpans_1 data a b pivot = some y := hm
  have hL : cx.L = 1 := hL
  obtain ⟨cmp, hf_cmp⟩ : ∃ q, (fun (z0 : Span) (z1 : Span) => i_mergeSpans_1 z0 z1) = q := ⟨_, rfl⟩
  have hm : slices_partitionCmpFunc_Span_w data a b pivot cmp = some y := by rw [← hf_cmp]; exact hm
  unfold slices_partitionCmpFunc_Span_w at hm
  refine X_reg_seq ty_ok Γok hL [] .nil (by kernel_rfl) ?_
  obtain ⟨e4, h4, hm⟩ := obind hm
  obtain ⟨e5, h5, hm⟩ := obind hm
  obtain ⟨e6, h6, hm⟩ := obind hm
  obtain ⟨e7, h7, hm⟩ := obind hm
  refine X_draw_seq mixed ty_ok Γok Γlive [(13, [0]), (15, [0])] (by kernel_rfl) [(6, .d (Enc.e e4)), (7, .d (Enc.e e4)), (10, .d (Enc.e e5)), (11, .d (Enc.e e5)), (12, .d (Enc.e e6)), (13, .sd (Enc.e e6) (List.map Enc.e (data.set a.toNat e4))), (14, .d (Enc.e e7)), (15, .sd (Enc.e e7) (List.map Enc.e ((data.set a.toNat e4).set pivot.toNat e5)))] (.cons (idx_m (f := Enc.e) h4) (.cons (idx_m2 (f := Enc.e) h4) (.cons (idx_m (f := Enc.e) h5) (.cons (idx_m2 (f := Enc.e) h5) (.cons (idx_m (f := Enc.e) h6) (.cons (idx_m2 (f := Enc.e) h6) (.cons (set_m Enc.e data a.toNat e4) (.cons (idx_m (f := Enc.e) h7) (.cons (idx_m2 (f := Enc.e) h7) (.cons (set_m Enc.e (data.set a.toNat e4) pivot.toNat e5) .nil)))))))))) (by kernel_rfl) ?_
  refine X_reg_seq ty_ok Γok hL [] .nil (by kernel_rfl) ?_
  obtain ⟨v2, hv1, hk1⟩ := obind hm
  refine X_join (n := 178) (fun (v2 : Int) => (⟨[(0, .own 0), (1, .dat (.sc (.int .i64 a))), (4, .fn 203 []), (12, .dat (.sc (.int .i64 v2))), (13, .dat (.sc (.int .i64 (w64 (b - 1)))))], [(0, some (.arr 49 2 (List.map Enc.e ((data.set a.toNat e4).set pivot.toNat e5))))], 48⟩ : X)) v2 ?_ ?_
  · have hm := hv1
    refine Ok_block ?_
    refine X_loop (n := 178) (step := slices_partitionCmpFunc_Span_w_L1 data a b pivot cmp e4 e5) (fun (v : Int) => (⟨[(0, .own 0), (1, .dat (.sc (.int .i64 a))), (4, .fn 203 []), (12, .dat (.sc (.int .i64 v))), (13, .dat (.sc (.int .i64 (w64 (b - 1)))))], [(0, some (.arr 49 2 (List.map Enc.e ((data.set a.toNat e4).set pivot.toNat e5))))], 48⟩ : X)) hm (Wk_J hL ⟨[(0, []), (1, []), (4, []), (12, []), (13, [])], [(0, 0, [])], [], 48⟩ (by kernel_rfl)) ?_
    rintro v r0 hm hb
    rw [slices_partitionCmpFunc_Span_w_L1] at hm
    refine Ok_seq ?_
    obtain ⟨v1, hv, hk⟩ := obind hm
    refine X_join (n := 178) (fun (v1 : Bool) => (⟨[(0, .own 0), (1, .dat (.sc (.int .i64 a))), (4, .fn 203 []), (12, .dat (.sc (.int .i64 v))), (13, .dat (.sc (.int .i64 (w64 (b - 1))))), (47, .dat (.sc (.bool v1)))], [(0, some (.arr 49 2 (List.map Enc.e ((data.set a.toNat e4).set pivot.toNat e5))))], 48⟩ : X)) v1 ?_ ?_
    · have hm := hv
      rcases btf (decide (v ≤ (w64 (b - 1)))) with hb1 | hb1
      · have hm := it hb1 hm
        obtain ⟨e10, h11, hm⟩ := obind hm
        obtain ⟨e11, h12, hm⟩ := obind hm
        obtain ⟨r1, h13, hm⟩ := obind hm
        have h13 : i_mergeSpans_1 e10 e11 = some r1 := by rw [← hf_cmp] at h13; exact h13
        obtain rfl := some_inj hm
        refine X_draw mixed ty_ok Γok Γlive [(13, [])] (by kernel_rfl) [(3, .b true), (7, .d (Enc.e e10)), (8, .d (Enc.e e10)), (11, .d (Enc.e e11)), (12, .d (Enc.e e11)), (13, .c (i_mergeSpans_1_r r1) (i_mergeSpans_1_n r1) (i_mergeSpans_1_o (e10, e11) r1))] (.cons hb1 (.cons (idx_m (f := Enc.e) h11) (.cons (idx_m2 (f := Enc.e) h11) (.cons (idx_m (f := Enc.e) h12) (.cons (idx_m2 (f := Enc.e) h12) (.cons (i_mergeSpans_1_c h13) .nil)))))) (by kernel_rfl) ?_
        exact thN (Wk_J hL ⟨[(0, []), (1, []), (4, []), (12, []), (13, []), (47, [])], [(0, 0, [])], [], 48⟩ (by kernel_rfl))
      · have hm := ie hb1 hm
        obtain rfl := some_inj hm
        refine X_draw mixed ty_ok Γok Γlive [(13, [])] (by kernel_rfl) [(3, .b false)] (.cons hb1 .nil) (by kernel_rfl) ?_
        exact thN (Wk_J hL ⟨[(0, []), (1, []), (4, []), (12, []), (13, []), (47, [])], [(0, 0, [])], [], 48⟩ (by kernel_rfl))
    have hm := hk
    refine X_cond v1 (by kernel_rfl) (fun hc => ?_) (fun hc => ?_)
    · have hm := it hc hm
      refine X_skip ?_
      refine thN ?_
      refine Ok_block ?_
      refine X_reg ty_ok Γok hL [] .nil (by kernel_rfl) ?_
      refine ibN ?_
      obtain rfl := some_inj hm
      exact thN ⟨_, rfl, Wk_J hL ⟨[(0, []), (1, []), (4, []), (12, []), (13, [])], [(0, 0, [])], [], 48⟩ (by kernel_rfl)⟩
    · have hm := ie hc hm
      obtain rfl := some_inj hm
      obtain rfl := hb _ rfl
      refine Ok_exit ?_
      refine thE ?_
      refine thE ?_
      refine ibE ?_
      exact thN (Wk_J hL ⟨[(0, []), (1, []), (4, []), (12, []), (13, [])], [(0, 0, [])], [], 48⟩ (by kernel_rfl))
  have hm := hk1
  obtain ⟨v5, hv3, hk3⟩ := obind hm
  refine X_join (n := 178) (fun (v5 : Int) => (⟨[(0, .own 0), (1, .dat (.sc (.int .i64 a))), (4, .fn 203 []), (12, .dat (.sc (.int .i64 v2))), (13, .dat (.sc (.int .i64 v5)))], [(0, some (.arr 49 2 (List.map Enc.e ((data.set a.toNat e4).set pivot.toNat e5))))], 48⟩ : X)) v5 ?_ ?_
  · have hm := hv3
    refine Ok_block ?_
    refine X_loop (n := 178) (step := slices_partitionCmpFunc_Span_w_L2 data a pivot cmp e4 e5 v2) (fun (v3 : Int) => (⟨[(0, .own 0), (1, .dat (.sc (.int .i64 a))), (4, .fn 203 []), (12, .dat (.sc (.int .i64 v2))), (13, .dat (.sc (.int .i64 v3)))], [(0, some (.arr 49 2 (List.map Enc.e ((data.set a.toNat e4).set pivot.toNat e5))))], 48⟩ : X)) hm (Wk_J hL ⟨[(0, []), (1, []), (4, []), (12, []), (13, [])], [(0, 0, [])], [], 48⟩ (by kernel_rfl)) ?_
    rintro v3 r0 hm hb2
    rw [slices_partitionCmpFunc_Span_w_L2] at hm
    refine Ok_seq ?_
    obtain ⟨v4, hv2, hk2⟩ := obind hm
    refine X_join (n := 178) (fun (v4 : Bool) => (⟨[(0, .own 0), (1, .dat (.sc (.int .i64 a))), (4, .fn 203 []), (12, .dat (.sc (.int .i64 v2))), (13, .dat (.sc (.int .i64 v3))), (66, .dat (.sc (.bool v4)))], [(0, some (.arr 49 2 (List.map Enc.e ((data.set a.toNat e4).set pivot.toNat e5))))], 48⟩ : X)) v4 ?_ ?_
    · have hm := hv2
      rcases btf (decide (v2 ≤ v3)) with hb3 | hb3
      · have hm := it hb3 hm
        obtain ⟨e14, h17, hm⟩ := obind hm
        obtain ⟨e15, h18, hm⟩ := obind hm
        obtain ⟨r3, h19, hm⟩ := obind hm
        have h19 : i_mergeSpans_1 e14 e15 = some r3 := by rw [← hf_cmp] at h19; exact h19
        obtain rfl := some_inj hm
        refine X_draw mixed ty_ok Γok Γlive [(13, [])] (by kernel_rfl) [(3, .b true), (7, .d (Enc.e e14)), (8, .d (Enc.e e14)), (11, .d (Enc.e e15)), (12, .d (Enc.e e15)), (13, .c (i_mergeSpans_1_r r3) (i_mergeSpans_1_n r3) (i_mergeSpans_1_o (e14, e15) r3))] (.cons hb3 (.cons (idx_m (f := Enc.e) h17) (.cons (idx_m2 (f := Enc.e) h17) (.cons (idx_m (f := Enc.e) h18) (.cons (idx_m2 (f := Enc.e) h18) (.cons (i_mergeSpans_1_c h19) .nil)))))) (by kernel_rfl) ?_
        exact thN (Wk_J hL ⟨[(0, []), (1, []), (4, []), (12, []), (13, []), (66, [])], [(0, 0, [])], [], 48⟩ (by kernel_rfl))
      · have hm := ie hb3 hm
        obtain rfl := some_inj hm
        refine X_draw mixed ty_ok Γok Γlive [(13, [])] (by kernel_rfl) [(3, .b false)] (.cons hb3 .nil) (by kernel_rfl) ?_
        exact thN (Wk_J hL ⟨[(0, []), (1, []), (4, []), (12, []), (13, []), (66, [])], [(0, 0, [])], [], 48⟩ (by kernel_rfl))
    have hm := hk2
    refine X_cond v4 (by kernel_rfl) (fun hc1 => ?_) (fun hc1 => ?_)
    · have hm := it hc1 hm
      refine X_skip ?_
      refine thN ?_
      refine Ok_block ?_
      refine X_reg ty_ok Γok hL [] .nil (by kernel_rfl) ?_
      refine ibN ?_
      obtain rfl := some_inj hm
      exact thN ⟨_, rfl, Wk_J hL ⟨[(0, []), (1, []), (4, []), (12, []), (13, [])], [(0, 0, [])], [], 48⟩ (by kernel_rfl)⟩
    · have hm := ie hc1 hm
      obtain rfl := some_inj hm
      obtain rfl := hb2 _ rfl
      refine Ok_exit ?_
      refine thE ?_
      refine thE ?_
      refine ibE ?_
      exact thN (Wk_J hL ⟨[(0, []), (1, []), (4, []), (12, []), (13, [])], [(0, 0, [])], [], 48⟩ (by kernel_rfl))
  have hm := hk3
  refine Ok_seq ?_
  refine X_reg_seq ty_ok Γok hL [] .nil (by kernel_rfl) ?_
  refine X_cond (decide (v5 < v2)) (by kernel_rfl) (fun hc2 => ?_) (fun hc2 => ?_)
  · have hm := it hc2 hm
    obtain ⟨e20, h24, hm⟩ := obind hm
    obtain ⟨e21, h25, hm⟩ := obind hm
    obtain ⟨e22, h26, hm⟩ := obind hm
    obtain ⟨e23, h27, hm⟩ := obind hm
    refine X_draw_seq mixed ty_ok Γok Γlive [(13, [0]), (15, [0])] (by kernel_rfl) [(6, .d (Enc.e e20)), (7, .d (Enc.e e20)), (10, .d (Enc.e e21)), (11, .d (Enc.e e21)), (12, .d (Enc.e e22)), (13, .sd (Enc.e e22) (List.map Enc.e (((data.set a.toNat e4).set pivot.toNat e5).set v5.toNat e20))), (14, .d (Enc.e e23)), (15, .sd (Enc.e e23) (List.map Enc.e ((((data.set a.toNat e4).set pivot.toNat e5).set v5.toNat e20).set a.toNat e21)))] (.cons (idx_m (f := Enc.e) h24) (.cons (idx_m2 (f := Enc.e) h24) (.cons (idx_m (f := Enc.e) h25) (.cons (idx_m2 (f := Enc.e) h25) (.cons (idx_m (f := Enc.e) h26) (.cons (idx_m2 (f := Enc.e) h26) (.cons (set_m Enc.e ((data.set a.toNat e4).set pivot.toNat e5) v5.toNat e20) (.cons (idx_m (f := Enc.e) h27) (.cons (idx_m2 (f := Enc.e) h27) (.cons (set_m Enc.e (((data.set a.toNat e4).set pivot.toNat e5).set v5.toNat e20) a.toNat e21) .nil)))))))))) (by kernel_rfl) ?_
    refine X_reg_seq ty_ok Γok hL [] .nil (by kernel_rfl) ?_
    obtain rfl := some_inj hm
    refine Ok_ret ?_
    repeat (first | refine thR ?_ | refine ibR ?_)
    exact X_fin [] [] (by kernel_rfl) trivial
  · have hm := ie hc2 hm
    refine X_skip ?_
    refine thN ?_
    obtain ⟨e28, h32, hm⟩ := obind hm
    obtain ⟨e29, h33, hm⟩ := obind hm
    obtain ⟨e30, h34, hm⟩ := obind hm
    obtain ⟨e31, h35, hm⟩ := obind hm
    refine X_draw_seq mixed ty_ok Γok Γlive [(13, [0]), (15, [0])] (by kernel_rfl) [(6, .d (Enc.e e28)), (7, .d (Enc.e e28)), (10, .d (Enc.e e29)), (11, .d (Enc.e e29)), (12, .d (Enc.e e30)), (13, .sd (Enc.e e30) (List.map Enc.e (((data.set a.toNat e4).set pivot.toNat e5).set v2.toNat e28))), (14, .d (Enc.e e31)), (15, .sd (Enc.e e31) (List.map Enc.e ((((data.set a.toNat e4).set pivot.toNat e5).set v2.toNat e28).set v5.toNat e29)))] (.cons (idx_m (f := Enc.e) h32) (.cons (idx_m2 (f := Enc.e) h32) (.cons (idx_m (f := Enc.e) h33) (.cons (idx_m2 (f := Enc.e) h33) (.cons (idx_m (f := Enc.e) h34) (.cons (idx_m2 (f := Enc.e) h34) (.cons (set_m Enc.e ((data.set a.toNat e4).set pivot.toNat e5) v2.toNat e28) (.cons (idx_m (f := Enc.e) h35) (.cons (idx_m2 (f := Enc.e) h35) (.cons (set_m Enc.e (((data.set a.toNat e4).set pivot.toNat e5).set v2.toNat e28) v5.toNat e29) .nil)))))))))) (by kernel_rfl) ?_
    refine X_reg_seq ty_ok Γok hL [] .nil (by kernel_rfl) ?_
    refine X_reg_seq ty_ok Γok hL [] .nil (by kernel_rfl) ?_
    obtain ⟨vv, hv8, hk8⟩ := obind hm
    refine X_join (n := 178) (fun ((v14, data2) : Int × (List Span)) => (⟨[(0, .own 0), (1, .dat (.sc (.int .i64 a))), (4, .fn 203 []), (13, .dat (.sc (.int .i64 v14)))], [(0, some (.arr 49 2 (List.map Enc.e data2)))], 48⟩ : X)) vv ?_ ?_
    · have hm := hv8
      refine Ok_block ?_
      refine X_loop (n := 178) (step := slices_partitionCmpFunc_Span_w_L5 a cmp) (fun ((v6, v7, data1) : Int × Int × (List Span)) => (⟨[(0, .own 0), (1, .dat (.sc (.int .i64 a))), (4, .fn 203 []), (12, .dat (.sc (.int .i64 v6))), (13, .dat (.sc (.int .i64 v7)))], [(0, some (.arr 49 2 (List.map Enc.e data1)))], 48⟩ : X)) hm (Wk_J hL ⟨[(0, []), (1, []), (4, []), (12, []), (13, [])], [(0, 0, [])], [], 48⟩ (by kernel_rfl)) ?_
      rintro ⟨v6, v7, data1⟩ r0 hm hb4
      rw [slices_partitionCmpFunc_Span_w_L5] at hm
      refine Ok_block ?_
      obtain ⟨v10, hv5, hk5⟩ := obind hm
      refine X_join (n := 178) (fun (v10 : Int) => (⟨[(0, .own 0), (1, .dat (.sc (.int .i64 a))), (4, .fn 203 []), (12, .dat (.sc (.int .i64 v10))), (13, .dat (.sc (.int .i64 v7)))], [(0, some (.arr 49 2 (List.map Enc.e data1)))], 48⟩ : X)) v10 ?_ ?_
      · have hm := hv5
        refine Ok_block ?_
        refine X_loop (n := 178) (step := slices_partitionCmpFunc_Span_w_L3 a cmp v7 data1) (fun (v8 : Int) => (⟨[(0, .own 0), (1, .dat (.sc (.int .i64 a))), (4, .fn 203 []), (12, .dat (.sc (.int .i64 v8))), (13, .dat (.sc (.int .i64 v7)))], [(0, some (.arr 49 2 (List.map Enc.e data1)))], 48⟩ : X)) hm (Wk_J hL ⟨[(0, []), (1, []), (4, []), (12, []), (13, [])], [(0, 0, [])], [], 48⟩ (by kernel_rfl)) ?_
        rintro v8 r0 hm hb5
        rw [slices_partitionCmpFunc_Span_w_L3] at hm
        refine Ok_seq ?_
        obtain ⟨v9, hv4, hk4⟩ := obind hm
        refine X_join (n := 178) (fun (v9 : Bool) => (⟨[(0, .own 0), (1, .dat (.sc (.int .i64 a))), (4, .fn 203 []), (12, .dat (.sc (.int .i64 v8))), (13, .dat (.sc (.int .i64 v7))), (120, .dat (.sc (.bool v9)))], [(0, some (.arr 49 2 (List.map Enc.e data1)))], 48⟩ : X)) v9 ?_ ?_
        · have hm := hv4
          rcases btf (decide (v8 ≤ v7)) with hb6 | hb6
          · have hm := it hb6 hm
            obtain ⟨e34, h39, hm⟩ := obind hm
            obtain ⟨e35, h40, hm⟩ := obind hm
            obtain ⟨r5, h41, hm⟩ := obind hm
            have h41 : i_mergeSpans_1 e34 e35 = some r5 := by rw [← hf_cmp] at h41; exact h41
            obtain rfl := some_inj hm
            refine X_draw mixed ty_ok Γok Γlive [(13, [])] (by kernel_rfl) [(3, .b true), (7, .d (Enc.e e34)), (8, .d (Enc.e e34)), (11, .d (Enc.e e35)), (12, .d (Enc.e e35)), (13, .c (i_mergeSpans_1_r r5) (i_mergeSpans_1_n r5) (i_mergeSpans_1_o (e34, e35) r5))] (.cons hb6 (.cons (idx_m (f := Enc.e) h39) (.cons (idx_m2 (f := Enc.e) h39) (.cons (idx_m (f := Enc.e) h40) (.cons (idx_m2 (f := Enc.e) h40) (.cons (i_mergeSpans_1_c h41) .nil)))))) (by kernel_rfl) ?_
            exact thN (Wk_J hL ⟨[(0, []), (1, []), (4, []), (12, []), (13, []), (120, [])], [(0, 0, [])], [], 48⟩ (by kernel_rfl))
          · have hm := ie hb6 hm
            obtain rfl := some_inj hm
            refine X_draw mixed ty_ok Γok Γlive [(13, [])] (by kernel_rfl) [(3, .b false)] (.cons hb6 .nil) (by kernel_rfl) ?_
            exact thN (Wk_J hL ⟨[(0, []), (1, []), (4, []), (12, []), (13, []), (120, [])], [(0, 0, [])], [], 48⟩ (by kernel_rfl))
        have hm := hk4
        refine X_cond v9 (by kernel_rfl) (fun hc3 => ?_) (fun hc3 => ?_)
        · have hm := it hc3 hm
          refine X_skip ?_
          refine thN ?_
          refine Ok_block ?_
          refine X_reg ty_ok Γok hL [] .nil (by kernel_rfl) ?_
          refine ibN ?_
          obtain rfl := some_inj hm
          exact thN ⟨_, rfl, Wk_J hL ⟨[(0, []), (1, []), (4, []), (12, []), (13, [])], [(0, 0, [])], [], 48⟩ (by kernel_rfl)⟩
        · have hm := ie hc3 hm
          obtain rfl := some_inj hm
          obtain rfl := hb5 _ rfl
          refine Ok_exit ?_
          refine thE ?_
          refine thE ?_
          refine ibE ?_
          exact thN (Wk_J hL ⟨[(0, []), (1, []), (4, []), (12, []), (13, [])], [(0, 0, [])], [], 48⟩ (by kernel_rfl))
      have hm := hk5
      obtain ⟨v13, hv7, hk7⟩ := obind hm
      refine X_join (n := 178) (fun (v13 : Int) => (⟨[(0, .own 0), (1, .dat (.sc (.int .i64 a))), (4, .fn 203 []), (12, .dat (.sc (.int .i64 v10))), (13, .dat (.sc (.int .i64 v13)))], [(0, some (.arr 49 2 (List.map Enc.e data1)))], 48⟩ : X)) v13 ?_ ?_
      · have hm := hv7
        refine Ok_block ?_
        refine X_loop (n := 178) (step := slices_partitionCmpFunc_Span_w_L4 a cmp data1 v10) (fun (v11 : Int) => (⟨[(0, .own 0), (1, .dat (.sc (.int .i64 a))), (4, .fn 203 []), (12, .dat (.sc (.int .i64 v10))), (13, .dat (.sc (.int .i64 v11)))], [(0, some (.arr 49 2 (List.map Enc.e data1)))], 48⟩ : X)) hm (Wk_J hL ⟨[(0, []), (1, []), (4, []), (12, []), (13, [])], [(0, 0, [])], [], 48⟩ (by kernel_rfl)) ?_
        rintro v11 r0 hm hb7
        rw [slices_partitionCmpFunc_Span_w_L4] at hm
        refine Ok_seq ?_
        obtain ⟨v12, hv6, hk6⟩ := obind hm
        refine X_join (n := 178) (fun (v12 : Bool) => (⟨[(0, .own 0), (1, .dat (.sc (.int .i64 a))), (4, .fn 203 []), (12, .dat (.sc (.int .i64 v10))), (13, .dat (.sc (.int .i64 v11))), (139, .dat (.sc (.bool v12)))], [(0, some (.arr 49 2 (List.map Enc.e data1)))], 48⟩ : X)) v12 ?_ ?_
        · have hm := hv6
          rcases btf (decide (v10 ≤ v11)) with hb8 | hb8
          · have hm := it hb8 hm
            obtain ⟨e38, h45, hm⟩ := obind hm
            obtain ⟨e39, h46, hm⟩ := obind hm
            obtain ⟨r7, h47, hm⟩ := obind hm
            have h47 : i_mergeSpans_1 e38 e39 = some r7 := by rw [← hf_cmp] at h47; exact h47
            obtain rfl := some_inj hm
            refine X_draw mixed ty_ok Γok Γlive [(13, [])] (by kernel_rfl) [(3, .b true), (7, .d (Enc.e e38)), (8, .d (Enc.e e38)), (11, .d (Enc.e e39)), (12, .d (Enc.e e39)), (13, .c (i_mergeSpans_1_r r7) (i_mergeSpans_1_n r7) (i_mergeSpans_1_o (e38, e39) r7))] (.cons hb8 (.cons (idx_m (f := Enc.e) h45) (.cons (idx_m2 (f := Enc.e) h45) (.cons (idx_m (f := Enc.e) h46) (.cons (idx_m2 (f := Enc.e) h46) (.cons (i_mergeSpans_1_c h47) .nil)))))) (by kernel_rfl) ?_
            exact thN (Wk_J hL ⟨[(0, []), (1, []), (4, []), (12, []), (13, []), (139, [])], [(0, 0, [])], [], 48⟩ (by kernel_rfl))
          · have hm := ie hb8 hm
            obtain rfl := some_inj hm
            refine X_draw mixed ty_ok Γok Γlive [(13, [])] (by kernel_rfl) [(3, .b false)] (.cons hb8 .nil) (by kernel_rfl) ?_
            exact thN (Wk_J hL ⟨[(0, []), (1, []), (4, []), (12, []), (13, []), (139, [])], [(0, 0, [])], [], 48⟩ (by kernel_rfl))
        have hm := hk6
        refine X_cond v12 (by kernel_rfl) (fun hc4 => ?_) (fun hc4 => ?_)
        · have hm := it hc4 hm
          refine X_skip ?_
          refine thN ?_
          refine Ok_block ?_
          refine X_reg ty_ok Γok hL [] .nil (by kernel_rfl) ?_
          refine ibN ?_
          obtain rfl := some_inj hm
          exact thN ⟨_, rfl, Wk_J hL ⟨[(0, []), (1, []), (4, []), (12, []), (13, [])], [(0, 0, [])], [], 48⟩ (by kernel_rfl)⟩
        · have hm := ie hc4 hm
          obtain rfl := some_inj hm
          obtain rfl := hb7 _ rfl
          refine Ok_exit ?_
          refine thE ?_
          refine thE ?_
          refine ibE ?_
          exact thN (Wk_J hL ⟨[(0, []), (1, []), (4, []), (12, []), (13, [])], [(0, 0, [])], [], 48⟩ (by kernel_rfl))
      have hm := hk7
      refine Ok_seq ?_
      refine X_reg_seq ty_ok Γok hL [] .nil (by kernel_rfl) ?_
      refine X_cond (decide (v13 < v10)) (by kernel_rfl) (fun hc5 => ?_) (fun hc5 => ?_)
      · have hm := it hc5 hm
        obtain rfl := some_inj hm
        obtain rfl := hb4 _ rfl
        refine Ok_exit ?_
        refine thE ?_
        refine ibX rfl ?_
        refine thE ?_
        refine ibE ?_
        exact thN (Wk_J hL ⟨[(0, []), (1, []), (4, []), (13, [])], [(0, 0, [])], [], 48⟩ (by kernel_rfl))
      · have hm := ie hc5 hm
        refine X_skip ?_
        refine thN ?_
        obtain ⟨e44, h52, hm⟩ := obind hm
        obtain ⟨e45, h53, hm⟩ := obind hm
        obtain ⟨e46, h54, hm⟩ := obind hm
        obtain ⟨e47, h55, hm⟩ := obind hm
        refine X_draw_seq mixed ty_ok Γok Γlive [(13, [0]), (15, [0])] (by kernel_rfl) [(6, .d (Enc.e e44)), (7, .d (Enc.e e44)), (10, .d (Enc.e e45)), (11, .d (Enc.e e45)), (12, .d (Enc.e e46)), (13, .sd (Enc.e e46) (List.map Enc.e (data1.set v10.toNat e44))), (14, .d (Enc.e e47)), (15, .sd (Enc.e e47) (List.map Enc.e ((data1.set v10.toNat e44).set v13.toNat e45)))] (.cons (idx_m (f := Enc.e) h52) (.cons (idx_m2 (f := Enc.e) h52) (.cons (idx_m (f := Enc.e) h53) (.cons (idx_m2 (f := Enc.e) h53) (.cons (idx_m (f := Enc.e) h54) (.cons (idx_m2 (f := Enc.e) h54) (.cons (set_m Enc.e data1 v10.toNat e44) (.cons (idx_m (f := Enc.e) h55) (.cons (idx_m2 (f := Enc.e) h55) (.cons (set_m Enc.e (data1.set v10.toNat e44) v13.toNat e45) .nil)))))))))) (by kernel_rfl) ?_
        refine X_reg_seq ty_ok Γok hL [] .nil (by kernel_rfl) ?_
        refine X_reg ty_ok Γok hL [] .nil (by kernel_rfl) ?_
        refine ibN ?_
        obtain rfl := some_inj hm
        exact thN ⟨_, rfl, Wk_J hL ⟨[(0, []), (1, []), (4, []), (12, []), (13, [])], [(0, 0, [])], [], 48⟩ (by kernel_rfl)⟩
    obtain ⟨v14, data2⟩ := vv
    have hm := hk8
    obtain ⟨e52, h60, hm⟩ := obind hm
    obtain ⟨e53, h61, hm⟩ := obind hm
    obtain ⟨e54, h62, hm⟩ := obind hm
    obtain ⟨e55, h63, hm⟩ := obind hm
    refine X_draw_seq mixed ty_ok Γok Γlive [(13, [0]), (15, [0])] (by kernel_rfl) [(6, .d (Enc.e e52)), (7, .d (Enc.e e52)), (10, .d (Enc.e e53)), (11, .d (Enc.e e53)), (12, .d (Enc.e e54)), (13, .sd (Enc.e e54) (List.map Enc.e (data2.set v14.toNat e52))), (14, .d (Enc.e e55)), (15, .sd (Enc.e e55) (List.map Enc.e ((data2.set v14.toNat e52).set a.toNat e53)))] (.cons (idx_m (f := Enc.e) h60) (.cons (idx_m2 (f := Enc.e) h60) (.cons (idx_m (f := Enc.e) h61) (.cons (idx_m2 (f := Enc.e) h61) (.cons (idx_m (f := Enc.e) h62) (.cons (idx_m2 (f := Enc.e) h62) (.cons (set_m Enc.e data2 v14.toNat e52) (.cons (idx_m (f := Enc.e) h63) (.cons (idx_m2 (f := Enc.e) h63) (.cons (set_m Enc.e (data2.set v14.toNat e52) a.toNat e53) .nil)))))))))) (by kernel_rfl) ?_
    refine X_reg_seq ty_ok Γok hL [] .nil (by kernel_rfl) ?_
    obtain rfl := some_inj hm
    refine Ok_ret ?_
    repeat (first | refine thR ?_ | refine ibR ?_)
    exact X_fin [] [] (by kernel_rfl) trivial
abbrev slices_nextPowerOfTwo_r (y : (IK .u64)) : AV := .dat (Enc.e y)
abbrev slices_nextPowerOfTwo_n (y : (IK .u64)) : List Obj' := []
abbrev slices_nextPowerOfTwo_o (x : Int) (y : (IK .u64)) : List Obj' := []
noncomputable def slices_nextPowerOfTwo_S : FnSpec := modS [.rd] (fun x : Int => [Enc.e x]) (fun x : Int => []) (fun x : Int => slices_nextPowerOfTwo x) slices_nextPowerOfTwo_r slices_nextPowerOfTwo_n slices_nextPowerOfTwo_o
theorem slices_nextPowerOfTwo_c {length : Int} {y : (IK .u64)} (h : slices_nextPowerOfTwo length = some y) : CallOK slices_nextPowerOfTwo_S [Enc.e length] [] (slices_nextPowerOfTwo_r y) (slices_nextPowerOfTwo_n y) (slices_nextPowerOfTwo_o length y) :=
  modS_call (by
    rintro a0 b0 h hO
    have q0 : a0 = b0 := Enc.inj _ _ (congrArg (fun l => List.getD l 0 (.sc undef)) h)
    subst q0; rfl) (x := length) h
theorem slices_nextPowerOfTwo_ok : FnOK Try.prog 277 slices_nextPowerOfTwo_S := by
  have Γok : ∀ f S, lookF f [(229, math_bits_Len_S)] = some S → FnOK Try.prog f S := lookF_ok (allF_cons math_bits_Len_ok allF_nil)
  have Γlive : Live (fun f => lookF f [(229, math_bits_Len_S)]) := lookF_live (allL_cons modS_live allL_nil)
  refine fnOK_mod ty_ok (fun args w => Try.call277 args w) Try.func277 rfl [.tmp 2] (by rw [Try.results277]) 7 Try.ntmps277 16 rfl (fun _ => by first | exact Nat.zero_le _ | (simp)) ?_
  rintro length y cx hm hL
  have hm : slices_nextPowerOfTwo length = some y := hm
  have hL : cx.L = 0 := hL
  unfold slices_nextPowerOfTwo at hm
  refine X_reg_seq ty_ok Γok hL [] .nil (by kernel_rfl) ?_
  obtain ⟨r, h, hm⟩ := obind hm
  obtain ⟨u, h1, hm⟩ := obind hm
  refine X_reg_seq ty_ok Γok hL [(2, .c (math_bits_Len_r r) (math_bits_Len_n r) (math_bits_Len_o (⟨(IntKind.u64.wrap (length))⟩ : IK .u64) r))] (.cons (math_bits_Len_c h) (.cons (chk_t h1) .nil)) (by kernel_rfl) ?_
  obtain rfl := some_inj hm
  refine Ok_ret ?_
  repeat (first | refine thR ?_ | refine ibR ?_)
  exact X_fin [] [] (by kernel_rfl) trivial
abbrev slices_xorshift_Next_r (y : (IK .u64) × (IK .u64)) : AV := .dat (Enc.e y.1)
abbrev slices_xorshift_Next_n (y : (IK .u64) × (IK .u64)) : List Obj' := []
abbrev slices_xorshift_Next_o (x : (IK .u64)) (y : (IK .u64) × (IK .u64)) : List Obj' := [.box [.dat (.sc (.int .u64 y.2.v))]]
noncomputable def slices_xorshift_Next_S : FnSpec := modS [.bx] (fun x : (IK .u64) => [.sc undef]) (fun x : (IK .u64) => [.box [.dat (.sc (.int .u64 x.v))]]) (fun x : (IK .u64) => slices_xorshift_Next x) slices_xorshift_Next_r slices_xorshift_Next_n slices_xorshift_Next_o
theorem slices_xorshift_Next_c {r : IK .u64} {y : (IK .u64) × (IK .u64)} (h : slices_xorshift_Next r = some y) : CallOK slices_xorshift_Next_S [.sc undef] [.box [.dat (.sc (.int .u64 r.v))]] (slices_xorshift_Next_r y) (slices_xorshift_Next_n y) (slices_xorshift_Next_o r y) :=
  modS_call (by
    rintro a0 b0 h hO
    have q0 : a0 = b0 := Enc.inj _ _ (congrArg (fun l => (obD l 0).getD 0 (.sc undef)) hO)
    subst q0; rfl) (x := r) h
theorem slices_xorshift_Next_ok : FnOK Try.prog 278 slices_xorshift_Next_S := by
  have Γok : ∀ f S, lookF f [] = some S → FnOK Try.prog f S := lookF_ok allF_nil
  have Γlive : Live (fun f => lookF f []) := lookF_live allL_nil
  refine fnOK_mod ty_ok (fun args w => Try.call278 args w) Try.func278 rfl [.tmp 2] (by rw [Try.results278]) 33 Try.ntmps278 16 rfl (fun _ => by first | exact Nat.zero_le _ | (simp)) ?_
  rintro r y cx hm hL
  have hm : slices_xorshift_Next r = some y := hm
  have hL : cx.L = 1 := hL
  unfold slices_xorshift_Next at hm
  refine X_reg_seq ty_ok Γok hL [] .nil (by kernel_rfl) ?_
  obtain ⟨u1, h1, hm⟩ := obind hm
  refine X_draw_seq mixed ty_ok Γok Γlive [(9, [0])] (by kernel_rfl) [] (.cons (chk_t h1) .nil) (by kernel_rfl) ?_
  obtain ⟨u3, h3, hm⟩ := obind hm
  refine X_draw_seq mixed ty_ok Γok Γlive [(9, [0])] (by kernel_rfl) [] (.cons (chk_t h3) .nil) (by kernel_rfl) ?_
  obtain ⟨u5, h5, hm⟩ := obind hm
  refine X_draw_seq mixed ty_ok Γok Γlive [(9, [0])] (by kernel_rfl) [] (.cons (chk_t h5) .nil) (by kernel_rfl) ?_
  refine X_reg_seq ty_ok Γok hL [] .nil (by kernel_rfl) ?_
  obtain rfl := some_inj hm
  refine Ok_ret ?_
  repeat (first | refine thR ?_ | refine ibR ?_)
  exact X_fin [] [] (by kernel_rfl) trivial
abbrev slices_breakPatternsCmpFunc_Span_w__i_mergeSpans_1_r (y : (List Span)) : AV := .tup []
abbrev slices_breakPatternsCmpFunc_Span_w__i_mergeSpans_1_n (y : (List Span)) : List Obj' := []
abbrev slices_breakPatternsCmpFunc_Span_w__i_mergeSpans_1_o (x : (List Span) × Int × Int) (y : (List Span)) : List Obj' := [.arr 49 2 (List.map Enc.e y)]
noncomputable def slices_breakPatternsCmpFunc_Span_w__i_mergeSpans_1_S : FnSpec := modS [.sl, .rd, .rd, .fn 203 []] (fun x : (List Span) × Int × Int => [.sc undef, Enc.e x.2.1, Enc.e x.2.2, .agg []]) (fun x : (List Span) × Int × Int => [.arr 49 2 (List.map Enc.e x.1)]) (fun x : (List Span) × Int × Int => slices_breakPatternsCmpFunc_Span_w__i_mergeSpans_1 x.1 x.2.1 x.2.2) slices_breakPatternsCmpFunc_Span_w__i_mergeSpans_1_r slices_breakPatternsCmpFunc_Span_w__i_mergeSpans_1_n slices_breakPatternsCmpFunc_Span_w__i_mergeSpans_1_o
theorem slices_breakPatternsCmpFunc_Span_w__i_mergeSpans_1_c {data : List Span} {a : Int} {b : Int} {y : (List Span)} (h : slices_breakPatternsCmpFunc_Span_w__i_mergeSpans_1 data a b = some y) : CallOK slices_breakPatternsCmpFunc_Span_w__i_mergeSpans_1_S [.sc undef, Enc.e a, Enc.e b, .agg []] [.arr 49 2 (List.map Enc.e data)] (slices_breakPatternsCmpFunc_Span_w__i_mergeSpans_1_r y) (slices_breakPatternsCmpFunc_Span_w__i_mergeSpans_1_n y) (slices_breakPatternsCmpFunc_Span_w__i_mergeSpans_1_o (data, a, b) y) :=
  modS_call (by
    rintro ⟨a0, a1, a2⟩ ⟨b0, b1, b2⟩ h hO
    have q0 : a0 = b0 := Enc.inj _ _ (congrArg (fun l => D.sl 2 (obL l 0)) hO)
    have q1 : a1 = b1 := Enc.inj _ _ (congrArg (fun l => List.getD l 1 (.sc undef)) h)
    have q2 : a2 = b2 := Enc.inj _ _ (congrArg (fun l => List.getD l 2 (.sc undef)) h)
    subst q0; subst q1; subst q2; rfl) (x := (data, a, b)) h
theorem slices_breakPatternsCmpFunc_Span_w__i_mergeSpans_1_ok : FnOK Try.prog 262 slices_breakPatternsCmpFunc_Span_w__i_mergeSpans_1_S := by
  have Γok : ∀ f S, lookF f [(277, slices_nextPowerOfTwo_S), (278, slices_xorshift_Next_S)] = some S → FnOK Try.prog f S := lookF_ok (allF_cons slices_nextPowerOfTwo_ok (allF_cons slices_xorshift_Next_ok allF_nil))
  have Γlive : Live (fun f => lookF f [(277, slices_nextPowerOfTwo_S), (278, slices_xorshift_Next_S)]) := lookF_live (allL_cons modS_live (allL_cons modS_live allL_nil))
  refine fnOK_mod ty_ok (fun args w => Try.call262 args w) Try.func262 rfl [] (by rw [Try.results262]) 67 Try.ntmps262 16 rfl (fun _ => by first | exact Nat.zero_le _ | (simp)) ?_
  rintro ⟨data, a, b⟩ y cx hm hL
  have hm : slices_breakPatternsCmpFunc_Span_w__i_mergeSpans_1 data a b = some y := hm
  have hL : cx.L = 1 := hL
  obtain ⟨cmp, hf_cmp⟩ : ∃ q, (fun (z0 : Span) (z1 : Span) => i_mergeSpans_1 z0 z1) = q := ⟨_, rfl⟩
  have hm : slices_breakPatternsCmpFunc_Span_w data a b cmp = some y := by rw [← hf_cmp]; exact hm
  unfold slices_breakPatternsCmpFunc_Span_w at hm
  refine X_reg_seq ty_ok Γok hL [] .nil (by kernel_rfl) ?_
  refine X_reg_seq ty_ok Γok hL [] .nil (by kernel_rfl) ?_
  refine X_cond (decide (8 ≤ (w64 (b - a)))) (by kernel_rfl) (fun hc => ?_) (fun hc => ?_)
  · have hm := it hc hm
    refine X_reg_seq ty_ok Γok hL [] .nil (by kernel_rfl) ?_
    obtain ⟨r, h, hm⟩ := obind hm
    refine X_reg_seq ty_ok Γok hL [(1, .c (slices_nextPowerOfTwo_r r) (slices_nextPowerOfTwo_n r) (slices_nextPowerOfTwo_o (w64 (b - a)) r))] (.cons (slices_nextPowerOfTwo_c h) .nil) (by kernel_rfl) ?_
    obtain ⟨u, h1, hm⟩ := obind hm
    refine X_reg_seq ty_ok Γok hL [] (.cons (chk_t h1) .nil) (by kernel_rfl) ?_
    refine Ok_block ?_
    refine X_loop (n := 67) (step := slices_breakPatternsCmpFunc_Span_w_L1 a b r) (fun ((v, data1, v1) : Int × (List Span) × Int) => (⟨[(0, .own 0), (1, .dat (.sc (.int .i64 a))), (3, .fn 203 []), (8, .dat (.sc (.int .i64 (w64 (b - a))))), (9, .ref 32 0), (10, .dat (.sc (.int .u64 r.v))), (11, .dat (.sc (.int .i64 v)))], [(0, some (.arr 49 2 (List.map Enc.e data1))), (32, some (.box [.dat (.sc (.int .u64 v1))]))], 64⟩ : X)) hm (Wk_J hL ⟨[(0, []), (1, []), (3, []), (8, []), (9, []), (10, []), (11, [])], [(0, 0, []), (32, 144, [])], [], 64⟩ (by kernel_rfl)) ?_
    rintro ⟨v, data1, v1⟩ r0 hm hb
    rw [slices_breakPatternsCmpFunc_Span_w_L1] at hm
    refine Ok_seq ?_
    obtain ⟨u1, h2, hm⟩ := obind hm
    refine X_reg_seq ty_ok Γok hL [] (.cons (chk_t h2) .nil) (by kernel_rfl) ?_
    refine X_cond (decide (v ≤ (w64 ((w64 (a + (w64 ((w64 ((w64 (b - a)).tdiv 4)) * 2)))) + 1)))) (by kernel_rfl) (fun hc1 => ?_) (fun hc1 => ?_)
    · have hm := it hc1 hm
      refine X_skip ?_
      refine thN ?_
      refine Ok_seq ?_
      refine Ok_block ?_
      obtain ⟨r1, h3, hm⟩ := obind hm
      refine X_reg_seq ty_ok Γok hL [(0, .c (slices_xorshift_Next_r r1) (slices_xorshift_Next_n r1) (slices_xorshift_Next_o (⟨v1⟩ : IK .u64) r1))] (.cons (slices_xorshift_Next_c h3) .nil) (by kernel_rfl) ?_
      obtain ⟨v2, hv, hk⟩ := obind hm
      refine X_join (n := 67) (fun (v2 : Int) => (⟨[(0, .own 0), (1, .dat (.sc (.int .i64 a))), (3, .fn 203 []), (8, .dat (.sc (.int .i64 (w64 (b - a))))), (9, .ref 32 0), (10, .dat (.sc (.int .u64 r.v))), (11, .dat (.sc (.int .i64 v))), (12, .dat (.sc (.int .i64 v2)))], [(0, some (.arr 49 2 (List.map Enc.e data1))), (32, some (.box [.dat (.sc (.int .u64 r1.2.v))]))], 64⟩ : X)) v2 ?_ ?_
      · have hm := hv
        refine X_reg_seq ty_ok Γok hL [] .nil (by kernel_rfl) ?_
        refine X_cond (decide ((w64 (b - a)) ≤ (w64 ((IntKind.u64.wrap ((BitVec.ofInt (IntKind.u64).bits r1.1.v &&& BitVec.ofInt (IntKind.u64).bits (IntKind.u64.wrap (r.v - 1))).toNat : Int)))))) (by kernel_rfl) (fun hc2 => ?_) (fun hc2 => ?_)
        · have hm := it hc2 hm
          refine X_reg ty_ok Γok hL [] .nil (by kernel_rfl) ?_
          obtain rfl := some_inj hm
          exact thN (Wk_J hL ⟨[(0, []), (1, []), (3, []), (8, []), (9, []), (10, []), (11, []), (12, [])], [(0, 0, []), (32, 32, [])], [], 64⟩ (by kernel_rfl))
        · have hm := ie hc2 hm
          refine X_skip ?_
          obtain rfl := some_inj hm
          exact thN (Wk_J hL ⟨[(0, []), (1, []), (3, []), (8, []), (9, []), (10, []), (11, []), (12, [])], [(0, 0, []), (32, 32, [])], [], 64⟩ (by kernel_rfl))
      have hm := hk
      obtain ⟨e4, h8, hm⟩ := obind hm
      obtain ⟨e5, h9, hm⟩ := obind hm
      obtain ⟨e6, h10, hm⟩ := obind hm
      obtain ⟨e7, h11, hm⟩ := obind hm
      refine X_draw mixed ty_ok Γok Γlive [(17, [0]), (19, [0])] (by kernel_rfl) [(10, .d (Enc.e e4)), (11, .d (Enc.e e4)), (14, .d (Enc.e e5)), (15, .d (Enc.e e5)), (16, .d (Enc.e e6)), (17, .sd (Enc.e e6) (List.map Enc.e (data1.set v.toNat e4))), (18, .d (Enc.e e7)), (19, .sd (Enc.e e7) (List.map Enc.e ((data1.set v.toNat e4).set (w64 (a + v2)).toNat e5)))] (.cons (idx_m (f := Enc.e) h8) (.cons (idx_m2 (f := Enc.e) h8) (.cons (idx_m (f := Enc.e) h9) (.cons (idx_m2 (f := Enc.e) h9) (.cons (idx_m (f := Enc.e) h10) (.cons (idx_m2 (f := Enc.e) h10) (.cons (set_m Enc.e data1 v.toNat e4) (.cons (idx_m (f := Enc.e) h11) (.cons (idx_m2 (f := Enc.e) h11) (.cons (set_m Enc.e (data1.set v.toNat e4) (w64 (a + v2)).toNat e5) .nil)))))))))) (by kernel_rfl) ?_
      refine ibN ?_
      refine thN ?_
      refine X_reg ty_ok Γok hL [] .nil (by kernel_rfl) ?_
      obtain rfl := some_inj hm
      exact thN ⟨_, rfl, Wk_J hL ⟨[(0, []), (1, []), (3, []), (8, []), (9, []), (10, []), (11, [])], [(0, 0, []), (32, 32, [])], [], 64⟩ (by kernel_rfl)⟩
    · have hm := ie hc1 hm
      obtain rfl := some_inj hm
      have hm := congrArg some (hb _ rfl)
      refine Ok_exit ?_
      refine thE ?_
      refine thE ?_
      refine ibE ?_
      obtain rfl := some_inj hm
      exact X_fin [] [] (by kernel_rfl) trivial
  · have hm := ie hc hm
    refine X_skip ?_
    obtain rfl := some_inj hm
    exact X_fin [] [] (by kernel_rfl) trivial
end Go.Proofs.Ytepdapiceklppaa
