/- Each function computes what its model says. Made by program (dec.py). -/
import Derived.Test.YtepdapiceklppaaTy
import Derived.Test.YtepdapiceklppaaAbEx5
import Derived.Test.YtepdapiceklppaaRoM
namespace Go.Proofs.Ytepdapiceklppaa
open Go Go.Ab
set_option maxRecDepth 100000
set_option maxHeartbeats 4000000
set_option linter.unusedVariables false
set_option linter.unusedSimpArgs false
theorem mixed : Try.prog.follows .mixedOrders = true := by kernel_rfl
abbrev v_rBig_r (y : Bool) : AV := .dat (Enc.e y)
abbrev v_rBig_n (y : Bool) : List Obj' := []
abbrev v_rBig_o (x : (List UInt8)) (y : Bool) : List Obj' := []
noncomputable def v_rBig_S : FnSpec := modS [.rd] (fun x : (List UInt8) => [Enc.e x]) (fun x : (List UInt8) => []) (fun x : (List UInt8) => v_rBig x) v_rBig_r v_rBig_n v_rBig_o
theorem v_rBig_c {code : List UInt8} {y : Bool} (h : v_rBig code = some y) : CallOK v_rBig_S [Enc.e code] [] (v_rBig_r y) (v_rBig_n y) (v_rBig_o code y) :=
  modS_call (by
    rintro a0 b0 h hO
    have q0 : a0 = b0 := Enc.inj _ _ (congrArg (fun l => List.getD l 0 (.sc undef)) h)
    subst q0; rfl) (x := code) h
theorem v_rBig_ok : FnOK Try.prog 9 v_rBig_S := by
  have Γok : ∀ f S, lookF f [] = some S → FnOK Try.prog f S := lookF_ok allF_nil
  have Γlive : Live (fun f => lookF f []) := lookF_live allL_nil
  refine fnOK_mod ty_ok (fun args w => Try.call9 args w) Try.func9 rfl [.tmp 2] (by rw [Try.results9]) 6 Try.ntmps9 16 rfl (fun _ => by first | exact Nat.zero_le _ | (simp)) ?_
  rintro code y cx hm hL
  have hm : v_rBig code = some y := hm
  have hL : cx.L = 0 := hL
  unfold v_rBig at hm
  refine X_reg_seq ty_ok Γok hL [] .nil (by kernel_rfl) ?_
  refine X_reg_seq ty_ok Γok hL [(1, .n (code.length : Int))] (.cons (len_m Enc.e code) .nil) (by kernel_rfl) ?_
  obtain rfl := some_inj hm
  refine Ok_ret ?_
  repeat (first | refine thR ?_ | refine ibR ?_)
  exact X_fin [] [] (by kernel_rfl) trivial
abbrev s_l1Cur_next_r (y : Int × l1Cur) : AV := .dat (Enc.e y.1)
abbrev s_l1Cur_next_n (y : Int × l1Cur) : List Obj' := []
abbrev s_l1Cur_next_o (x : l1Cur) (y : Int × l1Cur) : List Obj' := [.box [.dat (Enc.e y.2.code_), .dat (.sc (.int .i64 y.2.at_)), .dat (.sc (.int .u64 y.2.seed_.v))]]
noncomputable def s_l1Cur_next_S : FnSpec := modS [.bx] (fun x : l1Cur => [.sc undef]) (fun x : l1Cur => [.box [.dat (Enc.e x.code_), .dat (.sc (.int .i64 x.at_)), .dat (.sc (.int .u64 x.seed_.v))]]) (fun x : l1Cur => s_l1Cur_next x) s_l1Cur_next_r s_l1Cur_next_n s_l1Cur_next_o
theorem s_l1Cur_next_c {c : l1Cur} {y : Int × l1Cur} (h : s_l1Cur_next c = some y) : CallOK s_l1Cur_next_S [.sc undef] [.box [.dat (Enc.e c.code_), .dat (.sc (.int .i64 c.at_)), .dat (.sc (.int .u64 c.seed_.v))]] (s_l1Cur_next_r y) (s_l1Cur_next_n y) (s_l1Cur_next_o c y) :=
  modS_call (by
    rintro a0 b0 h hO
    have q0 : a0 = b0 := Enc.inj _ _ (congrArg (fun l => D.agg (obD l 0)) hO)
    subst q0; rfl) (x := c) h
theorem s_l1Cur_next_ok : FnOK Try.prog 197 s_l1Cur_next_S := by
  have Γok : ∀ f S, lookF f [] = some S → FnOK Try.prog f S := lookF_ok allF_nil
  have Γlive : Live (fun f => lookF f []) := lookF_live allL_nil
  refine fnOK_mod ty_ok (fun args w => Try.call197 args w) Try.func197 rfl [.tmp 2] (by rw [Try.results197]) 62 Try.ntmps197 16 rfl (fun _ => by first | exact Nat.zero_le _ | (simp)) ?_
  rintro c y cx hm hL
  have hm : s_l1Cur_next c = some y := hm
  have hL : cx.L = 1 := hL
  unfold s_l1Cur_next at hm
  refine X_reg_seq ty_ok Γok hL [] .nil (by kernel_rfl) ?_
  refine X_reg_seq ty_ok Γok hL [] .nil (by kernel_rfl) ?_
  obtain ⟨v, hv, hk⟩ := obind hm
  refine X_join (n := 62) (fun (v : Int) => (⟨[(0, .ref 0 0), (3, .dat (.sc (.int .i64 v)))], [(0, some (.box [.dat (Enc.e c.code_), .dat (.sc (.int .i64 c.at_)), .dat (.sc (.int .u64 c.seed_.v))]))], 48⟩ : X)) v ?_ ?_
  · have hm := hv
    refine X_draw_seq mixed ty_ok Γok Γlive [] (by kernel_rfl) [(8, .n (c.code_.length : Int))] (.cons (len_m Enc.e c.code_) .nil) (by kernel_rfl) ?_
    refine X_cond (decide (c.at_ < (c.code_.length : Int))) (by kernel_rfl) (fun hc => ?_) (fun hc => ?_)
    · have hm := it hc hm
      obtain ⟨e1, h1, hm⟩ := obind hm
      refine X_draw mixed ty_ok Γok Γlive [] (by kernel_rfl) [(8, .d (Enc.e e1))] (.cons (idx_m (f := Enc.e) h1) .nil) (by kernel_rfl) ?_
      obtain rfl := some_inj hm
      exact thN (Wk_J hL ⟨[(0, []), (3, [])], [(0, 0, [])], [], 48⟩ (by kernel_rfl))
    · have hm := ie hc hm
      refine X_skip ?_
      obtain rfl := some_inj hm
      exact thN (Wk_J hL ⟨[(0, []), (3, [])], [(0, 0, [])], [], 48⟩ (by kernel_rfl))
  have hm := hk
  refine X_reg_seq ty_ok Γok hL [] .nil (by kernel_rfl) ?_
  refine X_reg_seq ty_ok Γok hL [] .nil (by kernel_rfl) ?_
  refine Ok_seq ?_
  refine X_draw_seq mixed ty_ok Γok Γlive [] (by kernel_rfl) [(8, .n (c.code_.length : Int))] (.cons (len_m Enc.e c.code_) .nil) (by kernel_rfl) ?_
  refine X_cond (decide ((w64 (c.at_ + 1)) ≤ (c.code_.length : Int))) (by kernel_rfl) (fun hc1 => ?_) (fun hc1 => ?_)
  · have hm := it hc1 hm
    refine X_reg_seq ty_ok Γok hL [] .nil (by kernel_rfl) ?_
    obtain rfl := some_inj hm
    refine Ok_ret ?_
    repeat (first | refine thR ?_ | refine ibR ?_)
    exact X_fin [] [] (by kernel_rfl) trivial
  · have hm := ie hc1 hm
    refine X_skip ?_
    refine thN ?_
    obtain ⟨u, h2, hm⟩ := obind hm
    refine X_reg_seq ty_ok Γok hL [] (.cons (chk_t h2) .nil) (by kernel_rfl) ?_
    obtain rfl := some_inj hm
    refine Ok_ret ?_
    repeat (first | refine thR ?_ | refine ibR ?_)
    exact X_fin [] [] (by kernel_rfl) trivial
abbrev s_l1Cur_pick_r (y : Int × l1Cur) : AV := .dat (Enc.e y.1)
abbrev s_l1Cur_pick_n (y : Int × l1Cur) : List Obj' := []
abbrev s_l1Cur_pick_o (x : l1Cur × Int) (y : Int × l1Cur) : List Obj' := [.box [.dat (Enc.e y.2.code_), .dat (.sc (.int .i64 y.2.at_)), .dat (.sc (.int .u64 y.2.seed_.v))]]
noncomputable def s_l1Cur_pick_S : FnSpec := modS [.bx, .rd] (fun x : l1Cur × Int => [.sc undef, Enc.e x.2]) (fun x : l1Cur × Int => [.box [.dat (Enc.e x.1.code_), .dat (.sc (.int .i64 x.1.at_)), .dat (.sc (.int .u64 x.1.seed_.v))]]) (fun x : l1Cur × Int => s_l1Cur_pick x.1 x.2) s_l1Cur_pick_r s_l1Cur_pick_n s_l1Cur_pick_o
theorem s_l1Cur_pick_c {c : l1Cur} {n : Int} {y : Int × l1Cur} (h : s_l1Cur_pick c n = some y) : CallOK s_l1Cur_pick_S [.sc undef, Enc.e n] [.box [.dat (Enc.e c.code_), .dat (.sc (.int .i64 c.at_)), .dat (.sc (.int .u64 c.seed_.v))]] (s_l1Cur_pick_r y) (s_l1Cur_pick_n y) (s_l1Cur_pick_o (c, n) y) :=
  modS_call (by
    rintro ⟨a0, a1⟩ ⟨b0, b1⟩ h hO
    have q0 : a0 = b0 := Enc.inj _ _ (congrArg (fun l => D.agg (obD l 0)) hO)
    have q1 : a1 = b1 := Enc.inj _ _ (congrArg (fun l => List.getD l 1 (.sc undef)) h)
    subst q0; subst q1; rfl) (x := (c, n)) h
theorem s_l1Cur_pick_ok : FnOK Try.prog 103 s_l1Cur_pick_S := by
  have Γok : ∀ f S, lookF f [(197, s_l1Cur_next_S)] = some S → FnOK Try.prog f S := lookF_ok (allF_cons s_l1Cur_next_ok allF_nil)
  have Γlive : Live (fun f => lookF f [(197, s_l1Cur_next_S)]) := lookF_live (allL_cons modS_live allL_nil)
  refine fnOK_mod ty_ok (fun args w => Try.call103 args w) Try.func103 rfl [.tmp 4] (by rw [Try.results103]) 20 Try.ntmps103 16 rfl (fun _ => by first | exact Nat.zero_le _ | (simp)) ?_
  rintro ⟨c, n⟩ y cx hm hL
  have hm : s_l1Cur_pick c n = some y := hm
  have hL : cx.L = 1 := hL
  unfold s_l1Cur_pick at hm
  refine X_reg_seq ty_ok Γok hL [] .nil (by kernel_rfl) ?_
  refine Ok_seq ?_
  refine X_reg_seq ty_ok Γok hL [] .nil (by kernel_rfl) ?_
  refine X_cond (decide (n ≤ 1)) (by kernel_rfl) (fun hc => ?_) (fun hc => ?_)
  · have hm := it hc hm
    refine X_reg_seq ty_ok Γok hL [] .nil (by kernel_rfl) ?_
    obtain rfl := some_inj hm
    refine Ok_ret ?_
    repeat (first | refine thR ?_ | refine ibR ?_)
    exact X_fin [] [] (by kernel_rfl) trivial
  · have hm := ie hc hm
    refine X_skip ?_
    refine thN ?_
    obtain ⟨r, h, hm⟩ := obind hm
    refine X_reg_seq ty_ok Γok hL [(1, .c (s_l1Cur_next_r r) (s_l1Cur_next_n r) (s_l1Cur_next_o c r))] (.cons (s_l1Cur_next_c h) .nil) (by kernel_rfl) ?_
    obtain ⟨vv, hv, hk⟩ := obind hm
    refine X_join (n := 20) (fun ((v, v1, v2, v3) : Int × (List UInt8) × Int × Int) => (⟨[(0, .ref 0 0), (1, .dat (.sc (.int .i64 n))), (5, .dat (.sc (.int .i64 v)))], [(0, some (.box [.dat (Enc.e v1), .dat (.sc (.int .i64 v2)), .dat (.sc (.int .u64 v3))]))], 48⟩ : X)) vv ?_ ?_
    · have hm := hv
      refine X_reg_seq ty_ok Γok hL [] .nil (by kernel_rfl) ?_
      refine X_cond (decide (200 < n)) (by kernel_rfl) (fun hc1 => ?_) (fun hc1 => ?_)
      · have hm := it hc1 hm
        obtain ⟨r1, h1, hm⟩ := obind hm
        refine X_reg ty_ok Γok hL [(3, .c (s_l1Cur_next_r r1) (s_l1Cur_next_n r1) (s_l1Cur_next_o r.2 r1))] (.cons (s_l1Cur_next_c h1) .nil) (by kernel_rfl) ?_
        obtain rfl := some_inj hm
        exact thN (Wk_J hL ⟨[(0, []), (1, []), (5, [])], [(0, 0, [])], [], 48⟩ (by kernel_rfl))
      · have hm := ie hc1 hm
        refine X_skip ?_
        obtain rfl := some_inj hm
        exact thN (Wk_J hL ⟨[(0, []), (1, []), (5, [])], [(0, 0, [])], [], 48⟩ (by kernel_rfl))
    obtain ⟨v, v1, v2, v3⟩ := vv
    have hm := hk
    obtain ⟨u, h2, hm⟩ := obind hm
    refine X_reg_seq ty_ok Γok hL [] (.cons (chk_t h2) .nil) (by kernel_rfl) ?_
    obtain rfl := some_inj hm
    refine Ok_ret ?_
    repeat (first | refine thR ?_ | refine ibR ?_)
    exact X_fin [] [] (by kernel_rfl) trivial
abbrev s_l1Cur_among_r (y : Int × l1Cur) : AV := .dat (Enc.e y.1)
abbrev s_l1Cur_among_n (y : Int × l1Cur) : List Obj' := []
abbrev s_l1Cur_among_o (x : l1Cur × (List Int)) (y : Int × l1Cur) : List Obj' := [.box [.dat (Enc.e y.2.code_), .dat (.sc (.int .i64 y.2.at_)), .dat (.sc (.int .u64 y.2.seed_.v))]]
noncomputable def s_l1Cur_among_S : FnSpec := modS [.bx, .rd] (fun x : l1Cur × (List Int) => [.sc undef, Enc.e x.2]) (fun x : l1Cur × (List Int) => [.box [.dat (Enc.e x.1.code_), .dat (.sc (.int .i64 x.1.at_)), .dat (.sc (.int .u64 x.1.seed_.v))]]) (fun x : l1Cur × (List Int) => s_l1Cur_among x.1 x.2) s_l1Cur_among_r s_l1Cur_among_n s_l1Cur_among_o
theorem s_l1Cur_among_c {c : l1Cur} {list : List Int} {y : Int × l1Cur} (h : s_l1Cur_among c list = some y) : CallOK s_l1Cur_among_S [.sc undef, Enc.e list] [.box [.dat (Enc.e c.code_), .dat (.sc (.int .i64 c.at_)), .dat (.sc (.int .u64 c.seed_.v))]] (s_l1Cur_among_r y) (s_l1Cur_among_n y) (s_l1Cur_among_o (c, list) y) :=
  modS_call (by
    rintro ⟨a0, a1⟩ ⟨b0, b1⟩ h hO
    have q0 : a0 = b0 := Enc.inj _ _ (congrArg (fun l => D.agg (obD l 0)) hO)
    have q1 : a1 = b1 := Enc.inj _ _ (congrArg (fun l => List.getD l 1 (.sc undef)) h)
    subst q0; subst q1; rfl) (x := (c, list)) h
theorem s_l1Cur_among_ok : FnOK Try.prog 167 s_l1Cur_among_S := by
  have Γok : ∀ f S, lookF f [(103, s_l1Cur_pick_S)] = some S → FnOK Try.prog f S := lookF_ok (allF_cons s_l1Cur_pick_ok allF_nil)
  have Γlive : Live (fun f => lookF f [(103, s_l1Cur_pick_S)]) := lookF_live (allL_cons modS_live allL_nil)
  refine fnOK_mod ty_ok (fun args w => Try.call167 args w) Try.func167 rfl [.tmp 4] (by rw [Try.results167]) 12 Try.ntmps167 16 rfl (fun _ => by first | exact Nat.zero_le _ | (simp)) ?_
  rintro ⟨c, list⟩ y cx hm hL
  have hm : s_l1Cur_among c list = some y := hm
  have hL : cx.L = 1 := hL
  unfold s_l1Cur_among at hm
  refine X_reg_seq ty_ok Γok hL [] .nil (by kernel_rfl) ?_
  obtain ⟨r, h, hm⟩ := obind hm
  obtain ⟨e, h1, hm⟩ := obind hm
  refine X_reg_seq ty_ok Γok hL [(3, .n (list.length : Int)), (4, .c (s_l1Cur_pick_r r) (s_l1Cur_pick_n r) (s_l1Cur_pick_o (c, (list.length : Int)) r)), (5, .d (Enc.e e))] (.cons (len_m Enc.e list) (.cons (s_l1Cur_pick_c h) (.cons (idx_m (f := Enc.e) h1) .nil))) (by kernel_rfl) ?_
  obtain rfl := some_inj hm
  refine Ok_ret ?_
  repeat (first | refine thR ?_ | refine ibR ?_)
  exact X_fin [] [] (by kernel_rfl) trivial
abbrev s_l1Cur_one_r (y : Bool × l1Cur) : AV := .dat (Enc.e y.1)
abbrev s_l1Cur_one_n (y : Bool × l1Cur) : List Obj' := []
abbrev s_l1Cur_one_o (x : l1Cur × Int) (y : Bool × l1Cur) : List Obj' := [.box [.dat (Enc.e y.2.code_), .dat (.sc (.int .i64 y.2.at_)), .dat (.sc (.int .u64 y.2.seed_.v))]]
noncomputable def s_l1Cur_one_S : FnSpec := modS [.bx, .rd] (fun x : l1Cur × Int => [.sc undef, Enc.e x.2]) (fun x : l1Cur × Int => [.box [.dat (Enc.e x.1.code_), .dat (.sc (.int .i64 x.1.at_)), .dat (.sc (.int .u64 x.1.seed_.v))]]) (fun x : l1Cur × Int => s_l1Cur_one x.1 x.2) s_l1Cur_one_r s_l1Cur_one_n s_l1Cur_one_o
theorem s_l1Cur_one_c {c : l1Cur} {n : Int} {y : Bool × l1Cur} (h : s_l1Cur_one c n = some y) : CallOK s_l1Cur_one_S [.sc undef, Enc.e n] [.box [.dat (Enc.e c.code_), .dat (.sc (.int .i64 c.at_)), .dat (.sc (.int .u64 c.seed_.v))]] (s_l1Cur_one_r y) (s_l1Cur_one_n y) (s_l1Cur_one_o (c, n) y) :=
  modS_call (by
    rintro ⟨a0, a1⟩ ⟨b0, b1⟩ h hO
    have q0 : a0 = b0 := Enc.inj _ _ (congrArg (fun l => D.agg (obD l 0)) hO)
    have q1 : a1 = b1 := Enc.inj _ _ (congrArg (fun l => List.getD l 1 (.sc undef)) h)
    subst q0; subst q1; rfl) (x := (c, n)) h
theorem s_l1Cur_one_ok : FnOK Try.prog 106 s_l1Cur_one_S := by
  have Γok : ∀ f S, lookF f [(103, s_l1Cur_pick_S)] = some S → FnOK Try.prog f S := lookF_ok (allF_cons s_l1Cur_pick_ok allF_nil)
  have Γlive : Live (fun f => lookF f [(103, s_l1Cur_pick_S)]) := lookF_live (allL_cons modS_live allL_nil)
  refine fnOK_mod ty_ok (fun args w => Try.call106 args w) Try.func106 rfl [.tmp 4] (by rw [Try.results106]) 9 Try.ntmps106 16 rfl (fun _ => by first | exact Nat.zero_le _ | (simp)) ?_
  rintro ⟨c, n⟩ y cx hm hL
  have hm : s_l1Cur_one c n = some y := hm
  have hL : cx.L = 1 := hL
  unfold s_l1Cur_one at hm
  refine X_reg_seq ty_ok Γok hL [] .nil (by kernel_rfl) ?_
  obtain ⟨r, h, hm⟩ := obind hm
  refine X_reg_seq ty_ok Γok hL [(2, .c (s_l1Cur_pick_r r) (s_l1Cur_pick_n r) (s_l1Cur_pick_o (c, n) r))] (.cons (s_l1Cur_pick_c h) .nil) (by kernel_rfl) ?_
  obtain rfl := some_inj hm
  refine Ok_ret ?_
  repeat (first | refine thR ?_ | refine ibR ?_)
  exact X_fin [] [] (by kernel_rfl) trivial
abbrev s_l1Cur_among_w_r (y : Int × l1Cur) : AV := .dat (Enc.e y.1)
abbrev s_l1Cur_among_w_n (y : Int × l1Cur) : List Obj' := []
abbrev s_l1Cur_among_w_o (x : l1Cur × (List Int)) (y : Int × l1Cur) : List Obj' := [.box [.dat (Enc.e y.2.code_), .dat (.sc (.int .i64 y.2.at_)), .dat (.sc (.int .u64 y.2.seed_.v))], .arr 3 1 (List.map Enc.e x.2)]
noncomputable def s_l1Cur_among_w_S : FnSpec := modS [.bx, .sl] (fun x : l1Cur × (List Int) => [.sc undef, .sc undef]) (fun x : l1Cur × (List Int) => [.box [.dat (Enc.e x.1.code_), .dat (.sc (.int .i64 x.1.at_)), .dat (.sc (.int .u64 x.1.seed_.v))], .arr 3 1 (List.map Enc.e x.2)]) (fun x : l1Cur × (List Int) => s_l1Cur_among_w x.1 x.2) s_l1Cur_among_w_r s_l1Cur_among_w_n s_l1Cur_among_w_o
theorem s_l1Cur_among_w_c {c : l1Cur} {list : List Int} {y : Int × l1Cur} (h : s_l1Cur_among_w c list = some y) : CallOK s_l1Cur_among_w_S [.sc undef, .sc undef] [.box [.dat (Enc.e c.code_), .dat (.sc (.int .i64 c.at_)), .dat (.sc (.int .u64 c.seed_.v))], .arr 3 1 (List.map Enc.e list)] (s_l1Cur_among_w_r y) (s_l1Cur_among_w_n y) (s_l1Cur_among_w_o (c, list) y) :=
  modS_call (by
    rintro ⟨a0, a1⟩ ⟨b0, b1⟩ h hO
    have q0 : a0 = b0 := Enc.inj _ _ (congrArg (fun l => D.agg (obD l 0)) hO)
    have q1 : a1 = b1 := Enc.inj _ _ (congrArg (fun l => D.sl 1 (obL l 1)) hO)
    subst q0; subst q1; rfl) (x := (c, list)) h
theorem s_l1Cur_among_w_ok : FnOK Try.prog 167 s_l1Cur_among_w_S := by
  have Γok : ∀ f S, lookF f [(103, s_l1Cur_pick_S)] = some S → FnOK Try.prog f S := lookF_ok (allF_cons s_l1Cur_pick_ok allF_nil)
  have Γlive : Live (fun f => lookF f [(103, s_l1Cur_pick_S)]) := lookF_live (allL_cons modS_live allL_nil)
  refine fnOK_mod ty_ok (fun args w => Try.call167 args w) Try.func167 rfl [.tmp 4] (by rw [Try.results167]) 12 Try.ntmps167 16 rfl (fun _ => by first | exact Nat.zero_le _ | (simp)) ?_
  rintro ⟨c, list⟩ y cx hm hL
  have hm : s_l1Cur_among_w c list = some y := hm
  have hL : cx.L = 2 := hL
  unfold s_l1Cur_among_w at hm
  refine X_reg_seq ty_ok Γok hL [] .nil (by kernel_rfl) ?_
  obtain ⟨r, h, hm⟩ := obind hm
  obtain ⟨e, h1, hm⟩ := obind hm
  refine X_reg_seq ty_ok Γok hL [(3, .n (list.length : Int)), (4, .c (s_l1Cur_pick_r r) (s_l1Cur_pick_n r) (s_l1Cur_pick_o (c, (list.length : Int)) r)), (5, .d (Enc.e e)), (6, .d (Enc.e e))] (.cons (len_m Enc.e list) (.cons (s_l1Cur_pick_c h) (.cons (idx_m (f := Enc.e) h1) (.cons (idx_m2 (f := Enc.e) h1) .nil)))) (by kernel_rfl) ?_
  obtain rfl := some_inj hm
  refine Ok_ret ?_
  repeat (first | refine thR ?_ | refine ibR ?_)
  exact X_fin [] [] (by kernel_rfl) trivial
abbrev s_l1Cur_roster_r (y : Roster × l1Cur) : AV := .aggv [.own 0, .dat (.sc (.int .i64 y.1.Rules.MinRest)), .dat (.sc (.int .i64 y.1.Rules.MaxRow)), .dat (.sc (.int .i64 y.1.Rules.MaxWeek)), .own 1]
abbrev s_l1Cur_roster_n (y : Roster × l1Cur) : List Obj' := [.arr 49 2 (List.map Enc.e y.1.Shifts), .tab 32 1 [some 3] (List.map Enc.e y.1.Plan) 0 none]
abbrev s_l1Cur_roster_o (x : l1Cur) (y : Roster × l1Cur) : List Obj' := [.box [.dat (Enc.e y.2.code_), .dat (.sc (.int .i64 y.2.at_)), .dat (.sc (.int .u64 y.2.seed_.v))]]
noncomputable def s_l1Cur_roster_S : FnSpec := modS [.bx] (fun x : l1Cur => [.sc undef]) (fun x : l1Cur => [.box [.dat (Enc.e x.code_), .dat (.sc (.int .i64 x.at_)), .dat (.sc (.int .u64 x.seed_.v))]]) (fun x : l1Cur => s_l1Cur_roster x) s_l1Cur_roster_r s_l1Cur_roster_n s_l1Cur_roster_o
theorem s_l1Cur_roster_c {c : l1Cur} {y : Roster × l1Cur} (h : s_l1Cur_roster c = some y) : CallOK s_l1Cur_roster_S [.sc undef] [.box [.dat (Enc.e c.code_), .dat (.sc (.int .i64 c.at_)), .dat (.sc (.int .u64 c.seed_.v))]] (s_l1Cur_roster_r y) (s_l1Cur_roster_n y) (s_l1Cur_roster_o c y) :=
  modS_call (by
    rintro a0 b0 h hO
    have q0 : a0 = b0 := Enc.inj _ _ (congrArg (fun l => D.agg (obD l 0)) hO)
    subst q0; rfl) (x := c) h
theorem s_l1Cur_roster_ok : FnOK Try.prog 102 s_l1Cur_roster_S := by
  have Γok : ∀ f S, lookF f [(167, s_l1Cur_among_w_S), (103, s_l1Cur_pick_S), (106, s_l1Cur_one_S)] = some S → FnOK Try.prog f S := lookF_ok (allF_cons s_l1Cur_among_w_ok (allF_cons s_l1Cur_pick_ok (allF_cons s_l1Cur_one_ok allF_nil)))
  have Γlive : Live (fun f => lookF f [(167, s_l1Cur_among_w_S), (103, s_l1Cur_pick_S), (106, s_l1Cur_one_S)]) := lookF_live (allL_cons modS_live (allL_cons modS_live (allL_cons modS_live allL_nil)))
  refine fnOK_mod ty_ok (fun args w => Try.call102 args w) Try.func102 rfl [.cell 2 29] (by rw [Try.results102]) 126 Try.ntmps102 16 rfl (fun _ => by first | exact Nat.zero_le _ | (simp)) ?_
  rintro c y cx hm hL
  have hm : s_l1Cur_roster c = some y := hm
  have hL : cx.L = 1 := hL
  unfold s_l1Cur_roster at hm
  refine X_reg_seq ty_ok Γok hL [] .nil (by kernel_rfl) ?_
  obtain ⟨r, h, hm⟩ := obind hm
  obtain ⟨r1, h1, hm⟩ := obind hm
  obtain ⟨r2, h2, hm⟩ := obind hm
  refine X_reg_seq ty_ok Γok hL [(2, .c (s_l1Cur_among_w_r r) (s_l1Cur_among_w_n r) (s_l1Cur_among_w_o (c, ([0, 480, 600, 660] : List Int)) r)), (5, .c (s_l1Cur_among_w_r r1) (s_l1Cur_among_w_n r1) (s_l1Cur_among_w_o (r.2, ([2, 3, 5, 6, 14] : List Int)) r1)), (8, .c (s_l1Cur_among_w_r r2) (s_l1Cur_among_w_n r2) (s_l1Cur_among_w_o (r1.2, ([10080, 2400, 1500, 3000] : List Int)) r2))] (.cons (s_l1Cur_among_w_c h) (.cons (s_l1Cur_among_w_c h1) (.cons (s_l1Cur_among_w_c h2) .nil))) (by kernel_rfl) ?_
  refine X_reg_seq ty_ok Γok hL [] .nil (by kernel_rfl) ?_
  refine Ok_seq ?_
  obtain ⟨r3, h3, hm⟩ := obind hm
  refine X_reg_seq ty_ok Γok hL [(1, .c (s_l1Cur_pick_r r3) (s_l1Cur_pick_n r3) (s_l1Cur_pick_o (r2.2, 4) r3))] (.cons (s_l1Cur_pick_c h3) .nil) (by kernel_rfl) ?_
  obtain ⟨vv4, hv, hk⟩ := obind hm
  refine X_tail (n := 126) (fun ((v4, v5, v6, v7) : (List UInt8) × Int × Int × (List Span)) => (⟨[(0, .ref 0 0), (2, .ref 32 0), (3, .ref 48 0)], [(0, some (.box [.dat (Enc.e v4), .dat (.sc (.int .i64 v5)), .dat (.sc (.int .u64 v6))])), (32, some (.box [.dat (.sc (.slice none 0 0)), .dat (.sc (.int .i64 0)), .dat (.sc (.int .i64 0)), .dat (.sc (.int .i64 0)), .dat (.sc (.slice none 0 0))])), (48, some (.box [.own 64, .dat (.sc (.int .i64 r.1)), .dat (.sc (.int .i64 r1.1)), .dat (.sc (.int .i64 r2.1)), .dat (.sc (.slice none 0 0))])), (64, some (.arr 49 2 (List.map Enc.e v7)))], 96⟩ : X)) vv4 ?_ ?_
  · have hm := hv
    refine Ok_block ?_
    refine X_loop (n := 126) (step := s_l1Cur_roster_L1) (fun ((drivers, v, v1, v2, v3) : Int × (List UInt8) × Int × Int × (List Span)) => (⟨[(0, .ref 0 0), (2, .ref 32 0), (3, .ref 48 0), (4, .own 64), (5, .dat (.sc (.int .i64 drivers)))], [(0, some (.box [.dat (Enc.e v), .dat (.sc (.int .i64 v1)), .dat (.sc (.int .u64 v2))])), (32, some (.box [.dat (.sc (.slice none 0 0)), .dat (.sc (.int .i64 0)), .dat (.sc (.int .i64 0)), .dat (.sc (.int .i64 0)), .dat (.sc (.slice none 0 0))])), (48, some (.box [.own 80, .dat (.sc (.int .i64 r.1)), .dat (.sc (.int .i64 r1.1)), .dat (.sc (.int .i64 r2.1)), .dat (.sc (.slice none 0 0))])), (64, some (.arr 49 2 (List.map Enc.e ([(⟨300, 780⟩ : Span), (⟨360, 840⟩ : Span), (⟨720, 1200⟩ : Span), (⟨960, 1440⟩ : Span), (⟨1200, 1700⟩ : Span), (⟨540, 540⟩ : Span)] : List Span)))), (80, some (.arr 49 2 (List.map Enc.e v3)))], 112⟩ : X)) hm (Wk_J hL ⟨[(0, []), (2, []), (3, []), (4, []), (5, [])], [(0, 0, []), (32, 16, []), (48, 208, [.o 80]), (64, 336, [])], [(80, 49, 2, [])], 112⟩ (by kernel_rfl)) ?_
    rintro ⟨drivers, v, v1, v2, v3⟩ r0 hm hb
    rw [s_l1Cur_roster_L1] at hm
    refine Ok_seq ?_
    refine X_reg_seq ty_ok Γok hL [] .nil (by kernel_rfl) ?_
    refine X_cond (decide (0 < drivers)) (by kernel_rfl) (fun hc => ?_) (fun hc => ?_)
    · have hm := it hc hm
      refine X_skip ?_
      refine thN ?_
      refine Ok_seq ?_
      refine Ok_block ?_
      obtain ⟨r5, h7, hm⟩ := obind hm
      obtain ⟨e1, h8, hm⟩ := obind hm
      obtain ⟨u1, h9, hm⟩ := obind hm
      refine X_draw mixed ty_ok Γok Γlive [(6, [0]), (10, [80, 288]), (12, [48, 304])] (by kernel_rfl) [(5, .n (([(⟨300, 780⟩ : Span), (⟨360, 840⟩ : Span), (⟨720, 1200⟩ : Span), (⟨960, 1440⟩ : Span), (⟨1200, 1700⟩ : Span), (⟨540, 540⟩ : Span)] : List Span).length : Int)), (6, .c (s_l1Cur_pick_r r5) (s_l1Cur_pick_n r5) (s_l1Cur_pick_o ((⟨v, v1, (⟨v2⟩ : IK .u64)⟩ : l1Cur), (([(⟨300, 780⟩ : Span), (⟨360, 840⟩ : Span), (⟨720, 1200⟩ : Span), (⟨960, 1440⟩ : Span), (⟨1200, 1700⟩ : Span), (⟨540, 540⟩ : Span)] : List Span).length : Int)) r5)), (7, .d (Enc.e e1)), (8, .d (Enc.e e1)), (10, .l (List.map Enc.e (v3 ++ ([e1] : List Span))))] (.cons (len_m Enc.e ([(⟨300, 780⟩ : Span), (⟨360, 840⟩ : Span), (⟨720, 1200⟩ : Span), (⟨960, 1440⟩ : Span), (⟨1200, 1700⟩ : Span), (⟨540, 540⟩ : Span)] : List Span)) (.cons (s_l1Cur_pick_c h7) (.cons (idx_m (f := Enc.e) h8) (.cons (idx_m2 (f := Enc.e) h8) (.cons (app_p (f := Enc.e) (g := Enc.e) (l := v3) (r := ([e1] : List Span)) (b := 16) (chk_t h9) rfl) (.cons (app_m Enc.e v3 ([e1] : List Span)) .nil)))))) (by kernel_rfl) ?_
      refine ibN ?_
      refine thN ?_
      refine X_reg ty_ok Γok hL [] .nil (by kernel_rfl) ?_
      obtain rfl := some_inj hm
      exact thN ⟨_, rfl, Wk_J hL ⟨[(0, []), (2, []), (3, []), (4, []), (5, [])], [(0, 0, []), (32, 32, []), (48, 48, []), (64, 64, []), (80, 304, [])], [], 112⟩ (by kernel_rfl)⟩
    · have hm := ie hc hm
      obtain rfl := some_inj hm
      obtain rfl := hb _ rfl
      refine Ok_exit ?_
      refine thE ?_
      refine thE ?_
      refine ibE ?_
      exact thN (Wk_J hL ⟨[(0, []), (2, []), (3, [])], [(0, 0, []), (32, 32, []), (48, 48, []), (64, 80, [])], [], 96⟩ (by kernel_rfl))
  obtain ⟨v4, v5, v6, v7⟩ := vv4
  intro s hw
  have hm := hk
  refine thN ?_
  refine Ok_weak hw ?_
  obtain ⟨r6, h10, hm⟩ := obind hm
  obtain ⟨r7, h11, hm⟩ := obind hm
  refine X_reg_seq ty_ok Γok hL [(1, .c (s_l1Cur_pick_r r6) (s_l1Cur_pick_n r6) (s_l1Cur_pick_o ((⟨v4, v5, (⟨v6⟩ : IK .u64)⟩ : l1Cur), 4) r6)), (4, .c (s_l1Cur_pick_r r7) (s_l1Cur_pick_n r7) (s_l1Cur_pick_o (r6.2, 9) r7))] (.cons (s_l1Cur_pick_c h10) (.cons (s_l1Cur_pick_c h11) .nil)) (by kernel_rfl) ?_
  refine Ok_seq ?_
  refine X_reg_seq ty_ok Γok hL [] .nil (by kernel_rfl) ?_
  obtain ⟨vv3, hv3, hk3⟩ := obind hm
  refine X_tail (n := 126) (fun ((v22, v23, v24, v25) : (List UInt8) × Int × Int × (List (List Int))) => (⟨[(0, .ref 0 0), (2, .ref 32 0), (3, .ref 48 0), (6, .dat (.sc (.int .i64 (w64 (1 + r6.1)))))], [(0, some (.box [.dat (Enc.e v22), .dat (.sc (.int .i64 v23)), .dat (.sc (.int .u64 v24))])), (32, some (.box [.dat (.sc (.slice none 0 0)), .dat (.sc (.int .i64 0)), .dat (.sc (.int .i64 0)), .dat (.sc (.int .i64 0)), .dat (.sc (.slice none 0 0))])), (48, some (.box [.own 64, .dat (.sc (.int .i64 r.1)), .dat (.sc (.int .i64 r1.1)), .dat (.sc (.int .i64 r2.1)), .own 80])), (64, some (.arr 49 2 (List.map Enc.e v7))), (80, some (.tab 32 1 [some 3] (List.map Enc.e v25) 80 none))], 112⟩ : X)) vv3 ?_ ?_
  · have hm := hv3
    refine Ok_block ?_
    refine X_loop (n := 126) (step := s_l1Cur_roster_L3 v7 r6 r7) (fun ((list, v8, v9, v10, v11) : Int × (List UInt8) × Int × Int × (List (List Int))) => (⟨[(0, .ref 0 0), (2, .ref 32 0), (3, .ref 48 0), (6, .dat (.sc (.int .i64 (w64 (1 + r6.1))))), (7, .dat (.sc (.int .i64 (w64 (1 + r7.1))))), (8, .dat (.sc (.int .i64 list)))], [(0, some (.box [.dat (Enc.e v8), .dat (.sc (.int .i64 v9)), .dat (.sc (.int .u64 v10))])), (32, some (.box [.dat (.sc (.slice none 0 0)), .dat (.sc (.int .i64 0)), .dat (.sc (.int .i64 0)), .dat (.sc (.int .i64 0)), .dat (.sc (.slice none 0 0))])), (48, some (.box [.own 64, .dat (.sc (.int .i64 r.1)), .dat (.sc (.int .i64 r1.1)), .dat (.sc (.int .i64 r2.1)), .own 80])), (64, some (.arr 49 2 (List.map Enc.e v7))), (80, some (.tab 32 1 [some 3] (List.map Enc.e v11) 80 none))], 112⟩ : X)) hm (Wk_J hL ⟨[(0, []), (2, []), (3, []), (6, []), (7, []), (8, [])], [(0, 0, []), (32, 32, []), (48, 48, [.k, .k, .k, .k, .o 80]), (64, 64, [])], [(80, 32, 1, [some 3])], 112⟩ (by kernel_rfl)) ?_
    rintro ⟨list, v8, v9, v10, v11⟩ r0 hm hb1
    rw [s_l1Cur_roster_L3] at hm
    refine Ok_seq ?_
    refine X_reg_seq ty_ok Γok hL [] .nil (by kernel_rfl) ?_
    refine X_cond (decide (list < (w64 (1 + r6.1)))) (by kernel_rfl) (fun hc1 => ?_) (fun hc1 => ?_)
    · have hm := it hc1 hm
      refine X_skip ?_
      refine thN ?_
      refine Ok_seq ?_
      refine Ok_block ?_
      refine X_reg_seq ty_ok Γok hL [] .nil (by kernel_rfl) ?_
      refine Ok_seq ?_
      refine X_reg_seq ty_ok Γok hL [] .nil (by kernel_rfl) ?_
      obtain ⟨vv1, hv2, hk2⟩ := obind hm
      refine X_tail (n := 126) (fun ((v19, v20, v21, d1) : (List UInt8) × Int × Int × (List Int)) => (⟨[(0, .ref 0 0), (2, .ref 32 0), (3, .ref 48 0), (6, .dat (.sc (.int .i64 (w64 (1 + r6.1))))), (7, .dat (.sc (.int .i64 (w64 (1 + r7.1))))), (8, .dat (.sc (.int .i64 list))), (9, .own 64)], [(0, some (.box [.dat (Enc.e v19), .dat (.sc (.int .i64 v20)), .dat (.sc (.int .u64 v21))])), (32, some (.box [.dat (.sc (.slice none 0 0)), .dat (.sc (.int .i64 0)), .dat (.sc (.int .i64 0)), .dat (.sc (.int .i64 0)), .dat (.sc (.slice none 0 0))])), (48, some (.box [.own 80, .dat (.sc (.int .i64 r.1)), .dat (.sc (.int .i64 r1.1)), .dat (.sc (.int .i64 r2.1)), .own 96])), (64, some (.arr 3 1 (List.map Enc.e d1))), (80, some (.arr 49 2 (List.map Enc.e v7))), (96, some (.tab 32 1 [some 3] (List.map Enc.e v11) 96 none))], 128⟩ : X)) vv1 ?_ ?_
      · have hm := hv2
        refine Ok_block ?_
        refine X_loop (n := 126) (step := s_l1Cur_roster_L2 v7 r7) (fun ((s1, v12, v13, v14, d) : Int × (List UInt8) × Int × Int × (List Int)) => (⟨[(0, .ref 0 0), (2, .ref 32 0), (3, .ref 48 0), (6, .dat (.sc (.int .i64 (w64 (1 + r6.1))))), (7, .dat (.sc (.int .i64 (w64 (1 + r7.1))))), (8, .dat (.sc (.int .i64 list))), (9, .own 64), (10, .dat (.sc (.int .i64 s1)))], [(0, some (.box [.dat (Enc.e v12), .dat (.sc (.int .i64 v13)), .dat (.sc (.int .u64 v14))])), (32, some (.box [.dat (.sc (.slice none 0 0)), .dat (.sc (.int .i64 0)), .dat (.sc (.int .i64 0)), .dat (.sc (.int .i64 0)), .dat (.sc (.slice none 0 0))])), (48, some (.box [.own 80, .dat (.sc (.int .i64 r.1)), .dat (.sc (.int .i64 r1.1)), .dat (.sc (.int .i64 r2.1)), .own 96])), (64, some (.arr 3 1 (List.map Enc.e d))), (80, some (.arr 49 2 (List.map Enc.e v7))), (96, some (.tab 32 1 [some 3] (List.map Enc.e v11) 96 none))], 128⟩ : X)) hm (Wk_J hL ⟨[(0, []), (2, []), (3, []), (6, []), (7, []), (8, []), (9, []), (10, [])], [(0, 0, []), (32, 32, []), (48, 48, []), (64, 160, []), (80, 64, []), (96, 80, [])], [], 128⟩ (by kernel_rfl)) ?_
        rintro ⟨s1, v12, v13, v14, d⟩ r0 hm hb2
        rw [s_l1Cur_roster_L2] at hm
        refine Ok_seq ?_
        refine X_reg_seq ty_ok Γok hL [] .nil (by kernel_rfl) ?_
        refine X_cond (decide (s1 < (w64 (1 + r7.1)))) (by kernel_rfl) (fun hc2 => ?_) (fun hc2 => ?_)
        · have hm := it hc2 hm
          refine X_skip ?_
          refine thN ?_
          refine Ok_seq ?_
          refine Ok_block ?_
          refine X_reg_seq ty_ok Γok hL [] .nil (by kernel_rfl) ?_
          obtain ⟨vv, hv1, hk1⟩ := obind hm
          refine X_join (n := 126) (fun ((v15, v16, v17, v18) : Int × (List UInt8) × Int × Int) => (⟨[(0, .ref 0 0), (2, .ref 32 0), (3, .ref 48 0), (6, .dat (.sc (.int .i64 (w64 (1 + r6.1))))), (7, .dat (.sc (.int .i64 (w64 (1 + r7.1))))), (8, .dat (.sc (.int .i64 list))), (9, .own 64), (10, .dat (.sc (.int .i64 s1))), (11, .dat (.sc (.int .i64 v15)))], [(0, some (.box [.dat (Enc.e v16), .dat (.sc (.int .i64 v17)), .dat (.sc (.int .u64 v18))])), (32, some (.box [.dat (.sc (.slice none 0 0)), .dat (.sc (.int .i64 0)), .dat (.sc (.int .i64 0)), .dat (.sc (.int .i64 0)), .dat (.sc (.slice none 0 0))])), (48, some (.box [.own 80, .dat (.sc (.int .i64 r.1)), .dat (.sc (.int .i64 r1.1)), .dat (.sc (.int .i64 r2.1)), .own 96])), (64, some (.arr 3 1 (List.map Enc.e d))), (80, some (.arr 49 2 (List.map Enc.e v7))), (96, some (.tab 32 1 [some 3] (List.map Enc.e v11) 96 none))], 128⟩ : X)) vv ?_ ?_
          · have hm := hv1
            obtain ⟨r8, h12, hm⟩ := obind hm
            refine X_reg_seq ty_ok Γok hL [(1, .c (s_l1Cur_one_r r8) (s_l1Cur_one_n r8) (s_l1Cur_one_o ((⟨v12, v13, (⟨v14⟩ : IK .u64)⟩ : l1Cur), 2) r8))] (.cons (s_l1Cur_one_c h12) .nil) (by kernel_rfl) ?_
            refine X_cond r8.1 (by kernel_rfl) (fun hc3 => ?_) (fun hc3 => ?_)
            · have hm := it hc3 hm
              obtain ⟨r9, h13, hm⟩ := obind hm
              refine X_reg ty_ok Γok hL [(3, .n (v7.length : Int)), (4, .c (s_l1Cur_pick_r r9) (s_l1Cur_pick_n r9) (s_l1Cur_pick_o (r8.2, (v7.length : Int)) r9))] (.cons (len_m Enc.e v7) (.cons (s_l1Cur_pick_c h13) .nil)) (by kernel_rfl) ?_
              obtain rfl := some_inj hm
              exact thN (Wk_J hL ⟨[(0, []), (2, []), (3, []), (6, []), (7, []), (8, []), (9, []), (10, []), (11, [])], [(0, 0, []), (32, 32, []), (48, 48, []), (64, 64, []), (80, 80, []), (96, 96, [])], [], 128⟩ (by kernel_rfl))
            · have hm := ie hc3 hm
              refine X_skip ?_
              obtain rfl := some_inj hm
              exact thN (Wk_J hL ⟨[(0, []), (2, []), (3, []), (6, []), (7, []), (8, []), (9, []), (10, []), (11, [])], [(0, 0, []), (32, 32, []), (48, 48, []), (64, 64, []), (80, 80, []), (96, 96, [])], [], 128⟩ (by kernel_rfl))
          obtain ⟨v15, v16, v17, v18⟩ := vv
          have hm := hk1
          obtain ⟨u2, h14, hm⟩ := obind hm
          refine X_reg ty_ok Γok hL [(3, .l (List.map Enc.e (d ++ ([v15] : List Int))))] (.cons (app_p (f := Enc.e) (g := Enc.e) (l := d) (r := ([v15] : List Int)) (b := 8) (chk_t h14) rfl) (.cons (app_m Enc.e d ([v15] : List Int)) .nil)) (by kernel_rfl) ?_
          refine ibN ?_
          refine thN ?_
          refine X_reg ty_ok Γok hL [] .nil (by kernel_rfl) ?_
          obtain rfl := some_inj hm
          exact thN ⟨_, rfl, Wk_J hL ⟨[(0, []), (2, []), (3, []), (6, []), (7, []), (8, []), (9, []), (10, [])], [(0, 0, []), (32, 32, []), (48, 48, []), (64, 176, []), (80, 80, []), (96, 96, [])], [], 128⟩ (by kernel_rfl)⟩
        · have hm := ie hc2 hm
          obtain rfl := some_inj hm
          obtain rfl := hb2 _ rfl
          refine Ok_exit ?_
          refine thE ?_
          refine thE ?_
          refine ibE ?_
          exact thN (Wk_J hL ⟨[(0, []), (2, []), (3, []), (6, []), (7, []), (8, []), (9, [])], [(0, 0, []), (32, 32, []), (48, 48, []), (64, 64, []), (80, 80, []), (96, 96, [])], [], 128⟩ (by kernel_rfl))
      obtain ⟨v19, v20, v21, d1⟩ := vv1
      intro s2 hw1
      have hm := hk2
      refine thN ?_
      refine Ok_weak hw1 ?_
      obtain ⟨u3, h15, hm⟩ := obind hm
      refine X_reg ty_ok Γok hL [(4, .l (List.map Enc.e (v11 ++ ([d1] : List (List Int)))))] (.cons (nodupB_ok (l := [64]) rfl) (.cons (app_p (f := Enc.e) (g := Enc.e) (l := v11) (r := ([d1] : List (List Int))) (b := 24) (chk_t h15) rfl) (.cons (app_m Enc.e v11 ([d1] : List (List Int))) .nil))) (by kernel_rfl) ?_
      refine ibN ?_
      refine thN ?_
      refine X_reg ty_ok Γok hL [] .nil (by kernel_rfl) ?_
      obtain rfl := some_inj hm
      exact thN ⟨_, rfl, Wk_J hL ⟨[(0, []), (2, []), (3, []), (6, []), (7, []), (8, [])], [(0, 0, []), (32, 32, []), (48, 48, []), (64, 80, []), (80, 192, [])], [], 112⟩ (by kernel_rfl)⟩
    · have hm := ie hc1 hm
      obtain rfl := some_inj hm
      obtain rfl := hb1 _ rfl
      refine Ok_exit ?_
      refine thE ?_
      refine thE ?_
      refine ibE ?_
      exact thN (Wk_J hL ⟨[(0, []), (2, []), (3, []), (6, [])], [(0, 0, []), (32, 32, []), (48, 48, []), (64, 64, []), (80, 80, [])], [], 112⟩ (by kernel_rfl))
  obtain ⟨v22, v23, v24, v25⟩ := vv3
  intro s3 hw2
  have hm := hk3
  refine thN ?_
  refine Ok_weak hw2 ?_
  obtain ⟨vv2, hv4, hk4⟩ := obind hm
  refine X_join (n := 126) (fun ((v26, v27, v28, v29, v30, v31) : (List UInt8) × Int × Int × Int × Int × (List (List Int))) => (⟨[(0, .ref 0 0), (2, .ref 32 0), (3, .ref 48 0)], [(0, some (.box [.dat (Enc.e v26), .dat (.sc (.int .i64 v27)), .dat (.sc (.int .u64 v28))])), (32, some (.box [.dat (.sc (.slice none 0 0)), .dat (.sc (.int .i64 0)), .dat (.sc (.int .i64 0)), .dat (.sc (.int .i64 0)), .dat (.sc (.slice none 0 0))])), (48, some (.box [.own 64, .dat (.sc (.int .i64 v29)), .dat (.sc (.int .i64 v30)), .dat (.sc (.int .i64 r2.1)), .own 80])), (64, some (.arr 49 2 (List.map Enc.e v7))), (80, some (.tab 32 1 [some 3] (List.map Enc.e v31) 80 none))], 112⟩ : X)) vv2 ?_ ?_
  · have hm := hv4
    obtain ⟨r10, h16, hm⟩ := obind hm
    refine X_reg_seq ty_ok Γok hL [(1, .c (s_l1Cur_pick_r r10) (s_l1Cur_pick_n r10) (s_l1Cur_pick_o ((⟨v22, v23, (⟨v24⟩ : IK .u64)⟩ : l1Cur), 40) r10))] (.cons (s_l1Cur_pick_c h16) .nil) (by kernel_rfl) ?_
    refine Ok_block ?_
    refine X_reg_seq ty_ok Γok hL [] .nil (by kernel_rfl) ?_
    refine X_cond (r10.1 == 0) (by kernel_rfl) (fun hc4 => ?_) (fun hc4 => ?_)
    · have hm := it hc4 hm
      obtain ⟨e4, h20, hm⟩ := obind hm
      obtain ⟨u5, h21, hm⟩ := obind hm
      obtain ⟨e5, h22, hm⟩ := obind hm
      refine X_draw mixed ty_ok Γok Γlive [(7, [80, 272]), (9, [80, 288])] (by kernel_rfl) [(4, .d (Enc.e e4)), (5, .d (Enc.e e4)), (7, .sd (Enc.e e4) (List.map Enc.e (e4 ++ ([(-1)] : List Int)))), (8, .d (Enc.e e5)), (9, .sd (Enc.e e4) (List.map Enc.e (v25.set (0 : Int).toNat (e4 ++ ([(-1)] : List Int)))))] (.cons (idx_m (f := Enc.e) h20) (.cons (idx_m2 (f := Enc.e) h20) (.cons (idx_m2 (f := Enc.e) h20) (.cons (app_p (f := Enc.e) (g := Enc.e) (l := e4) (r := ([(-1)] : List Int)) (b := 8) (chk_t h21) rfl) (.cons (app_m Enc.e e4 ([(-1)] : List Int)) (.cons (idx_m (f := Enc.e) h22) (.cons (idx_m2 (f := Enc.e) h20) (.cons (set_m Enc.e v25 (0 : Int).toNat (e4 ++ ([(-1)] : List Int))) (.cons (Eq.refl (0 : Int).toNat) .nil))))))))) (by kernel_rfl) ?_
      refine ibN ?_
      obtain rfl := some_inj hm
      exact thN (Wk_J hL ⟨[(0, []), (2, []), (3, [])], [(0, 0, []), (32, 32, []), (48, 48, []), (64, 64, []), (80, 80, [])], [], 112⟩ (by kernel_rfl))
    · have hm := ie hc4 hm
      refine X_reg_seq ty_ok Γok hL [] .nil (by kernel_rfl) ?_
      refine X_cond (r10.1 == 1) (by kernel_rfl) (fun hc5 => ?_) (fun hc5 => ?_)
      · have hm := it hc5 hm
        obtain ⟨e8, h26, hm⟩ := obind hm
        obtain ⟨r12, h27, hm⟩ := obind hm
        obtain ⟨e9, h28, hm⟩ := obind hm
        refine X_draw mixed ty_ok Γok Γlive [(11, [0, 368]), (13, [80])] (by kernel_rfl) [(4, .d (Enc.e e8)), (5, .d (Enc.e e8)), (9, .n (v7.length : Int)), (11, .c (s_l1Cur_among_w_r r12) (s_l1Cur_among_w_n r12) (s_l1Cur_among_w_o (r10.2, ([(-2), (v7.length : Int)] : List Int)) r12)), (12, .d (Enc.e e8)), (13, .sd2 (Enc.e e8) (Enc.e e9) (List.map Enc.e (e8.set (0 : Int).toNat r12.1)) (List.map Enc.e (v25.set (w64 ((w64 (1 + r6.1)) - 1)).toNat (e8.set (0 : Int).toNat r12.1))))] (.cons (idx_m (f := Enc.e) h26) (.cons (idx_m2 (f := Enc.e) h26) (.cons (len_m Enc.e v7) (.cons (s_l1Cur_among_w_c h27) (.cons (idx_m2 (f := Enc.e) h26) (.cons (idx_b (f := Enc.e) h28) (.cons (idx_m2 (f := Enc.e) h26) (.cons (idx_m2 (f := Enc.e) h28) (.cons (set_m Enc.e e8 (0 : Int).toNat r12.1) (.cons (set_m Enc.e v25 (w64 ((w64 (1 + r6.1)) - 1)).toNat (e8.set (0 : Int).toNat r12.1)) .nil)))))))))) (by kernel_rfl) ?_
        refine ibN ?_
        obtain rfl := some_inj hm
        exact thN (Wk_J hL ⟨[(0, []), (2, []), (3, [])], [(0, 0, []), (32, 32, []), (48, 48, []), (64, 64, []), (80, 80, [])], [], 112⟩ (by kernel_rfl))
      · have hm := ie hc5 hm
        refine X_reg_seq ty_ok Γok hL [] .nil (by kernel_rfl) ?_
        refine X_cond (r10.1 == 2) (by kernel_rfl) (fun hc6 => ?_) (fun hc6 => ?_)
        · have hm := it hc6 hm
          obtain ⟨r13, h29, hm⟩ := obind hm
          refine X_reg ty_ok Γok hL [(2, .c (s_l1Cur_among_w_r r13) (s_l1Cur_among_w_n r13) (s_l1Cur_among_w_o (r10.2, ([(-1), 1440, 1441] : List Int)) r13))] (.cons (s_l1Cur_among_w_c h29) .nil) (by kernel_rfl) ?_
          refine ibN ?_
          obtain rfl := some_inj hm
          exact thN (Wk_J hL ⟨[(0, []), (2, []), (3, [])], [(0, 0, []), (32, 32, []), (48, 48, []), (64, 64, []), (80, 80, [])], [], 112⟩ (by kernel_rfl))
        · have hm := ie hc6 hm
          refine X_reg_seq ty_ok Γok hL [] .nil (by kernel_rfl) ?_
          refine X_cond (r10.1 == 3) (by kernel_rfl) (fun hc7 => ?_) (fun hc7 => ?_)
          · have hm := it hc7 hm
            obtain ⟨r14, h30, hm⟩ := obind hm
            refine X_reg ty_ok Γok hL [(2, .c (s_l1Cur_among_w_r r14) (s_l1Cur_among_w_n r14) (s_l1Cur_among_w_o (r10.2, ([0, 15] : List Int)) r14))] (.cons (s_l1Cur_among_w_c h30) .nil) (by kernel_rfl) ?_
            refine ibN ?_
            obtain rfl := some_inj hm
            exact thN (Wk_J hL ⟨[(0, []), (2, []), (3, [])], [(0, 0, []), (32, 32, []), (48, 48, []), (64, 64, []), (80, 80, [])], [], 112⟩ (by kernel_rfl))
          · have hm := ie hc7 hm
            refine X_skip ?_
            refine ibN ?_
            obtain rfl := some_inj hm
            exact thN (Wk_J hL ⟨[(0, []), (2, []), (3, [])], [(0, 0, []), (32, 32, []), (48, 48, []), (64, 64, []), (80, 80, [])], [], 112⟩ (by kernel_rfl))
  obtain ⟨v26, v27, v28, v29, v30, v31⟩ := vv2
  have hm := hk4
  refine X_reg_seq ty_ok Γok hL [] .nil (by kernel_rfl) ?_
  obtain rfl := some_inj hm
  refine Ok_ret ?_
  repeat (first | refine thR ?_ | refine ibR ?_)
  exact X_fin [64, 80] [] (by kernel_rfl) trivial
abbrev s_DrawMissingShifts_r (y : Roster × Int) : AV := .tup [.aggv [.own 0, .dat (.sc (.int .i64 y.1.Rules.MinRest)), .dat (.sc (.int .i64 y.1.Rules.MaxRow)), .dat (.sc (.int .i64 y.1.Rules.MaxWeek)), .own 1], .dat (Enc.e y.2)]
abbrev s_DrawMissingShifts_n (y : Roster × Int) : List Obj' := [.arr 49 2 (List.map Enc.e y.1.Shifts), .tab 32 1 [some 3] (List.map Enc.e y.1.Plan) 0 none]
abbrev s_DrawMissingShifts_o (x : (List UInt8)) (y : Roster × Int) : List Obj' := []
noncomputable def s_DrawMissingShifts_S : FnSpec := modS [.rd] (fun x : (List UInt8) => [Enc.e x]) (fun x : (List UInt8) => []) (fun x : (List UInt8) => s_DrawMissingShifts x) s_DrawMissingShifts_r s_DrawMissingShifts_n s_DrawMissingShifts_o
theorem s_DrawMissingShifts_c {code : List UInt8} {y : Roster × Int} (h : s_DrawMissingShifts code = some y) : CallOK s_DrawMissingShifts_S [Enc.e code] [] (s_DrawMissingShifts_r y) (s_DrawMissingShifts_n y) (s_DrawMissingShifts_o code y) :=
  modS_call (by
    rintro a0 b0 h hO
    have q0 : a0 = b0 := Enc.inj _ _ (congrArg (fun l => List.getD l 0 (.sc undef)) h)
    subst q0; rfl) (x := code) h
theorem s_DrawMissingShifts_ok : FnOK Try.prog 83 s_DrawMissingShifts_S := by
  have Γok : ∀ f S, lookF f [(102, s_l1Cur_roster_S), (103, s_l1Cur_pick_S)] = some S → FnOK Try.prog f S := lookF_ok (allF_cons s_l1Cur_roster_ok (allF_cons s_l1Cur_pick_ok allF_nil))
  have Γlive : Live (fun f => lookF f [(102, s_l1Cur_roster_S), (103, s_l1Cur_pick_S)]) := lookF_live (allL_cons modS_live (allL_cons modS_live allL_nil))
  refine fnOK_mod ty_ok (fun args w => Try.call83 args w) Try.func83 rfl [.cell 2 29, .tmp 3] (by rw [Try.results83]) 24 Try.ntmps83 16 rfl (fun _ => by first | exact Nat.zero_le _ | (simp)) ?_
  rintro code y cx hm hL
  have hm : s_DrawMissingShifts code = some y := hm
  have hL : cx.L = 0 := hL
  unfold s_DrawMissingShifts at hm
  refine X_reg_seq ty_ok Γok hL [] .nil (by kernel_rfl) ?_
  refine X_reg_seq ty_ok Γok hL [] .nil (by kernel_rfl) ?_
  obtain ⟨r, h, hm⟩ := obind hm
  refine X_reg_seq ty_ok Γok hL [(1, .c (s_l1Cur_roster_r r) (s_l1Cur_roster_n r) (s_l1Cur_roster_o (⟨code, 0, (⟨0⟩ : IK .u64)⟩ : l1Cur) r))] (.cons (s_l1Cur_roster_c h) .nil) (by kernel_rfl) ?_
  obtain ⟨e1, h5, hm⟩ := obind hm
  obtain ⟨r3, h6, hm⟩ := obind hm
  obtain ⟨r4, h7, hm⟩ := obind hm
  obtain ⟨u1, h8, hm⟩ := obind hm
  refine X_draw_seq mixed ty_ok Γok Γlive [(8, [80]), (10, [80]), (13, [16, 128, 129])] (by kernel_rfl) [(4, .d (Enc.e e1)), (5, .d (Enc.e e1)), (6, .dn (Enc.e e1) (e1.length : Int)), (8, .c (s_l1Cur_pick_r r3) (s_l1Cur_pick_n r3) (s_l1Cur_pick_o (r.2, (w64 ((e1.length : Int) + 1))) r3)), (10, .c (s_l1Cur_pick_r r4) (s_l1Cur_pick_n r4) (s_l1Cur_pick_o (r3.2, 12) r4))] (.cons (idx_m (f := Enc.e) h5) (.cons (idx_m2 (f := Enc.e) h5) (.cons (idx_m2 (f := Enc.e) h5) (.cons (len_m Enc.e e1) (.cons (s_l1Cur_pick_c h6) (.cons (s_l1Cur_pick_c h7) (.cons (chk_t h8) .nil))))))) (by kernel_rfl) ?_
  obtain rfl := some_inj hm
  refine Ok_ret ?_
  repeat (first | refine thR ?_ | refine ibR ?_)
  exact X_fin [128, 129] [] (by kernel_rfl) trivial
abbrev s_DrawFillDay_r (y : Roster × Int) : AV := .tup [.aggv [.own 0, .dat (.sc (.int .i64 y.1.Rules.MinRest)), .dat (.sc (.int .i64 y.1.Rules.MaxRow)), .dat (.sc (.int .i64 y.1.Rules.MaxWeek)), .own 1], .dat (Enc.e y.2)]
abbrev s_DrawFillDay_n (y : Roster × Int) : List Obj' := [.arr 49 2 (List.map Enc.e y.1.Shifts), .tab 32 1 [some 3] (List.map Enc.e y.1.Plan) 0 none]
abbrev s_DrawFillDay_o (x : (List UInt8)) (y : Roster × Int) : List Obj' := []
noncomputable def s_DrawFillDay_S : FnSpec := modS [.rd] (fun x : (List UInt8) => [Enc.e x]) (fun x : (List UInt8) => []) (fun x : (List UInt8) => s_DrawFillDay x) s_DrawFillDay_r s_DrawFillDay_n s_DrawFillDay_o
theorem s_DrawFillDay_c {code : List UInt8} {y : Roster × Int} (h : s_DrawFillDay code = some y) : CallOK s_DrawFillDay_S [Enc.e code] [] (s_DrawFillDay_r y) (s_DrawFillDay_n y) (s_DrawFillDay_o code y) :=
  modS_call (by
    rintro a0 b0 h hO
    have q0 : a0 = b0 := Enc.inj _ _ (congrArg (fun l => List.getD l 0 (.sc undef)) h)
    subst q0; rfl) (x := code) h
theorem s_DrawFillDay_ok : FnOK Try.prog 10 s_DrawFillDay_S := by
  have Γok : ∀ f S, lookF f [(83, s_DrawMissingShifts_S)] = some S → FnOK Try.prog f S := lookF_ok (allF_cons s_DrawMissingShifts_ok allF_nil)
  have Γlive : Live (fun f => lookF f [(83, s_DrawMissingShifts_S)]) := lookF_live (allL_cons modS_live allL_nil)
  refine fnOK_mod ty_ok (fun args w => Try.call10 args w) Try.func10 rfl [.cell 2 29, .tmp 3] (by rw [Try.results10]) 8 Try.ntmps10 16 rfl (fun _ => by first | exact Nat.zero_le _ | (simp)) ?_
  rintro code y cx hm hL
  have hm : s_DrawFillDay code = some y := hm
  have hL : cx.L = 0 := hL
  unfold s_DrawFillDay at hm
  refine X_reg_seq ty_ok Γok hL [] .nil (by kernel_rfl) ?_
  obtain ⟨r, h, hm⟩ := obind hm
  refine X_reg_seq ty_ok Γok hL [(1, .c (s_DrawMissingShifts_r r) (s_DrawMissingShifts_n r) (s_DrawMissingShifts_o code r))] (.cons (s_DrawMissingShifts_c h) .nil) (by kernel_rfl) ?_
  obtain rfl := some_inj hm
  refine Ok_ret ?_
  repeat (first | refine thR ?_ | refine ibR ?_)
  exact X_fin [64, 65] [] (by kernel_rfl) trivial
abbrev i_within_r (y : Bool) : AV := .dat (Enc.e y)
abbrev i_within_n (y : Bool) : List Obj' := []
abbrev i_within_o (x : Int × Int × Int) (y : Bool) : List Obj' := []
noncomputable def i_within_S : FnSpec := modS [.rd, .rd, .rd] (fun x : Int × Int × Int => [Enc.e x.1, Enc.e x.2.1, Enc.e x.2.2]) (fun x : Int × Int × Int => []) (fun x : Int × Int × Int => i_within x.1 x.2.1 x.2.2) i_within_r i_within_n i_within_o
theorem i_within_c {n : Int} {lo : Int} {hi : Int} {y : Bool} (h : i_within n lo hi = some y) : CallOK i_within_S [Enc.e n, Enc.e lo, Enc.e hi] [] (i_within_r y) (i_within_n y) (i_within_o (n, lo, hi) y) :=
  modS_call (by
    rintro ⟨a0, a1, a2⟩ ⟨b0, b1, b2⟩ h hO
    have q0 : a0 = b0 := Enc.inj _ _ (congrArg (fun l => List.getD l 0 (.sc undef)) h)
    have q1 : a1 = b1 := Enc.inj _ _ (congrArg (fun l => List.getD l 1 (.sc undef)) h)
    have q2 : a2 = b2 := Enc.inj _ _ (congrArg (fun l => List.getD l 2 (.sc undef)) h)
    subst q0; subst q1; subst q2; rfl) (x := (n, lo, hi)) h
theorem i_within_ok : FnOK Try.prog 94 i_within_S := by
  have Γok : ∀ f S, lookF f [] = some S → FnOK Try.prog f S := lookF_ok allF_nil
  have Γlive : Live (fun f => lookF f []) := lookF_live allL_nil
  refine fnOK_mod ty_ok (fun args w => Try.call94 args w) Try.func94 rfl [.tmp 6] (by rw [Try.results94]) 15 Try.ntmps94 16 rfl (fun _ => by first | exact Nat.zero_le _ | (simp)) ?_
  rintro ⟨n, lo, hi⟩ y cx hm hL
  have hm : i_within n lo hi = some y := hm
  have hL : cx.L = 0 := hL
  unfold i_within at hm
  refine X_reg_seq ty_ok Γok hL [] .nil (by kernel_rfl) ?_
  obtain ⟨v, hv, hk⟩ := obind hm
  refine X_join (n := 15) (fun (v : Bool) => (⟨[(6, .dat (.sc (.bool v)))], [], 32⟩ : X)) v ?_ ?_
  · have hm := hv
    rcases btf (decide (lo ≤ n)) with hb | hb
    · have hm := it hb hm
      obtain rfl := some_inj hm
      refine X_reg ty_ok Γok hL [(3, .b true)] (.cons hb .nil) (by kernel_rfl) ?_
      exact thN (Wk_J hL ⟨[(6, [])], [], [], 32⟩ (by kernel_rfl))
    · have hm := ie hb hm
      obtain rfl := some_inj hm
      refine X_reg ty_ok Γok hL [(3, .b false)] (.cons hb .nil) (by kernel_rfl) ?_
      exact thN (Wk_J hL ⟨[(6, [])], [], [], 32⟩ (by kernel_rfl))
  have hm := hk
  obtain rfl := some_inj hm
  refine Ok_ret ?_
  repeat (first | refine thR ?_ | refine ibR ?_)
  exact X_fin [] [] (by kernel_rfl) trivial
abbrev i_IsValidTime_r (y : Bool) : AV := .dat (Enc.e y)
abbrev i_IsValidTime_n (y : Bool) : List Obj' := []
abbrev i_IsValidTime_o (x : Int) (y : Bool) : List Obj' := []
noncomputable def i_IsValidTime_S : FnSpec := modS [.rd] (fun x : Int => [Enc.e x]) (fun x : Int => []) (fun x : Int => i_IsValidTime x) i_IsValidTime_r i_IsValidTime_n i_IsValidTime_o
theorem i_IsValidTime_c {t : Int} {y : Bool} (h : i_IsValidTime t = some y) : CallOK i_IsValidTime_S [Enc.e t] [] (i_IsValidTime_r y) (i_IsValidTime_n y) (i_IsValidTime_o t y) :=
  modS_call (by
    rintro a0 b0 h hO
    have q0 : a0 = b0 := Enc.inj _ _ (congrArg (fun l => List.getD l 0 (.sc undef)) h)
    subst q0; rfl) (x := t) h
theorem i_IsValidTime_ok : FnOK Try.prog 201 i_IsValidTime_S := by
  have Γok : ∀ f S, lookF f [(94, i_within_S)] = some S → FnOK Try.prog f S := lookF_ok (allF_cons i_within_ok allF_nil)
  have Γlive : Live (fun f => lookF f [(94, i_within_S)]) := lookF_live (allL_cons modS_live allL_nil)
  refine fnOK_mod ty_ok (fun args w => Try.call201 args w) Try.func201 rfl [.tmp 2] (by rw [Try.results201]) 5 Try.ntmps201 16 rfl (fun _ => by first | exact Nat.zero_le _ | (simp)) ?_
  rintro t y cx hm hL
  have hm : i_IsValidTime t = some y := hm
  have hL : cx.L = 0 := hL
  unfold i_IsValidTime at hm
  refine X_reg_seq ty_ok Γok hL [] .nil (by kernel_rfl) ?_
  obtain ⟨r, h, hm⟩ := obind hm
  refine X_reg_seq ty_ok Γok hL [(1, .c (i_within_r r) (i_within_n r) (i_within_o (t, 0, 1799) r))] (.cons (i_within_c h) .nil) (by kernel_rfl) ?_
  obtain rfl := some_inj hm
  refine Ok_ret ?_
  repeat (first | refine thR ?_ | refine ibR ?_)
  exact X_fin [] [] (by kernel_rfl) trivial
abbrev i_isSpan_r (y : Bool) : AV := .dat (Enc.e y)
abbrev i_isSpan_n (y : Bool) : List Obj' := []
abbrev i_isSpan_o (x : Span) (y : Bool) : List Obj' := []
noncomputable def i_isSpan_S : FnSpec := modS [.rd] (fun x : Span => [Enc.e x]) (fun x : Span => []) (fun x : Span => i_isSpan x) i_isSpan_r i_isSpan_n i_isSpan_o
theorem i_isSpan_c {s : Span} {y : Bool} (h : i_isSpan s = some y) : CallOK i_isSpan_S [Enc.e s] [] (i_isSpan_r y) (i_isSpan_n y) (i_isSpan_o s y) :=
  modS_call (by
    rintro a0 b0 h hO
    have q0 : a0 = b0 := Enc.inj _ _ (congrArg (fun l => List.getD l 0 (.sc undef)) h)
    subst q0; rfl) (x := s) h
theorem i_isSpan_ok : FnOK Try.prog 108 i_isSpan_S := by
  have Γok : ∀ f S, lookF f [(201, i_IsValidTime_S)] = some S → FnOK Try.prog f S := lookF_ok (allF_cons i_IsValidTime_ok allF_nil)
  have Γlive : Live (fun f => lookF f [(201, i_IsValidTime_S)]) := lookF_live (allL_cons modS_live allL_nil)
  refine fnOK_mod ty_ok (fun args w => Try.call108 args w) Try.func108 rfl [.tmp 2] (by rw [Try.results108]) 18 Try.ntmps108 16 rfl (fun _ => by first | exact Nat.zero_le _ | (simp)) ?_
  rintro s y cx hm hL
  have hm : i_isSpan s = some y := hm
  have hL : cx.L = 0 := hL
  unfold i_isSpan at hm
  refine X_reg_seq ty_ok Γok hL [] .nil (by kernel_rfl) ?_
  obtain ⟨r, h, hm⟩ := obind hm
  obtain ⟨v, hv, hk⟩ := obind hm
  refine X_join (n := 18) (fun (v : Bool) => (⟨[(2, .dat (.sc (.bool v)))], [], 32⟩ : X)) v ?_ ?_
  · have hm := hv
    rcases btf r with hb | hb
    · have hm := it hb hm
      obtain ⟨r1, h1, hm⟩ := obind hm
      rcases btf r1 with hb1 | hb1
      · have hm := it hb1 hm
        obtain rfl := some_inj hm
        refine X_reg ty_ok Γok hL [(2, .c (i_IsValidTime_r r) (i_IsValidTime_n r) (i_IsValidTime_o s.From r)), (3, .b true), (6, .c (i_IsValidTime_r r1) (i_IsValidTime_n r1) (i_IsValidTime_o s.To r1)), (8, .b true)] (.cons (i_IsValidTime_c h) (.cons hb (.cons (i_IsValidTime_c h1) (.cons hb1 .nil)))) (by kernel_rfl) ?_
        exact thN (Wk_J hL ⟨[(2, [])], [], [], 32⟩ (by kernel_rfl))
      · have hm := ie hb1 hm
        obtain rfl := some_inj hm
        refine X_reg ty_ok Γok hL [(2, .c (i_IsValidTime_r r) (i_IsValidTime_n r) (i_IsValidTime_o s.From r)), (3, .b true), (6, .c (i_IsValidTime_r r1) (i_IsValidTime_n r1) (i_IsValidTime_o s.To r1)), (8, .b false)] (.cons (i_IsValidTime_c h) (.cons hb (.cons (i_IsValidTime_c h1) (.cons hb1 .nil)))) (by kernel_rfl) ?_
        exact thN (Wk_J hL ⟨[(2, [])], [], [], 32⟩ (by kernel_rfl))
    · have hm := ie hb hm
      obtain rfl := some_inj hm
      refine X_reg ty_ok Γok hL [(2, .c (i_IsValidTime_r r) (i_IsValidTime_n r) (i_IsValidTime_o s.From r)), (3, .b false)] (.cons (i_IsValidTime_c h) (.cons hb .nil)) (by kernel_rfl) ?_
      exact thN (Wk_J hL ⟨[(2, [])], [], [], 32⟩ (by kernel_rfl))
  have hm := hk
  obtain rfl := some_inj hm
  refine Ok_ret ?_
  repeat (first | refine thR ?_ | refine ibR ?_)
  exact X_fin [] [] (by kernel_rfl) trivial
abbrev i_areSpans_r (y : Bool) : AV := .dat (Enc.e y)
abbrev i_areSpans_n (y : Bool) : List Obj' := []
abbrev i_areSpans_o (x : (List Span)) (y : Bool) : List Obj' := []
noncomputable def i_areSpans_S : FnSpec := modS [.rd] (fun x : (List Span) => [Enc.e x]) (fun x : (List Span) => []) (fun x : (List Span) => i_areSpans x) i_areSpans_r i_areSpans_n i_areSpans_o
theorem i_areSpans_c {list : List Span} {y : Bool} (h : i_areSpans list = some y) : CallOK i_areSpans_S [Enc.e list] [] (i_areSpans_r y) (i_areSpans_n y) (i_areSpans_o list y) :=
  modS_call (by
    rintro a0 b0 h hO
    have q0 : a0 = b0 := Enc.inj _ _ (congrArg (fun l => List.getD l 0 (.sc undef)) h)
    subst q0; rfl) (x := list) h
theorem i_areSpans_ok : FnOK Try.prog 95 i_areSpans_S := by
  have Γok : ∀ f S, lookF f [(108, i_isSpan_S)] = some S → FnOK Try.prog f S := lookF_ok (allF_cons i_isSpan_ok allF_nil)
  have Γlive : Live (fun f => lookF f [(108, i_isSpan_S)]) := lookF_live (allL_cons modS_live allL_nil)
  refine fnOK_mod ty_ok (fun args w => Try.call95 args w) Try.func95 rfl [.tmp 2] (by rw [Try.results95]) 18 Try.ntmps95 16 rfl (fun _ => by first | exact Nat.zero_le _ | (simp)) ?_
  rintro list y cx hm hL
  have hm : i_areSpans list = some y := hm
  have hL : cx.L = 0 := hL
  unfold i_areSpans at hm
  refine X_reg_seq ty_ok Γok hL [] .nil (by kernel_rfl) ?_
  refine Ok_seq ?_
  refine X_reg_seq ty_ok Γok hL [(1, .n (list.length : Int))] (.cons (len_m Enc.e list) .nil) (by kernel_rfl) ?_
  refine X_cond (decide (20 < (list.length : Int))) (by kernel_rfl) (fun hc => ?_) (fun hc => ?_)
  · have hm := it hc hm
    refine X_reg_seq ty_ok Γok hL [] .nil (by kernel_rfl) ?_
    obtain rfl := some_inj hm
    refine Ok_ret ?_
    repeat (first | refine thR ?_ | refine ibR ?_)
    exact X_fin [] [] (by kernel_rfl) trivial
  · have hm := ie hc hm
    refine X_skip ?_
    refine thN ?_
    refine Ok_seq ?_
    refine X_reg_seq ty_ok Γok hL [(1, .n (list.length : Int))] (.cons (len_m Enc.e list) .nil) (by kernel_rfl) ?_
    obtain ⟨v1, hv, hr, hk⟩ := flb_t hm
    refine X_tailF (n := 18) (fun (_ : Unit) => (⟨[], [], 32⟩ : X)) v1 ?_ ?_
    · have hm := hv
      refine Ok_block ?_
      refine X_loop (n := 18) (step := i_areSpans_L1 list) (fun (v : Int) => (⟨[(8, .dat (Enc.e list)), (9, .dat (.sc (.int .i64 (list.length : Int)))), (10, .dat (.sc (.int .i64 v)))], [], 32⟩ : X)) hm (Wk_J hL ⟨[(8, []), (9, []), (10, [])], [], [], 32⟩ (by kernel_rfl)) ?_
      rintro v r0 hm hb
      rw [i_areSpans_L1] at hm
      refine X_reg_seq ty_ok Γok hL [] .nil (by kernel_rfl) ?_
      refine Ok_seq ?_
      refine X_cond (decide (v < (list.length : Int))) (by kernel_rfl) (fun hc1 => ?_) (fun hc1 => ?_)
      · have hm := it hc1 hm
        refine X_skip ?_
        refine thN ?_
        refine Ok_seq ?_
        refine Ok_block ?_
        obtain ⟨e, h, hm⟩ := obind hm
        refine X_reg_seq ty_ok Γok hL [(0, .d (Enc.e e))] (.cons (idx_m (f := Enc.e) h) .nil) (by kernel_rfl) ?_
        obtain ⟨r, h1, hm⟩ := obind hm
        refine X_reg_seq ty_ok Γok hL [(1, .c (i_isSpan_r r) (i_isSpan_n r) (i_isSpan_o e r))] (.cons (i_isSpan_c h1) .nil) (by kernel_rfl) ?_
        refine X_cond (!r) (by kernel_rfl) (fun hc2 => ?_) (fun hc2 => ?_)
        · have hm := it hc2 hm
          refine X_reg_seq ty_ok Γok hL [] .nil (by kernel_rfl) ?_
          obtain rfl := some_inj hm
          obtain rfl := hb _ rfl
          have hm := congrArg some (hr _ rfl)
          obtain rfl := some_inj hm
          refine Ok_ret ?_
          repeat (first | refine thR ?_ | refine ibR ?_)
          exact X_fin [] [] (by kernel_rfl) trivial
        · have hm := ie hc2 hm
          refine X_skip ?_
          refine ibN ?_
          refine thN ?_
          refine X_reg ty_ok Γok hL [] .nil (by kernel_rfl) ?_
          obtain rfl := some_inj hm
          exact thN ⟨_, rfl, Wk_J hL ⟨[(8, []), (9, []), (10, [])], [], [], 32⟩ (by kernel_rfl)⟩
      · have hm := ie hc1 hm
        obtain rfl := some_inj hm
        obtain rfl := hb _ rfl
        refine Ok_exit ?_
        refine thE ?_
        refine thE ?_
        refine ibE ?_
        exact thN ⟨_, rfl, Wk_J hL ⟨[], [], [], 32⟩ (by kernel_rfl)⟩
    rintro ⟨⟩ hu s hw
    have hm := hk _ hu
    refine thN ?_
    refine Ok_weak hw ?_
    refine X_reg_seq ty_ok Γok hL [] .nil (by kernel_rfl) ?_
    obtain rfl := some_inj hm
    refine Ok_ret ?_
    repeat (first | refine thR ?_ | refine ibR ?_)
    exact X_fin [] [] (by kernel_rfl) trivial
abbrev i_IsValidRoster_r (y : Bool) : AV := .dat (Enc.e y)
abbrev i_IsValidRoster_n (y : Bool) : List Obj' := []
abbrev i_IsValidRoster_o (x : Roster) (y : Bool) : List Obj' := []
noncomputable def i_IsValidRoster_S : FnSpec := modS [.rd] (fun x : Roster => [Enc.e x]) (fun x : Roster => []) (fun x : Roster => i_IsValidRoster x) i_IsValidRoster_r i_IsValidRoster_n i_IsValidRoster_o
theorem i_IsValidRoster_c {r : Roster} {y : Bool} (h : i_IsValidRoster r = some y) : CallOK i_IsValidRoster_S [Enc.e r] [] (i_IsValidRoster_r y) (i_IsValidRoster_n y) (i_IsValidRoster_o r y) :=
  modS_call (by
    rintro a0 b0 h hO
    have q0 : a0 = b0 := Enc.inj _ _ (congrArg (fun l => List.getD l 0 (.sc undef)) h)
    subst q0; rfl) (x := r) h
theorem i_IsValidRoster_ok : FnOK Try.prog 16 i_IsValidRoster_S := by
  have Γok : ∀ f S, lookF f [(94, i_within_S), (95, i_areSpans_S)] = some S → FnOK Try.prog f S := lookF_ok (allF_cons i_within_ok (allF_cons i_areSpans_ok allF_nil))
  have Γlive : Live (fun f => lookF f [(94, i_within_S), (95, i_areSpans_S)]) := lookF_live (allL_cons modS_live (allL_cons modS_live allL_nil))
  refine fnOK_mod ty_ok (fun args w => Try.call16 args w) Try.func16 rfl [.tmp 2] (by rw [Try.results16]) 83 Try.ntmps16 16 rfl (fun _ => by first | exact Nat.zero_le _ | (simp)) ?_
  rintro r y cx hm hL
  have hm : i_IsValidRoster r = some y := hm
  have hL : cx.L = 0 := hL
  unfold i_IsValidRoster at hm
  refine X_reg_seq ty_ok Γok hL [] .nil (by kernel_rfl) ?_
  refine Ok_seq ?_
  obtain ⟨r1, h, hm⟩ := obind hm
  obtain ⟨v, hv, hk⟩ := obind hm
  refine X_join (n := 83) (fun (v : Bool) => (⟨[(1, .ref 16 0), (38, .dat (.sc (.bool v)))], [(16, some (.box [.dat (Enc.e r.Shifts), .dat (.sc (.int .i64 r.Rules.MinRest)), .dat (.sc (.int .i64 r.Rules.MaxRow)), .dat (.sc (.int .i64 r.Rules.MaxWeek)), .dat (Enc.e r.Plan)]))], 48⟩ : X)) v ?_ ?_
  · have hm := hv
    rcases btf (!r1) with hb | hb
    · have hm := it hb hm
      obtain rfl := some_inj hm
      refine X_reg ty_ok Γok hL [(2, .n (r.Shifts.length : Int)), (3, .c (i_within_r r1) (i_within_n r1) (i_within_o ((r.Shifts.length : Int), 1, 8) r1)), (5, .b true)] (.cons (len_m Enc.e r.Shifts) (.cons (i_within_c h) (.cons hb .nil))) (by kernel_rfl) ?_
      exact thN (Wk_J hL ⟨[(1, []), (38, [])], [(16, 16, [])], [], 48⟩ (by kernel_rfl))
    · have hm := ie hb hm
      obtain ⟨r2, h1, hm⟩ := obind hm
      rcases btf (!r2) with hb1 | hb1
      · have hm := it hb1 hm
        obtain rfl := some_inj hm
        refine X_reg ty_ok Γok hL [(2, .n (r.Shifts.length : Int)), (3, .c (i_within_r r1) (i_within_n r1) (i_within_o ((r.Shifts.length : Int), 1, 8) r1)), (5, .b false), (8, .c (i_areSpans_r r2) (i_areSpans_n r2) (i_areSpans_o r.Shifts r2)), (11, .b true)] (.cons (len_m Enc.e r.Shifts) (.cons (i_within_c h) (.cons hb (.cons (i_areSpans_c h1) (.cons hb1 .nil))))) (by kernel_rfl) ?_
        exact thN (Wk_J hL ⟨[(1, []), (38, [])], [(16, 16, [])], [], 48⟩ (by kernel_rfl))
      · have hm := ie hb1 hm
        obtain ⟨r3, h2, hm⟩ := obind hm
        rcases btf (!r3) with hb2 | hb2
        · have hm := it hb2 hm
          obtain rfl := some_inj hm
          refine X_reg ty_ok Γok hL [(2, .n (r.Shifts.length : Int)), (3, .c (i_within_r r1) (i_within_n r1) (i_within_o ((r.Shifts.length : Int), 1, 8) r1)), (5, .b false), (8, .c (i_areSpans_r r2) (i_areSpans_n r2) (i_areSpans_o r.Shifts r2)), (11, .b false), (15, .c (i_within_r r3) (i_within_n r3) (i_within_o (r.Rules.MinRest, 0, 1440) r3)), (18, .b true)] (.cons (len_m Enc.e r.Shifts) (.cons (i_within_c h) (.cons hb (.cons (i_areSpans_c h1) (.cons hb1 (.cons (i_within_c h2) (.cons hb2 .nil))))))) (by kernel_rfl) ?_
          exact thN (Wk_J hL ⟨[(1, []), (38, [])], [(16, 16, [])], [], 48⟩ (by kernel_rfl))
        · have hm := ie hb2 hm
          obtain ⟨r4, h3, hm⟩ := obind hm
          rcases btf (!r4) with hb3 | hb3
          · have hm := it hb3 hm
            obtain rfl := some_inj hm
            refine X_reg ty_ok Γok hL [(2, .n (r.Shifts.length : Int)), (3, .c (i_within_r r1) (i_within_n r1) (i_within_o ((r.Shifts.length : Int), 1, 8) r1)), (5, .b false), (8, .c (i_areSpans_r r2) (i_areSpans_n r2) (i_areSpans_o r.Shifts r2)), (11, .b false), (15, .c (i_within_r r3) (i_within_n r3) (i_within_o (r.Rules.MinRest, 0, 1440) r3)), (18, .b false), (22, .c (i_within_r r4) (i_within_n r4) (i_within_o (r.Rules.MaxRow, 1, 14) r4)), (25, .b true)] (.cons (len_m Enc.e r.Shifts) (.cons (i_within_c h) (.cons hb (.cons (i_areSpans_c h1) (.cons hb1 (.cons (i_within_c h2) (.cons hb2 (.cons (i_within_c h3) (.cons hb3 .nil))))))))) (by kernel_rfl) ?_
            exact thN (Wk_J hL ⟨[(1, []), (38, [])], [(16, 16, [])], [], 48⟩ (by kernel_rfl))
          · have hm := ie hb3 hm
            obtain ⟨r5, h4, hm⟩ := obind hm
            obtain rfl := some_inj hm
            refine X_reg ty_ok Γok hL [(2, .n (r.Shifts.length : Int)), (3, .c (i_within_r r1) (i_within_n r1) (i_within_o ((r.Shifts.length : Int), 1, 8) r1)), (5, .b false), (8, .c (i_areSpans_r r2) (i_areSpans_n r2) (i_areSpans_o r.Shifts r2)), (11, .b false), (15, .c (i_within_r r3) (i_within_n r3) (i_within_o (r.Rules.MinRest, 0, 1440) r3)), (18, .b false), (22, .c (i_within_r r4) (i_within_n r4) (i_within_o (r.Rules.MaxRow, 1, 14) r4)), (25, .b false), (29, .c (i_within_r r5) (i_within_n r5) (i_within_o (r.Rules.MaxWeek, 0, 10080) r5))] (.cons (len_m Enc.e r.Shifts) (.cons (i_within_c h) (.cons hb (.cons (i_areSpans_c h1) (.cons hb1 (.cons (i_within_c h2) (.cons hb2 (.cons (i_within_c h3) (.cons hb3 (.cons (i_within_c h4) .nil)))))))))) (by kernel_rfl) ?_
            exact thN (Wk_J hL ⟨[(1, []), (38, [])], [(16, 16, [])], [], 48⟩ (by kernel_rfl))
  have hm := hk
  refine X_cond v (by kernel_rfl) (fun hc => ?_) (fun hc => ?_)
  · have hm := it hc hm
    refine X_reg_seq ty_ok Γok hL [] .nil (by kernel_rfl) ?_
    obtain rfl := some_inj hm
    refine Ok_ret ?_
    repeat (first | refine thR ?_ | refine ibR ?_)
    exact X_fin [] [] (by kernel_rfl) trivial
  · have hm := ie hc hm
    refine X_skip ?_
    refine thN ?_
    refine Ok_seq ?_
    obtain ⟨r6, h5, hm⟩ := obind hm
    obtain ⟨v1, hv1, hk1⟩ := obind hm
    refine X_join (n := 83) (fun (v1 : Bool) => (⟨[(1, .ref 16 0), (52, .dat (.sc (.bool v1)))], [(16, some (.box [.dat (Enc.e r.Shifts), .dat (.sc (.int .i64 r.Rules.MinRest)), .dat (.sc (.int .i64 r.Rules.MaxRow)), .dat (.sc (.int .i64 r.Rules.MaxWeek)), .dat (Enc.e r.Plan)]))], 48⟩ : X)) v1 ?_ ?_
    · have hm := hv1
      rcases btf (!r6) with hb4 | hb4
      · have hm := it hb4 hm
        obtain rfl := some_inj hm
        refine X_reg ty_ok Γok hL [(2, .n (r.Plan.length : Int)), (3, .c (i_within_r r6) (i_within_n r6) (i_within_o ((r.Plan.length : Int), 1, 6) r6)), (5, .b true)] (.cons (len_m Enc.e r.Plan) (.cons (i_within_c h5) (.cons hb4 .nil))) (by kernel_rfl) ?_
        exact thN (Wk_J hL ⟨[(1, []), (52, [])], [(16, 16, [])], [], 48⟩ (by kernel_rfl))
      · have hm := ie hb4 hm
        obtain ⟨e, h6, hm⟩ := obind hm
        obtain ⟨r7, h7, hm⟩ := obind hm
        obtain rfl := some_inj hm
        refine X_reg ty_ok Γok hL [(2, .n (r.Plan.length : Int)), (3, .c (i_within_r r6) (i_within_n r6) (i_within_o ((r.Plan.length : Int), 1, 6) r6)), (5, .b false), (8, .d (Enc.e e)), (10, .n (e.length : Int)), (11, .c (i_within_r r7) (i_within_n r7) (i_within_o ((e.length : Int), 1, 14) r7))] (.cons (len_m Enc.e r.Plan) (.cons (i_within_c h5) (.cons hb4 (.cons (idx_m (f := Enc.e) h6) (.cons (len_m Enc.e e) (.cons (i_within_c h7) .nil)))))) (by kernel_rfl) ?_
        exact thN (Wk_J hL ⟨[(1, []), (52, [])], [(16, 16, [])], [], 48⟩ (by kernel_rfl))
    have hm := hk1
    refine X_cond v1 (by kernel_rfl) (fun hc1 => ?_) (fun hc1 => ?_)
    · have hm := it hc1 hm
      refine X_reg_seq ty_ok Γok hL [] .nil (by kernel_rfl) ?_
      obtain rfl := some_inj hm
      refine Ok_ret ?_
      repeat (first | refine thR ?_ | refine ibR ?_)
      exact X_fin [] [] (by kernel_rfl) trivial
    · have hm := ie hc1 hm
      refine X_skip ?_
      refine thN ?_
      refine Ok_seq ?_
      refine X_reg_seq ty_ok Γok hL [(2, .n (r.Plan.length : Int))] (.cons (len_m Enc.e r.Plan) .nil) (by kernel_rfl) ?_
      obtain ⟨v5, hv3, hr, hk3⟩ := flb_t hm
      refine X_tailF (n := 83) (fun (_ : Unit) => (⟨[], [], 32⟩ : X)) v5 ?_ ?_
      · have hm := hv3
        refine Ok_block ?_
        refine X_loop (n := 83) (step := i_IsValidRoster_L2 r) (fun (v2 : Int) => (⟨[(1, .ref 16 0), (54, .dat (Enc.e r.Plan)), (55, .dat (.sc (.int .i64 (r.Plan.length : Int)))), (56, .dat (.sc (.int .i64 v2)))], [(16, some (.box [.dat (Enc.e r.Shifts), .dat (.sc (.int .i64 r.Rules.MinRest)), .dat (.sc (.int .i64 r.Rules.MaxRow)), .dat (.sc (.int .i64 r.Rules.MaxWeek)), .dat (Enc.e r.Plan)]))], 48⟩ : X)) hm (Wk_J hL ⟨[(1, []), (54, []), (55, []), (56, [])], [(16, 16, [])], [], 48⟩ (by kernel_rfl)) ?_
        rintro v2 r0 hm hb5
        rw [i_IsValidRoster_L2] at hm
        refine X_reg_seq ty_ok Γok hL [] .nil (by kernel_rfl) ?_
        refine Ok_seq ?_
        refine X_cond (decide (v2 < (r.Plan.length : Int))) (by kernel_rfl) (fun hc2 => ?_) (fun hc2 => ?_)
        · have hm := it hc2 hm
          refine X_skip ?_
          refine thN ?_
          refine Ok_seq ?_
          refine Ok_block ?_
          obtain ⟨e1, h8, hm⟩ := obind hm
          refine X_reg_seq ty_ok Γok hL [(0, .d (Enc.e e1))] (.cons (idx_m (f := Enc.e) h8) .nil) (by kernel_rfl) ?_
          refine Ok_seq ?_
          obtain ⟨e2, h9, hm⟩ := obind hm
          refine X_reg_seq ty_ok Γok hL [(1, .n (e1.length : Int)), (4, .d (Enc.e e2)), (6, .n (e2.length : Int))] (.cons (len_m Enc.e e1) (.cons (idx_m (f := Enc.e) h9) (.cons (len_m Enc.e e2) .nil))) (by kernel_rfl) ?_
          refine X_cond ((e1.length : Int) != (e2.length : Int)) (by kernel_rfl) (fun hc3 => ?_) (fun hc3 => ?_)
          · have hm := it hc3 hm
            refine X_reg_seq ty_ok Γok hL [] .nil (by kernel_rfl) ?_
            obtain rfl := some_inj hm
            obtain rfl := hb5 _ rfl
            have hm := congrArg some (hr _ rfl)
            obtain rfl := some_inj hm
            refine Ok_ret ?_
            repeat (first | refine thR ?_ | refine ibR ?_)
            exact X_fin [] [] (by kernel_rfl) trivial
          · have hm := ie hc3 hm
            refine X_skip ?_
            refine thN ?_
            refine X_reg_seq ty_ok Γok hL [(1, .n (e1.length : Int))] (.cons (len_m Enc.e e1) .nil) (by kernel_rfl) ?_
            obtain ⟨v4, hv2, hr1, hk2⟩ := flb_t hm
            refine X_tailF (n := 83) (fun (_ : Unit) => (⟨[(1, .ref 16 0), (54, .dat (Enc.e r.Plan)), (55, .dat (.sc (.int .i64 (r.Plan.length : Int)))), (56, .dat (.sc (.int .i64 v2)))], [(16, some (.box [.dat (Enc.e r.Shifts), .dat (.sc (.int .i64 r.Rules.MinRest)), .dat (.sc (.int .i64 r.Rules.MaxRow)), .dat (.sc (.int .i64 r.Rules.MaxWeek)), .dat (Enc.e r.Plan)]))], 48⟩ : X)) v4 ?_ ?_
            · have hm := hv2
              refine Ok_block ?_
              refine X_loop (n := 83) (step := i_IsValidRoster_L1 r e1) (fun (v3 : Int) => (⟨[(1, .ref 16 0), (54, .dat (Enc.e r.Plan)), (55, .dat (.sc (.int .i64 (r.Plan.length : Int)))), (56, .dat (.sc (.int .i64 v2))), (68, .dat (Enc.e e1)), (69, .dat (.sc (.int .i64 (e1.length : Int)))), (70, .dat (.sc (.int .i64 v3)))], [(16, some (.box [.dat (Enc.e r.Shifts), .dat (.sc (.int .i64 r.Rules.MinRest)), .dat (.sc (.int .i64 r.Rules.MaxRow)), .dat (.sc (.int .i64 r.Rules.MaxWeek)), .dat (Enc.e r.Plan)]))], 48⟩ : X)) hm (Wk_J hL ⟨[(1, []), (54, []), (55, []), (56, []), (68, []), (69, []), (70, [])], [(16, 16, [])], [], 48⟩ (by kernel_rfl)) ?_
              rintro v3 r0 hm hb6
              rw [i_IsValidRoster_L1] at hm
              refine X_reg_seq ty_ok Γok hL [] .nil (by kernel_rfl) ?_
              refine Ok_seq ?_
              refine X_cond (decide (v3 < (e1.length : Int))) (by kernel_rfl) (fun hc4 => ?_) (fun hc4 => ?_)
              · have hm := it hc4 hm
                refine X_skip ?_
                refine thN ?_
                refine Ok_seq ?_
                refine Ok_block ?_
                obtain ⟨e4, h10, hm⟩ := obind hm
                refine X_reg_seq ty_ok Γok hL [(0, .d (Enc.e e4))] (.cons (idx_m (f := Enc.e) h10) .nil) (by kernel_rfl) ?_
                obtain ⟨r9, h11, hm⟩ := obind hm
                refine X_reg_seq ty_ok Γok hL [(3, .n (r.Shifts.length : Int)), (5, .c (i_within_r r9) (i_within_n r9) (i_within_o (e4, (-1), (w64 ((r.Shifts.length : Int) - 1))) r9))] (.cons (len_m Enc.e r.Shifts) (.cons (i_within_c h11) .nil)) (by kernel_rfl) ?_
                refine X_cond (!r9) (by kernel_rfl) (fun hc5 => ?_) (fun hc5 => ?_)
                · have hm := it hc5 hm
                  refine X_reg_seq ty_ok Γok hL [] .nil (by kernel_rfl) ?_
                  obtain rfl := some_inj hm
                  obtain rfl := hb6 _ rfl
                  have hm := congrArg some (hr1 _ rfl)
                  obtain rfl := some_inj hm
                  obtain rfl := hb5 _ rfl
                  have hm := congrArg some (hr _ rfl)
                  obtain rfl := some_inj hm
                  refine Ok_ret ?_
                  repeat (first | refine thR ?_ | refine ibR ?_)
                  exact X_fin [] [] (by kernel_rfl) trivial
                · have hm := ie hc5 hm
                  refine X_skip ?_
                  refine ibN ?_
                  refine thN ?_
                  refine X_reg ty_ok Γok hL [] .nil (by kernel_rfl) ?_
                  obtain rfl := some_inj hm
                  exact thN ⟨_, rfl, Wk_J hL ⟨[(1, []), (54, []), (55, []), (56, []), (68, []), (69, []), (70, [])], [(16, 16, [])], [], 48⟩ (by kernel_rfl)⟩
              · have hm := ie hc4 hm
                obtain rfl := some_inj hm
                obtain rfl := hb6 _ rfl
                refine Ok_exit ?_
                refine thE ?_
                refine thE ?_
                refine ibE ?_
                exact thN ⟨_, rfl, Wk_J hL ⟨[(1, []), (54, []), (55, []), (56, [])], [(16, 16, [])], [], 48⟩ (by kernel_rfl)⟩
            rintro ⟨⟩ hu s hw
            have hm := hk2 _ hu
            refine ibN ?_
            refine thN ?_
            refine Ok_weak hw ?_
            refine X_reg ty_ok Γok hL [] .nil (by kernel_rfl) ?_
            obtain rfl := some_inj hm
            exact thN ⟨_, rfl, Wk_J hL ⟨[(1, []), (54, []), (55, []), (56, [])], [(16, 16, [])], [], 48⟩ (by kernel_rfl)⟩
        · have hm := ie hc2 hm
          obtain rfl := some_inj hm
          obtain rfl := hb5 _ rfl
          refine Ok_exit ?_
          refine thE ?_
          refine thE ?_
          refine ibE ?_
          exact thN ⟨_, rfl, Wk_J hL ⟨[], [], [], 32⟩ (by kernel_rfl)⟩
      rintro ⟨⟩ hu1 s1 hw1
      have hm := hk3 _ hu1
      refine thN ?_
      refine Ok_weak hw1 ?_
      refine X_reg_seq ty_ok Γok hL [] .nil (by kernel_rfl) ?_
      obtain rfl := some_inj hm
      refine Ok_ret ?_
      repeat (first | refine thR ?_ | refine ibR ?_)
      exact X_fin [] [] (by kernel_rfl) trivial
abbrev i_isRosterDay_r (y : Bool) : AV := .dat (Enc.e y)
abbrev i_isRosterDay_n (y : Bool) : List Obj' := []
abbrev i_isRosterDay_o (x : Roster × Int) (y : Bool) : List Obj' := []
noncomputable def i_isRosterDay_S : FnSpec := modS [.rd, .rd] (fun x : Roster × Int => [Enc.e x.1, Enc.e x.2]) (fun x : Roster × Int => []) (fun x : Roster × Int => i_isRosterDay x.1 x.2) i_isRosterDay_r i_isRosterDay_n i_isRosterDay_o
theorem i_isRosterDay_c {r : Roster} {day : Int} {y : Bool} (h : i_isRosterDay r day = some y) : CallOK i_isRosterDay_S [Enc.e r, Enc.e day] [] (i_isRosterDay_r y) (i_isRosterDay_n y) (i_isRosterDay_o (r, day) y) :=
  modS_call (by
    rintro ⟨a0, a1⟩ ⟨b0, b1⟩ h hO
    have q0 : a0 = b0 := Enc.inj _ _ (congrArg (fun l => List.getD l 0 (.sc undef)) h)
    have q1 : a1 = b1 := Enc.inj _ _ (congrArg (fun l => List.getD l 1 (.sc undef)) h)
    subst q0; subst q1; rfl) (x := (r, day)) h
theorem i_isRosterDay_ok : FnOK Try.prog 84 i_isRosterDay_S := by
  have Γok : ∀ f S, lookF f [] = some S → FnOK Try.prog f S := lookF_ok allF_nil
  have Γlive : Live (fun f => lookF f []) := lookF_live allL_nil
  refine fnOK_mod ty_ok (fun args w => Try.call84 args w) Try.func84 rfl [.tmp 4] (by rw [Try.results84]) 16 Try.ntmps84 16 rfl (fun _ => by first | exact Nat.zero_le _ | (simp)) ?_
  rintro ⟨r, day⟩ y cx hm hL
  have hm : i_isRosterDay r day = some y := hm
  have hL : cx.L = 0 := hL
  unfold i_isRosterDay at hm
  refine X_reg_seq ty_ok Γok hL [] .nil (by kernel_rfl) ?_
  obtain ⟨v, hv, hk⟩ := obind hm
  refine X_join (n := 16) (fun (v : Bool) => (⟨[(4, .dat (.sc (.bool v)))], [], 32⟩ : X)) v ?_ ?_
  · have hm := hv
    rcases btf (decide (0 ≤ day)) with hb | hb
    · have hm := it hb hm
      obtain ⟨e, h, hm⟩ := obind hm
      obtain rfl := some_inj hm
      refine X_reg ty_ok Γok hL [(2, .b true), (6, .d (Enc.e e)), (8, .n (e.length : Int))] (.cons hb (.cons (idx_m (f := Enc.e) h) (.cons (len_m Enc.e e) .nil))) (by kernel_rfl) ?_
      exact thN (Wk_J hL ⟨[(4, [])], [], [], 32⟩ (by kernel_rfl))
    · have hm := ie hb hm
      obtain rfl := some_inj hm
      refine X_reg ty_ok Γok hL [(2, .b false)] (.cons hb .nil) (by kernel_rfl) ?_
      exact thN (Wk_J hL ⟨[(4, [])], [], [], 32⟩ (by kernel_rfl))
  have hm := hk
  obtain rfl := some_inj hm
  refine Ok_ret ?_
  repeat (first | refine thR ?_ | refine ibR ?_)
  exact X_fin [] [] (by kernel_rfl) trivial
abbrev slices_Clone_Span_r (y : (List Span)) : AV := .own 0
abbrev slices_Clone_Span_n (y : (List Span)) : List Obj' := [.arr 49 2 (List.map Enc.e y)]
abbrev slices_Clone_Span_o (x : (List Span)) (y : (List Span)) : List Obj' := []
noncomputable def slices_Clone_Span_S : FnSpec := modS [.rd] (fun x : (List Span) => [Enc.e x]) (fun x : (List Span) => []) (fun x : (List Span) => slices_Clone_Span x) slices_Clone_Span_r slices_Clone_Span_n slices_Clone_Span_o
theorem slices_Clone_Span_c {s : List Span} {y : (List Span)} (h : slices_Clone_Span s = some y) : CallOK slices_Clone_Span_S [Enc.e s] [] (slices_Clone_Span_r y) (slices_Clone_Span_n y) (slices_Clone_Span_o s y) :=
  modS_call (by
    rintro a0 b0 h hO
    have q0 : a0 = b0 := Enc.inj _ _ (congrArg (fun l => List.getD l 0 (.sc undef)) h)
    subst q0; rfl) (x := s) h
theorem slices_Clone_Span_ok : FnOK Try.prog 188 slices_Clone_Span_S := by
  have Γok : ∀ f S, lookF f [] = some S → FnOK Try.prog f S := lookF_ok allF_nil
  have Γlive : Live (fun f => lookF f []) := lookF_live allL_nil
  refine fnOK_mod ty_ok (fun args w => Try.call188 args w) Try.func188 rfl [.tmp 2] (by rw [Try.results188]) 8 Try.ntmps188 16 rfl (fun _ => by first | exact Nat.zero_le _ | (simp)) ?_
  rintro s y cx hm hL
  have hm : slices_Clone_Span s = some y := hm
  have hL : cx.L = 0 := hL
  unfold slices_Clone_Span at hm
  obtain ⟨u, h, hm⟩ := obind hm
  obtain rfl := some_inj hm
  refine X_reg_seq ty_ok Γok hL [] .nil (by kernel_rfl) ?_
  refine Ok_seq ?_
  refine X_nil_seq ty_ok Γok 1 (ds := List.map Enc.e s) (es := 2) [] .nil (by kernel_rfl) (by rfl) (by rfl) (by kernel_rfl) ?_
  intro b hb
  refine X_cond b (by kernel_rfl) (fun hc => ?_) (fun hc => ?_)
  · have hl : s = [] := by
      cases s with
      | nil => rfl
      | cons a r => have := hb (by simp); rw [hc] at this; cases this
    subst hl
    refine X_reg_seq ty_ok Γok hL [] .nil (by kernel_rfl) ?_
    refine Ok_weak (Wk_J (x' := ⟨[(2, .own 16)], [(16, some (.arr 49 2 []))], 32⟩) hL ⟨[(2, [.o 16])], [], [(16, 49, 2, [])], 32⟩ (by kernel_rfl)) ?_
    refine Ok_ret ?_
    repeat (first | refine thR ?_ | refine ibR ?_)
    exact X_fin [16] [] (by kernel_rfl) trivial
  · refine X_skip ?_
    refine thN ?_
    refine X_reg_seq ty_ok Γok hL [(2, .l (List.map Enc.e (([] : List Span) ++ s)))] (.cons (app_p (f := Enc.e) (g := Enc.e) (l := ([] : List Span)) (r := s) (b := 16) (chk_t h) rfl) (.cons (app_m Enc.e ([] : List Span) s) .nil)) (by kernel_rfl) ?_
    refine Ok_ret ?_
    repeat (first | refine thR ?_ | refine ibR ?_)
    exact X_fin [96] [] (by kernel_rfl) trivial
abbrev slices_Clone_int_r (y : (List Int)) : AV := .own 0
abbrev slices_Clone_int_n (y : (List Int)) : List Obj' := [.arr 3 1 (List.map Enc.e y)]
abbrev slices_Clone_int_o (x : (List Int)) (y : (List Int)) : List Obj' := []
noncomputable def slices_Clone_int_S : FnSpec := modS [.rd] (fun x : (List Int) => [Enc.e x]) (fun x : (List Int) => []) (fun x : (List Int) => slices_Clone_int x) slices_Clone_int_r slices_Clone_int_n slices_Clone_int_o
theorem slices_Clone_int_c {s : List Int} {y : (List Int)} (h : slices_Clone_int s = some y) : CallOK slices_Clone_int_S [Enc.e s] [] (slices_Clone_int_r y) (slices_Clone_int_n y) (slices_Clone_int_o s y) :=
  modS_call (by
    rintro a0 b0 h hO
    have q0 : a0 = b0 := Enc.inj _ _ (congrArg (fun l => List.getD l 0 (.sc undef)) h)
    subst q0; rfl) (x := s) h
theorem slices_Clone_int_ok : FnOK Try.prog 144 slices_Clone_int_S := by
  have Γok : ∀ f S, lookF f [] = some S → FnOK Try.prog f S := lookF_ok allF_nil
  have Γlive : Live (fun f => lookF f []) := lookF_live allL_nil
  refine fnOK_mod ty_ok (fun args w => Try.call144 args w) Try.func144 rfl [.tmp 2] (by rw [Try.results144]) 8 Try.ntmps144 16 rfl (fun _ => by first | exact Nat.zero_le _ | (simp)) ?_
  rintro s y cx hm hL
  have hm : slices_Clone_int s = some y := hm
  have hL : cx.L = 0 := hL
  unfold slices_Clone_int at hm
  obtain ⟨u, h, hm⟩ := obind hm
  obtain rfl := some_inj hm
  refine X_reg_seq ty_ok Γok hL [] .nil (by kernel_rfl) ?_
  refine Ok_seq ?_
  refine X_nil_seq ty_ok Γok 1 (ds := List.map Enc.e s) (es := 1) [] .nil (by kernel_rfl) (by rfl) (by rfl) (by kernel_rfl) ?_
  intro b hb
  refine X_cond b (by kernel_rfl) (fun hc => ?_) (fun hc => ?_)
  · have hl : s = [] := by
      cases s with
      | nil => rfl
      | cons a r => have := hb (by simp); rw [hc] at this; cases this
    subst hl
    refine X_reg_seq ty_ok Γok hL [] .nil (by kernel_rfl) ?_
    refine Ok_weak (Wk_J (x' := ⟨[(2, .own 16)], [(16, some (.arr 3 1 []))], 32⟩) hL ⟨[(2, [.o 16])], [], [(16, 3, 1, [])], 32⟩ (by kernel_rfl)) ?_
    refine Ok_ret ?_
    repeat (first | refine thR ?_ | refine ibR ?_)
    exact X_fin [16] [] (by kernel_rfl) trivial
  · refine X_skip ?_
    refine thN ?_
    refine X_reg_seq ty_ok Γok hL [(2, .l (List.map Enc.e (([] : List Int) ++ s)))] (.cons (app_p (f := Enc.e) (g := Enc.e) (l := ([] : List Int)) (r := s) (b := 8) (chk_t h) rfl) (.cons (app_m Enc.e ([] : List Int) s) .nil)) (by kernel_rfl) ?_
    refine Ok_ret ?_
    repeat (first | refine thR ?_ | refine ibR ?_)
    exact X_fin [96] [] (by kernel_rfl) trivial
abbrev i_copyLists_r (y : (List (List Int))) : AV := .own 0
abbrev i_copyLists_n (y : (List (List Int))) : List Obj' := [.tab 32 1 [some 3] (List.map Enc.e y) 0 none]
abbrev i_copyLists_o (x : (List (List Int))) (y : (List (List Int))) : List Obj' := []
noncomputable def i_copyLists_S : FnSpec := modS [.rd] (fun x : (List (List Int)) => [Enc.e x]) (fun x : (List (List Int)) => []) (fun x : (List (List Int)) => i_copyLists x) i_copyLists_r i_copyLists_n i_copyLists_o
theorem i_copyLists_c {lists : List (List Int)} {y : (List (List Int))} (h : i_copyLists lists = some y) : CallOK i_copyLists_S [Enc.e lists] [] (i_copyLists_r y) (i_copyLists_n y) (i_copyLists_o lists y) :=
  modS_call (by
    rintro a0 b0 h hO
    have q0 : a0 = b0 := Enc.inj _ _ (congrArg (fun l => List.getD l 0 (.sc undef)) h)
    subst q0; rfl) (x := lists) h
theorem i_copyLists_ok : FnOK Try.prog 189 i_copyLists_S := by
  have Γok : ∀ f S, lookF f [(144, slices_Clone_int_S)] = some S → FnOK Try.prog f S := lookF_ok (allF_cons slices_Clone_int_ok allF_nil)
  have Γlive : Live (fun f => lookF f [(144, slices_Clone_int_S)]) := lookF_live (allL_cons modS_live allL_nil)
  refine fnOK_mod ty_ok (fun args w => Try.call189 args w) Try.func189 rfl [.tmp 2] (by rw [Try.results189]) 23 Try.ntmps189 16 rfl (fun _ => by first | exact Nat.zero_le _ | (simp)) ?_
  rintro lists y cx hm hL
  have hm : i_copyLists lists = some y := hm
  have hL : cx.L = 0 := hL
  unfold i_copyLists at hm
  refine X_reg_seq ty_ok Γok hL [] .nil (by kernel_rfl) ?_
  obtain ⟨u, h, hm⟩ := obind hm
  refine X_reg_seq ty_ok Γok hL [(1, .n (lists.length : Int)), (2, .l (List.map Enc.e (List.replicate (lists.length : Int).toNat (([] : List Int) : List Int))))] (.cons (len_m Enc.e lists) (.cons (mk_p (b := 24) (chk_t h) rfl) (.cons (rep_m Enc.e (lists.length : Int).toNat (([] : List Int) : List Int)) .nil))) (by kernel_rfl) ?_
  refine Ok_seq ?_
  refine X_reg_seq ty_ok Γok hL [(1, .n (lists.length : Int))] (.cons (len_m Enc.e lists) .nil) (by kernel_rfl) ?_
  obtain ⟨i1, hv, hk⟩ := obind hm
  refine X_tail (n := 23) (fun (i1 : List (List Int)) => (⟨[(3, .own 16)], [(16, some (.tab 32 1 [some 3] (List.map Enc.e i1) 16 none))], 48⟩ : X)) i1 ?_ ?_
  · have hm := hv
    refine Ok_block ?_
    refine X_loop (n := 23) (step := i_copyLists_L1 lists) (fun ((v, i) : Int × (List (List Int))) => (⟨[(3, .own 16), (9, .dat (Enc.e lists)), (10, .dat (.sc (.int .i64 (lists.length : Int)))), (11, .dat (.sc (.int .i64 v)))], [(16, some (.tab 32 1 [some 3] (List.map Enc.e i) 16 none))], 48⟩ : X)) hm (Wk_J hL ⟨[(3, []), (9, []), (10, []), (11, [])], [(16, 64, [])], [], 48⟩ (by kernel_rfl)) ?_
    rintro ⟨v, i⟩ r0 hm hb
    rw [i_copyLists_L1] at hm
    refine X_reg_seq ty_ok Γok hL [] .nil (by kernel_rfl) ?_
    refine Ok_seq ?_
    refine X_cond (decide (v < (lists.length : Int))) (by kernel_rfl) (fun hc => ?_) (fun hc => ?_)
    · have hm := it hc hm
      refine X_skip ?_
      refine thN ?_
      refine Ok_seq ?_
      refine Ok_block ?_
      obtain ⟨e, h1, hm⟩ := obind hm
      refine X_reg_seq ty_ok Γok hL [(1, .d (Enc.e e))] (.cons (idx_m (f := Enc.e) h1) .nil) (by kernel_rfl) ?_
      obtain ⟨r, h2, hm⟩ := obind hm
      obtain ⟨e1, h3, hm⟩ := obind hm
      refine X_reg ty_ok Γok hL [(3, .c (slices_Clone_int_r r) (slices_Clone_int_n r) (slices_Clone_int_o e r)), (4, .d (Enc.e e1)), (5, .sd (Enc.e e1) (List.map Enc.e (i.set v.toNat r)))] (.cons (slices_Clone_int_c h2) (.cons (idx_m (f := Enc.e) h3) (.cons (idx_m2 (f := Enc.e) h3) (.cons (set_m Enc.e i v.toNat r) .nil)))) (by kernel_rfl) ?_
      refine ibN ?_
      refine thN ?_
      refine X_reg ty_ok Γok hL [] .nil (by kernel_rfl) ?_
      obtain rfl := some_inj hm
      exact thN ⟨_, rfl, Wk_J hL ⟨[(3, []), (9, []), (10, []), (11, [])], [(16, 16, [])], [], 48⟩ (by kernel_rfl)⟩
    · have hm := ie hc hm
      obtain rfl := some_inj hm
      obtain rfl := hb _ rfl
      refine Ok_exit ?_
      refine thE ?_
      refine thE ?_
      refine ibE ?_
      exact thN (Wk_J hL ⟨[(3, [])], [(16, 16, [])], [], 48⟩ (by kernel_rfl))
  intro s hw
  have hm := hk
  refine thN ?_
  refine Ok_weak hw ?_
  refine X_reg_seq ty_ok Γok hL [] .nil (by kernel_rfl) ?_
  obtain rfl := some_inj hm
  refine Ok_ret ?_
  repeat (first | refine thR ?_ | refine ibR ?_)
  exact X_fin [16] [] (by kernel_rfl) trivial
abbrev i_copyRoster_r (y : Roster) : AV := .aggv [.own 0, .dat (.sc (.int .i64 y.Rules.MinRest)), .dat (.sc (.int .i64 y.Rules.MaxRow)), .dat (.sc (.int .i64 y.Rules.MaxWeek)), .own 1]
abbrev i_copyRoster_n (y : Roster) : List Obj' := [.arr 49 2 (List.map Enc.e y.Shifts), .tab 32 1 [some 3] (List.map Enc.e y.Plan) 0 none]
abbrev i_copyRoster_o (x : Roster) (y : Roster) : List Obj' := []
noncomputable def i_copyRoster_S : FnSpec := modS [.rd] (fun x : Roster => [Enc.e x]) (fun x : Roster => []) (fun x : Roster => i_copyRoster x) i_copyRoster_r i_copyRoster_n i_copyRoster_o
theorem i_copyRoster_c {r : Roster} {y : Roster} (h : i_copyRoster r = some y) : CallOK i_copyRoster_S [Enc.e r] [] (i_copyRoster_r y) (i_copyRoster_n y) (i_copyRoster_o r y) :=
  modS_call (by
    rintro a0 b0 h hO
    have q0 : a0 = b0 := Enc.inj _ _ (congrArg (fun l => List.getD l 0 (.sc undef)) h)
    subst q0; rfl) (x := r) h
theorem i_copyRoster_ok : FnOK Try.prog 85 i_copyRoster_S := by
  have Γok : ∀ f S, lookF f [(188, slices_Clone_Span_S), (189, i_copyLists_S)] = some S → FnOK Try.prog f S := lookF_ok (allF_cons slices_Clone_Span_ok (allF_cons i_copyLists_ok allF_nil))
  have Γlive : Live (fun f => lookF f [(188, slices_Clone_Span_S), (189, i_copyLists_S)]) := lookF_live (allL_cons modS_live (allL_cons modS_live allL_nil))
  refine fnOK_mod ty_ok (fun args w => Try.call85 args w) Try.func85 rfl [.cell 2 29] (by rw [Try.results85]) 12 Try.ntmps85 16 rfl (fun _ => by first | exact Nat.zero_le _ | (simp)) ?_
  rintro r y cx hm hL
  have hm : i_copyRoster r = some y := hm
  have hL : cx.L = 0 := hL
  unfold i_copyRoster at hm
  refine X_reg_seq ty_ok Γok hL [] .nil (by kernel_rfl) ?_
  obtain ⟨r3, h2, hm⟩ := obind hm
  obtain ⟨r4, h3, hm⟩ := obind hm
  refine X_draw_seq mixed ty_ok Γok Γlive [(9, [32, 80, 160])] (by kernel_rfl) [(2, .c (slices_Clone_Span_r r3) (slices_Clone_Span_n r3) (slices_Clone_Span_o r.Shifts r3)), (7, .c (i_copyLists_r r4) (i_copyLists_n r4) (i_copyLists_o r.Plan r4))] (.cons (slices_Clone_Span_c h2) (.cons (i_copyLists_c h3) .nil)) (by kernel_rfl) ?_
  obtain rfl := some_inj hm
  refine Ok_ret ?_
  repeat (first | refine thR ?_ | refine ibR ?_)
  exact X_fin [80, 160] [] (by kernel_rfl) trivial
abbrev i_missingShifts_1_r (y : Bool) : AV := .dat (Enc.e y)
abbrev i_missingShifts_1_n (y : Bool) : List Obj' := []
abbrev i_missingShifts_1_o (x : (List Int) × Int × Int) (y : Bool) : List Obj' := [.box [.dat (.sc (.int .i64 x.2.1))], .box [.dat (.sc (.int .i64 x.2.2))]]
noncomputable def i_missingShifts_1_S : FnSpec := modS [.rd, .bx, .bx] (fun x : (List Int) × Int × Int => [Enc.e x.1, .sc undef, .sc undef]) (fun x : (List Int) × Int × Int => [.box [.dat (.sc (.int .i64 x.2.1))], .box [.dat (.sc (.int .i64 x.2.2))]]) (fun x : (List Int) × Int × Int => i_missingShifts_1 x.1 x.2.1 x.2.2) i_missingShifts_1_r i_missingShifts_1_n i_missingShifts_1_o
theorem i_missingShifts_1_c {row : List Int} {c1 : Int} {c2 : Int} {y : Bool} (h : i_missingShifts_1 row c1 c2 = some y) : CallOK i_missingShifts_1_S [Enc.e row, .sc undef, .sc undef] [.box [.dat (.sc (.int .i64 c1))], .box [.dat (.sc (.int .i64 c2))]] (i_missingShifts_1_r y) (i_missingShifts_1_n y) (i_missingShifts_1_o (row, c1, c2) y) :=
  modS_call (by
    rintro ⟨a0, a1, a2⟩ ⟨b0, b1, b2⟩ h hO
    have q0 : a0 = b0 := Enc.inj _ _ (congrArg (fun l => List.getD l 0 (.sc undef)) h)
    have q1 : a1 = b1 := Enc.inj _ _ (congrArg (fun l => (obD l 0).getD 0 (.sc undef)) hO)
    have q2 : a2 = b2 := Enc.inj _ _ (congrArg (fun l => (obD l 1).getD 0 (.sc undef)) hO)
    subst q0; subst q1; subst q2; rfl) (x := (row, c1, c2)) h
theorem i_missingShifts_1_ok : FnOK Try.prog 195 i_missingShifts_1_S := by
  have Γok : ∀ f S, lookF f [] = some S → FnOK Try.prog f S := lookF_ok allF_nil
  have Γlive : Live (fun f => lookF f []) := lookF_live allL_nil
  refine fnOK_mod ty_ok (fun args w => Try.call195 args w) Try.func195 rfl [.tmp 4] (by rw [Try.results195]) 11 Try.ntmps195 16 rfl (fun _ => by first | exact Nat.zero_le _ | (simp)) ?_
  rintro ⟨row, c1, c2⟩ y cx hm hL
  have hm : i_missingShifts_1 row c1 c2 = some y := hm
  have hL : cx.L = 2 := hL
  unfold i_missingShifts_1 at hm
  refine X_reg_seq ty_ok Γok hL [] .nil (by kernel_rfl) ?_
  obtain ⟨e1, h1, hm⟩ := obind hm
  refine X_draw_seq mixed ty_ok Γok Γlive [] (by kernel_rfl) [(2, .d (Enc.e e1))] (.cons (idx_m (f := Enc.e) h1) .nil) (by kernel_rfl) ?_
  obtain rfl := some_inj hm
  refine Ok_ret ?_
  repeat (first | refine thR ?_ | refine ibR ?_)
  exact X_fin [] [] (by kernel_rfl) trivial
abbrev slices_IndexFunc_Lint__i_missingShifts_1_r (y : Int) : AV := .dat (Enc.e y)
abbrev slices_IndexFunc_Lint__i_missingShifts_1_n (y : Int) : List Obj' := []
abbrev slices_IndexFunc_Lint__i_missingShifts_1_o (x : (List (List Int)) × Int × Int) (y : Int) : List Obj' := [.box [.dat (.sc (.int .i64 x.2.1))], .box [.dat (.sc (.int .i64 x.2.2))]]
noncomputable def slices_IndexFunc_Lint__i_missingShifts_1_S : FnSpec := modS [.rd, .fn 195 [.bx, .bx]] (fun x : (List (List Int)) × Int × Int => [Enc.e x.1, .agg [.sc undef, .sc undef]]) (fun x : (List (List Int)) × Int × Int => [.box [.dat (.sc (.int .i64 x.2.1))], .box [.dat (.sc (.int .i64 x.2.2))]]) (fun x : (List (List Int)) × Int × Int => slices_IndexFunc_Lint__i_missingShifts_1 x.1 x.2.1 x.2.2) slices_IndexFunc_Lint__i_missingShifts_1_r slices_IndexFunc_Lint__i_missingShifts_1_n slices_IndexFunc_Lint__i_missingShifts_1_o
theorem slices_IndexFunc_Lint__i_missingShifts_1_c {s : List (List Int)} {c1 : Int} {c2 : Int} {y : Int} (h : slices_IndexFunc_Lint__i_missingShifts_1 s c1 c2 = some y) : CallOK slices_IndexFunc_Lint__i_missingShifts_1_S [Enc.e s, .agg [.sc undef, .sc undef]] [.box [.dat (.sc (.int .i64 c1))], .box [.dat (.sc (.int .i64 c2))]] (slices_IndexFunc_Lint__i_missingShifts_1_r y) (slices_IndexFunc_Lint__i_missingShifts_1_n y) (slices_IndexFunc_Lint__i_missingShifts_1_o (s, c1, c2) y) :=
  modS_call (by
    rintro ⟨a0, a1, a2⟩ ⟨b0, b1, b2⟩ h hO
    have q0 : a0 = b0 := Enc.inj _ _ (congrArg (fun l => List.getD l 0 (.sc undef)) h)
    have q1 : a1 = b1 := Enc.inj _ _ (congrArg (fun l => (obD l 0).getD 0 (.sc undef)) hO)
    have q2 : a2 = b2 := Enc.inj _ _ (congrArg (fun l => (obD l 1).getD 0 (.sc undef)) hO)
    subst q0; subst q1; subst q2; rfl) (x := (s, c1, c2)) h
theorem slices_IndexFunc_Lint__i_missingShifts_1_ok : FnOK Try.prog 233 slices_IndexFunc_Lint__i_missingShifts_1_S := by
  have Γok : ∀ f S, lookF f [(195, i_missingShifts_1_S)] = some S → FnOK Try.prog f S := lookF_ok (allF_cons i_missingShifts_1_ok allF_nil)
  have Γlive : Live (fun f => lookF f [(195, i_missingShifts_1_S)]) := lookF_live (allL_cons modS_live allL_nil)
  refine fnOK_mod ty_ok (fun args w => Try.call233 args w) Try.func233 rfl [.tmp 4] (by rw [Try.results233]) 19 Try.ntmps233 16 rfl (fun _ => by first | exact Nat.zero_le _ | (simp)) ?_
  rintro ⟨s, c1, c2⟩ y cx hm hL
  have hm : slices_IndexFunc_Lint__i_missingShifts_1 s c1 c2 = some y := hm
  have hL : cx.L = 2 := hL
  obtain ⟨f, hf_f⟩ : ∃ q, (fun (z0 : List Int) => i_missingShifts_1 z0 c1 c2) = q := ⟨_, rfl⟩
  have hm : slices_IndexFunc_Lint s f = some y := by rw [← hf_f]; exact hm
  unfold slices_IndexFunc_Lint at hm
  refine X_reg_seq ty_ok Γok hL [] .nil (by kernel_rfl) ?_
  refine Ok_seq ?_
  refine X_reg_seq ty_ok Γok hL [(1, .n (s.length : Int))] (.cons (len_m Enc.e s) .nil) (by kernel_rfl) ?_
  obtain ⟨v1, hv, hr, hk⟩ := flb_t hm
  refine X_tailF (n := 19) (fun (_ : Unit) => (⟨[(1, .fn 195 [.ref 0 0, .ref 1 0])], [(0, some (.box [.dat (.sc (.int .i64 c1))])), (1, some (.box [.dat (.sc (.int .i64 c2))]))], 48⟩ : X)) v1 ?_ ?_
  · have hm := hv
    refine Ok_block ?_
    refine X_loop (n := 19) (step := slices_IndexFunc_Lint_L1 s f) (fun (v : Int) => (⟨[(0, .dat (Enc.e s)), (1, .fn 195 [.ref 0 0, .ref 1 0]), (7, .dat (.sc (.int .i64 (s.length : Int)))), (8, .dat (.sc (.int .i64 v)))], [(0, some (.box [.dat (.sc (.int .i64 c1))])), (1, some (.box [.dat (.sc (.int .i64 c2))]))], 48⟩ : X)) hm (Wk_J hL ⟨[(0, []), (1, []), (7, []), (8, [])], [(0, 0, []), (1, 1, [])], [], 48⟩ (by kernel_rfl)) ?_
    rintro v r0 hm hb
    rw [slices_IndexFunc_Lint_L1] at hm
    refine X_reg_seq ty_ok Γok hL [] .nil (by kernel_rfl) ?_
    refine Ok_seq ?_
    refine X_cond (decide (v < (s.length : Int))) (by kernel_rfl) (fun hc => ?_) (fun hc => ?_)
    · have hm := it hc hm
      refine X_skip ?_
      refine thN ?_
      refine Ok_seq ?_
      refine Ok_block ?_
      refine X_reg_seq ty_ok Γok hL [] .nil (by kernel_rfl) ?_
      obtain ⟨e, h, hm⟩ := obind hm
      obtain ⟨r, h1, hm⟩ := obind hm
      have h1 : i_missingShifts_1 e c1 c2 = some r := by rw [← hf_f] at h1; exact h1
      refine X_reg_seq ty_ok Γok hL [(3, .d (Enc.e e)), (5, .c (i_missingShifts_1_r r) (i_missingShifts_1_n r) (i_missingShifts_1_o (e, c1, c2) r))] (.cons (idx_m (f := Enc.e) h) (.cons (i_missingShifts_1_c h1) .nil)) (by kernel_rfl) ?_
      refine X_cond r (by kernel_rfl) (fun hc1 => ?_) (fun hc1 => ?_)
      · have hm := it hc1 hm
        refine X_reg_seq ty_ok Γok hL [] .nil (by kernel_rfl) ?_
        obtain rfl := some_inj hm
        obtain rfl := hb _ rfl
        have hm := congrArg some (hr _ rfl)
        obtain rfl := some_inj hm
        refine Ok_ret ?_
        repeat (first | refine thR ?_ | refine ibR ?_)
        exact X_fin [] [] (by kernel_rfl) trivial
      · have hm := ie hc1 hm
        refine X_skip ?_
        refine ibN ?_
        refine thN ?_
        refine X_reg ty_ok Γok hL [] .nil (by kernel_rfl) ?_
        obtain rfl := some_inj hm
        exact thN ⟨_, rfl, Wk_J hL ⟨[(0, []), (1, []), (7, []), (8, [])], [(0, 0, []), (1, 1, [])], [], 48⟩ (by kernel_rfl)⟩
    · have hm := ie hc hm
      obtain rfl := some_inj hm
      obtain rfl := hb _ rfl
      refine Ok_exit ?_
      refine thE ?_
      refine thE ?_
      refine ibE ?_
      exact thN ⟨_, rfl, Wk_J hL ⟨[(1, [])], [(0, 0, []), (1, 1, [])], [], 48⟩ (by kernel_rfl)⟩
  rintro ⟨⟩ hu s1 hw
  have hm := hk _ hu
  refine thN ?_
  refine Ok_weak hw ?_
  refine X_reg_seq ty_ok Γok hL [] .nil (by kernel_rfl) ?_
  obtain rfl := some_inj hm
  refine Ok_ret ?_
  repeat (first | refine thR ?_ | refine ibR ?_)
  exact X_fin [] [] (by kernel_rfl) trivial
abbrev slices_ContainsFunc_Lint__i_missingShifts_1_r (y : Bool) : AV := .dat (Enc.e y)
abbrev slices_ContainsFunc_Lint__i_missingShifts_1_n (y : Bool) : List Obj' := []
abbrev slices_ContainsFunc_Lint__i_missingShifts_1_o (x : (List (List Int)) × Int × Int) (y : Bool) : List Obj' := [.box [.dat (.sc (.int .i64 x.2.1))], .box [.dat (.sc (.int .i64 x.2.2))]]
noncomputable def slices_ContainsFunc_Lint__i_missingShifts_1_S : FnSpec := modS [.rd, .fn 195 [.bx, .bx]] (fun x : (List (List Int)) × Int × Int => [Enc.e x.1, .agg [.sc undef, .sc undef]]) (fun x : (List (List Int)) × Int × Int => [.box [.dat (.sc (.int .i64 x.2.1))], .box [.dat (.sc (.int .i64 x.2.2))]]) (fun x : (List (List Int)) × Int × Int => slices_ContainsFunc_Lint__i_missingShifts_1 x.1 x.2.1 x.2.2) slices_ContainsFunc_Lint__i_missingShifts_1_r slices_ContainsFunc_Lint__i_missingShifts_1_n slices_ContainsFunc_Lint__i_missingShifts_1_o
theorem slices_ContainsFunc_Lint__i_missingShifts_1_c {s : List (List Int)} {c1 : Int} {c2 : Int} {y : Bool} (h : slices_ContainsFunc_Lint__i_missingShifts_1 s c1 c2 = some y) : CallOK slices_ContainsFunc_Lint__i_missingShifts_1_S [Enc.e s, .agg [.sc undef, .sc undef]] [.box [.dat (.sc (.int .i64 c1))], .box [.dat (.sc (.int .i64 c2))]] (slices_ContainsFunc_Lint__i_missingShifts_1_r y) (slices_ContainsFunc_Lint__i_missingShifts_1_n y) (slices_ContainsFunc_Lint__i_missingShifts_1_o (s, c1, c2) y) :=
  modS_call (by
    rintro ⟨a0, a1, a2⟩ ⟨b0, b1, b2⟩ h hO
    have q0 : a0 = b0 := Enc.inj _ _ (congrArg (fun l => List.getD l 0 (.sc undef)) h)
    have q1 : a1 = b1 := Enc.inj _ _ (congrArg (fun l => (obD l 0).getD 0 (.sc undef)) hO)
    have q2 : a2 = b2 := Enc.inj _ _ (congrArg (fun l => (obD l 1).getD 0 (.sc undef)) hO)
    subst q0; subst q1; subst q2; rfl) (x := (s, c1, c2)) h
theorem slices_ContainsFunc_Lint__i_missingShifts_1_ok : FnOK Try.prog 194 slices_ContainsFunc_Lint__i_missingShifts_1_S := by
  have Γok : ∀ f S, lookF f [(233, slices_IndexFunc_Lint__i_missingShifts_1_S)] = some S → FnOK Try.prog f S := lookF_ok (allF_cons slices_IndexFunc_Lint__i_missingShifts_1_ok allF_nil)
  have Γlive : Live (fun f => lookF f [(233, slices_IndexFunc_Lint__i_missingShifts_1_S)]) := lookF_live (allL_cons modS_live allL_nil)
  refine fnOK_mod ty_ok (fun args w => Try.call194 args w) Try.func194 rfl [.tmp 4] (by rw [Try.results194]) 9 Try.ntmps194 16 rfl (fun _ => by first | exact Nat.zero_le _ | (simp)) ?_
  rintro ⟨s, c1, c2⟩ y cx hm hL
  have hm : slices_ContainsFunc_Lint__i_missingShifts_1 s c1 c2 = some y := hm
  have hL : cx.L = 2 := hL
  obtain ⟨f, hf_f⟩ : ∃ q, (fun (z0 : List Int) => i_missingShifts_1 z0 c1 c2) = q := ⟨_, rfl⟩
  have hm : slices_ContainsFunc_Lint s f = some y := by rw [← hf_f]; exact hm
  unfold slices_ContainsFunc_Lint at hm
  refine X_reg_seq ty_ok Γok hL [] .nil (by kernel_rfl) ?_
  obtain ⟨r, h, hm⟩ := obind hm
  have h : slices_IndexFunc_Lint__i_missingShifts_1 s c1 c2 = some r := by rw [← hf_f] at h; exact h
  refine X_reg_seq ty_ok Γok hL [(2, .c (slices_IndexFunc_Lint__i_missingShifts_1_r r) (slices_IndexFunc_Lint__i_missingShifts_1_n r) (slices_IndexFunc_Lint__i_missingShifts_1_o (s, c1, c2) r))] (.cons (slices_IndexFunc_Lint__i_missingShifts_1_c h) .nil) (by kernel_rfl) ?_
  obtain rfl := some_inj hm
  refine Ok_ret ?_
  repeat (first | refine thR ?_ | refine ibR ?_)
  exact X_fin [] [] (by kernel_rfl) trivial
abbrev i_missingShifts_r (y : (List Int)) : AV := .own 0
abbrev i_missingShifts_n (y : (List Int)) : List Obj' := [.arr 3 1 (List.map Enc.e y)]
abbrev i_missingShifts_o (x : Roster × Int) (y : (List Int)) : List Obj' := []
noncomputable def i_missingShifts_S : FnSpec := modS [.rd, .rd] (fun x : Roster × Int => [Enc.e x.1, Enc.e x.2]) (fun x : Roster × Int => []) (fun x : Roster × Int => i_missingShifts x.1 x.2) i_missingShifts_r i_missingShifts_n i_missingShifts_o
theorem i_missingShifts_c {r : Roster} {day : Int} {y : (List Int)} (h : i_missingShifts r day = some y) : CallOK i_missingShifts_S [Enc.e r, Enc.e day] [] (i_missingShifts_r y) (i_missingShifts_n y) (i_missingShifts_o (r, day) y) :=
  modS_call (by
    rintro ⟨a0, a1⟩ ⟨b0, b1⟩ h hO
    have q0 : a0 = b0 := Enc.inj _ _ (congrArg (fun l => List.getD l 0 (.sc undef)) h)
    have q1 : a1 = b1 := Enc.inj _ _ (congrArg (fun l => List.getD l 1 (.sc undef)) h)
    subst q0; subst q1; rfl) (x := (r, day)) h
theorem i_missingShifts_ok : FnOK Try.prog 93 i_missingShifts_S := by
  have Γok : ∀ f S, lookF f [(194, slices_ContainsFunc_Lint__i_missingShifts_1_S)] = some S → FnOK Try.prog f S := lookF_ok (allF_cons slices_ContainsFunc_Lint__i_missingShifts_1_ok allF_nil)
  have Γlive : Live (fun f => lookF f [(194, slices_ContainsFunc_Lint__i_missingShifts_1_S)]) := lookF_live (allL_cons modS_live allL_nil)
  refine fnOK_mod ty_ok (fun args w => Try.call93 args w) Try.func93 rfl [.tmp 4] (by rw [Try.results93]) 24 Try.ntmps93 16 rfl (fun _ => by first | exact Nat.zero_le _ | (simp)) ?_
  rintro ⟨r, day⟩ y cx hm hL
  have hm : i_missingShifts r day = some y := hm
  have hL : cx.L = 0 := hL
  unfold i_missingShifts at hm
  refine X_reg_seq ty_ok Γok hL [] .nil (by kernel_rfl) ?_
  refine X_reg_seq ty_ok Γok hL [] .nil (by kernel_rfl) ?_
  refine Ok_seq ?_
  refine X_reg_seq ty_ok Γok hL [(2, .n (r.Shifts.length : Int))] (.cons (len_m Enc.e r.Shifts) .nil) (by kernel_rfl) ?_
  obtain ⟨v3, hv1, hk1⟩ := obind hm
  refine X_tail (n := 24) (fun (v3 : List Int) => (⟨[(5, .own 16)], [(16, some (.arr 3 1 (List.map Enc.e v3)))], 48⟩ : X)) v3 ?_ ?_
  · have hm := hv1
    refine Ok_block ?_
    refine X_loop (n := 24) (step := i_missingShifts_L1 r day) (fun ((v, v1) : Int × (List Int)) => (⟨[(2, .ref 16 0), (3, .ref 32 0), (5, .own 48), (9, .dat (.sc (.int .i64 (r.Shifts.length : Int)))), (10, .dat (.sc (.int .i64 v)))], [(16, some (.box [.dat (Enc.e r.Shifts), .dat (.sc (.int .i64 r.Rules.MinRest)), .dat (.sc (.int .i64 r.Rules.MaxRow)), .dat (.sc (.int .i64 r.Rules.MaxWeek)), .dat (Enc.e r.Plan)])), (32, some (.box [.dat (.sc (.int .i64 day))])), (48, some (.arr 3 1 (List.map Enc.e v1)))], 80⟩ : X)) hm (Wk_J hL ⟨[(2, []), (3, []), (5, [.o 48]), (9, []), (10, [])], [(16, 16, []), (32, 32, [])], [(48, 3, 1, [])], 80⟩ (by kernel_rfl)) ?_
    rintro ⟨v, v1⟩ r0 hm hb
    rw [i_missingShifts_L1] at hm
    refine X_reg_seq ty_ok Γok hL [] .nil (by kernel_rfl) ?_
    refine Ok_seq ?_
    refine X_cond (decide (v < (r.Shifts.length : Int))) (by kernel_rfl) (fun hc => ?_) (fun hc => ?_)
    · have hm := it hc hm
      refine X_skip ?_
      refine thN ?_
      obtain ⟨v2, hv, hk⟩ := obind hm
      refine X_join (n := 24) (fun (v2 : List Int) => (⟨[(2, .ref 16 0), (3, .ref 32 0), (5, .own 48), (9, .dat (.sc (.int .i64 (r.Shifts.length : Int)))), (10, .dat (.sc (.int .i64 v)))], [(16, some (.box [.dat (Enc.e r.Shifts), .dat (.sc (.int .i64 r.Rules.MinRest)), .dat (.sc (.int .i64 r.Rules.MaxRow)), .dat (.sc (.int .i64 r.Rules.MaxWeek)), .dat (Enc.e r.Plan)])), (32, some (.box [.dat (.sc (.int .i64 day))])), (48, some (.arr 3 1 (List.map Enc.e v2)))], 80⟩ : X)) v2 ?_ ?_
      · have hm := hv
        refine Ok_block ?_
        refine X_reg_seq ty_ok Γok hL [] .nil (by kernel_rfl) ?_
        obtain ⟨r1, h, hm⟩ := obind hm
        refine X_reg_seq ty_ok Γok hL [(3, .c (slices_ContainsFunc_Lint__i_missingShifts_1_r r1) (slices_ContainsFunc_Lint__i_missingShifts_1_n r1) (slices_ContainsFunc_Lint__i_missingShifts_1_o (r.Plan, day, v) r1))] (.cons (slices_ContainsFunc_Lint__i_missingShifts_1_c h) .nil) (by kernel_rfl) ?_
        refine X_cond (!r1) (by kernel_rfl) (fun hc1 => ?_) (fun hc1 => ?_)
        · have hm := it hc1 hm
          obtain ⟨u, h1, hm⟩ := obind hm
          refine X_reg ty_ok Γok hL [(3, .l (List.map Enc.e (v1 ++ ([v] : List Int))))] (.cons (app_p (f := Enc.e) (g := Enc.e) (l := v1) (r := ([v] : List Int)) (b := 8) (chk_t h1) rfl) (.cons (app_m Enc.e v1 ([v] : List Int)) .nil)) (by kernel_rfl) ?_
          refine ibN ?_
          obtain rfl := some_inj hm
          exact thN (Wk_J hL ⟨[(2, []), (3, []), (5, []), (9, []), (10, [])], [(16, 16, []), (32, 32, []), (48, 272, [])], [], 80⟩ (by kernel_rfl))
        · have hm := ie hc1 hm
          refine X_skip ?_
          refine ibN ?_
          obtain rfl := some_inj hm
          exact thN (Wk_J hL ⟨[(2, []), (3, []), (5, []), (9, []), (10, [])], [(16, 16, []), (32, 32, []), (48, 48, [])], [], 80⟩ (by kernel_rfl))
      have hm := hk
      refine X_reg ty_ok Γok hL [] .nil (by kernel_rfl) ?_
      obtain rfl := some_inj hm
      exact thN ⟨_, rfl, Wk_J hL ⟨[(2, []), (3, []), (5, []), (9, []), (10, [])], [(16, 16, []), (32, 32, []), (48, 48, [])], [], 80⟩ (by kernel_rfl)⟩
    · have hm := ie hc hm
      obtain rfl := some_inj hm
      obtain rfl := hb _ rfl
      refine Ok_exit ?_
      refine thE ?_
      refine thE ?_
      refine ibE ?_
      exact thN (Wk_J hL ⟨[(5, [])], [(16, 48, [])], [], 48⟩ (by kernel_rfl))
  intro s hw
  have hm := hk1
  refine thN ?_
  refine Ok_weak hw ?_
  refine X_reg_seq ty_ok Γok hL [] .nil (by kernel_rfl) ?_
  obtain rfl := some_inj hm
  refine Ok_ret ?_
  repeat (first | refine thR ?_ | refine ibR ?_)
  exact X_fin [16] [] (by kernel_rfl) trivial
abbrev i_minutesOn_r (y : Int) : AV := .dat (Enc.e y)
abbrev i_minutesOn_n (y : Int) : List Obj' := []
abbrev i_minutesOn_o (x : Roster × Int × Int) (y : Int) : List Obj' := []
noncomputable def i_minutesOn_S : FnSpec := modS [.rd, .rd, .rd] (fun x : Roster × Int × Int => [Enc.e x.1, Enc.e x.2.1, Enc.e x.2.2]) (fun x : Roster × Int × Int => []) (fun x : Roster × Int × Int => i_minutesOn x.1 x.2.1 x.2.2) i_minutesOn_r i_minutesOn_n i_minutesOn_o
theorem i_minutesOn_c {r : Roster} {driver : Int} {day : Int} {y : Int} (h : i_minutesOn r driver day = some y) : CallOK i_minutesOn_S [Enc.e r, Enc.e driver, Enc.e day] [] (i_minutesOn_r y) (i_minutesOn_n y) (i_minutesOn_o (r, driver, day) y) :=
  modS_call (by
    rintro ⟨a0, a1, a2⟩ ⟨b0, b1, b2⟩ h hO
    have q0 : a0 = b0 := Enc.inj _ _ (congrArg (fun l => List.getD l 0 (.sc undef)) h)
    have q1 : a1 = b1 := Enc.inj _ _ (congrArg (fun l => List.getD l 1 (.sc undef)) h)
    have q2 : a2 = b2 := Enc.inj _ _ (congrArg (fun l => List.getD l 2 (.sc undef)) h)
    subst q0; subst q1; subst q2; rfl) (x := (r, driver, day)) h
theorem i_minutesOn_ok : FnOK Try.prog 196 i_minutesOn_S := by
  have Γok : ∀ f S, lookF f [] = some S → FnOK Try.prog f S := lookF_ok allF_nil
  have Γlive : Live (fun f => lookF f []) := lookF_live allL_nil
  refine fnOK_mod ty_ok (fun args w => Try.call196 args w) Try.func196 rfl [.tmp 6] (by rw [Try.results196]) 31 Try.ntmps196 16 rfl (fun _ => by first | exact Nat.zero_le _ | (simp)) ?_
  rintro ⟨r, driver, day⟩ y cx hm hL
  have hm : i_minutesOn r driver day = some y := hm
  have hL : cx.L = 0 := hL
  unfold i_minutesOn at hm
  refine X_reg_seq ty_ok Γok hL [] .nil (by kernel_rfl) ?_
  obtain ⟨e, h, hm⟩ := obind hm
  obtain ⟨e1, h1, hm⟩ := obind hm
  refine X_reg_seq ty_ok Γok hL [(3, .d (Enc.e e)), (6, .d (Enc.e e1))] (.cons (idx_m (f := Enc.e) h) (.cons (idx_m (f := Enc.e) h1) .nil)) (by kernel_rfl) ?_
  refine Ok_seq ?_
  refine X_reg_seq ty_ok Γok hL [] .nil (by kernel_rfl) ?_
  refine X_cond (decide (e1 < 0)) (by kernel_rfl) (fun hc => ?_) (fun hc => ?_)
  · have hm := it hc hm
    refine X_reg_seq ty_ok Γok hL [] .nil (by kernel_rfl) ?_
    obtain rfl := some_inj hm
    refine Ok_ret ?_
    repeat (first | refine thR ?_ | refine ibR ?_)
    exact X_fin [] [] (by kernel_rfl) trivial
  · have hm := ie hc hm
    refine X_skip ?_
    refine thN ?_
    obtain ⟨e4, h4, hm⟩ := obind hm
    obtain ⟨e5, h5, hm⟩ := obind hm
    refine X_draw_seq mixed ty_ok Γok Γlive [] (by kernel_rfl) [(3, .d (Enc.e e4)), (9, .d (Enc.e e5))] (.cons (idx_m (f := Enc.e) h4) (.cons (idx_m (f := Enc.e) h5) .nil)) (by kernel_rfl) ?_
    obtain rfl := some_inj hm
    refine Ok_ret ?_
    repeat (first | refine thR ?_ | refine ibR ?_)
    exact X_fin [] [] (by kernel_rfl) trivial
abbrev i_workedMinutes_r (y : Int) : AV := .dat (Enc.e y)
abbrev i_workedMinutes_n (y : Int) : List Obj' := []
abbrev i_workedMinutes_o (x : Roster × Int) (y : Int) : List Obj' := []
noncomputable def i_workedMinutes_S : FnSpec := modS [.rd, .rd] (fun x : Roster × Int => [Enc.e x.1, Enc.e x.2]) (fun x : Roster × Int => []) (fun x : Roster × Int => i_workedMinutes x.1 x.2) i_workedMinutes_r i_workedMinutes_n i_workedMinutes_o
theorem i_workedMinutes_c {r : Roster} {driver : Int} {y : Int} (h : i_workedMinutes r driver = some y) : CallOK i_workedMinutes_S [Enc.e r, Enc.e driver] [] (i_workedMinutes_r y) (i_workedMinutes_n y) (i_workedMinutes_o (r, driver) y) :=
  modS_call (by
    rintro ⟨a0, a1⟩ ⟨b0, b1⟩ h hO
    have q0 : a0 = b0 := Enc.inj _ _ (congrArg (fun l => List.getD l 0 (.sc undef)) h)
    have q1 : a1 = b1 := Enc.inj _ _ (congrArg (fun l => List.getD l 1 (.sc undef)) h)
    subst q0; subst q1; rfl) (x := (r, driver)) h
theorem i_workedMinutes_ok : FnOK Try.prog 101 i_workedMinutes_S := by
  have Γok : ∀ f S, lookF f [(196, i_minutesOn_S)] = some S → FnOK Try.prog f S := lookF_ok (allF_cons i_minutesOn_ok allF_nil)
  have Γlive : Live (fun f => lookF f [(196, i_minutesOn_S)]) := lookF_live (allL_cons modS_live allL_nil)
  refine fnOK_mod ty_ok (fun args w => Try.call101 args w) Try.func101 rfl [.tmp 4] (by rw [Try.results101]) 24 Try.ntmps101 16 rfl (fun _ => by first | exact Nat.zero_le _ | (simp)) ?_
  rintro ⟨r, driver⟩ y cx hm hL
  have hm : i_workedMinutes r driver = some y := hm
  have hL : cx.L = 0 := hL
  unfold i_workedMinutes at hm
  refine X_reg_seq ty_ok Γok hL [] .nil (by kernel_rfl) ?_
  refine X_reg_seq ty_ok Γok hL [] .nil (by kernel_rfl) ?_
  refine Ok_seq ?_
  obtain ⟨e, h, hm⟩ := obind hm
  refine X_reg_seq ty_ok Γok hL [(3, .d (Enc.e e)), (5, .n (e.length : Int))] (.cons (idx_m (f := Enc.e) h) (.cons (len_m Enc.e e) .nil)) (by kernel_rfl) ?_
  obtain ⟨v2, hv, hk⟩ := obind hm
  refine X_tail (n := 24) (fun (v2 : Int) => (⟨[(5, .dat (.sc (.int .i64 v2)))], [], 32⟩ : X)) v2 ?_ ?_
  · have hm := hv
    refine Ok_block ?_
    refine X_loop (n := 24) (step := i_workedMinutes_L1 r driver e) (fun ((v, v1) : Int × Int) => (⟨[(1, .dat (.sc (.int .i64 driver))), (2, .ref 16 0), (5, .dat (.sc (.int .i64 v))), (12, .dat (.sc (.int .i64 (e.length : Int)))), (13, .dat (.sc (.int .i64 v1)))], [(16, some (.box [.dat (Enc.e r.Shifts), .dat (.sc (.int .i64 r.Rules.MinRest)), .dat (.sc (.int .i64 r.Rules.MaxRow)), .dat (.sc (.int .i64 r.Rules.MaxWeek)), .dat (Enc.e r.Plan)]))], 48⟩ : X)) hm (Wk_J hL ⟨[(1, []), (2, []), (5, []), (12, []), (13, [])], [(16, 16, [])], [], 48⟩ (by kernel_rfl)) ?_
    rintro ⟨v, v1⟩ r0 hm hb
    rw [i_workedMinutes_L1] at hm
    refine X_reg_seq ty_ok Γok hL [] .nil (by kernel_rfl) ?_
    refine Ok_seq ?_
    refine X_cond (decide (v1 < (e.length : Int))) (by kernel_rfl) (fun hc => ?_) (fun hc => ?_)
    · have hm := it hc hm
      refine X_skip ?_
      refine thN ?_
      refine Ok_seq ?_
      refine Ok_block ?_
      refine X_reg_seq ty_ok Γok hL [] .nil (by kernel_rfl) ?_
      obtain ⟨r1, h1, hm⟩ := obind hm
      refine X_reg ty_ok Γok hL [(4, .c (i_minutesOn_r r1) (i_minutesOn_n r1) (i_minutesOn_o (r, driver, v1) r1))] (.cons (i_minutesOn_c h1) .nil) (by kernel_rfl) ?_
      refine ibN ?_
      refine thN ?_
      refine X_reg ty_ok Γok hL [] .nil (by kernel_rfl) ?_
      obtain rfl := some_inj hm
      exact thN ⟨_, rfl, Wk_J hL ⟨[(1, []), (2, []), (5, []), (12, []), (13, [])], [(16, 16, [])], [], 48⟩ (by kernel_rfl)⟩
    · have hm := ie hc hm
      obtain rfl := some_inj hm
      obtain rfl := hb _ rfl
      refine Ok_exit ?_
      refine thE ?_
      refine thE ?_
      refine ibE ?_
      exact thN (Wk_J hL ⟨[(5, [])], [], [], 32⟩ (by kernel_rfl))
  intro s hw
  have hm := hk
  refine thN ?_
  refine Ok_weak hw ?_
  refine X_reg_seq ty_ok Γok hL [] .nil (by kernel_rfl) ?_
  obtain rfl := some_inj hm
  refine Ok_ret ?_
  repeat (first | refine thR ?_ | refine ibR ?_)
  exact X_fin [] [] (by kernel_rfl) trivial
abbrev i_busiestWeek_r (y : Int × Int) : AV := .tup [.dat (Enc.e y.1), .dat (Enc.e y.2)]
abbrev i_busiestWeek_n (y : Int × Int) : List Obj' := []
abbrev i_busiestWeek_o (x : Roster × Int) (y : Int × Int) : List Obj' := []
noncomputable def i_busiestWeek_S : FnSpec := modS [.rd, .rd] (fun x : Roster × Int => [Enc.e x.1, Enc.e x.2]) (fun x : Roster × Int => []) (fun x : Roster × Int => i_busiestWeek x.1 x.2) i_busiestWeek_r i_busiestWeek_n i_busiestWeek_o
theorem i_busiestWeek_c {r : Roster} {driver : Int} {y : Int × Int} (h : i_busiestWeek r driver = some y) : CallOK i_busiestWeek_S [Enc.e r, Enc.e driver] [] (i_busiestWeek_r y) (i_busiestWeek_n y) (i_busiestWeek_o (r, driver) y) :=
  modS_call (by
    rintro ⟨a0, a1⟩ ⟨b0, b1⟩ h hO
    have q0 : a0 = b0 := Enc.inj _ _ (congrArg (fun l => List.getD l 0 (.sc undef)) h)
    have q1 : a1 = b1 := Enc.inj _ _ (congrArg (fun l => List.getD l 1 (.sc undef)) h)
    subst q0; subst q1; rfl) (x := (r, driver)) h
theorem i_busiestWeek_ok : FnOK Try.prog 98 i_busiestWeek_S := by
  have Γok : ∀ f S, lookF f [(196, i_minutesOn_S)] = some S → FnOK Try.prog f S := lookF_ok (allF_cons i_minutesOn_ok allF_nil)
  have Γlive : Live (fun f => lookF f [(196, i_minutesOn_S)]) := lookF_live (allL_cons modS_live allL_nil)
  refine fnOK_mod ty_ok (fun args w => Try.call98 args w) Try.func98 rfl [.tmp 4, .tmp 5] (by rw [Try.results98]) 50 Try.ntmps98 16 rfl (fun _ => by first | exact Nat.zero_le _ | (simp)) ?_
  rintro ⟨r, driver⟩ y cx hm hL
  have hm : i_busiestWeek r driver = some y := hm
  have hL : cx.L = 0 := hL
  unfold i_busiestWeek at hm
  refine X_reg_seq ty_ok Γok hL [] .nil (by kernel_rfl) ?_
  obtain ⟨e, h, hm⟩ := obind hm
  refine X_reg_seq ty_ok Γok hL [(3, .d (Enc.e e)), (5, .n (e.length : Int))] (.cons (idx_m (f := Enc.e) h) (.cons (len_m Enc.e e) .nil)) (by kernel_rfl) ?_
  refine X_reg_seq ty_ok Γok hL [] .nil (by kernel_rfl) ?_
  refine Ok_seq ?_
  refine X_reg_seq ty_ok Γok hL [] .nil (by kernel_rfl) ?_
  obtain ⟨vv1, hv3, hk3⟩ := obind hm
  refine X_tail (n := 50) (fun ((first2, sum2) : Int × Int) => (⟨[(7, .dat (.sc (.int .i64 first2))), (8, .dat (.sc (.int .i64 sum2)))], [], 32⟩ : X)) vv1 ?_ ?_
  · have hm := hv3
    refine Ok_block ?_
    refine X_loop (n := 50) (step := i_busiestWeek_L2 r driver e) (fun ((first, sum, day) : Int × Int × Int) => (⟨[(1, .dat (.sc (.int .i64 driver))), (2, .ref 16 0), (6, .dat (.sc (.int .i64 (e.length : Int)))), (7, .dat (.sc (.int .i64 first))), (8, .dat (.sc (.int .i64 sum))), (9, .dat (.sc (.int .i64 day)))], [(16, some (.box [.dat (Enc.e r.Shifts), .dat (.sc (.int .i64 r.Rules.MinRest)), .dat (.sc (.int .i64 r.Rules.MaxRow)), .dat (.sc (.int .i64 r.Rules.MaxWeek)), .dat (Enc.e r.Plan)]))], 48⟩ : X)) hm (Wk_J hL ⟨[(1, []), (2, []), (6, []), (7, []), (8, []), (9, [])], [(16, 16, [])], [], 48⟩ (by kernel_rfl)) ?_
    rintro ⟨first, sum, day⟩ r0 hm hb
    rw [i_busiestWeek_L2] at hm
    refine Ok_seq ?_
    obtain ⟨v, hv, hk⟩ := obind hm
    refine X_join (n := 50) (fun (v : Bool) => (⟨[(1, .dat (.sc (.int .i64 driver))), (2, .ref 16 0), (6, .dat (.sc (.int .i64 (e.length : Int)))), (7, .dat (.sc (.int .i64 first))), (8, .dat (.sc (.int .i64 sum))), (9, .dat (.sc (.int .i64 day))), (25, .dat (.sc (.bool v)))], [(16, some (.box [.dat (Enc.e r.Shifts), .dat (.sc (.int .i64 r.Rules.MinRest)), .dat (.sc (.int .i64 r.Rules.MaxRow)), .dat (.sc (.int .i64 r.Rules.MaxWeek)), .dat (Enc.e r.Plan)]))], 48⟩ : X)) v ?_ ?_
    · have hm := hv
      rcases btf (day == 0) with hb1 | hb1
      · have hm := it hb1 hm
        obtain rfl := some_inj hm
        refine X_reg ty_ok Γok hL [(2, .b true)] (.cons hb1 .nil) (by kernel_rfl) ?_
        exact thN (Wk_J hL ⟨[(1, []), (2, []), (6, []), (7, []), (8, []), (9, []), (25, [])], [(16, 16, [])], [], 48⟩ (by kernel_rfl))
      · have hm := ie hb1 hm
        obtain rfl := some_inj hm
        refine X_reg ty_ok Γok hL [(2, .b false)] (.cons hb1 .nil) (by kernel_rfl) ?_
        exact thN (Wk_J hL ⟨[(1, []), (2, []), (6, []), (7, []), (8, []), (9, []), (25, [])], [(16, 16, [])], [], 48⟩ (by kernel_rfl))
    have hm := hk
    refine X_cond v (by kernel_rfl) (fun hc => ?_) (fun hc => ?_)
    · have hm := it hc hm
      refine X_skip ?_
      refine thN ?_
      obtain ⟨vv, hv1, hk1⟩ := obind hm
      refine X_join (n := 50) (fun ((first1, sum1) : Int × Int) => (⟨[(1, .dat (.sc (.int .i64 driver))), (2, .ref 16 0), (6, .dat (.sc (.int .i64 (e.length : Int)))), (7, .dat (.sc (.int .i64 first1))), (8, .dat (.sc (.int .i64 sum1))), (9, .dat (.sc (.int .i64 day)))], [(16, some (.box [.dat (Enc.e r.Shifts), .dat (.sc (.int .i64 r.Rules.MinRest)), .dat (.sc (.int .i64 r.Rules.MaxRow)), .dat (.sc (.int .i64 r.Rules.MaxWeek)), .dat (Enc.e r.Plan)]))], 48⟩ : X)) vv ?_ ?_
      · have hm := hv1
        refine Ok_block ?_
        refine X_reg_seq ty_ok Γok hL [] .nil (by kernel_rfl) ?_
        refine Ok_seq ?_
        refine X_reg_seq ty_ok Γok hL [] .nil (by kernel_rfl) ?_
        obtain ⟨v3, hv2, hk2⟩ := obind hm
        refine X_tail (n := 50) (fun (v3 : Int) => (⟨[(1, .dat (.sc (.int .i64 driver))), (2, .ref 16 0), (6, .dat (.sc (.int .i64 (e.length : Int)))), (7, .dat (.sc (.int .i64 first))), (8, .dat (.sc (.int .i64 sum))), (9, .dat (.sc (.int .i64 day))), (10, .dat (.sc (.int .i64 v3)))], [(16, some (.box [.dat (Enc.e r.Shifts), .dat (.sc (.int .i64 r.Rules.MinRest)), .dat (.sc (.int .i64 r.Rules.MaxRow)), .dat (.sc (.int .i64 r.Rules.MaxWeek)), .dat (Enc.e r.Plan)]))], 48⟩ : X)) v3 ?_ ?_
        · have hm := hv2
          refine Ok_block ?_
          refine X_loop (n := 50) (step := i_busiestWeek_L1 r driver e day) (fun ((v1, v2) : Int × Int) => (⟨[(1, .dat (.sc (.int .i64 driver))), (2, .ref 16 0), (6, .dat (.sc (.int .i64 (e.length : Int)))), (7, .dat (.sc (.int .i64 first))), (8, .dat (.sc (.int .i64 sum))), (9, .dat (.sc (.int .i64 day))), (10, .dat (.sc (.int .i64 v1))), (11, .dat (.sc (.int .i64 v2)))], [(16, some (.box [.dat (Enc.e r.Shifts), .dat (.sc (.int .i64 r.Rules.MinRest)), .dat (.sc (.int .i64 r.Rules.MaxRow)), .dat (.sc (.int .i64 r.Rules.MaxWeek)), .dat (Enc.e r.Plan)]))], 48⟩ : X)) hm (Wk_J hL ⟨[(1, []), (2, []), (6, []), (7, []), (8, []), (9, []), (10, []), (11, [])], [(16, 16, [])], [], 48⟩ (by kernel_rfl)) ?_
          rintro ⟨v1, v2⟩ r0 hm hb2
          rw [i_busiestWeek_L1] at hm
          refine Ok_seq ?_
          refine X_reg_seq ty_ok Γok hL [] .nil (by kernel_rfl) ?_
          refine X_cond (decide (v2 < (if (e.length : Int) < (w64 (day + 7)) then (e.length : Int) else (w64 (day + 7))))) (by kernel_rfl) (fun hc1 => ?_) (fun hc1 => ?_)
          · have hm := it hc1 hm
            refine X_skip ?_
            refine thN ?_
            refine Ok_seq ?_
            refine Ok_block ?_
            obtain ⟨r1, h1, hm⟩ := obind hm
            refine X_reg ty_ok Γok hL [(4, .c (i_minutesOn_r r1) (i_minutesOn_n r1) (i_minutesOn_o (r, driver, v2) r1))] (.cons (i_minutesOn_c h1) .nil) (by kernel_rfl) ?_
            refine ibN ?_
            refine thN ?_
            refine X_reg ty_ok Γok hL [] .nil (by kernel_rfl) ?_
            obtain rfl := some_inj hm
            exact thN ⟨_, rfl, Wk_J hL ⟨[(1, []), (2, []), (6, []), (7, []), (8, []), (9, []), (10, []), (11, [])], [(16, 16, [])], [], 48⟩ (by kernel_rfl)⟩
          · have hm := ie hc1 hm
            obtain rfl := some_inj hm
            obtain rfl := hb2 _ rfl
            refine Ok_exit ?_
            refine thE ?_
            refine thE ?_
            refine ibE ?_
            exact thN (Wk_J hL ⟨[(1, []), (2, []), (6, []), (7, []), (8, []), (9, []), (10, [])], [(16, 16, [])], [], 48⟩ (by kernel_rfl))
        intro s hw
        have hm := hk2
        refine thN ?_
        refine Ok_weak hw ?_
        refine X_reg_seq ty_ok Γok hL [] .nil (by kernel_rfl) ?_
        refine X_cond (decide (sum < v3)) (by kernel_rfl) (fun hc2 => ?_) (fun hc2 => ?_)
        · have hm := it hc2 hm
          refine X_reg ty_ok Γok hL [] .nil (by kernel_rfl) ?_
          refine ibN ?_
          obtain rfl := some_inj hm
          exact thN (Wk_J hL ⟨[(1, []), (2, []), (6, []), (7, []), (8, []), (9, [])], [(16, 16, [])], [], 48⟩ (by kernel_rfl))
        · have hm := ie hc2 hm
          refine X_skip ?_
          refine ibN ?_
          obtain rfl := some_inj hm
          exact thN (Wk_J hL ⟨[(1, []), (2, []), (6, []), (7, []), (8, []), (9, [])], [(16, 16, [])], [], 48⟩ (by kernel_rfl))
      obtain ⟨first1, sum1⟩ := vv
      have hm := hk1
      refine X_reg ty_ok Γok hL [] .nil (by kernel_rfl) ?_
      obtain rfl := some_inj hm
      exact thN ⟨_, rfl, Wk_J hL ⟨[(1, []), (2, []), (6, []), (7, []), (8, []), (9, [])], [(16, 16, [])], [], 48⟩ (by kernel_rfl)⟩
    · have hm := ie hc hm
      obtain rfl := some_inj hm
      obtain rfl := hb _ rfl
      refine Ok_exit ?_
      refine thE ?_
      refine thE ?_
      refine ibE ?_
      exact thN (Wk_J hL ⟨[(7, []), (8, [])], [], [], 32⟩ (by kernel_rfl))
  obtain ⟨first2, sum2⟩ := vv1
  intro s1 hw1
  have hm := hk3
  refine thN ?_
  refine Ok_weak hw1 ?_
  refine X_reg_seq ty_ok Γok hL [] .nil (by kernel_rfl) ?_
  obtain rfl := some_inj hm
  refine Ok_ret ?_
  repeat (first | refine thR ?_ | refine ibR ?_)
  exact X_fin [] [] (by kernel_rfl) trivial
abbrev i_brokenRests_r (y : (List Int)) : AV := .own 0
abbrev i_brokenRests_n (y : (List Int)) : List Obj' := [.arr 3 1 (List.map Enc.e y)]
abbrev i_brokenRests_o (x : Roster × Int) (y : (List Int)) : List Obj' := []
noncomputable def i_brokenRests_S : FnSpec := modS [.rd, .rd] (fun x : Roster × Int => [Enc.e x.1, Enc.e x.2]) (fun x : Roster × Int => []) (fun x : Roster × Int => i_brokenRests x.1 x.2) i_brokenRests_r i_brokenRests_n i_brokenRests_o
theorem i_brokenRests_c {r : Roster} {driver : Int} {y : (List Int)} (h : i_brokenRests r driver = some y) : CallOK i_brokenRests_S [Enc.e r, Enc.e driver] [] (i_brokenRests_r y) (i_brokenRests_n y) (i_brokenRests_o (r, driver) y) :=
  modS_call (by
    rintro ⟨a0, a1⟩ ⟨b0, b1⟩ h hO
    have q0 : a0 = b0 := Enc.inj _ _ (congrArg (fun l => List.getD l 0 (.sc undef)) h)
    have q1 : a1 = b1 := Enc.inj _ _ (congrArg (fun l => List.getD l 1 (.sc undef)) h)
    subst q0; subst q1; rfl) (x := (r, driver)) h
theorem i_brokenRests_ok : FnOK Try.prog 198 i_brokenRests_S := by
  have Γok : ∀ f S, lookF f [] = some S → FnOK Try.prog f S := lookF_ok allF_nil
  have Γlive : Live (fun f => lookF f []) := lookF_live allL_nil
  refine fnOK_mod ty_ok (fun args w => Try.call198 args w) Try.func198 rfl [.tmp 4] (by rw [Try.results198]) 63 Try.ntmps198 16 rfl (fun _ => by first | exact Nat.zero_le _ | (simp)) ?_
  rintro ⟨r, driver⟩ y cx hm hL
  have hm : i_brokenRests r driver = some y := hm
  have hL : cx.L = 0 := hL
  unfold i_brokenRests at hm
  refine X_reg_seq ty_ok Γok hL [] .nil (by kernel_rfl) ?_
  refine X_reg_seq ty_ok Γok hL [] .nil (by kernel_rfl) ?_
  refine X_reg_seq ty_ok Γok hL [] .nil (by kernel_rfl) ?_
  refine Ok_seq ?_
  obtain ⟨e, h, hm⟩ := obind hm
  refine X_reg_seq ty_ok Γok hL [(3, .d (Enc.e e)), (5, .n (e.length : Int))] (.cons (idx_m (f := Enc.e) h) (.cons (len_m Enc.e e) .nil)) (by kernel_rfl) ?_
  obtain ⟨day3, hv2, hk2⟩ := obind hm
  refine X_tail (n := 63) (fun (day3 : List Int) => (⟨[(5, .own 16)], [(16, some (.arr 3 1 (List.map Enc.e day3)))], 48⟩ : X)) day3 ?_ ?_
  · have hm := hv2
    refine Ok_block ?_
    refine X_loop (n := 63) (step := i_brokenRests_L1 r driver e) (fun ((s, v, day) : Int × Int × (List Int)) => (⟨[(1, .dat (.sc (.int .i64 driver))), (2, .ref 16 0), (5, .own 32), (6, .dat (.sc (.int .i64 s))), (14, .dat (Enc.e e)), (15, .dat (.sc (.int .i64 (e.length : Int)))), (16, .dat (.sc (.int .i64 v)))], [(16, some (.box [.dat (Enc.e r.Shifts), .dat (.sc (.int .i64 r.Rules.MinRest)), .dat (.sc (.int .i64 r.Rules.MaxRow)), .dat (.sc (.int .i64 r.Rules.MaxWeek)), .dat (Enc.e r.Plan)])), (32, some (.arr 3 1 (List.map Enc.e day)))], 64⟩ : X)) hm (Wk_J hL ⟨[(1, []), (2, []), (5, [.o 32]), (6, []), (14, []), (15, []), (16, [])], [(16, 16, [])], [(32, 3, 1, [])], 64⟩ (by kernel_rfl)) ?_
    rintro ⟨s, v, day⟩ r0 hm hb
    rw [i_brokenRests_L1] at hm
    refine X_reg_seq ty_ok Γok hL [] .nil (by kernel_rfl) ?_
    refine Ok_seq ?_
    refine X_cond (decide (v < (e.length : Int))) (by kernel_rfl) (fun hc => ?_) (fun hc => ?_)
    · have hm := it hc hm
      refine X_skip ?_
      refine thN ?_
      obtain ⟨vv, hv, hk⟩ := obind hm
      refine X_join (n := 63) (fun ((s1, day1) : Int × (List Int)) => (⟨[(1, .dat (.sc (.int .i64 driver))), (2, .ref 16 0), (5, .own 32), (6, .dat (.sc (.int .i64 s1))), (14, .dat (Enc.e e)), (15, .dat (.sc (.int .i64 (e.length : Int)))), (16, .dat (.sc (.int .i64 v)))], [(16, some (.box [.dat (Enc.e r.Shifts), .dat (.sc (.int .i64 r.Rules.MinRest)), .dat (.sc (.int .i64 r.Rules.MaxRow)), .dat (.sc (.int .i64 r.Rules.MaxWeek)), .dat (Enc.e r.Plan)])), (32, some (.arr 3 1 (List.map Enc.e day1)))], 64⟩ : X)) vv ?_ ?_
      · have hm := hv
        refine Ok_block ?_
        obtain ⟨e1, h1, hm⟩ := obind hm
        refine X_reg_seq ty_ok Γok hL [(1, .d (Enc.e e1))] (.cons (idx_m (f := Enc.e) h1) .nil) (by kernel_rfl) ?_
        refine Ok_seq ?_
        refine X_reg_seq ty_ok Γok hL [] .nil (by kernel_rfl) ?_
        refine X_cond (decide (e1 < 0)) (by kernel_rfl) (fun hc1 => ?_) (fun hc1 => ?_)
        · have hm := it hc1 hm
          refine Ok_exit ?_
          refine thE ?_
          refine ibE ?_
          obtain rfl := some_inj hm
          exact thN (Wk_J hL ⟨[(1, []), (2, []), (5, []), (6, []), (14, []), (15, []), (16, [])], [(16, 16, []), (32, 32, [])], [], 64⟩ (by kernel_rfl))
        · have hm := ie hc1 hm
          refine X_skip ?_
          refine thN ?_
          obtain ⟨day2, hv1, hk1⟩ := obind hm
          refine X_join (n := 63) (fun (day2 : List Int) => (⟨[(1, .dat (.sc (.int .i64 driver))), (2, .ref 16 0), (5, .own 32), (7, .dat (.sc (.int .i64 v))), (14, .dat (Enc.e e)), (15, .dat (.sc (.int .i64 (e.length : Int)))), (16, .dat (.sc (.int .i64 v)))], [(16, some (.box [.dat (Enc.e r.Shifts), .dat (.sc (.int .i64 r.Rules.MinRest)), .dat (.sc (.int .i64 r.Rules.MaxRow)), .dat (.sc (.int .i64 r.Rules.MaxWeek)), .dat (Enc.e r.Plan)])), (32, some (.arr 3 1 (List.map Enc.e day2)))], 64⟩ : X)) day2 ?_ ?_
          · have hm := hv1
            refine X_reg_seq ty_ok Γok hL [] .nil (by kernel_rfl) ?_
            refine X_cond (decide (0 ≤ s)) (by kernel_rfl) (fun hc2 => ?_) (fun hc2 => ?_)
            · have hm := it hc2 hm
              obtain ⟨e5, h5, hm⟩ := obind hm
              obtain ⟨e6, h6, hm⟩ := obind hm
              obtain ⟨e7, h7, hm⟩ := obind hm
              refine X_draw_seq mixed ty_ok Γok Γlive [] (by kernel_rfl) [(7, .d (Enc.e e5)), (10, .d (Enc.e e6)), (12, .d (Enc.e e7))] (.cons (idx_m (f := Enc.e) h5) (.cons (idx_m (f := Enc.e) h6) (.cons (idx_m (f := Enc.e) h7) .nil))) (by kernel_rfl) ?_
              obtain ⟨e9, h9, hm⟩ := obind hm
              refine X_draw_seq mixed ty_ok Γok Γlive [] (by kernel_rfl) [(5, .d (Enc.e e9))] (.cons (idx_m (f := Enc.e) h9) .nil) (by kernel_rfl) ?_
              refine X_cond (decide ((w64 ((w64 (1440 * v)) + e9.From)) < (w64 ((w64 ((w64 (1440 * s)) + e7.To)) + r.Rules.MinRest)))) (by kernel_rfl) (fun hc3 => ?_) (fun hc3 => ?_)
              · have hm := it hc3 hm
                obtain ⟨u, h10, hm⟩ := obind hm
                refine X_reg ty_ok Γok hL [(3, .l (List.map Enc.e (day ++ ([v] : List Int))))] (.cons (app_p (f := Enc.e) (g := Enc.e) (l := day) (r := ([v] : List Int)) (b := 8) (chk_t h10) rfl) (.cons (app_m Enc.e day ([v] : List Int)) .nil)) (by kernel_rfl) ?_
                obtain rfl := some_inj hm
                exact thN (Wk_J hL ⟨[(1, []), (2, []), (5, []), (7, []), (14, []), (15, []), (16, [])], [(16, 16, []), (32, 784, [])], [], 64⟩ (by kernel_rfl))
              · have hm := ie hc3 hm
                refine X_skip ?_
                obtain rfl := some_inj hm
                exact thN (Wk_J hL ⟨[(1, []), (2, []), (5, []), (7, []), (14, []), (15, []), (16, [])], [(16, 16, []), (32, 32, [])], [], 64⟩ (by kernel_rfl))
            · have hm := ie hc2 hm
              refine X_skip ?_
              obtain rfl := some_inj hm
              exact thN (Wk_J hL ⟨[(1, []), (2, []), (5, []), (7, []), (14, []), (15, []), (16, [])], [(16, 16, []), (32, 32, [])], [], 64⟩ (by kernel_rfl))
          have hm := hk1
          refine X_reg ty_ok Γok hL [] .nil (by kernel_rfl) ?_
          refine ibN ?_
          obtain rfl := some_inj hm
          exact thN (Wk_J hL ⟨[(1, []), (2, []), (5, []), (6, []), (14, []), (15, []), (16, [])], [(16, 16, []), (32, 32, [])], [], 64⟩ (by kernel_rfl))
      obtain ⟨s1, day1⟩ := vv
      have hm := hk
      refine X_reg ty_ok Γok hL [] .nil (by kernel_rfl) ?_
      obtain rfl := some_inj hm
      exact thN ⟨_, rfl, Wk_J hL ⟨[(1, []), (2, []), (5, []), (6, []), (14, []), (15, []), (16, [])], [(16, 16, []), (32, 32, [])], [], 64⟩ (by kernel_rfl)⟩
    · have hm := ie hc hm
      obtain rfl := some_inj hm
      obtain rfl := hb _ rfl
      refine Ok_exit ?_
      refine thE ?_
      refine thE ?_
      refine ibE ?_
      exact thN (Wk_J hL ⟨[(5, [])], [(16, 32, [])], [], 48⟩ (by kernel_rfl))
  intro s2 hw
  have hm := hk2
  refine thN ?_
  refine Ok_weak hw ?_
  refine X_reg_seq ty_ok Γok hL [] .nil (by kernel_rfl) ?_
  obtain rfl := some_inj hm
  refine Ok_ret ?_
  repeat (first | refine thR ?_ | refine ibR ?_)
  exact X_fin [16] [] (by kernel_rfl) trivial
abbrev i_longestRow_r (y : Int) : AV := .dat (Enc.e y)
abbrev i_longestRow_n (y : Int) : List Obj' := []
abbrev i_longestRow_o (x : Roster × Int) (y : Int) : List Obj' := []
noncomputable def i_longestRow_S : FnSpec := modS [.rd, .rd] (fun x : Roster × Int => [Enc.e x.1, Enc.e x.2]) (fun x : Roster × Int => []) (fun x : Roster × Int => i_longestRow x.1 x.2) i_longestRow_r i_longestRow_n i_longestRow_o
theorem i_longestRow_c {r : Roster} {driver : Int} {y : Int} (h : i_longestRow r driver = some y) : CallOK i_longestRow_S [Enc.e r, Enc.e driver] [] (i_longestRow_r y) (i_longestRow_n y) (i_longestRow_o (r, driver) y) :=
  modS_call (by
    rintro ⟨a0, a1⟩ ⟨b0, b1⟩ h hO
    have q0 : a0 = b0 := Enc.inj _ _ (congrArg (fun l => List.getD l 0 (.sc undef)) h)
    have q1 : a1 = b1 := Enc.inj _ _ (congrArg (fun l => List.getD l 1 (.sc undef)) h)
    subst q0; subst q1; rfl) (x := (r, driver)) h
theorem i_longestRow_ok : FnOK Try.prog 199 i_longestRow_S := by
  have Γok : ∀ f S, lookF f [] = some S → FnOK Try.prog f S := lookF_ok allF_nil
  have Γlive : Live (fun f => lookF f []) := lookF_live allL_nil
  refine fnOK_mod ty_ok (fun args w => Try.call199 args w) Try.func199 rfl [.tmp 4] (by rw [Try.results199]) 28 Try.ntmps199 16 rfl (fun _ => by first | exact Nat.zero_le _ | (simp)) ?_
  rintro ⟨r, driver⟩ y cx hm hL
  have hm : i_longestRow r driver = some y := hm
  have hL : cx.L = 0 := hL
  unfold i_longestRow at hm
  refine X_reg_seq ty_ok Γok hL [] .nil (by kernel_rfl) ?_
  refine X_reg_seq ty_ok Γok hL [] .nil (by kernel_rfl) ?_
  refine Ok_seq ?_
  obtain ⟨e, h, hm⟩ := obind hm
  refine X_reg_seq ty_ok Γok hL [(3, .d (Enc.e e)), (5, .n (e.length : Int))] (.cons (idx_m (f := Enc.e) h) (.cons (len_m Enc.e e) .nil)) (by kernel_rfl) ?_
  obtain ⟨v2, hv1, hk1⟩ := obind hm
  refine X_tail (n := 28) (fun (v2 : Int) => (⟨[(5, .dat (.sc (.int .i64 v2)))], [], 32⟩ : X)) v2 ?_ ?_
  · have hm := hv1
    refine Ok_block ?_
    refine X_loop (n := 28) (step := i_longestRow_L1 e) (fun ((v, s, v1) : Int × Int × Int) => (⟨[(5, .dat (.sc (.int .i64 v))), (6, .dat (.sc (.int .i64 s))), (13, .dat (Enc.e e)), (14, .dat (.sc (.int .i64 (e.length : Int)))), (15, .dat (.sc (.int .i64 v1)))], [], 32⟩ : X)) hm (Wk_J hL ⟨[(5, []), (6, []), (13, []), (14, []), (15, [])], [], [], 32⟩ (by kernel_rfl)) ?_
    rintro ⟨v, s, v1⟩ r0 hm hb
    rw [i_longestRow_L1] at hm
    refine X_reg_seq ty_ok Γok hL [] .nil (by kernel_rfl) ?_
    refine Ok_seq ?_
    refine X_cond (decide (v1 < (e.length : Int))) (by kernel_rfl) (fun hc => ?_) (fun hc => ?_)
    · have hm := it hc hm
      refine X_skip ?_
      refine thN ?_
      refine Ok_seq ?_
      refine Ok_block ?_
      obtain ⟨e1, h1, hm⟩ := obind hm
      refine X_reg_seq ty_ok Γok hL [(0, .d (Enc.e e1))] (.cons (idx_m (f := Enc.e) h1) .nil) (by kernel_rfl) ?_
      refine X_reg_seq ty_ok Γok hL [] .nil (by kernel_rfl) ?_
      obtain ⟨s1, hv, hk⟩ := obind hm
      refine X_join (n := 28) (fun (s1 : Int) => (⟨[(5, .dat (.sc (.int .i64 v))), (6, .dat (.sc (.int .i64 s1))), (13, .dat (Enc.e e)), (14, .dat (.sc (.int .i64 (e.length : Int)))), (15, .dat (.sc (.int .i64 v1)))], [], 32⟩ : X)) s1 ?_ ?_
      · have hm := hv
        refine X_reg_seq ty_ok Γok hL [] .nil (by kernel_rfl) ?_
        refine X_cond (decide (e1 < 0)) (by kernel_rfl) (fun hc1 => ?_) (fun hc1 => ?_)
        · have hm := it hc1 hm
          refine X_reg ty_ok Γok hL [] .nil (by kernel_rfl) ?_
          obtain rfl := some_inj hm
          exact thN (Wk_J hL ⟨[(5, []), (6, []), (13, []), (14, []), (15, [])], [], [], 32⟩ (by kernel_rfl))
        · have hm := ie hc1 hm
          refine X_skip ?_
          obtain rfl := some_inj hm
          exact thN (Wk_J hL ⟨[(5, []), (6, []), (13, []), (14, []), (15, [])], [], [], 32⟩ (by kernel_rfl))
      have hm := hk
      refine X_reg ty_ok Γok hL [] .nil (by kernel_rfl) ?_
      refine ibN ?_
      refine thN ?_
      refine X_reg ty_ok Γok hL [] .nil (by kernel_rfl) ?_
      obtain rfl := some_inj hm
      exact thN ⟨_, rfl, Wk_J hL ⟨[(5, []), (6, []), (13, []), (14, []), (15, [])], [], [], 32⟩ (by kernel_rfl)⟩
    · have hm := ie hc hm
      obtain rfl := some_inj hm
      obtain rfl := hb _ rfl
      refine Ok_exit ?_
      refine thE ?_
      refine thE ?_
      refine ibE ?_
      exact thN (Wk_J hL ⟨[(5, [])], [], [], 32⟩ (by kernel_rfl))
  intro s2 hw
  have hm := hk1
  refine thN ?_
  refine Ok_weak hw ?_
  refine X_reg_seq ty_ok Γok hL [] .nil (by kernel_rfl) ?_
  obtain rfl := some_inj hm
  refine Ok_ret ?_
  repeat (first | refine thR ?_ | refine ibR ?_)
  exact X_fin [] [] (by kernel_rfl) trivial
abbrev i_keepsRules_r (y : Bool) : AV := .dat (Enc.e y)
abbrev i_keepsRules_n (y : Bool) : List Obj' := []
abbrev i_keepsRules_o (x : Roster × Int) (y : Bool) : List Obj' := []
noncomputable def i_keepsRules_S : FnSpec := modS [.rd, .rd] (fun x : Roster × Int => [Enc.e x.1, Enc.e x.2]) (fun x : Roster × Int => []) (fun x : Roster × Int => i_keepsRules x.1 x.2) i_keepsRules_r i_keepsRules_n i_keepsRules_o
theorem i_keepsRules_c {r : Roster} {driver : Int} {y : Bool} (h : i_keepsRules r driver = some y) : CallOK i_keepsRules_S [Enc.e r, Enc.e driver] [] (i_keepsRules_r y) (i_keepsRules_n y) (i_keepsRules_o (r, driver) y) :=
  modS_call (by
    rintro ⟨a0, a1⟩ ⟨b0, b1⟩ h hO
    have q0 : a0 = b0 := Enc.inj _ _ (congrArg (fun l => List.getD l 0 (.sc undef)) h)
    have q1 : a1 = b1 := Enc.inj _ _ (congrArg (fun l => List.getD l 1 (.sc undef)) h)
    subst q0; subst q1; rfl) (x := (r, driver)) h
theorem i_keepsRules_ok : FnOK Try.prog 104 i_keepsRules_S := by
  have Γok : ∀ f S, lookF f [(98, i_busiestWeek_S), (198, i_brokenRests_S), (199, i_longestRow_S)] = some S → FnOK Try.prog f S := lookF_ok (allF_cons i_busiestWeek_ok (allF_cons i_brokenRests_ok (allF_cons i_longestRow_ok allF_nil)))
  have Γlive : Live (fun f => lookF f [(98, i_busiestWeek_S), (198, i_brokenRests_S), (199, i_longestRow_S)]) := lookF_live (allL_cons modS_live (allL_cons modS_live (allL_cons modS_live allL_nil)))
  refine fnOK_mod ty_ok (fun args w => Try.call104 args w) Try.func104 rfl [.tmp 4] (by rw [Try.results104]) 34 Try.ntmps104 16 rfl (fun _ => by first | exact Nat.zero_le _ | (simp)) ?_
  rintro ⟨r, driver⟩ y cx hm hL
  have hm : i_keepsRules r driver = some y := hm
  have hL : cx.L = 0 := hL
  unfold i_keepsRules at hm
  refine X_reg_seq ty_ok Γok hL [] .nil (by kernel_rfl) ?_
  obtain ⟨r1, h, hm⟩ := obind hm
  refine X_reg_seq ty_ok Γok hL [(2, .c (i_busiestWeek_r r1) (i_busiestWeek_n r1) (i_busiestWeek_o (r, driver) r1))] (.cons (i_busiestWeek_c h) .nil) (by kernel_rfl) ?_
  obtain ⟨r4, h3, hm⟩ := obind hm
  obtain ⟨minutes, hv, hk⟩ := obind hm
  refine X_join (n := 34) (fun (minutes : Bool) => (⟨[(4, .dat (.sc (.bool minutes)))], [], 32⟩ : X)) minutes ?_ ?_
  · have hm := hv
    rcases btf ((r4.length : Int) == 0) with hb | hb
    · have hm := it hb hm
      obtain ⟨r5, h4, hm⟩ := obind hm
      rcases btf (decide (r5 ≤ r.Rules.MaxRow)) with hb1 | hb1
      · have hm := it hb1 hm
        obtain rfl := some_inj hm
        refine X_draw mixed ty_ok Γok Γlive [] (by kernel_rfl) [(2, .c (i_brokenRests_r r4) (i_brokenRests_n r4) (i_brokenRests_o (r, driver) r4)), (3, .n (r4.length : Int)), (5, .b true), (8, .c (i_longestRow_r r5) (i_longestRow_n r5) (i_longestRow_o (r, driver) r5)), (14, .b true)] (.cons (i_brokenRests_c h3) (.cons (len_m Enc.e r4) (.cons hb (.cons (i_longestRow_c h4) (.cons hb1 .nil))))) (by kernel_rfl) ?_
        exact thN (Wk_J hL ⟨[(4, [])], [], [], 32⟩ (by kernel_rfl))
      · have hm := ie hb1 hm
        obtain rfl := some_inj hm
        refine X_draw mixed ty_ok Γok Γlive [] (by kernel_rfl) [(2, .c (i_brokenRests_r r4) (i_brokenRests_n r4) (i_brokenRests_o (r, driver) r4)), (3, .n (r4.length : Int)), (5, .b true), (8, .c (i_longestRow_r r5) (i_longestRow_n r5) (i_longestRow_o (r, driver) r5)), (14, .b false)] (.cons (i_brokenRests_c h3) (.cons (len_m Enc.e r4) (.cons hb (.cons (i_longestRow_c h4) (.cons hb1 .nil))))) (by kernel_rfl) ?_
        exact thN (Wk_J hL ⟨[(4, [])], [], [], 32⟩ (by kernel_rfl))
    · have hm := ie hb hm
      obtain rfl := some_inj hm
      refine X_draw mixed ty_ok Γok Γlive [] (by kernel_rfl) [(2, .c (i_brokenRests_r r4) (i_brokenRests_n r4) (i_brokenRests_o (r, driver) r4)), (3, .n (r4.length : Int)), (5, .b false)] (.cons (i_brokenRests_c h3) (.cons (len_m Enc.e r4) (.cons hb .nil))) (by kernel_rfl) ?_
      exact thN (Wk_J hL ⟨[(4, [])], [], [], 32⟩ (by kernel_rfl))
  have hm := hk
  obtain rfl := some_inj hm
  refine Ok_ret ?_
  repeat (first | refine thR ?_ | refine ibR ?_)
  exact X_fin [] [] (by kernel_rfl) trivial
abbrev i_fillDay_a_r (y : (List Int) × (List (List Int))) : AV := .own 0
abbrev i_fillDay_a_n (y : (List Int) × (List (List Int))) : List Obj' := [.arr 3 1 (List.map Enc.e y.1)]
abbrev i_fillDay_a_o (x : Roster × Int) (y : (List Int) × (List (List Int))) : List Obj' := [.arr 49 2 (List.map Enc.e x.1.Shifts), .tab 32 1 [some 3] (List.map Enc.e y.2) 0 none]
noncomputable def i_fillDay_a_S : FnSpec := modS [.ag [.sl, .rd, .rd, .rd, .sl], .rd] (fun x : Roster × Int => [.agg [.sc undef, .sc (.int .i64 x.1.Rules.MinRest), .sc (.int .i64 x.1.Rules.MaxRow), .sc (.int .i64 x.1.Rules.MaxWeek), .sc undef], Enc.e x.2]) (fun x : Roster × Int => [.arr 49 2 (List.map Enc.e x.1.Shifts), .tab 32 1 [some 3] (List.map Enc.e x.1.Plan) 0 none]) (fun x : Roster × Int => i_fillDay_a x.1 x.2) i_fillDay_a_r i_fillDay_a_n i_fillDay_a_o
theorem i_fillDay_a_c {r : Roster} {day : Int} {y : (List Int) × (List (List Int))} (h : i_fillDay_a r day = some y) : CallOK i_fillDay_a_S [.agg [.sc undef, .sc (.int .i64 r.Rules.MinRest), .sc (.int .i64 r.Rules.MaxRow), .sc (.int .i64 r.Rules.MaxWeek), .sc undef], Enc.e day] [.arr 49 2 (List.map Enc.e r.Shifts), .tab 32 1 [some 3] (List.map Enc.e r.Plan) 0 none] (i_fillDay_a_r y) (i_fillDay_a_n y) (i_fillDay_a_o (r, day) y) :=
  modS_call (by
    rintro ⟨a0, a1⟩ ⟨b0, b1⟩ h hO
    have q0 : a0 = b0 := Enc.inj _ _ (congrArg D.agg (cons_eq (congrArg (fun l => D.sl 2 (obL l 0)) hO) (cons_eq (congrArg (fun l => (D.cells (List.getD l 0 (.sc undef))).getD 1 (.sc undef)) h) (cons_eq (congrArg (fun l => (D.cells (List.getD l 0 (.sc undef))).getD 2 (.sc undef)) h) (cons_eq (congrArg (fun l => (D.cells (List.getD l 0 (.sc undef))).getD 3 (.sc undef)) h) (cons_eq (congrArg (fun l => D.sl 1 (obL l 1)) hO) rfl))))))
    have q1 : a1 = b1 := Enc.inj _ _ (congrArg (fun l => List.getD l 1 (.sc undef)) h)
    subst q0; subst q1; rfl) (x := (r, day)) h
theorem i_fillDay_a_ok : FnOK Try.prog 86 i_fillDay_a_S := by
  have Γok : ∀ f S, lookF f [(93, i_missingShifts_S), (101, i_workedMinutes_S), (104, i_keepsRules_S)] = some S → FnOK Try.prog f S := lookF_ok (allF_cons i_missingShifts_ok (allF_cons i_workedMinutes_ok (allF_cons i_keepsRules_ok allF_nil)))
  have Γlive : Live (fun f => lookF f [(93, i_missingShifts_S), (101, i_workedMinutes_S), (104, i_keepsRules_S)]) := lookF_live (allL_cons modS_live (allL_cons modS_live (allL_cons modS_live allL_nil)))
  refine fnOK_mod ty_ok (fun args w => Try.call86 args w) Try.func86 rfl [.tmp 4] (by rw [Try.results86]) 77 Try.ntmps86 16 rfl (fun _ => by first | exact Nat.zero_le _ | (simp)) ?_
  rintro ⟨r, day⟩ y cx hm hL
  have hm : i_fillDay_a r day = some y := hm
  have hL : cx.L = 2 := hL
  unfold i_fillDay_a at hm
  refine X_reg_seq ty_ok Γok hL [] .nil (by kernel_rfl) ?_
  refine X_reg_seq ty_ok Γok hL [] .nil (by kernel_rfl) ?_
  refine Ok_seq ?_
  obtain ⟨r1, h, hm⟩ := obind hm
  refine X_reg_seq ty_ok Γok hL [(2, .cf (i_missingShifts_r r1) (i_missingShifts_n r1) (i_missingShifts_o ((⟨r.Shifts, r.Rules, r.Plan⟩ : Roster), day) r1)), (3, .n (r1.length : Int))] (.cons (i_missingShifts_c h) (.cons (show FlatRes (i_missingShifts_n r1) (i_missingShifts_o ((⟨r.Shifts, r.Rules, r.Plan⟩ : Roster), day) r1) from ⟨(flat_cons flat_arr flat_nil), flat_nil⟩) (.cons (len_m Enc.e r1) .nil))) (by kernel_rfl) ?_
  obtain ⟨vv3, hv4, hk4⟩ := obind hm
  refine X_tail (n := 77) (fun ((v8, s3) : (List (List Int)) × (List Int)) => (⟨[(0, .aggv [.own 0, .dat (.sc (.int .i64 r.Rules.MinRest)), .dat (.sc (.int .i64 r.Rules.MaxRow)), .dat (.sc (.int .i64 r.Rules.MaxWeek)), .own 1]), (5, .own 32)], [(0, some (.arr 49 2 (List.map Enc.e r.Shifts))), (1, some (.tab 32 1 [some 3] (List.map Enc.e v8) 1 none)), (32, some (.arr 3 1 (List.map Enc.e s3)))], 64⟩ : X)) vv3 ?_ ?_
  · have hm := hv4
    refine Ok_block ?_
    refine X_loop (n := 77) (step := i_fillDay_a_L2 r day r1) (fun ((v, v1, s) : Int × (List (List Int)) × (List Int)) => (⟨[(0, .aggv [.own 0, .dat (.sc (.int .i64 r.Rules.MinRest)), .dat (.sc (.int .i64 r.Rules.MaxRow)), .dat (.sc (.int .i64 r.Rules.MaxWeek)), .own 1]), (1, .dat (.sc (.int .i64 day))), (2, .ref 32 0), (5, .own 48), (16, .own 64), (17, .dat (.sc (.int .i64 (r1.length : Int)))), (18, .dat (.sc (.int .i64 v)))], [(0, some (.arr 49 2 (List.map Enc.e r.Shifts))), (1, some (.tab 32 1 [some 3] (List.map Enc.e v1) 1 none)), (32, some (.box [.own 0, .dat (.sc (.int .i64 r.Rules.MinRest)), .dat (.sc (.int .i64 r.Rules.MaxRow)), .dat (.sc (.int .i64 r.Rules.MaxWeek)), .own 1])), (48, some (.arr 3 1 (List.map Enc.e s))), (64, some (.arr 3 1 (List.map Enc.e r1)))], 96⟩ : X)) hm (Wk_J hL ⟨[(0, []), (1, []), (2, []), (5, [.o 48]), (16, []), (17, []), (18, [])], [(0, 0, []), (1, 1, []), (32, 16, []), (64, 96, [])], [(48, 3, 1, [])], 96⟩ (by kernel_rfl)) ?_
    rintro ⟨v, v1, s⟩ r0 hm hb
    rw [i_fillDay_a_L2] at hm
    refine X_reg_seq ty_ok Γok hL [] .nil (by kernel_rfl) ?_
    refine Ok_seq ?_
    refine X_cond (decide (v < (r1.length : Int))) (by kernel_rfl) (fun hc => ?_) (fun hc => ?_)
    · have hm := it hc hm
      refine X_skip ?_
      refine thN ?_
      obtain ⟨vv2, hv, hk⟩ := obind hm
      refine X_join (n := 77) (fun ((v2, s1) : (List (List Int)) × (List Int)) => (⟨[(0, .aggv [.own 0, .dat (.sc (.int .i64 r.Rules.MinRest)), .dat (.sc (.int .i64 r.Rules.MaxRow)), .dat (.sc (.int .i64 r.Rules.MaxWeek)), .own 1]), (1, .dat (.sc (.int .i64 day))), (2, .ref 32 0), (5, .own 48), (16, .own 64), (17, .dat (.sc (.int .i64 (r1.length : Int)))), (18, .dat (.sc (.int .i64 v)))], [(0, some (.arr 49 2 (List.map Enc.e r.Shifts))), (1, some (.tab 32 1 [some 3] (List.map Enc.e v2) 1 none)), (32, some (.box [.own 0, .dat (.sc (.int .i64 r.Rules.MinRest)), .dat (.sc (.int .i64 r.Rules.MaxRow)), .dat (.sc (.int .i64 r.Rules.MaxWeek)), .own 1])), (48, some (.arr 3 1 (List.map Enc.e s1))), (64, some (.arr 3 1 (List.map Enc.e r1)))], 96⟩ : X)) vv2 ?_ ?_
      · have hm := hv
        refine Ok_block ?_
        obtain ⟨e, h1, hm⟩ := obind hm
        refine X_reg_seq ty_ok Γok hL [(0, .d (Enc.e e)), (1, .d (Enc.e e))] (.cons (idx_m (f := Enc.e) h1) (.cons (idx_m2 (f := Enc.e) h1) .nil)) (by kernel_rfl) ?_
        refine X_reg_seq ty_ok Γok hL [] .nil (by kernel_rfl) ?_
        refine Ok_seq ?_
        refine X_reg_seq ty_ok Γok hL [(2, .n (v1.length : Int))] (.cons (len_m Enc.e v1) .nil) (by kernel_rfl) ?_
        obtain ⟨vv1, hv3, hk3⟩ := obind hm
        refine X_tail (n := 77) (fun ((driver2, v7) : Int × (List (List Int))) => (⟨[(0, .aggv [.own 0, .dat (.sc (.int .i64 r.Rules.MinRest)), .dat (.sc (.int .i64 r.Rules.MaxRow)), .dat (.sc (.int .i64 r.Rules.MaxWeek)), .own 1]), (1, .dat (.sc (.int .i64 day))), (2, .ref 32 0), (5, .own 48), (7, .dat (.sc (.int .i64 e))), (8, .dat (.sc (.int .i64 driver2))), (16, .own 64), (17, .dat (.sc (.int .i64 (r1.length : Int)))), (18, .dat (.sc (.int .i64 v)))], [(0, some (.arr 49 2 (List.map Enc.e r.Shifts))), (1, some (.tab 32 1 [some 3] (List.map Enc.e v7) 1 none)), (32, some (.box [.own 0, .dat (.sc (.int .i64 r.Rules.MinRest)), .dat (.sc (.int .i64 r.Rules.MaxRow)), .dat (.sc (.int .i64 r.Rules.MaxWeek)), .own 1])), (48, some (.arr 3 1 (List.map Enc.e s))), (64, some (.arr 3 1 (List.map Enc.e r1)))], 96⟩ : X)) vv1 ?_ ?_
        · have hm := hv3
          refine Ok_block ?_
          refine X_loop (n := 77) (step := i_fillDay_a_L1 r day v1 e) (fun ((driver, row, v3, v4) : Int × Int × Int × (List (List Int))) => (⟨[(0, .aggv [.own 0, .dat (.sc (.int .i64 r.Rules.MinRest)), .dat (.sc (.int .i64 r.Rules.MaxRow)), .dat (.sc (.int .i64 r.Rules.MaxWeek)), .own 1]), (1, .dat (.sc (.int .i64 day))), (2, .ref 32 0), (5, .own 48), (7, .dat (.sc (.int .i64 e))), (8, .dat (.sc (.int .i64 driver))), (9, .dat (.sc (.int .i64 row))), (16, .own 64), (17, .dat (.sc (.int .i64 (r1.length : Int)))), (18, .dat (.sc (.int .i64 v))), (23, .own 1), (24, .dat (.sc (.int .i64 (v1.length : Int)))), (25, .dat (.sc (.int .i64 v3)))], [(0, some (.arr 49 2 (List.map Enc.e r.Shifts))), (1, some (.tab 32 1 [some 3] (List.map Enc.e v4) 1 none)), (32, some (.box [.own 0, .dat (.sc (.int .i64 r.Rules.MinRest)), .dat (.sc (.int .i64 r.Rules.MaxRow)), .dat (.sc (.int .i64 r.Rules.MaxWeek)), .own 1])), (48, some (.arr 3 1 (List.map Enc.e s))), (64, some (.arr 3 1 (List.map Enc.e r1)))], 96⟩ : X)) hm (Wk_J hL ⟨[(0, []), (1, []), (2, []), (5, []), (7, []), (8, []), (9, []), (16, []), (17, []), (18, []), (23, []), (24, []), (25, [])], [(0, 0, []), (1, 1, []), (32, 32, []), (48, 48, []), (64, 64, [])], [], 96⟩ (by kernel_rfl)) ?_
          rintro ⟨driver, row, v3, v4⟩ r0 hm hb1
          rw [i_fillDay_a_L1] at hm
          refine X_reg_seq ty_ok Γok hL [] .nil (by kernel_rfl) ?_
          refine Ok_seq ?_
          refine X_cond (decide (v3 < (v1.length : Int))) (by kernel_rfl) (fun hc1 => ?_) (fun hc1 => ?_)
          · have hm := it hc1 hm
            refine X_skip ?_
            refine thN ?_
            obtain ⟨vv, hv1, hk1⟩ := obind hm
            refine X_join (n := 77) (fun ((driver1, row1, v5) : Int × Int × (List (List Int))) => (⟨[(0, .aggv [.own 0, .dat (.sc (.int .i64 r.Rules.MinRest)), .dat (.sc (.int .i64 r.Rules.MaxRow)), .dat (.sc (.int .i64 r.Rules.MaxWeek)), .own 1]), (1, .dat (.sc (.int .i64 day))), (2, .ref 32 0), (5, .own 48), (7, .dat (.sc (.int .i64 e))), (8, .dat (.sc (.int .i64 driver1))), (9, .dat (.sc (.int .i64 row1))), (16, .own 64), (17, .dat (.sc (.int .i64 (r1.length : Int)))), (18, .dat (.sc (.int .i64 v))), (23, .own 1), (24, .dat (.sc (.int .i64 (v1.length : Int)))), (25, .dat (.sc (.int .i64 v3)))], [(0, some (.arr 49 2 (List.map Enc.e r.Shifts))), (1, some (.tab 32 1 [some 3] (List.map Enc.e v5) 1 none)), (32, some (.box [.own 0, .dat (.sc (.int .i64 r.Rules.MinRest)), .dat (.sc (.int .i64 r.Rules.MaxRow)), .dat (.sc (.int .i64 r.Rules.MaxWeek)), .own 1])), (48, some (.arr 3 1 (List.map Enc.e s))), (64, some (.arr 3 1 (List.map Enc.e r1)))], 96⟩ : X)) vv ?_ ?_
            · have hm := hv1
              refine Ok_block ?_
              obtain ⟨e1, h2, hm⟩ := obind hm
              refine X_reg_seq ty_ok Γok hL [(1, .d (Enc.e e1)), (2, .d (Enc.e e1))] (.cons (idx_m (f := Enc.e) h2) (.cons (idx_m2 (f := Enc.e) h2) .nil)) (by kernel_rfl) ?_
              refine Ok_seq ?_
              obtain ⟨e2, h3, hm⟩ := obind hm
              refine X_reg_seq ty_ok Γok hL [(2, .d (Enc.e e1)), (3, .d2 (Enc.e e1) (Enc.e e2))] (.cons (idx_m2 (f := Enc.e) h2) (.cons (idx_b (f := Enc.e) h3) (.cons (idx_m2 (f := Enc.e) h2) (.cons (idx_m2 (f := Enc.e) h3) .nil)))) (by kernel_rfl) ?_
              refine X_cond (decide (0 ≤ e2)) (by kernel_rfl) (fun hc2 => ?_) (fun hc2 => ?_)
              · have hm := it hc2 hm
                refine Ok_exit ?_
                refine thE ?_
                refine ibE ?_
                obtain rfl := some_inj hm
                exact thN (Wk_J hL ⟨[(0, []), (1, []), (2, []), (5, []), (7, []), (8, []), (9, []), (16, []), (17, []), (18, []), (23, []), (24, []), (25, [])], [(0, 0, []), (1, 1, []), (32, 32, []), (48, 48, []), (64, 64, [])], [], 96⟩ (by kernel_rfl))
              · have hm := ie hc2 hm
                refine X_skip ?_
                refine thN ?_
                obtain ⟨r2, h4, hm⟩ := obind hm
                refine X_reg_seq ty_ok Γok hL [(2, .c (i_workedMinutes_r r2) (i_workedMinutes_n r2) (i_workedMinutes_o ((⟨r.Shifts, r.Rules, v4⟩ : Roster), v3) r2))] (.cons (i_workedMinutes_c h4) .nil) (by kernel_rfl) ?_
                obtain ⟨e3, h5, hm⟩ := obind hm
                refine X_reg_seq ty_ok Γok hL [(3, .d (Enc.e e1)), (4, .sd2 (Enc.e e1) (Enc.e e3) (List.map Enc.e (e1.set day.toNat e)) (List.map Enc.e (v4.set v3.toNat (e1.set day.toNat e))))] (.cons (idx_m2 (f := Enc.e) h2) (.cons (idx_b (f := Enc.e) h5) (.cons (idx_m2 (f := Enc.e) h2) (.cons (idx_m2 (f := Enc.e) h5) (.cons (set_m Enc.e e1 day.toNat e) (.cons (set_m Enc.e v4 v3.toNat (e1.set day.toNat e)) .nil)))))) (by kernel_rfl) ?_
                obtain ⟨r3, h6, hm⟩ := obind hm
                refine X_reg_seq ty_ok Γok hL [(2, .c (i_keepsRules_r r3) (i_keepsRules_n r3) (i_keepsRules_o ((⟨r.Shifts, r.Rules, (v4.set v3.toNat (e1.set day.toNat e))⟩ : Roster), v3) r3))] (.cons (i_keepsRules_c h6) .nil) (by kernel_rfl) ?_
                obtain ⟨e4, h7, hm⟩ := obind hm
                refine X_reg_seq ty_ok Γok hL [(2, .d (Enc.e (e1.set day.toNat e))), (3, .sd2 (Enc.e (e1.set day.toNat e)) (Enc.e e4) (List.map Enc.e ((e1.set day.toNat e).set day.toNat (-1))) (List.map Enc.e ((v4.set v3.toNat (e1.set day.toNat e)).set v3.toNat ((e1.set day.toNat e).set day.toNat (-1)))))] (.cons (idx_m2 (f := Enc.e) (idx_set (y := (e1.set day.toNat e)) h2)) (.cons (idx_b (f := Enc.e) h7) (.cons (idx_m2 (f := Enc.e) (idx_set (y := (e1.set day.toNat e)) h2)) (.cons (idx_m2 (f := Enc.e) h7) (.cons (set_m Enc.e (e1.set day.toNat e) day.toNat (-1)) (.cons (set_m Enc.e (v4.set v3.toNat (e1.set day.toNat e)) v3.toNat ((e1.set day.toNat e).set day.toNat (-1))) .nil)))))) (by kernel_rfl) ?_
                obtain ⟨v6, hv2, hk2⟩ := obind hm
                refine X_join (n := 77) (fun (v6 : Bool) => (⟨[(0, .aggv [.own 0, .dat (.sc (.int .i64 r.Rules.MinRest)), .dat (.sc (.int .i64 r.Rules.MaxRow)), .dat (.sc (.int .i64 r.Rules.MaxWeek)), .own 1]), (1, .dat (.sc (.int .i64 day))), (2, .ref 32 0), (5, .own 48), (7, .dat (.sc (.int .i64 e))), (8, .dat (.sc (.int .i64 driver))), (9, .dat (.sc (.int .i64 row))), (10, .dat (.sc (.int .i64 v3))), (12, .dat (.sc (.int .i64 r2))), (16, .own 64), (17, .dat (.sc (.int .i64 (r1.length : Int)))), (18, .dat (.sc (.int .i64 v))), (23, .own 1), (24, .dat (.sc (.int .i64 (v1.length : Int)))), (25, .dat (.sc (.int .i64 v3))), (57, .dat (.sc (.bool v6)))], [(0, some (.arr 49 2 (List.map Enc.e r.Shifts))), (1, some (.tab 32 1 [some 3] (List.map Enc.e ((v4.set v3.toNat (e1.set day.toNat e)).set v3.toNat ((e1.set day.toNat e).set day.toNat (-1)))) 1 none)), (32, some (.box [.own 0, .dat (.sc (.int .i64 r.Rules.MinRest)), .dat (.sc (.int .i64 r.Rules.MaxRow)), .dat (.sc (.int .i64 r.Rules.MaxWeek)), .own 1])), (48, some (.arr 3 1 (List.map Enc.e s))), (64, some (.arr 3 1 (List.map Enc.e r1)))], 96⟩ : X)) v6 ?_ ?_
                · have hm := hv2
                  rcases btf r3 with hb2 | hb2
                  · have hm := it hb2 hm
                    rcases btf (decide (driver < 0)) with hb3 | hb3
                    · have hm := it hb3 hm
                      obtain rfl := some_inj hm
                      refine X_reg ty_ok Γok hL [(1, .b true), (4, .b true)] (.cons hb2 (.cons hb3 .nil)) (by kernel_rfl) ?_
                      exact thN (Wk_J hL ⟨[(0, []), (1, []), (2, []), (5, []), (7, []), (8, []), (9, []), (10, []), (12, []), (16, []), (17, []), (18, []), (23, []), (24, []), (25, []), (57, [])], [(0, 0, []), (1, 1, []), (32, 32, []), (48, 48, []), (64, 64, [])], [], 96⟩ (by kernel_rfl))
                    · have hm := ie hb3 hm
                      obtain rfl := some_inj hm
                      refine X_reg ty_ok Γok hL [(1, .b true), (4, .b false)] (.cons hb2 (.cons hb3 .nil)) (by kernel_rfl) ?_
                      exact thN (Wk_J hL ⟨[(0, []), (1, []), (2, []), (5, []), (7, []), (8, []), (9, []), (10, []), (12, []), (16, []), (17, []), (18, []), (23, []), (24, []), (25, []), (57, [])], [(0, 0, []), (1, 1, []), (32, 32, []), (48, 48, []), (64, 64, [])], [], 96⟩ (by kernel_rfl))
                  · have hm := ie hb2 hm
                    obtain rfl := some_inj hm
                    refine X_reg ty_ok Γok hL [(1, .b false)] (.cons hb2 .nil) (by kernel_rfl) ?_
                    exact thN (Wk_J hL ⟨[(0, []), (1, []), (2, []), (5, []), (7, []), (8, []), (9, []), (10, []), (12, []), (16, []), (17, []), (18, []), (23, []), (24, []), (25, []), (57, [])], [(0, 0, []), (1, 1, []), (32, 32, []), (48, 48, []), (64, 64, [])], [], 96⟩ (by kernel_rfl))
                have hm := hk2
                refine X_cond v6 (by kernel_rfl) (fun hc3 => ?_) (fun hc3 => ?_)
                · have hm := it hc3 hm
                  refine X_reg ty_ok Γok hL [] .nil (by kernel_rfl) ?_
                  refine ibN ?_
                  obtain rfl := some_inj hm
                  exact thN (Wk_J hL ⟨[(0, []), (1, []), (2, []), (5, []), (7, []), (8, []), (9, []), (16, []), (17, []), (18, []), (23, []), (24, []), (25, [])], [(0, 0, []), (1, 1, []), (32, 32, []), (48, 48, []), (64, 64, [])], [], 96⟩ (by kernel_rfl))
                · have hm := ie hc3 hm
                  refine X_skip ?_
                  refine ibN ?_
                  obtain rfl := some_inj hm
                  exact thN (Wk_J hL ⟨[(0, []), (1, []), (2, []), (5, []), (7, []), (8, []), (9, []), (16, []), (17, []), (18, []), (23, []), (24, []), (25, [])], [(0, 0, []), (1, 1, []), (32, 32, []), (48, 48, []), (64, 64, [])], [], 96⟩ (by kernel_rfl))
            obtain ⟨driver1, row1, v5⟩ := vv
            have hm := hk1
            refine X_reg ty_ok Γok hL [] .nil (by kernel_rfl) ?_
            obtain rfl := some_inj hm
            exact thN ⟨_, rfl, Wk_J hL ⟨[(0, []), (1, []), (2, []), (5, []), (7, []), (8, []), (9, []), (16, []), (17, []), (18, []), (23, []), (24, []), (25, [])], [(0, 0, []), (1, 1, []), (32, 32, []), (48, 48, []), (64, 64, [])], [], 96⟩ (by kernel_rfl)⟩
          · have hm := ie hc1 hm
            obtain rfl := some_inj hm
            obtain rfl := hb1 _ rfl
            refine Ok_exit ?_
            refine thE ?_
            refine thE ?_
            refine ibE ?_
            exact thN (Wk_J hL ⟨[(0, []), (1, []), (2, []), (5, []), (7, []), (8, []), (16, []), (17, []), (18, [])], [(0, 0, []), (1, 1, []), (32, 32, []), (48, 48, []), (64, 64, [])], [], 96⟩ (by kernel_rfl))
        obtain ⟨driver2, v7⟩ := vv1
        intro s2 hw
        have hm := hk3
        refine thN ?_
        refine Ok_weak hw ?_
        refine X_reg_seq ty_ok Γok hL [] .nil (by kernel_rfl) ?_
        refine X_cond (decide (driver2 < 0)) (by kernel_rfl) (fun hc4 => ?_) (fun hc4 => ?_)
        · have hm := it hc4 hm
          obtain ⟨u, h8, hm⟩ := obind hm
          refine X_reg ty_ok Γok hL [(3, .l (List.map Enc.e (s ++ ([e] : List Int))))] (.cons (app_p (f := Enc.e) (g := Enc.e) (l := s) (r := ([e] : List Int)) (b := 8) (chk_t h8) rfl) (.cons (app_m Enc.e s ([e] : List Int)) .nil)) (by kernel_rfl) ?_
          refine ibN ?_
          obtain rfl := some_inj hm
          exact thN (Wk_J hL ⟨[(0, []), (1, []), (2, []), (5, []), (16, []), (17, []), (18, [])], [(0, 0, []), (1, 1, []), (32, 32, []), (48, 176, []), (64, 64, [])], [], 96⟩ (by kernel_rfl))
        · have hm := ie hc4 hm
          obtain ⟨e5, h9, hm⟩ := obind hm
          obtain ⟨e6, h10, hm⟩ := obind hm
          refine X_reg ty_ok Γok hL [(3, .d (Enc.e e5)), (4, .d (Enc.e e5)), (7, .d (Enc.e e5)), (8, .sd2 (Enc.e e5) (Enc.e e6) (List.map Enc.e (e5.set day.toNat e)) (List.map Enc.e (v7.set driver2.toNat (e5.set day.toNat e))))] (.cons (idx_m (f := Enc.e) h9) (.cons (idx_m2 (f := Enc.e) h9) (.cons (idx_m2 (f := Enc.e) h9) (.cons (idx_b (f := Enc.e) h10) (.cons (idx_m2 (f := Enc.e) h9) (.cons (idx_m2 (f := Enc.e) h10) (.cons (set_m Enc.e e5 day.toNat e) (.cons (set_m Enc.e v7 driver2.toNat (e5.set day.toNat e)) .nil)))))))) (by kernel_rfl) ?_
          refine ibN ?_
          obtain rfl := some_inj hm
          exact thN (Wk_J hL ⟨[(0, []), (1, []), (2, []), (5, []), (16, []), (17, []), (18, [])], [(0, 0, []), (1, 1, []), (32, 32, []), (48, 48, []), (64, 64, [])], [], 96⟩ (by kernel_rfl))
      obtain ⟨v2, s1⟩ := vv2
      have hm := hk
      refine X_reg ty_ok Γok hL [] .nil (by kernel_rfl) ?_
      obtain rfl := some_inj hm
      exact thN ⟨_, rfl, Wk_J hL ⟨[(0, []), (1, []), (2, []), (5, []), (16, []), (17, []), (18, [])], [(0, 0, []), (1, 1, []), (32, 32, []), (48, 48, []), (64, 64, [])], [], 96⟩ (by kernel_rfl)⟩
    · have hm := ie hc hm
      obtain rfl := some_inj hm
      obtain rfl := hb _ rfl
      refine Ok_exit ?_
      refine thE ?_
      refine thE ?_
      refine ibE ?_
      exact thN (Wk_J hL ⟨[(0, []), (5, [])], [(0, 0, []), (1, 1, []), (32, 48, [])], [], 64⟩ (by kernel_rfl))
  obtain ⟨v8, s3⟩ := vv3
  intro s4 hw1
  have hm := hk4
  refine thN ?_
  refine Ok_weak hw1 ?_
  refine X_reg_seq ty_ok Γok hL [] .nil (by kernel_rfl) ?_
  obtain rfl := some_inj hm
  refine Ok_ret ?_
  repeat (first | refine thR ?_ | refine ibR ?_)
  exact X_fin [32] [] (by kernel_rfl) trivial
abbrev i_FillDay_r (y : Roster × (List Int) × Bool) : AV := .tup [.dat (Enc.e y.1), .dat (Enc.e y.2.1), .dat (Enc.e y.2.2)]
abbrev i_FillDay_n (y : Roster × (List Int) × Bool) : List Obj' := []
abbrev i_FillDay_o (x : Roster × Int) (y : Roster × (List Int) × Bool) : List Obj' := []
noncomputable def i_FillDay_S : FnSpec := modS [.rd, .rd] (fun x : Roster × Int => [Enc.e x.1, Enc.e x.2]) (fun x : Roster × Int => []) (fun x : Roster × Int => i_FillDay x.1 x.2) i_FillDay_r i_FillDay_n i_FillDay_o
theorem i_FillDay_c {r : Roster} {day : Int} {y : Roster × (List Int) × Bool} (h : i_FillDay r day = some y) : CallOK i_FillDay_S [Enc.e r, Enc.e day] [] (i_FillDay_r y) (i_FillDay_n y) (i_FillDay_o (r, day) y) :=
  modS_call (by
    rintro ⟨a0, a1⟩ ⟨b0, b1⟩ h hO
    have q0 : a0 = b0 := Enc.inj _ _ (congrArg (fun l => List.getD l 0 (.sc undef)) h)
    have q1 : a1 = b1 := Enc.inj _ _ (congrArg (fun l => List.getD l 1 (.sc undef)) h)
    subst q0; subst q1; rfl) (x := (r, day)) h
theorem i_FillDay_ok : FnOK Try.prog 11 i_FillDay_S := by
  have Γok : ∀ f S, lookF f [(16, i_IsValidRoster_S), (84, i_isRosterDay_S), (85, i_copyRoster_S), (86, i_fillDay_a_S)] = some S → FnOK Try.prog f S := lookF_ok (allF_cons i_IsValidRoster_ok (allF_cons i_isRosterDay_ok (allF_cons i_copyRoster_ok (allF_cons i_fillDay_a_ok allF_nil))))
  have Γlive : Live (fun f => lookF f [(16, i_IsValidRoster_S), (84, i_isRosterDay_S), (85, i_copyRoster_S), (86, i_fillDay_a_S)]) := lookF_live (allL_cons modS_live (allL_cons modS_live (allL_cons modS_live (allL_cons modS_live allL_nil))))
  refine fnOK_mod ty_ok (fun args w => Try.call11 args w) Try.func11 rfl [.cell 4 29, .tmp 5, .tmp 6] (by rw [Try.results11]) 26 Try.ntmps11 16 rfl (fun _ => by first | exact Nat.zero_le _ | (simp)) ?_
  rintro ⟨r, day⟩ y cx hm hL
  have hm : i_FillDay r day = some y := hm
  have hL : cx.L = 0 := hL
  unfold i_FillDay at hm
  refine X_reg_seq ty_ok Γok hL [] .nil (by kernel_rfl) ?_
  refine Ok_seq ?_
  obtain ⟨r1, h, hm⟩ := obind hm
  obtain ⟨v, hv, hk⟩ := obind hm
  refine X_join (n := 26) (fun (v : Bool) => (⟨[(1, .dat (.sc (.int .i64 day))), (2, .ref 16 0), (4, .ref 32 0), (17, .dat (.sc (.bool v)))], [(16, some (.box [.dat (Enc.e r.Shifts), .dat (.sc (.int .i64 r.Rules.MinRest)), .dat (.sc (.int .i64 r.Rules.MaxRow)), .dat (.sc (.int .i64 r.Rules.MaxWeek)), .dat (Enc.e r.Plan)])), (32, some (.box [.dat (.sc (.slice none 0 0)), .dat (.sc (.int .i64 0)), .dat (.sc (.int .i64 0)), .dat (.sc (.int .i64 0)), .dat (.sc (.slice none 0 0))]))], 64⟩ : X)) v ?_ ?_
  · have hm := hv
    rcases btf (!r1) with hb | hb
    · have hm := it hb hm
      obtain rfl := some_inj hm
      refine X_reg ty_ok Γok hL [(1, .c (i_IsValidRoster_r r1) (i_IsValidRoster_n r1) (i_IsValidRoster_o r r1)), (3, .b true)] (.cons (i_IsValidRoster_c h) (.cons hb .nil)) (by kernel_rfl) ?_
      exact thN (Wk_J hL ⟨[(1, []), (2, []), (4, []), (17, [])], [(16, 16, []), (32, 32, [])], [], 64⟩ (by kernel_rfl))
    · have hm := ie hb hm
      obtain ⟨r2, h1, hm⟩ := obind hm
      obtain rfl := some_inj hm
      refine X_reg ty_ok Γok hL [(1, .c (i_IsValidRoster_r r1) (i_IsValidRoster_n r1) (i_IsValidRoster_o r r1)), (3, .b false), (6, .c (i_isRosterDay_r r2) (i_isRosterDay_n r2) (i_isRosterDay_o (r, day) r2))] (.cons (i_IsValidRoster_c h) (.cons hb (.cons (i_isRosterDay_c h1) .nil))) (by kernel_rfl) ?_
      exact thN (Wk_J hL ⟨[(1, []), (2, []), (4, []), (17, [])], [(16, 16, []), (32, 32, [])], [], 64⟩ (by kernel_rfl))
  have hm := hk
  refine X_cond v (by kernel_rfl) (fun hc => ?_) (fun hc => ?_)
  · have hm := it hc hm
    refine X_reg_seq ty_ok Γok hL [] .nil (by kernel_rfl) ?_
    obtain rfl := some_inj hm
    refine Ok_ret ?_
    repeat (first | refine thR ?_ | refine ibR ?_)
    exact X_fin [] [[.z 2, .k, .k, .k, .z 1], [.z 1]] (by kernel_rfl) trivial
  · have hm := ie hc hm
    refine X_skip ?_
    refine thN ?_
    obtain ⟨r3, h2, hm⟩ := obind hm
    refine X_reg_seq ty_ok Γok hL [(1, .c (i_copyRoster_r r3) (i_copyRoster_n r3) (i_copyRoster_o r r3))] (.cons (i_copyRoster_c h2) .nil) (by kernel_rfl) ?_
    obtain ⟨r4, h3, hm⟩ := obind hm
    refine X_reg_seq ty_ok Γok hL [(2, .c (i_fillDay_a_r r4) (i_fillDay_a_n r4) (i_fillDay_a_o ((⟨r3.Shifts, r3.Rules, r3.Plan⟩ : Roster), day) r4))] (.cons (i_fillDay_a_c h3) .nil) (by kernel_rfl) ?_
    refine X_reg_seq ty_ok Γok hL [] .nil (by kernel_rfl) ?_
    obtain rfl := some_inj hm
    refine Ok_ret ?_
    repeat (first | refine thR ?_ | refine ibR ?_)
    exact X_fin [] [] (by kernel_rfl) trivial
abbrev s_l1In_r (y : Bool) : AV := .dat (Enc.e y)
abbrev s_l1In_n (y : Bool) : List Obj' := []
abbrev s_l1In_o (x : Int × Int × Int) (y : Bool) : List Obj' := []
noncomputable def s_l1In_S : FnSpec := modS [.rd, .rd, .rd] (fun x : Int × Int × Int => [Enc.e x.1, Enc.e x.2.1, Enc.e x.2.2]) (fun x : Int × Int × Int => []) (fun x : Int × Int × Int => s_l1In x.1 x.2.1 x.2.2) s_l1In_r s_l1In_n s_l1In_o
theorem s_l1In_c {x : Int} {a : Int} {b : Int} {y : Bool} (h : s_l1In x a b = some y) : CallOK s_l1In_S [Enc.e x, Enc.e a, Enc.e b] [] (s_l1In_r y) (s_l1In_n y) (s_l1In_o (x, a, b) y) :=
  modS_call (by
    rintro ⟨a0, a1, a2⟩ ⟨b0, b1, b2⟩ h hO
    have q0 : a0 = b0 := Enc.inj _ _ (congrArg (fun l => List.getD l 0 (.sc undef)) h)
    have q1 : a1 = b1 := Enc.inj _ _ (congrArg (fun l => List.getD l 1 (.sc undef)) h)
    have q2 : a2 = b2 := Enc.inj _ _ (congrArg (fun l => List.getD l 2 (.sc undef)) h)
    subst q0; subst q1; subst q2; rfl) (x := (x, a, b)) h
theorem s_l1In_ok : FnOK Try.prog 88 s_l1In_S := by
  have Γok : ∀ f S, lookF f [] = some S → FnOK Try.prog f S := lookF_ok allF_nil
  have Γlive : Live (fun f => lookF f []) := lookF_live allL_nil
  refine fnOK_mod ty_ok (fun args w => Try.call88 args w) Try.func88 rfl [.tmp 6] (by rw [Try.results88]) 15 Try.ntmps88 16 rfl (fun _ => by first | exact Nat.zero_le _ | (simp)) ?_
  rintro ⟨x, a, b⟩ y cx hm hL
  have hm : s_l1In x a b = some y := hm
  have hL : cx.L = 0 := hL
  unfold s_l1In at hm
  refine X_reg_seq ty_ok Γok hL [] .nil (by kernel_rfl) ?_
  obtain ⟨v, hv, hk⟩ := obind hm
  refine X_join (n := 15) (fun (v : Bool) => (⟨[(6, .dat (.sc (.bool v)))], [], 32⟩ : X)) v ?_ ?_
  · have hm := hv
    rcases btf (decide (a ≤ x)) with hb | hb
    · have hm := it hb hm
      obtain rfl := some_inj hm
      refine X_reg ty_ok Γok hL [(3, .b true)] (.cons hb .nil) (by kernel_rfl) ?_
      exact thN (Wk_J hL ⟨[(6, [])], [], [], 32⟩ (by kernel_rfl))
    · have hm := ie hb hm
      obtain rfl := some_inj hm
      refine X_reg ty_ok Γok hL [(3, .b false)] (.cons hb .nil) (by kernel_rfl) ?_
      exact thN (Wk_J hL ⟨[(6, [])], [], [], 32⟩ (by kernel_rfl))
  have hm := hk
  obtain rfl := some_inj hm
  refine Ok_ret ?_
  repeat (first | refine thR ?_ | refine ibR ?_)
  exact X_fin [] [] (by kernel_rfl) trivial
abbrev s_l4Time_r (y : Bool) : AV := .dat (Enc.e y)
abbrev s_l4Time_n (y : Bool) : List Obj' := []
abbrev s_l4Time_o (x : Int) (y : Bool) : List Obj' := []
noncomputable def s_l4Time_S : FnSpec := modS [.rd] (fun x : Int => [Enc.e x]) (fun x : Int => []) (fun x : Int => s_l4Time x) s_l4Time_r s_l4Time_n s_l4Time_o
theorem s_l4Time_c {t : Int} {y : Bool} (h : s_l4Time t = some y) : CallOK s_l4Time_S [Enc.e t] [] (s_l4Time_r y) (s_l4Time_n y) (s_l4Time_o t y) :=
  modS_call (by
    rintro a0 b0 h hO
    have q0 : a0 = b0 := Enc.inj _ _ (congrArg (fun l => List.getD l 0 (.sc undef)) h)
    subst q0; rfl) (x := t) h
theorem s_l4Time_ok : FnOK Try.prog 204 s_l4Time_S := by
  have Γok : ∀ f S, lookF f [(88, s_l1In_S)] = some S → FnOK Try.prog f S := lookF_ok (allF_cons s_l1In_ok allF_nil)
  have Γlive : Live (fun f => lookF f [(88, s_l1In_S)]) := lookF_live (allL_cons modS_live allL_nil)
  refine fnOK_mod ty_ok (fun args w => Try.call204 args w) Try.func204 rfl [.tmp 2] (by rw [Try.results204]) 5 Try.ntmps204 16 rfl (fun _ => by first | exact Nat.zero_le _ | (simp)) ?_
  rintro t y cx hm hL
  have hm : s_l4Time t = some y := hm
  have hL : cx.L = 0 := hL
  unfold s_l4Time at hm
  refine X_reg_seq ty_ok Γok hL [] .nil (by kernel_rfl) ?_
  obtain ⟨r, h, hm⟩ := obind hm
  refine X_reg_seq ty_ok Γok hL [(1, .c (s_l1In_r r) (s_l1In_n r) (s_l1In_o (t, 0, 1799) r))] (.cons (s_l1In_c h) .nil) (by kernel_rfl) ?_
  obtain rfl := some_inj hm
  refine Ok_ret ?_
  repeat (first | refine thR ?_ | refine ibR ?_)
  exact X_fin [] [] (by kernel_rfl) trivial
abbrev s_l4Span_r (y : Bool) : AV := .dat (Enc.e y)
abbrev s_l4Span_n (y : Bool) : List Obj' := []
abbrev s_l4Span_o (x : Span) (y : Bool) : List Obj' := []
noncomputable def s_l4Span_S : FnSpec := modS [.rd] (fun x : Span => [Enc.e x]) (fun x : Span => []) (fun x : Span => s_l4Span x) s_l4Span_r s_l4Span_n s_l4Span_o
theorem s_l4Span_c {x : Span} {y : Bool} (h : s_l4Span x = some y) : CallOK s_l4Span_S [Enc.e x] [] (s_l4Span_r y) (s_l4Span_n y) (s_l4Span_o x y) :=
  modS_call (by
    rintro a0 b0 h hO
    have q0 : a0 = b0 := Enc.inj _ _ (congrArg (fun l => List.getD l 0 (.sc undef)) h)
    subst q0; rfl) (x := x) h
theorem s_l4Span_ok : FnOK Try.prog 111 s_l4Span_S := by
  have Γok : ∀ f S, lookF f [(204, s_l4Time_S)] = some S → FnOK Try.prog f S := lookF_ok (allF_cons s_l4Time_ok allF_nil)
  have Γlive : Live (fun f => lookF f [(204, s_l4Time_S)]) := lookF_live (allL_cons modS_live allL_nil)
  refine fnOK_mod ty_ok (fun args w => Try.call111 args w) Try.func111 rfl [.tmp 2] (by rw [Try.results111]) 18 Try.ntmps111 16 rfl (fun _ => by first | exact Nat.zero_le _ | (simp)) ?_
  rintro x y cx hm hL
  have hm : s_l4Span x = some y := hm
  have hL : cx.L = 0 := hL
  unfold s_l4Span at hm
  refine X_reg_seq ty_ok Γok hL [] .nil (by kernel_rfl) ?_
  obtain ⟨r, h, hm⟩ := obind hm
  obtain ⟨v, hv, hk⟩ := obind hm
  refine X_join (n := 18) (fun (v : Bool) => (⟨[(2, .dat (.sc (.bool v)))], [], 32⟩ : X)) v ?_ ?_
  · have hm := hv
    rcases btf r with hb | hb
    · have hm := it hb hm
      obtain ⟨r1, h1, hm⟩ := obind hm
      rcases btf r1 with hb1 | hb1
      · have hm := it hb1 hm
        obtain rfl := some_inj hm
        refine X_reg ty_ok Γok hL [(2, .c (s_l4Time_r r) (s_l4Time_n r) (s_l4Time_o x.From r)), (3, .b true), (6, .c (s_l4Time_r r1) (s_l4Time_n r1) (s_l4Time_o x.To r1)), (8, .b true)] (.cons (s_l4Time_c h) (.cons hb (.cons (s_l4Time_c h1) (.cons hb1 .nil)))) (by kernel_rfl) ?_
        exact thN (Wk_J hL ⟨[(2, [])], [], [], 32⟩ (by kernel_rfl))
      · have hm := ie hb1 hm
        obtain rfl := some_inj hm
        refine X_reg ty_ok Γok hL [(2, .c (s_l4Time_r r) (s_l4Time_n r) (s_l4Time_o x.From r)), (3, .b true), (6, .c (s_l4Time_r r1) (s_l4Time_n r1) (s_l4Time_o x.To r1)), (8, .b false)] (.cons (s_l4Time_c h) (.cons hb (.cons (s_l4Time_c h1) (.cons hb1 .nil)))) (by kernel_rfl) ?_
        exact thN (Wk_J hL ⟨[(2, [])], [], [], 32⟩ (by kernel_rfl))
    · have hm := ie hb hm
      obtain rfl := some_inj hm
      refine X_reg ty_ok Γok hL [(2, .c (s_l4Time_r r) (s_l4Time_n r) (s_l4Time_o x.From r)), (3, .b false)] (.cons (s_l4Time_c h) (.cons hb .nil)) (by kernel_rfl) ?_
      exact thN (Wk_J hL ⟨[(2, [])], [], [], 32⟩ (by kernel_rfl))
  have hm := hk
  obtain rfl := some_inj hm
  refine Ok_ret ?_
  repeat (first | refine thR ?_ | refine ibR ?_)
  exact X_fin [] [] (by kernel_rfl) trivial
abbrev s_l14Good_r (y : Bool) : AV := .dat (Enc.e y)
abbrev s_l14Good_n (y : Bool) : List Obj' := []
abbrev s_l14Good_o (x : Roster) (y : Bool) : List Obj' := []
noncomputable def s_l14Good_S : FnSpec := modS [.rd] (fun x : Roster => [Enc.e x]) (fun x : Roster => []) (fun x : Roster => s_l14Good x) s_l14Good_r s_l14Good_n s_l14Good_o
theorem s_l14Good_c {r : Roster} {y : Bool} (h : s_l14Good r = some y) : CallOK s_l14Good_S [Enc.e r] [] (s_l14Good_r y) (s_l14Good_n y) (s_l14Good_o r y) :=
  modS_call (by
    rintro a0 b0 h hO
    have q0 : a0 = b0 := Enc.inj _ _ (congrArg (fun l => List.getD l 0 (.sc undef)) h)
    subst q0; rfl) (x := r) h
theorem s_l14Good_ok : FnOK Try.prog 87 s_l14Good_S := by
  have Γok : ∀ f S, lookF f [(88, s_l1In_S), (111, s_l4Span_S)] = some S → FnOK Try.prog f S := lookF_ok (allF_cons s_l1In_ok (allF_cons s_l4Span_ok allF_nil))
  have Γlive : Live (fun f => lookF f [(88, s_l1In_S), (111, s_l4Span_S)]) := lookF_live (allL_cons modS_live (allL_cons modS_live allL_nil))
  refine fnOK_mod ty_ok (fun args w => Try.call87 args w) Try.func87 rfl [.tmp 2] (by rw [Try.results87]) 101 Try.ntmps87 16 rfl (fun _ => by first | exact Nat.zero_le _ | (simp)) ?_
  rintro r y cx hm hL
  have hm : s_l14Good r = some y := hm
  have hL : cx.L = 0 := hL
  unfold s_l14Good at hm
  refine X_reg_seq ty_ok Γok hL [] .nil (by kernel_rfl) ?_
  refine Ok_seq ?_
  obtain ⟨r1, h, hm⟩ := obind hm
  obtain ⟨v, hv, hk⟩ := obind hm
  refine X_join (n := 101) (fun (v : Bool) => (⟨[(1, .ref 16 0), (17, .dat (.sc (.bool v)))], [(16, some (.box [.dat (Enc.e r.Shifts), .dat (.sc (.int .i64 r.Rules.MinRest)), .dat (.sc (.int .i64 r.Rules.MaxRow)), .dat (.sc (.int .i64 r.Rules.MaxWeek)), .dat (Enc.e r.Plan)]))], 48⟩ : X)) v ?_ ?_
  · have hm := hv
    rcases btf (!r1) with hb | hb
    · have hm := it hb hm
      obtain rfl := some_inj hm
      refine X_reg ty_ok Γok hL [(2, .n (r.Shifts.length : Int)), (3, .c (s_l1In_r r1) (s_l1In_n r1) (s_l1In_o ((r.Shifts.length : Int), 1, 8) r1)), (5, .b true)] (.cons (len_m Enc.e r.Shifts) (.cons (s_l1In_c h) (.cons hb .nil))) (by kernel_rfl) ?_
      exact thN (Wk_J hL ⟨[(1, []), (17, [])], [(16, 16, [])], [], 48⟩ (by kernel_rfl))
    · have hm := ie hb hm
      obtain ⟨r2, h1, hm⟩ := obind hm
      obtain rfl := some_inj hm
      refine X_reg ty_ok Γok hL [(2, .n (r.Shifts.length : Int)), (3, .c (s_l1In_r r1) (s_l1In_n r1) (s_l1In_o ((r.Shifts.length : Int), 1, 8) r1)), (5, .b false), (8, .n (r.Plan.length : Int)), (9, .c (s_l1In_r r2) (s_l1In_n r2) (s_l1In_o ((r.Plan.length : Int), 1, 6) r2))] (.cons (len_m Enc.e r.Shifts) (.cons (s_l1In_c h) (.cons hb (.cons (len_m Enc.e r.Plan) (.cons (s_l1In_c h1) .nil))))) (by kernel_rfl) ?_
      exact thN (Wk_J hL ⟨[(1, []), (17, [])], [(16, 16, [])], [], 48⟩ (by kernel_rfl))
  have hm := hk
  refine X_cond v (by kernel_rfl) (fun hc => ?_) (fun hc => ?_)
  · have hm := it hc hm
    refine X_reg_seq ty_ok Γok hL [] .nil (by kernel_rfl) ?_
    obtain rfl := some_inj hm
    refine Ok_ret ?_
    repeat (first | refine thR ?_ | refine ibR ?_)
    exact X_fin [] [] (by kernel_rfl) trivial
  · have hm := ie hc hm
    refine X_skip ?_
    refine thN ?_
    refine Ok_seq ?_
    refine X_reg_seq ty_ok Γok hL [] .nil (by kernel_rfl) ?_
    obtain ⟨v5, hv1, hr, hk1⟩ := flb_t hm
    refine X_tailF (n := 101) (fun (_ : Unit) => (⟨[(1, .ref 16 0)], [(16, some (.box [.dat (Enc.e r.Shifts), .dat (.sc (.int .i64 r.Rules.MinRest)), .dat (.sc (.int .i64 r.Rules.MaxRow)), .dat (.sc (.int .i64 r.Rules.MaxWeek)), .dat (Enc.e r.Plan)]))], 48⟩ : X)) v5 ?_ ?_
    · have hm := hv1
      refine Ok_block ?_
      refine X_loop (n := 101) (step := s_l14Good_L1 r) (fun (i : Int) => (⟨[(1, .ref 16 0), (3, .dat (.sc (.int .i64 i)))], [(16, some (.box [.dat (Enc.e r.Shifts), .dat (.sc (.int .i64 r.Rules.MinRest)), .dat (.sc (.int .i64 r.Rules.MaxRow)), .dat (.sc (.int .i64 r.Rules.MaxWeek)), .dat (Enc.e r.Plan)]))], 48⟩ : X)) hm (Wk_J hL ⟨[(1, []), (3, [])], [(16, 16, [])], [], 48⟩ (by kernel_rfl)) ?_
      rintro i r0 hm hb1
      rw [s_l14Good_L1] at hm
      refine Ok_seq ?_
      refine X_reg_seq ty_ok Γok hL [(3, .n (r.Shifts.length : Int))] (.cons (len_m Enc.e r.Shifts) .nil) (by kernel_rfl) ?_
      refine X_cond (decide (i < (r.Shifts.length : Int))) (by kernel_rfl) (fun hc1 => ?_) (fun hc1 => ?_)
      · have hm := it hc1 hm
        refine X_skip ?_
        refine thN ?_
        refine Ok_seq ?_
        refine Ok_block ?_
        obtain ⟨e, h2, hm⟩ := obind hm
        obtain ⟨r3, h3, hm⟩ := obind hm
        refine X_reg_seq ty_ok Γok hL [(3, .d (Enc.e e)), (5, .c (s_l4Span_r r3) (s_l4Span_n r3) (s_l4Span_o e r3))] (.cons (idx_m (f := Enc.e) h2) (.cons (s_l4Span_c h3) .nil)) (by kernel_rfl) ?_
        refine X_cond (!r3) (by kernel_rfl) (fun hc2 => ?_) (fun hc2 => ?_)
        · have hm := it hc2 hm
          refine X_reg_seq ty_ok Γok hL [] .nil (by kernel_rfl) ?_
          obtain rfl := some_inj hm
          obtain rfl := hb1 _ rfl
          have hm := congrArg some (hr _ rfl)
          obtain rfl := some_inj hm
          refine Ok_ret ?_
          repeat (first | refine thR ?_ | refine ibR ?_)
          exact X_fin [] [] (by kernel_rfl) trivial
        · have hm := ie hc2 hm
          refine X_skip ?_
          refine ibN ?_
          refine thN ?_
          refine X_reg ty_ok Γok hL [] .nil (by kernel_rfl) ?_
          obtain rfl := some_inj hm
          exact thN ⟨_, rfl, Wk_J hL ⟨[(1, []), (3, [])], [(16, 16, [])], [], 48⟩ (by kernel_rfl)⟩
      · have hm := ie hc1 hm
        obtain rfl := some_inj hm
        obtain rfl := hb1 _ rfl
        refine Ok_exit ?_
        refine thE ?_
        refine thE ?_
        refine ibE ?_
        exact thN ⟨_, rfl, Wk_J hL ⟨[(1, [])], [(16, 16, [])], [], 48⟩ (by kernel_rfl)⟩
    rintro ⟨⟩ hu2 s hw
    have hm := hk1 _ hu2
    refine thN ?_
    refine Ok_weak hw ?_
    refine Ok_seq ?_
    refine X_reg_seq ty_ok Γok hL [] .nil (by kernel_rfl) ?_
    obtain ⟨v4, hv4, hr1, hk4⟩ := flb_t hm
    refine X_tailF (n := 101) (fun (_ : Unit) => (⟨[(1, .ref 16 0)], [(16, some (.box [.dat (Enc.e r.Shifts), .dat (.sc (.int .i64 r.Rules.MinRest)), .dat (.sc (.int .i64 r.Rules.MaxRow)), .dat (.sc (.int .i64 r.Rules.MaxWeek)), .dat (Enc.e r.Plan)]))], 48⟩ : X)) v4 ?_ ?_
    · have hm := hv4
      refine Ok_block ?_
      refine X_loop (n := 101) (step := s_l14Good_L3 r) (fun (d : Int) => (⟨[(1, .ref 16 0), (4, .dat (.sc (.int .i64 d)))], [(16, some (.box [.dat (Enc.e r.Shifts), .dat (.sc (.int .i64 r.Rules.MinRest)), .dat (.sc (.int .i64 r.Rules.MaxRow)), .dat (.sc (.int .i64 r.Rules.MaxWeek)), .dat (Enc.e r.Plan)]))], 48⟩ : X)) hm (Wk_J hL ⟨[(1, []), (4, [])], [(16, 16, [])], [], 48⟩ (by kernel_rfl)) ?_
      rintro d r0 hm hb2
      rw [s_l14Good_L3] at hm
      refine Ok_seq ?_
      refine X_reg_seq ty_ok Γok hL [(3, .n (r.Plan.length : Int))] (.cons (len_m Enc.e r.Plan) .nil) (by kernel_rfl) ?_
      refine X_cond (decide (d < (r.Plan.length : Int))) (by kernel_rfl) (fun hc3 => ?_) (fun hc3 => ?_)
      · have hm := it hc3 hm
        refine X_skip ?_
        refine thN ?_
        refine Ok_seq ?_
        refine Ok_block ?_
        refine Ok_seq ?_
        obtain ⟨e5, h8, hm⟩ := obind hm
        obtain ⟨r6, h9, hm⟩ := obind hm
        obtain ⟨v1, hv2, hk2⟩ := obind hm
        refine X_join (n := 101) (fun (v1 : Bool) => (⟨[(1, .ref 16 0), (4, .dat (.sc (.int .i64 d))), (60, .dat (.sc (.bool v1)))], [(16, some (.box [.dat (Enc.e r.Shifts), .dat (.sc (.int .i64 r.Rules.MinRest)), .dat (.sc (.int .i64 r.Rules.MaxRow)), .dat (.sc (.int .i64 r.Rules.MaxWeek)), .dat (Enc.e r.Plan)]))], 48⟩ : X)) v1 ?_ ?_
        · have hm := hv2
          rcases btf (!r6) with hb3 | hb3
          · have hm := it hb3 hm
            obtain rfl := some_inj hm
            refine X_draw mixed ty_ok Γok Γlive [] (by kernel_rfl) [(3, .d (Enc.e e5)), (5, .n (e5.length : Int)), (6, .c (s_l1In_r r6) (s_l1In_n r6) (s_l1In_o ((e5.length : Int), 1, 14) r6)), (8, .b true)] (.cons (idx_m (f := Enc.e) h8) (.cons (len_m Enc.e e5) (.cons (s_l1In_c h9) (.cons hb3 .nil)))) (by kernel_rfl) ?_
            exact thN (Wk_J hL ⟨[(1, []), (4, []), (60, [])], [(16, 16, [])], [], 48⟩ (by kernel_rfl))
          · have hm := ie hb3 hm
            obtain ⟨e6, h10, hm⟩ := obind hm
            obtain ⟨e7, h11, hm⟩ := obind hm
            obtain rfl := some_inj hm
            refine X_draw mixed ty_ok Γok Γlive [] (by kernel_rfl) [(3, .d (Enc.e e5)), (5, .n (e5.length : Int)), (6, .c (s_l1In_r r6) (s_l1In_n r6) (s_l1In_o ((e5.length : Int), 1, 14) r6)), (8, .b false), (12, .d (Enc.e e6)), (14, .n (e6.length : Int)), (17, .d (Enc.e e7)), (19, .n (e7.length : Int))] (.cons (idx_m (f := Enc.e) h8) (.cons (len_m Enc.e e5) (.cons (s_l1In_c h9) (.cons hb3 (.cons (idx_m (f := Enc.e) h10) (.cons (len_m Enc.e e6) (.cons (idx_m (f := Enc.e) h11) (.cons (len_m Enc.e e7) .nil)))))))) (by kernel_rfl) ?_
            exact thN (Wk_J hL ⟨[(1, []), (4, []), (60, [])], [(16, 16, [])], [], 48⟩ (by kernel_rfl))
        have hm := hk2
        refine X_cond v1 (by kernel_rfl) (fun hc4 => ?_) (fun hc4 => ?_)
        · have hm := it hc4 hm
          refine X_reg_seq ty_ok Γok hL [] .nil (by kernel_rfl) ?_
          obtain rfl := some_inj hm
          obtain rfl := hb2 _ rfl
          have hm := congrArg some (hr1 _ rfl)
          obtain rfl := some_inj hm
          refine Ok_ret ?_
          repeat (first | refine thR ?_ | refine ibR ?_)
          exact X_fin [] [] (by kernel_rfl) trivial
        · have hm := ie hc4 hm
          refine X_skip ?_
          refine thN ?_
          refine X_reg_seq ty_ok Γok hL [] .nil (by kernel_rfl) ?_
          obtain ⟨v3, hv3, hr2, hk3⟩ := flb_t hm
          refine X_tailF (n := 101) (fun (_ : Unit) => (⟨[(1, .ref 16 0), (4, .dat (.sc (.int .i64 d)))], [(16, some (.box [.dat (Enc.e r.Shifts), .dat (.sc (.int .i64 r.Rules.MinRest)), .dat (.sc (.int .i64 r.Rules.MaxRow)), .dat (.sc (.int .i64 r.Rules.MaxWeek)), .dat (Enc.e r.Plan)]))], 48⟩ : X)) v3 ?_ ?_
          · have hm := hv3
            refine Ok_block ?_
            refine X_loop (n := 101) (step := s_l14Good_L2 r d) (fun (v2 : Int) => (⟨[(1, .ref 16 0), (4, .dat (.sc (.int .i64 d))), (5, .dat (.sc (.int .i64 v2)))], [(16, some (.box [.dat (Enc.e r.Shifts), .dat (.sc (.int .i64 r.Rules.MinRest)), .dat (.sc (.int .i64 r.Rules.MaxRow)), .dat (.sc (.int .i64 r.Rules.MaxWeek)), .dat (Enc.e r.Plan)]))], 48⟩ : X)) hm (Wk_J hL ⟨[(1, []), (4, []), (5, [])], [(16, 16, [])], [], 48⟩ (by kernel_rfl)) ?_
            rintro v2 r0 hm hb4
            rw [s_l14Good_L2] at hm
            refine Ok_seq ?_
            obtain ⟨e9, h12, hm⟩ := obind hm
            refine X_reg_seq ty_ok Γok hL [(4, .d (Enc.e e9)), (6, .n (e9.length : Int))] (.cons (idx_m (f := Enc.e) h12) (.cons (len_m Enc.e e9) .nil)) (by kernel_rfl) ?_
            refine X_cond (decide (v2 < (e9.length : Int))) (by kernel_rfl) (fun hc5 => ?_) (fun hc5 => ?_)
            · have hm := it hc5 hm
              refine X_skip ?_
              refine thN ?_
              refine Ok_seq ?_
              refine Ok_block ?_
              obtain ⟨e12, h16, hm⟩ := obind hm
              obtain ⟨e13, h17, hm⟩ := obind hm
              obtain ⟨r9, h18, hm⟩ := obind hm
              refine X_draw_seq mixed ty_ok Γok Γlive [] (by kernel_rfl) [(3, .d (Enc.e e12)), (6, .d (Enc.e e13)), (10, .n (r.Shifts.length : Int)), (12, .c (s_l1In_r r9) (s_l1In_n r9) (s_l1In_o (e13, (-1), (w64 ((r.Shifts.length : Int) - 1))) r9))] (.cons (idx_m (f := Enc.e) h16) (.cons (idx_m (f := Enc.e) h17) (.cons (len_m Enc.e r.Shifts) (.cons (s_l1In_c h18) .nil)))) (by kernel_rfl) ?_
              refine X_cond (!r9) (by kernel_rfl) (fun hc6 => ?_) (fun hc6 => ?_)
              · have hm := it hc6 hm
                refine X_reg_seq ty_ok Γok hL [] .nil (by kernel_rfl) ?_
                obtain rfl := some_inj hm
                obtain rfl := hb4 _ rfl
                have hm := congrArg some (hr2 _ rfl)
                obtain rfl := some_inj hm
                obtain rfl := hb2 _ rfl
                have hm := congrArg some (hr1 _ rfl)
                obtain rfl := some_inj hm
                refine Ok_ret ?_
                repeat (first | refine thR ?_ | refine ibR ?_)
                exact X_fin [] [] (by kernel_rfl) trivial
              · have hm := ie hc6 hm
                refine X_skip ?_
                refine ibN ?_
                refine thN ?_
                refine X_reg ty_ok Γok hL [] .nil (by kernel_rfl) ?_
                obtain rfl := some_inj hm
                exact thN ⟨_, rfl, Wk_J hL ⟨[(1, []), (4, []), (5, [])], [(16, 16, [])], [], 48⟩ (by kernel_rfl)⟩
            · have hm := ie hc5 hm
              obtain rfl := some_inj hm
              obtain rfl := hb4 _ rfl
              refine Ok_exit ?_
              refine thE ?_
              refine thE ?_
              refine ibE ?_
              exact thN ⟨_, rfl, Wk_J hL ⟨[(1, []), (4, [])], [(16, 16, [])], [], 48⟩ (by kernel_rfl)⟩
          rintro ⟨⟩ hu s1 hw1
          have hm := hk3 _ hu
          refine ibN ?_
          refine thN ?_
          refine Ok_weak hw1 ?_
          refine X_reg ty_ok Γok hL [] .nil (by kernel_rfl) ?_
          obtain rfl := some_inj hm
          exact thN ⟨_, rfl, Wk_J hL ⟨[(1, []), (4, [])], [(16, 16, [])], [], 48⟩ (by kernel_rfl)⟩
      · have hm := ie hc3 hm
        obtain rfl := some_inj hm
        obtain rfl := hb2 _ rfl
        refine Ok_exit ?_
        refine thE ?_
        refine thE ?_
        refine ibE ?_
        exact thN ⟨_, rfl, Wk_J hL ⟨[(1, [])], [(16, 16, [])], [], 48⟩ (by kernel_rfl)⟩
    rintro ⟨⟩ hu1 s2 hw2
    have hm := hk4 _ hu1
    refine thN ?_
    refine Ok_weak hw2 ?_
    obtain ⟨r12, h19, hm⟩ := obind hm
    obtain ⟨i1, hv5, hk5⟩ := obind hm
    refine X_join (n := 101) (fun (i1 : Bool) => (⟨[(2, .dat (.sc (.bool i1)))], [], 32⟩ : X)) i1 ?_ ?_
    · have hm := hv5
      rcases btf r12 with hb5 | hb5
      · have hm := it hb5 hm
        obtain ⟨r13, h20, hm⟩ := obind hm
        rcases btf r13 with hb6 | hb6
        · have hm := it hb6 hm
          obtain ⟨r14, h21, hm⟩ := obind hm
          obtain rfl := some_inj hm
          refine X_reg ty_ok Γok hL [(3, .c (s_l1In_r r12) (s_l1In_n r12) (s_l1In_o (r.Rules.MinRest, 0, 1440) r12)), (4, .b true), (8, .c (s_l1In_r r13) (s_l1In_n r13) (s_l1In_o (r.Rules.MaxRow, 1, 14) r13)), (10, .b true), (14, .c (s_l1In_r r14) (s_l1In_n r14) (s_l1In_o (r.Rules.MaxWeek, 0, 10080) r14))] (.cons (s_l1In_c h19) (.cons hb5 (.cons (s_l1In_c h20) (.cons hb6 (.cons (s_l1In_c h21) .nil))))) (by kernel_rfl) ?_
          exact thN (Wk_J hL ⟨[(2, [])], [], [], 32⟩ (by kernel_rfl))
        · have hm := ie hb6 hm
          obtain rfl := some_inj hm
          refine X_reg ty_ok Γok hL [(3, .c (s_l1In_r r12) (s_l1In_n r12) (s_l1In_o (r.Rules.MinRest, 0, 1440) r12)), (4, .b true), (8, .c (s_l1In_r r13) (s_l1In_n r13) (s_l1In_o (r.Rules.MaxRow, 1, 14) r13)), (10, .b false)] (.cons (s_l1In_c h19) (.cons hb5 (.cons (s_l1In_c h20) (.cons hb6 .nil)))) (by kernel_rfl) ?_
          exact thN (Wk_J hL ⟨[(2, [])], [], [], 32⟩ (by kernel_rfl))
      · have hm := ie hb5 hm
        obtain rfl := some_inj hm
        refine X_reg ty_ok Γok hL [(3, .c (s_l1In_r r12) (s_l1In_n r12) (s_l1In_o (r.Rules.MinRest, 0, 1440) r12)), (4, .b false)] (.cons (s_l1In_c h19) (.cons hb5 .nil)) (by kernel_rfl) ?_
        exact thN (Wk_J hL ⟨[(2, [])], [], [], 32⟩ (by kernel_rfl))
    have hm := hk5
    obtain rfl := some_inj hm
    refine Ok_ret ?_
    repeat (first | refine thR ?_ | refine ibR ?_)
    exact X_fin [] [] (by kernel_rfl) trivial
abbrev s_l1Own_r (y : (List Int)) : AV := .own 0
abbrev s_l1Own_n (y : (List Int)) : List Obj' := [.arr 3 1 (List.map Enc.e y)]
abbrev s_l1Own_o (x : (List Int)) (y : (List Int)) : List Obj' := []
noncomputable def s_l1Own_S : FnSpec := modS [.rd] (fun x : (List Int) => [Enc.e x]) (fun x : (List Int) => []) (fun x : (List Int) => s_l1Own x) s_l1Own_r s_l1Own_n s_l1Own_o
theorem s_l1Own_c {l : List Int} {y : (List Int)} (h : s_l1Own l = some y) : CallOK s_l1Own_S [Enc.e l] [] (s_l1Own_r y) (s_l1Own_n y) (s_l1Own_o l y) :=
  modS_call (by
    rintro a0 b0 h hO
    have q0 : a0 = b0 := Enc.inj _ _ (congrArg (fun l => List.getD l 0 (.sc undef)) h)
    subst q0; rfl) (x := l) h
theorem s_l1Own_ok : FnOK Try.prog 190 s_l1Own_S := by
  have Γok : ∀ f S, lookF f [] = some S → FnOK Try.prog f S := lookF_ok allF_nil
  have Γlive : Live (fun f => lookF f []) := lookF_live allL_nil
  refine fnOK_mod ty_ok (fun args w => Try.call190 args w) Try.func190 rfl [.tmp 2] (by rw [Try.results190]) 6 Try.ntmps190 16 rfl (fun _ => by first | exact Nat.zero_le _ | (simp)) ?_
  rintro l y cx hm hL
  have hm : s_l1Own l = some y := hm
  have hL : cx.L = 0 := hL
  unfold s_l1Own at hm
  refine X_reg_seq ty_ok Γok hL [] .nil (by kernel_rfl) ?_
  obtain ⟨u, h, hm⟩ := obind hm
  refine X_reg_seq ty_ok Γok hL [(2, .l (List.map Enc.e (([] : List Int) ++ l)))] (.cons (app_p (f := Enc.e) (g := Enc.e) (l := ([] : List Int)) (r := l) (b := 8) (chk_t h) rfl) (.cons (app_m Enc.e ([] : List Int) l) .nil)) (by kernel_rfl) ?_
  obtain rfl := some_inj hm
  refine Ok_ret ?_
  repeat (first | refine thR ?_ | refine ibR ?_)
  exact X_fin [64] [] (by kernel_rfl) trivial
abbrev s_l1Own_f_r (y : (List Int)) : AV := .dat (Enc.e y)
abbrev s_l1Own_f_n (y : (List Int)) : List Obj' := []
abbrev s_l1Own_f_o (x : (List Int)) (y : (List Int)) : List Obj' := []
noncomputable def s_l1Own_f_S : FnSpec := modS [.rd] (fun x : (List Int) => [Enc.e x]) (fun x : (List Int) => []) (fun x : (List Int) => s_l1Own_f x) s_l1Own_f_r s_l1Own_f_n s_l1Own_f_o
theorem s_l1Own_f_c {l : List Int} {y : (List Int)} (h : s_l1Own_f l = some y) : CallOK s_l1Own_f_S [Enc.e l] [] (s_l1Own_f_r y) (s_l1Own_f_n y) (s_l1Own_f_o l y) :=
  modS_call (by
    rintro a0 b0 h hO
    have q0 : a0 = b0 := Enc.inj _ _ (congrArg (fun l => List.getD l 0 (.sc undef)) h)
    subst q0; rfl) (x := l) h
theorem s_l1Own_f_ok : FnOK Try.prog 190 s_l1Own_f_S := by
  have Γok : ∀ f S, lookF f [] = some S → FnOK Try.prog f S := lookF_ok allF_nil
  have Γlive : Live (fun f => lookF f []) := lookF_live allL_nil
  refine fnOK_mod ty_ok (fun args w => Try.call190 args w) Try.func190 rfl [.tmp 2] (by rw [Try.results190]) 6 Try.ntmps190 16 rfl (fun _ => by first | exact Nat.zero_le _ | (simp)) ?_
  rintro l y cx hm hL
  have hm : s_l1Own_f l = some y := hm
  have hL : cx.L = 0 := hL
  unfold s_l1Own_f at hm
  refine X_reg_seq ty_ok Γok hL [] .nil (by kernel_rfl) ?_
  obtain ⟨u, h, hm⟩ := obind hm
  refine X_reg_seq ty_ok Γok hL [(2, .l (List.map Enc.e (([] : List Int) ++ l)))] (.cons (app_p (f := Enc.e) (g := Enc.e) (l := ([] : List Int)) (r := l) (b := 8) (chk_t h) rfl) (.cons (app_m Enc.e ([] : List Int) l) .nil)) (by kernel_rfl) ?_
  obtain rfl := some_inj hm
  refine Ok_ret ?_
  repeat (first | refine thR ?_ | refine ibR ?_)
  exact X_fin [] [] (by kernel_rfl) trivial
abbrev s_l14Own_r (y : Roster) : AV := .aggv [.own 0, .dat (.sc (.int .i64 y.Rules.MinRest)), .dat (.sc (.int .i64 y.Rules.MaxRow)), .dat (.sc (.int .i64 y.Rules.MaxWeek)), .own 1]
abbrev s_l14Own_n (y : Roster) : List Obj' := [.arr 49 2 (List.map Enc.e y.Shifts), .arr 32 1 (List.map Enc.e y.Plan)]
abbrev s_l14Own_o (x : Roster) (y : Roster) : List Obj' := []
noncomputable def s_l14Own_S : FnSpec := modS [.rd] (fun x : Roster => [Enc.e x]) (fun x : Roster => []) (fun x : Roster => s_l14Own x) s_l14Own_r s_l14Own_n s_l14Own_o
theorem s_l14Own_c {r : Roster} {y : Roster} (h : s_l14Own r = some y) : CallOK s_l14Own_S [Enc.e r] [] (s_l14Own_r y) (s_l14Own_n y) (s_l14Own_o r y) :=
  modS_call (by
    rintro a0 b0 h hO
    have q0 : a0 = b0 := Enc.inj _ _ (congrArg (fun l => List.getD l 0 (.sc undef)) h)
    subst q0; rfl) (x := r) h
theorem s_l14Own_ok : FnOK Try.prog 89 s_l14Own_S := by
  have Γok : ∀ f S, lookF f [(190, s_l1Own_f_S)] = some S → FnOK Try.prog f S := lookF_ok (allF_cons s_l1Own_f_ok allF_nil)
  have Γlive : Live (fun f => lookF f [(190, s_l1Own_f_S)]) := lookF_live (allL_cons modS_live allL_nil)
  refine fnOK_mod ty_ok (fun args w => Try.call89 args w) Try.func89 rfl [.cell 2 29] (by rw [Try.results89]) 31 Try.ntmps89 16 rfl (fun _ => by first | exact Nat.zero_le _ | (simp)) ?_
  rintro r y cx hm hL
  have hm : s_l14Own r = some y := hm
  have hL : cx.L = 0 := hL
  unfold s_l14Own at hm
  refine X_reg_seq ty_ok Γok hL [] .nil (by kernel_rfl) ?_
  obtain ⟨u1, h1, hm⟩ := obind hm
  refine X_draw_seq mixed ty_ok Γok Γlive [(3, [48]), (8, [96, 160])] (by kernel_rfl) [(3, .l (List.map Enc.e (([] : List Span) ++ r.Shifts)))] (.cons (app_p (f := Enc.e) (g := Enc.e) (l := ([] : List Span)) (r := r.Shifts) (b := 16) (chk_t h1) rfl) (.cons (app_m Enc.e ([] : List Span) r.Shifts) .nil)) (by kernel_rfl) ?_
  refine Ok_seq ?_
  refine X_reg_seq ty_ok Γok hL [] .nil (by kernel_rfl) ?_
  obtain ⟨v2, hv, hk⟩ := obind hm
  refine X_tail (n := 31) (fun (v2 : List (List Int)) => (⟨[(2, .ref 16 0), (3, .ref 32 0)], [(16, some (.box [.dat (.sc (.slice none 0 0)), .dat (.sc (.int .i64 0)), .dat (.sc (.int .i64 0)), .dat (.sc (.int .i64 0)), .dat (.sc (.slice none 0 0))])), (32, some (.box [.own 48, .dat (.sc (.int .i64 r.Rules.MinRest)), .dat (.sc (.int .i64 r.Rules.MaxRow)), .dat (.sc (.int .i64 r.Rules.MaxWeek)), .own 64])), (48, some (.arr 49 2 (List.map Enc.e (([] : List Span) ++ r.Shifts)))), (64, some (.arr 32 1 (List.map Enc.e v2)))], 96⟩ : X)) v2 ?_ ?_
  · have hm := hv
    refine Ok_block ?_
    refine X_loop (n := 31) (step := s_l14Own_L1 r) (fun ((v, v1) : Int × (List (List Int))) => (⟨[(1, .ref 16 0), (2, .ref 32 0), (3, .ref 48 0), (4, .dat (.sc (.int .i64 v)))], [(16, some (.box [.dat (Enc.e r.Shifts), .dat (.sc (.int .i64 r.Rules.MinRest)), .dat (.sc (.int .i64 r.Rules.MaxRow)), .dat (.sc (.int .i64 r.Rules.MaxWeek)), .dat (Enc.e r.Plan)])), (32, some (.box [.dat (.sc (.slice none 0 0)), .dat (.sc (.int .i64 0)), .dat (.sc (.int .i64 0)), .dat (.sc (.int .i64 0)), .dat (.sc (.slice none 0 0))])), (48, some (.box [.own 64, .dat (.sc (.int .i64 r.Rules.MinRest)), .dat (.sc (.int .i64 r.Rules.MaxRow)), .dat (.sc (.int .i64 r.Rules.MaxWeek)), .own 80])), (64, some (.arr 49 2 (List.map Enc.e (([] : List Span) ++ r.Shifts)))), (80, some (.arr 32 1 (List.map Enc.e v1)))], 112⟩ : X)) hm (Wk_J hL ⟨[(1, []), (2, []), (3, []), (4, [])], [(16, 16, []), (32, 32, []), (48, 160, [.k, .k, .k, .k, .o 80]), (64, 96, [])], [(80, 32, 1, [])], 112⟩ (by kernel_rfl)) ?_
    rintro ⟨v, v1⟩ r0 hm hb
    rw [s_l14Own_L1] at hm
    refine Ok_seq ?_
    refine X_reg_seq ty_ok Γok hL [(3, .n (r.Plan.length : Int))] (.cons (len_m Enc.e r.Plan) .nil) (by kernel_rfl) ?_
    refine X_cond (decide (v < (r.Plan.length : Int))) (by kernel_rfl) (fun hc => ?_) (fun hc => ?_)
    · have hm := it hc hm
      refine X_skip ?_
      refine thN ?_
      refine Ok_seq ?_
      refine Ok_block ?_
      obtain ⟨e1, h5, hm⟩ := obind hm
      obtain ⟨r2, h6, hm⟩ := obind hm
      obtain ⟨u3, h7, hm⟩ := obind hm
      refine X_draw mixed ty_ok Γok Γlive [(8, []), (9, [80, 320]), (11, [48, 336])] (by kernel_rfl) [(5, .d (Enc.e e1)), (7, .c (s_l1Own_f_r r2) (s_l1Own_f_n r2) (s_l1Own_f_o e1 r2)), (9, .l (List.map Enc.e (v1 ++ ([r2] : List (List Int)))))] (.cons (idx_m (f := Enc.e) h5) (.cons (s_l1Own_f_c h6) (.cons (app_p (f := Enc.e) (g := Enc.e) (l := v1) (r := ([r2] : List (List Int))) (b := 24) (chk_t h7) rfl) (.cons (app_m Enc.e v1 ([r2] : List (List Int))) .nil)))) (by kernel_rfl) ?_
      refine ibN ?_
      refine thN ?_
      refine X_reg ty_ok Γok hL [] .nil (by kernel_rfl) ?_
      obtain rfl := some_inj hm
      exact thN ⟨_, rfl, Wk_J hL ⟨[(1, []), (2, []), (3, []), (4, [])], [(16, 16, []), (32, 32, []), (48, 48, []), (64, 64, []), (80, 336, [])], [], 112⟩ (by kernel_rfl)⟩
    · have hm := ie hc hm
      obtain rfl := some_inj hm
      obtain rfl := hb _ rfl
      refine Ok_exit ?_
      refine thE ?_
      refine thE ?_
      refine ibE ?_
      exact thN (Wk_J hL ⟨[(2, []), (3, [])], [(16, 32, []), (32, 48, []), (48, 64, []), (64, 80, [])], [], 96⟩ (by kernel_rfl))
  intro s hw
  have hm := hk
  refine thN ?_
  refine Ok_weak hw ?_
  refine X_reg_seq ty_ok Γok hL [] .nil (by kernel_rfl) ?_
  obtain rfl := some_inj hm
  refine Ok_ret ?_
  repeat (first | refine thR ?_ | refine ibR ?_)
  exact X_fin [48, 64] [] (by kernel_rfl) trivial
end Go.Proofs.Ytepdapiceklppaa
