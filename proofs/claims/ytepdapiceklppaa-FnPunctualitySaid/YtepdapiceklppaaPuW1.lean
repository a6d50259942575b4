/- Each function computes what its model says. Made by program (dec.py). -/
import Derived.Test.YtepdapiceklppaaTy
import Derived.Test.YtepdapiceklppaaAbEx5
import Derived.Test.YtepdapiceklppaaPuM
namespace Go.Proofs.Ytepdapiceklppaa
open Go Go.Ab
set_option maxRecDepth 100000
set_option maxHeartbeats 4000000
set_option linter.unusedVariables false
set_option linter.unusedSimpArgs false
theorem mixed : Try.prog.follows .mixedOrders = true := by kernel_rfl
abbrev v_rBig_r (y : Bool) : AV := .dat (Enc.e y)
abbrev v_rBig_n (y : Bool) : List Obj' := []
abbrev v_rBig_o (x : (List UInt8)) (y : Bool) : List Obj' := []
noncomputable def v_rBig_S : FnSpec := modS [.rd] (fun x : (List UInt8) => [Enc.e x]) (fun x : (List UInt8) => []) (fun x : (List UInt8) => v_rBig x) v_rBig_r v_rBig_n v_rBig_o
theorem v_rBig_c {code : List UInt8} {y : Bool} (h : v_rBig code = some y) : CallOK v_rBig_S [Enc.e code] [] (v_rBig_r y) (v_rBig_n y) (v_rBig_o code y) :=
  modS_call (by
    rintro a0 b0 h hO
    have q0 : a0 = b0 := Enc.inj _ _ (congrArg (fun l => List.getD l 0 (.sc undef)) h)
    subst q0; rfl) (x := code) h
theorem v_rBig_ok : FnOK Try.prog 9 v_rBig_S := by
  have Γok : ∀ f S, lookF f [] = some S → FnOK Try.prog f S := lookF_ok allF_nil
  have Γlive : Live (fun f => lookF f []) := lookF_live allL_nil
  refine fnOK_mod ty_ok (fun args w => Try.call9 args w) Try.func9 rfl [.tmp 2] (by rw [Try.results9]) 6 Try.ntmps9 16 rfl (fun _ => by first | exact Nat.zero_le _ | (simp)) ?_
  rintro code y cx hm hL
  have hm : v_rBig code = some y := hm
  have hL : cx.L = 0 := hL
  unfold v_rBig at hm
  refine X_reg_seq ty_ok Γok hL [] .nil (by kernel_rfl) ?_
  refine X_reg_seq ty_ok Γok hL [(1, .n (code.length : Int))] (.cons (len_m Enc.e code) .nil) (by kernel_rfl) ?_
  obtain rfl := some_inj hm
  refine Ok_ret ?_
  repeat (first | refine thR ?_ | refine ibR ?_)
  exact X_fin [] [] (by kernel_rfl) trivial
abbrev s_l1Cur_next_r (y : Int × l1Cur) : AV := .dat (Enc.e y.1)
abbrev s_l1Cur_next_n (y : Int × l1Cur) : List Obj' := []
abbrev s_l1Cur_next_o (x : l1Cur) (y : Int × l1Cur) : List Obj' := [.box [.dat (Enc.e y.2.code_), .dat (.sc (.int .i64 y.2.at_)), .dat (.sc (.int .u64 y.2.seed_.v))]]
noncomputable def s_l1Cur_next_S : FnSpec := modS [.bx] (fun x : l1Cur => [.sc undef]) (fun x : l1Cur => [.box [.dat (Enc.e x.code_), .dat (.sc (.int .i64 x.at_)), .dat (.sc (.int .u64 x.seed_.v))]]) (fun x : l1Cur => s_l1Cur_next x) s_l1Cur_next_r s_l1Cur_next_n s_l1Cur_next_o
theorem s_l1Cur_next_c {c : l1Cur} {y : Int × l1Cur} (h : s_l1Cur_next c = some y) : CallOK s_l1Cur_next_S [.sc undef] [.box [.dat (Enc.e c.code_), .dat (.sc (.int .i64 c.at_)), .dat (.sc (.int .u64 c.seed_.v))]] (s_l1Cur_next_r y) (s_l1Cur_next_n y) (s_l1Cur_next_o c y) :=
  modS_call (by
    rintro a0 b0 h hO
    have q0 : a0 = b0 := Enc.inj _ _ (congrArg (fun l => D.agg (obD l 0)) hO)
    subst q0; rfl) (x := c) h
theorem s_l1Cur_next_ok : FnOK Try.prog 197 s_l1Cur_next_S := by
  have Γok : ∀ f S, lookF f [] = some S → FnOK Try.prog f S := lookF_ok allF_nil
  have Γlive : Live (fun f => lookF f []) := lookF_live allL_nil
  refine fnOK_mod ty_ok (fun args w => Try.call197 args w) Try.func197 rfl [.tmp 2] (by rw [Try.results197]) 62 Try.ntmps197 16 rfl (fun _ => by first | exact Nat.zero_le _ | (simp)) ?_
  rintro c y cx hm hL
  have hm : s_l1Cur_next c = some y := hm
  have hL : cx.L = 1 := hL
  unfold s_l1Cur_next at hm
  refine X_reg_seq ty_ok Γok hL [] .nil (by kernel_rfl) ?_
  refine X_reg_seq ty_ok Γok hL [] .nil (by kernel_rfl) ?_
  obtain ⟨v, hv, hk⟩ := obind hm
  refine X_join (n := 62) (fun (v : Int) => (⟨[(0, .ref 0 0), (3, .dat (.sc (.int .i64 v)))], [(0, some (.box [.dat (Enc.e c.code_), .dat (.sc (.int .i64 c.at_)), .dat (.sc (.int .u64 c.seed_.v))]))], 48⟩ : X)) v ?_ ?_
  · have hm := hv
    refine X_draw_seq mixed ty_ok Γok Γlive [] (by kernel_rfl) [(8, .n (c.code_.length : Int))] (.cons (len_m Enc.e c.code_) .nil) (by kernel_rfl) ?_
    refine X_cond (decide (c.at_ < (c.code_.length : Int))) (by kernel_rfl) (fun hc => ?_) (fun hc => ?_)
    · have hm := it hc hm
      obtain ⟨e1, h1, hm⟩ := obind hm
      refine X_draw mixed ty_ok Γok Γlive [] (by kernel_rfl) [(8, .d (Enc.e e1))] (.cons (idx_m (f := Enc.e) h1) .nil) (by kernel_rfl) ?_
      obtain rfl := some_inj hm
      exact thN (Wk_J hL ⟨[(0, []), (3, [])], [(0, 0, [])], [], 48⟩ (by kernel_rfl))
    · have hm := ie hc hm
      refine X_skip ?_
      obtain rfl := some_inj hm
      exact thN (Wk_J hL ⟨[(0, []), (3, [])], [(0, 0, [])], [], 48⟩ (by kernel_rfl))
  have hm := hk
  refine X_reg_seq ty_ok Γok hL [] .nil (by kernel_rfl) ?_
  refine X_reg_seq ty_ok Γok hL [] .nil (by kernel_rfl) ?_
  refine Ok_seq ?_
  refine X_draw_seq mixed ty_ok Γok Γlive [] (by kernel_rfl) [(8, .n (c.code_.length : Int))] (.cons (len_m Enc.e c.code_) .nil) (by kernel_rfl) ?_
  refine X_cond (decide ((w64 (c.at_ + 1)) ≤ (c.code_.length : Int))) (by kernel_rfl) (fun hc1 => ?_) (fun hc1 => ?_)
  · have hm := it hc1 hm
    refine X_reg_seq ty_ok Γok hL [] .nil (by kernel_rfl) ?_
    obtain rfl := some_inj hm
    refine Ok_ret ?_
    repeat (first | refine thR ?_ | refine ibR ?_)
    exact X_fin [] [] (by kernel_rfl) trivial
  · have hm := ie hc1 hm
    refine X_skip ?_
    refine thN ?_
    obtain ⟨u, h2, hm⟩ := obind hm
    refine X_reg_seq ty_ok Γok hL [] (.cons (chk_t h2) .nil) (by kernel_rfl) ?_
    obtain rfl := some_inj hm
    refine Ok_ret ?_
    repeat (first | refine thR ?_ | refine ibR ?_)
    exact X_fin [] [] (by kernel_rfl) trivial
abbrev s_l1Cur_pick_r (y : Int × l1Cur) : AV := .dat (Enc.e y.1)
abbrev s_l1Cur_pick_n (y : Int × l1Cur) : List Obj' := []
abbrev s_l1Cur_pick_o (x : l1Cur × Int) (y : Int × l1Cur) : List Obj' := [.box [.dat (Enc.e y.2.code_), .dat (.sc (.int .i64 y.2.at_)), .dat (.sc (.int .u64 y.2.seed_.v))]]
noncomputable def s_l1Cur_pick_S : FnSpec := modS [.bx, .rd] (fun x : l1Cur × Int => [.sc undef, Enc.e x.2]) (fun x : l1Cur × Int => [.box [.dat (Enc.e x.1.code_), .dat (.sc (.int .i64 x.1.at_)), .dat (.sc (.int .u64 x.1.seed_.v))]]) (fun x : l1Cur × Int => s_l1Cur_pick x.1 x.2) s_l1Cur_pick_r s_l1Cur_pick_n s_l1Cur_pick_o
theorem s_l1Cur_pick_c {c : l1Cur} {n : Int} {y : Int × l1Cur} (h : s_l1Cur_pick c n = some y) : CallOK s_l1Cur_pick_S [.sc undef, Enc.e n] [.box [.dat (Enc.e c.code_), .dat (.sc (.int .i64 c.at_)), .dat (.sc (.int .u64 c.seed_.v))]] (s_l1Cur_pick_r y) (s_l1Cur_pick_n y) (s_l1Cur_pick_o (c, n) y) :=
  modS_call (by
    rintro ⟨a0, a1⟩ ⟨b0, b1⟩ h hO
    have q0 : a0 = b0 := Enc.inj _ _ (congrArg (fun l => D.agg (obD l 0)) hO)
    have q1 : a1 = b1 := Enc.inj _ _ (congrArg (fun l => List.getD l 1 (.sc undef)) h)
    subst q0; subst q1; rfl) (x := (c, n)) h
theorem s_l1Cur_pick_ok : FnOK Try.prog 103 s_l1Cur_pick_S := by
  have Γok : ∀ f S, lookF f [(197, s_l1Cur_next_S)] = some S → FnOK Try.prog f S := lookF_ok (allF_cons s_l1Cur_next_ok allF_nil)
  have Γlive : Live (fun f => lookF f [(197, s_l1Cur_next_S)]) := lookF_live (allL_cons modS_live allL_nil)
  refine fnOK_mod ty_ok (fun args w => Try.call103 args w) Try.func103 rfl [.tmp 4] (by rw [Try.results103]) 20 Try.ntmps103 16 rfl (fun _ => by first | exact Nat.zero_le _ | (simp)) ?_
  rintro ⟨c, n⟩ y cx hm hL
  have hm : s_l1Cur_pick c n = some y := hm
  have hL : cx.L = 1 := hL
  unfold s_l1Cur_pick at hm
  refine X_reg_seq ty_ok Γok hL [] .nil (by kernel_rfl) ?_
  refine Ok_seq ?_
  refine X_reg_seq ty_ok Γok hL [] .nil (by kernel_rfl) ?_
  refine X_cond (decide (n ≤ 1)) (by kernel_rfl) (fun hc => ?_) (fun hc => ?_)
  · have hm := it hc hm
    refine X_reg_seq ty_ok Γok hL [] .nil (by kernel_rfl) ?_
    obtain rfl := some_inj hm
    refine Ok_ret ?_
    repeat (first | refine thR ?_ | refine ibR ?_)
    exact X_fin [] [] (by kernel_rfl) trivial
  · have hm := ie hc hm
    refine X_skip ?_
    refine thN ?_
    obtain ⟨r, h, hm⟩ := obind hm
    refine X_reg_seq ty_ok Γok hL [(1, .c (s_l1Cur_next_r r) (s_l1Cur_next_n r) (s_l1Cur_next_o c r))] (.cons (s_l1Cur_next_c h) .nil) (by kernel_rfl) ?_
    obtain ⟨vv, hv, hk⟩ := obind hm
    refine X_join (n := 20) (fun ((v, v1, v2, v3) : Int × (List UInt8) × Int × Int) => (⟨[(0, .ref 0 0), (1, .dat (.sc (.int .i64 n))), (5, .dat (.sc (.int .i64 v)))], [(0, some (.box [.dat (Enc.e v1), .dat (.sc (.int .i64 v2)), .dat (.sc (.int .u64 v3))]))], 48⟩ : X)) vv ?_ ?_
    · have hm := hv
      refine X_reg_seq ty_ok Γok hL [] .nil (by kernel_rfl) ?_
      refine X_cond (decide (200 < n)) (by kernel_rfl) (fun hc1 => ?_) (fun hc1 => ?_)
      · have hm := it hc1 hm
        obtain ⟨r1, h1, hm⟩ := obind hm
        refine X_reg ty_ok Γok hL [(3, .c (s_l1Cur_next_r r1) (s_l1Cur_next_n r1) (s_l1Cur_next_o r.2 r1))] (.cons (s_l1Cur_next_c h1) .nil) (by kernel_rfl) ?_
        obtain rfl := some_inj hm
        exact thN (Wk_J hL ⟨[(0, []), (1, []), (5, [])], [(0, 0, [])], [], 48⟩ (by kernel_rfl))
      · have hm := ie hc1 hm
        refine X_skip ?_
        obtain rfl := some_inj hm
        exact thN (Wk_J hL ⟨[(0, []), (1, []), (5, [])], [(0, 0, [])], [], 48⟩ (by kernel_rfl))
    obtain ⟨v, v1, v2, v3⟩ := vv
    have hm := hk
    obtain ⟨u, h2, hm⟩ := obind hm
    refine X_reg_seq ty_ok Γok hL [] (.cons (chk_t h2) .nil) (by kernel_rfl) ?_
    obtain rfl := some_inj hm
    refine Ok_ret ?_
    repeat (first | refine thR ?_ | refine ibR ?_)
    exact X_fin [] [] (by kernel_rfl) trivial
abbrev s_l1Cur_among_r (y : Int × l1Cur) : AV := .dat (Enc.e y.1)
abbrev s_l1Cur_among_n (y : Int × l1Cur) : List Obj' := []
abbrev s_l1Cur_among_o (x : l1Cur × (List Int)) (y : Int × l1Cur) : List Obj' := [.box [.dat (Enc.e y.2.code_), .dat (.sc (.int .i64 y.2.at_)), .dat (.sc (.int .u64 y.2.seed_.v))]]
noncomputable def s_l1Cur_among_S : FnSpec := modS [.bx, .rd] (fun x : l1Cur × (List Int) => [.sc undef, Enc.e x.2]) (fun x : l1Cur × (List Int) => [.box [.dat (Enc.e x.1.code_), .dat (.sc (.int .i64 x.1.at_)), .dat (.sc (.int .u64 x.1.seed_.v))]]) (fun x : l1Cur × (List Int) => s_l1Cur_among x.1 x.2) s_l1Cur_among_r s_l1Cur_among_n s_l1Cur_among_o
theorem s_l1Cur_among_c {c : l1Cur} {list : List Int} {y : Int × l1Cur} (h : s_l1Cur_among c list = some y) : CallOK s_l1Cur_among_S [.sc undef, Enc.e list] [.box [.dat (Enc.e c.code_), .dat (.sc (.int .i64 c.at_)), .dat (.sc (.int .u64 c.seed_.v))]] (s_l1Cur_among_r y) (s_l1Cur_among_n y) (s_l1Cur_among_o (c, list) y) :=
  modS_call (by
    rintro ⟨a0, a1⟩ ⟨b0, b1⟩ h hO
    have q0 : a0 = b0 := Enc.inj _ _ (congrArg (fun l => D.agg (obD l 0)) hO)
    have q1 : a1 = b1 := Enc.inj _ _ (congrArg (fun l => List.getD l 1 (.sc undef)) h)
    subst q0; subst q1; rfl) (x := (c, list)) h
theorem s_l1Cur_among_ok : FnOK Try.prog 167 s_l1Cur_among_S := by
  have Γok : ∀ f S, lookF f [(103, s_l1Cur_pick_S)] = some S → FnOK Try.prog f S := lookF_ok (allF_cons s_l1Cur_pick_ok allF_nil)
  have Γlive : Live (fun f => lookF f [(103, s_l1Cur_pick_S)]) := lookF_live (allL_cons modS_live allL_nil)
  refine fnOK_mod ty_ok (fun args w => Try.call167 args w) Try.func167 rfl [.tmp 4] (by rw [Try.results167]) 12 Try.ntmps167 16 rfl (fun _ => by first | exact Nat.zero_le _ | (simp)) ?_
  rintro ⟨c, list⟩ y cx hm hL
  have hm : s_l1Cur_among c list = some y := hm
  have hL : cx.L = 1 := hL
  unfold s_l1Cur_among at hm
  refine X_reg_seq ty_ok Γok hL [] .nil (by kernel_rfl) ?_
  obtain ⟨r, h, hm⟩ := obind hm
  obtain ⟨e, h1, hm⟩ := obind hm
  refine X_reg_seq ty_ok Γok hL [(3, .n (list.length : Int)), (4, .c (s_l1Cur_pick_r r) (s_l1Cur_pick_n r) (s_l1Cur_pick_o (c, (list.length : Int)) r)), (5, .d (Enc.e e))] (.cons (len_m Enc.e list) (.cons (s_l1Cur_pick_c h) (.cons (idx_m (f := Enc.e) h1) .nil))) (by kernel_rfl) ?_
  obtain rfl := some_inj hm
  refine Ok_ret ?_
  repeat (first | refine thR ?_ | refine ibR ?_)
  exact X_fin [] [] (by kernel_rfl) trivial
abbrev s_l1Least_r (y : Int) : AV := .dat (Enc.e y)
abbrev s_l1Least_n (y : Int) : List Obj' := []
abbrev s_l1Least_o (x : Int × Int) (y : Int) : List Obj' := []
noncomputable def s_l1Least_S : FnSpec := modS [.rd, .rd] (fun x : Int × Int => [Enc.e x.1, Enc.e x.2]) (fun x : Int × Int => []) (fun x : Int × Int => s_l1Least x.1 x.2) s_l1Least_r s_l1Least_n s_l1Least_o
theorem s_l1Least_c {a : Int} {b : Int} {y : Int} (h : s_l1Least a b = some y) : CallOK s_l1Least_S [Enc.e a, Enc.e b] [] (s_l1Least_r y) (s_l1Least_n y) (s_l1Least_o (a, b) y) :=
  modS_call (by
    rintro ⟨a0, a1⟩ ⟨b0, b1⟩ h hO
    have q0 : a0 = b0 := Enc.inj _ _ (congrArg (fun l => List.getD l 0 (.sc undef)) h)
    have q1 : a1 = b1 := Enc.inj _ _ (congrArg (fun l => List.getD l 1 (.sc undef)) h)
    subst q0; subst q1; rfl) (x := (a, b)) h
theorem s_l1Least_ok : FnOK Try.prog 182 s_l1Least_S := by
  have Γok : ∀ f S, lookF f [] = some S → FnOK Try.prog f S := lookF_ok allF_nil
  have Γlive : Live (fun f => lookF f []) := lookF_live allL_nil
  refine fnOK_mod ty_ok (fun args w => Try.call182 args w) Try.func182 rfl [.tmp 4] (by rw [Try.results182]) 10 Try.ntmps182 16 rfl (fun _ => by first | exact Nat.zero_le _ | (simp)) ?_
  rintro ⟨a, b⟩ y cx hm hL
  have hm : s_l1Least a b = some y := hm
  have hL : cx.L = 0 := hL
  unfold s_l1Least at hm
  refine X_reg_seq ty_ok Γok hL [] .nil (by kernel_rfl) ?_
  refine Ok_seq ?_
  refine X_reg_seq ty_ok Γok hL [] .nil (by kernel_rfl) ?_
  refine X_cond (decide (a < b)) (by kernel_rfl) (fun hc => ?_) (fun hc => ?_)
  · have hm := it hc hm
    refine X_reg_seq ty_ok Γok hL [] .nil (by kernel_rfl) ?_
    obtain rfl := some_inj hm
    refine Ok_ret ?_
    repeat (first | refine thR ?_ | refine ibR ?_)
    exact X_fin [] [] (by kernel_rfl) trivial
  · have hm := ie hc hm
    refine X_skip ?_
    refine thN ?_
    refine X_reg_seq ty_ok Γok hL [] .nil (by kernel_rfl) ?_
    obtain rfl := some_inj hm
    refine Ok_ret ?_
    repeat (first | refine thR ?_ | refine ibR ?_)
    exact X_fin [] [] (by kernel_rfl) trivial
abbrev s_l1Cur_among_w_r (y : Int × l1Cur) : AV := .dat (Enc.e y.1)
abbrev s_l1Cur_among_w_n (y : Int × l1Cur) : List Obj' := []
abbrev s_l1Cur_among_w_o (x : l1Cur × (List Int)) (y : Int × l1Cur) : List Obj' := [.box [.dat (Enc.e y.2.code_), .dat (.sc (.int .i64 y.2.at_)), .dat (.sc (.int .u64 y.2.seed_.v))], .arr 3 1 (List.map Enc.e x.2)]
noncomputable def s_l1Cur_among_w_S : FnSpec := modS [.bx, .sl] (fun x : l1Cur × (List Int) => [.sc undef, .sc undef]) (fun x : l1Cur × (List Int) => [.box [.dat (Enc.e x.1.code_), .dat (.sc (.int .i64 x.1.at_)), .dat (.sc (.int .u64 x.1.seed_.v))], .arr 3 1 (List.map Enc.e x.2)]) (fun x : l1Cur × (List Int) => s_l1Cur_among_w x.1 x.2) s_l1Cur_among_w_r s_l1Cur_among_w_n s_l1Cur_among_w_o
theorem s_l1Cur_among_w_c {c : l1Cur} {list : List Int} {y : Int × l1Cur} (h : s_l1Cur_among_w c list = some y) : CallOK s_l1Cur_among_w_S [.sc undef, .sc undef] [.box [.dat (Enc.e c.code_), .dat (.sc (.int .i64 c.at_)), .dat (.sc (.int .u64 c.seed_.v))], .arr 3 1 (List.map Enc.e list)] (s_l1Cur_among_w_r y) (s_l1Cur_among_w_n y) (s_l1Cur_among_w_o (c, list) y) :=
  modS_call (by
    rintro ⟨a0, a1⟩ ⟨b0, b1⟩ h hO
    have q0 : a0 = b0 := Enc.inj _ _ (congrArg (fun l => D.agg (obD l 0)) hO)
    have q1 : a1 = b1 := Enc.inj _ _ (congrArg (fun l => D.sl 1 (obL l 1)) hO)
    subst q0; subst q1; rfl) (x := (c, list)) h
theorem s_l1Cur_among_w_ok : FnOK Try.prog 167 s_l1Cur_among_w_S := by
  have Γok : ∀ f S, lookF f [(103, s_l1Cur_pick_S)] = some S → FnOK Try.prog f S := lookF_ok (allF_cons s_l1Cur_pick_ok allF_nil)
  have Γlive : Live (fun f => lookF f [(103, s_l1Cur_pick_S)]) := lookF_live (allL_cons modS_live allL_nil)
  refine fnOK_mod ty_ok (fun args w => Try.call167 args w) Try.func167 rfl [.tmp 4] (by rw [Try.results167]) 12 Try.ntmps167 16 rfl (fun _ => by first | exact Nat.zero_le _ | (simp)) ?_
  rintro ⟨c, list⟩ y cx hm hL
  have hm : s_l1Cur_among_w c list = some y := hm
  have hL : cx.L = 2 := hL
  unfold s_l1Cur_among_w at hm
  refine X_reg_seq ty_ok Γok hL [] .nil (by kernel_rfl) ?_
  obtain ⟨r, h, hm⟩ := obind hm
  obtain ⟨e, h1, hm⟩ := obind hm
  refine X_reg_seq ty_ok Γok hL [(3, .n (list.length : Int)), (4, .c (s_l1Cur_pick_r r) (s_l1Cur_pick_n r) (s_l1Cur_pick_o (c, (list.length : Int)) r)), (5, .d (Enc.e e)), (6, .d (Enc.e e))] (.cons (len_m Enc.e list) (.cons (s_l1Cur_pick_c h) (.cons (idx_m (f := Enc.e) h1) (.cons (idx_m2 (f := Enc.e) h1) .nil)))) (by kernel_rfl) ?_
  obtain rfl := some_inj hm
  refine Ok_ret ?_
  repeat (first | refine thR ?_ | refine ibR ?_)
  exact X_fin [] [] (by kernel_rfl) trivial
abbrev s_l1Cur_visits_r (y : (List Visit) × l1Cur) : AV := .own 0
abbrev s_l1Cur_visits_n (y : (List Visit) × l1Cur) : List Obj' := [.arr 206 4 (List.map Enc.e y.1)]
abbrev s_l1Cur_visits_o (x : l1Cur) (y : (List Visit) × l1Cur) : List Obj' := [.box [.dat (Enc.e y.2.code_), .dat (.sc (.int .i64 y.2.at_)), .dat (.sc (.int .u64 y.2.seed_.v))]]
noncomputable def s_l1Cur_visits_S : FnSpec := modS [.bx] (fun x : l1Cur => [.sc undef]) (fun x : l1Cur => [.box [.dat (Enc.e x.code_), .dat (.sc (.int .i64 x.at_)), .dat (.sc (.int .u64 x.seed_.v))]]) (fun x : l1Cur => s_l1Cur_visits x) s_l1Cur_visits_r s_l1Cur_visits_n s_l1Cur_visits_o
theorem s_l1Cur_visits_c {c : l1Cur} {y : (List Visit) × l1Cur} (h : s_l1Cur_visits c = some y) : CallOK s_l1Cur_visits_S [.sc undef] [.box [.dat (Enc.e c.code_), .dat (.sc (.int .i64 c.at_)), .dat (.sc (.int .u64 c.seed_.v))]] (s_l1Cur_visits_r y) (s_l1Cur_visits_n y) (s_l1Cur_visits_o c y) :=
  modS_call (by
    rintro a0 b0 h hO
    have q0 : a0 = b0 := Enc.inj _ _ (congrArg (fun l => D.agg (obD l 0)) hO)
    subst q0; rfl) (x := c) h
theorem s_l1Cur_visits_ok : FnOK Try.prog 166 s_l1Cur_visits_S := by
  have Γok : ∀ f S, lookF f [(167, s_l1Cur_among_w_S), (103, s_l1Cur_pick_S), (182, s_l1Least_S)] = some S → FnOK Try.prog f S := lookF_ok (allF_cons s_l1Cur_among_w_ok (allF_cons s_l1Cur_pick_ok (allF_cons s_l1Least_ok allF_nil)))
  have Γlive : Live (fun f => lookF f [(167, s_l1Cur_among_w_S), (103, s_l1Cur_pick_S), (182, s_l1Least_S)]) := lookF_live (allL_cons modS_live (allL_cons modS_live (allL_cons modS_live allL_nil)))
  refine fnOK_mod ty_ok (fun args w => Try.call166 args w) Try.func166 rfl [.tmp 2] (by rw [Try.results166]) 95 Try.ntmps166 16 rfl (fun _ => by first | exact Nat.zero_le _ | (simp)) ?_
  rintro c y cx hm hL
  have hm : s_l1Cur_visits c = some y := hm
  have hL : cx.L = 1 := hL
  unfold s_l1Cur_visits at hm
  refine X_reg_seq ty_ok Γok hL [] .nil (by kernel_rfl) ?_
  refine X_reg_seq ty_ok Γok hL [] .nil (by kernel_rfl) ?_
  obtain ⟨r, h, hm⟩ := obind hm
  refine X_reg_seq ty_ok Γok hL [(2, .c (s_l1Cur_among_w_r r) (s_l1Cur_among_w_n r) (s_l1Cur_among_w_o (c, ([300, 420, 0, 1700] : List Int)) r))] (.cons (s_l1Cur_among_w_c h) .nil) (by kernel_rfl) ?_
  refine Ok_seq ?_
  obtain ⟨r1, h1, hm⟩ := obind hm
  refine X_reg_seq ty_ok Γok hL [(1, .c (s_l1Cur_pick_r r1) (s_l1Cur_pick_n r1) (s_l1Cur_pick_o (r.2, 9) r1))] (.cons (s_l1Cur_pick_c h1) .nil) (by kernel_rfl) ?_
  obtain ⟨vv2, hv, hk⟩ := obind hm
  refine X_tail (n := 95) (fun ((v3, v4, v5, t1) : (List UInt8) × Int × Int × (List Visit)) => (⟨[(0, .ref 0 0), (3, .own 32)], [(0, some (.box [.dat (Enc.e v3), .dat (.sc (.int .i64 v4)), .dat (.sc (.int .u64 v5))])), (32, some (.arr 206 4 (List.map Enc.e t1)))], 64⟩ : X)) vv2 ?_ ?_
  · have hm := hv
    refine Ok_block ?_
    refine X_loop (n := 95) (step := s_l1Cur_visits_L1) (fun ((n, x, v, v1, v2, t) : Int × Int × (List UInt8) × Int × Int × (List Visit)) => (⟨[(0, .ref 0 0), (3, .own 32), (4, .dat (.sc (.int .i64 n))), (5, .dat (.sc (.int .i64 x)))], [(0, some (.box [.dat (Enc.e v), .dat (.sc (.int .i64 v1)), .dat (.sc (.int .u64 v2))])), (32, some (.arr 206 4 (List.map Enc.e t)))], 64⟩ : X)) hm (Wk_J hL ⟨[(0, []), (3, []), (4, []), (5, [])], [(0, 0, []), (32, 32, [])], [], 64⟩ (by kernel_rfl)) ?_
    rintro ⟨n, x, v, v1, v2, t⟩ r0 hm hb
    rw [s_l1Cur_visits_L1] at hm
    refine Ok_seq ?_
    refine X_reg_seq ty_ok Γok hL [] .nil (by kernel_rfl) ?_
    refine X_cond (decide (0 < x)) (by kernel_rfl) (fun hc => ?_) (fun hc => ?_)
    · have hm := it hc hm
      refine X_skip ?_
      refine thN ?_
      refine Ok_seq ?_
      refine Ok_block ?_
      obtain ⟨r2, h2, hm⟩ := obind hm
      obtain ⟨r3, h3, hm⟩ := obind hm
      obtain ⟨r4, h4, hm⟩ := obind hm
      refine X_reg_seq ty_ok Γok hL [(1, .c (s_l1Cur_pick_r r2) (s_l1Cur_pick_n r2) (s_l1Cur_pick_o ((⟨v, v1, (⟨v2⟩ : IK .u64)⟩ : l1Cur), 3) r2)), (3, .c (s_l1Least_r r3) (s_l1Least_n r3) (s_l1Least_o (n, 1799) r3)), (6, .c (s_l1Cur_among_w_r r4) (s_l1Cur_among_w_n r4) (s_l1Cur_among_w_o (r2.2, ([0, 1, 10, 40] : List Int)) r4))] (.cons (s_l1Cur_pick_c h2) (.cons (s_l1Least_c h3) (.cons (s_l1Cur_among_w_c h4) .nil))) (by kernel_rfl) ?_
      obtain ⟨r6, h6, hm⟩ := obind hm
      refine X_draw_seq mixed ty_ok Γok Γlive [(4, [0, 304]), (7, [224])] (by kernel_rfl) [(4, .c (s_l1Cur_among_w_r r6) (s_l1Cur_among_w_n r6) (s_l1Cur_among_w_o (r4.2, ([0, 0, 1, 2, 3, 5, 12, (-1), (-3)] : List Int)) r6))] (.cons (s_l1Cur_among_w_c h6) .nil) (by kernel_rfl) ?_
      obtain ⟨u, h7, hm⟩ := obind hm
      refine X_reg_seq ty_ok Γok hL [(3, .l (List.map Enc.e (t ++ ([(⟨r2.1, r3, (w64 (r3 + r6.1)), r4.1⟩ : Visit)] : List Visit))))] (.cons (app_p (f := Enc.e) (g := Enc.e) (l := t) (r := ([(⟨r2.1, r3, (w64 (r3 + r6.1)), r4.1⟩ : Visit)] : List Visit)) (b := 32) (chk_t h7) rfl) (.cons (app_m Enc.e t ([(⟨r2.1, r3, (w64 (r3 + r6.1)), r4.1⟩ : Visit)] : List Visit)) .nil)) (by kernel_rfl) ?_
      obtain ⟨r7, h8, hm⟩ := obind hm
      refine X_reg ty_ok Γok hL [(3, .c (s_l1Cur_among_w_r r7) (s_l1Cur_among_w_n r7) (s_l1Cur_among_w_o (r6.2, ([0, 5, 10, 10, 15] : List Int)) r7))] (.cons (s_l1Cur_among_w_c h8) .nil) (by kernel_rfl) ?_
      refine ibN ?_
      refine thN ?_
      refine X_reg ty_ok Γok hL [] .nil (by kernel_rfl) ?_
      obtain rfl := some_inj hm
      exact thN ⟨_, rfl, Wk_J hL ⟨[(0, []), (3, []), (4, []), (5, [])], [(0, 0, []), (32, 432, [])], [], 64⟩ (by kernel_rfl)⟩
    · have hm := ie hc hm
      obtain rfl := some_inj hm
      obtain rfl := hb _ rfl
      refine Ok_exit ?_
      refine thE ?_
      refine thE ?_
      refine ibE ?_
      exact thN (Wk_J hL ⟨[(0, []), (3, [])], [(0, 0, []), (32, 32, [])], [], 64⟩ (by kernel_rfl))
  obtain ⟨v3, v4, v5, t1⟩ := vv2
  intro s hw
  have hm := hk
  refine thN ?_
  refine Ok_weak hw ?_
  refine Ok_seq ?_
  refine X_reg_seq ty_ok Γok hL [(1, .n (t1.length : Int))] (.cons (len_m Enc.e t1) .nil) (by kernel_rfl) ?_
  refine X_cond ((t1.length : Int) == 0) (by kernel_rfl) (fun hc1 => ?_) (fun hc1 => ?_)
  · have hm := it hc1 hm
    refine X_reg_seq ty_ok Γok hL [] .nil (by kernel_rfl) ?_
    obtain rfl := some_inj hm
    refine Ok_ret ?_
    repeat (first | refine thR ?_ | refine ibR ?_)
    exact X_fin [32] [] (by kernel_rfl) trivial
  · have hm := ie hc1 hm
    refine X_skip ?_
    refine thN ?_
    obtain ⟨r8, h9, hm⟩ := obind hm
    refine X_reg_seq ty_ok Γok hL [(2, .n (t1.length : Int)), (3, .c (s_l1Cur_pick_r r8) (s_l1Cur_pick_n r8) (s_l1Cur_pick_o ((⟨v3, v4, (⟨v5⟩ : IK .u64)⟩ : l1Cur), (t1.length : Int)) r8))] (.cons (len_m Enc.e t1) (.cons (s_l1Cur_pick_c h9) .nil)) (by kernel_rfl) ?_
    obtain ⟨e, h10, hm⟩ := obind hm
    refine X_reg_seq ty_ok Γok hL [(2, .d (Enc.e e)), (3, .d (Enc.e e))] (.cons (idx_m (f := Enc.e) h10) (.cons (idx_m2 (f := Enc.e) h10) .nil)) (by kernel_rfl) ?_
    obtain ⟨vv1, hv1, hk1⟩ := obind hm
    refine X_join (n := 95) (fun ((v6, v7, v8, t2, v9, v10, v11) : (List UInt8) × Int × Int × (List Visit) × Int × Int × Int) => (⟨[(0, .ref 0 0), (3, .own 32), (7, .dat (.sc (.int .i64 r8.1))), (8, .ref 48 0)], [(0, some (.box [.dat (Enc.e v6), .dat (.sc (.int .i64 v7)), .dat (.sc (.int .u64 v8))])), (32, some (.arr 206 4 (List.map Enc.e t2))), (48, some (.box [.dat (.sc (.int .i64 v9)), .dat (.sc (.int .i64 e.Planned)), .dat (.sc (.int .i64 v10)), .dat (.sc (.int .i64 v11))]))], 80⟩ : X)) vv1 ?_ ?_
    · have hm := hv1
      obtain ⟨r9, h11, hm⟩ := obind hm
      refine X_reg_seq ty_ok Γok hL [(1, .c (s_l1Cur_pick_r r9) (s_l1Cur_pick_n r9) (s_l1Cur_pick_o (r8.2, 40) r9))] (.cons (s_l1Cur_pick_c h11) .nil) (by kernel_rfl) ?_
      refine Ok_block ?_
      refine X_reg_seq ty_ok Γok hL [] .nil (by kernel_rfl) ?_
      refine X_cond (r9.1 == 0) (by kernel_rfl) (fun hc2 => ?_) (fun hc2 => ?_)
      · have hm := it hc2 hm
        obtain ⟨r11, h13, hm⟩ := obind hm
        refine X_draw mixed ty_ok Γok Γlive [(4, [0, 400]), (7, [256])] (by kernel_rfl) [(4, .c (s_l1Cur_among_w_r r11) (s_l1Cur_among_w_n r11) (s_l1Cur_among_w_o (r9.2, ([(-60), (-61), 600, 601] : List Int)) r11))] (.cons (s_l1Cur_among_w_c h13) .nil) (by kernel_rfl) ?_
        refine ibN ?_
        obtain rfl := some_inj hm
        exact thN (Wk_J hL ⟨[(0, []), (3, []), (7, []), (8, [])], [(0, 0, []), (32, 32, []), (48, 256, [])], [], 80⟩ (by kernel_rfl))
      · have hm := ie hc2 hm
        refine X_reg_seq ty_ok Γok hL [] .nil (by kernel_rfl) ?_
        refine X_cond (r9.1 == 1) (by kernel_rfl) (fun hc3 => ?_) (fun hc3 => ?_)
        · have hm := it hc3 hm
          obtain ⟨r12, h14, hm⟩ := obind hm
          refine X_reg ty_ok Γok hL [(2, .c (s_l1Cur_among_w_r r12) (s_l1Cur_among_w_n r12) (s_l1Cur_among_w_o (r9.2, ([(-1), 7, 8] : List Int)) r12))] (.cons (s_l1Cur_among_w_c h14) .nil) (by kernel_rfl) ?_
          refine ibN ?_
          obtain rfl := some_inj hm
          exact thN (Wk_J hL ⟨[(0, []), (3, []), (7, []), (8, [])], [(0, 0, []), (32, 32, []), (48, 256, [])], [], 80⟩ (by kernel_rfl))
        · have hm := ie hc3 hm
          refine X_reg_seq ty_ok Γok hL [] .nil (by kernel_rfl) ?_
          refine X_cond (r9.1 == 2) (by kernel_rfl) (fun hc4 => ?_) (fun hc4 => ?_)
          · have hm := it hc4 hm
            obtain ⟨r13, h15, hm⟩ := obind hm
            refine X_reg ty_ok Γok hL [(2, .c (s_l1Cur_among_w_r r13) (s_l1Cur_among_w_n r13) (s_l1Cur_among_w_o (r9.2, ([(-1), 1000, 1001] : List Int)) r13))] (.cons (s_l1Cur_among_w_c h15) .nil) (by kernel_rfl) ?_
            refine ibN ?_
            obtain rfl := some_inj hm
            exact thN (Wk_J hL ⟨[(0, []), (3, []), (7, []), (8, [])], [(0, 0, []), (32, 32, []), (48, 256, [])], [], 80⟩ (by kernel_rfl))
          · have hm := ie hc4 hm
            refine X_reg_seq ty_ok Γok hL [] .nil (by kernel_rfl) ?_
            refine X_cond (r9.1 == 3) (by kernel_rfl) (fun hc5 => ?_) (fun hc5 => ?_)
            · have hm := it hc5 hm
              obtain ⟨vv, hv2, hk2⟩ := obind hm
              refine X_tail (n := 95) (fun ((v15, v16, v17, t4) : (List UInt8) × Int × Int × (List Visit)) => (⟨[(0, .ref 0 0), (3, .own 32), (7, .dat (.sc (.int .i64 r8.1))), (8, .ref 48 0)], [(0, some (.box [.dat (Enc.e v15), .dat (.sc (.int .i64 v16)), .dat (.sc (.int .u64 v17))])), (32, some (.arr 206 4 (List.map Enc.e t4))), (48, some (.box [.dat (.sc (.int .i64 e.Stop)), .dat (.sc (.int .i64 e.Planned)), .dat (.sc (.int .i64 e.Actual)), .dat (.sc (.int .i64 e.Persons))]))], 80⟩ : X)) vv ?_ ?_
              · have hm := hv2
                refine Ok_block ?_
                refine X_loop (n := 95) (step := s_l1Cur_visits_L2 e) (fun ((v12, v13, v14, t3) : (List UInt8) × Int × Int × (List Visit)) => (⟨[(0, .ref 0 0), (3, .own 32), (7, .dat (.sc (.int .i64 r8.1))), (8, .ref 48 0)], [(0, some (.box [.dat (Enc.e v12), .dat (.sc (.int .i64 v13)), .dat (.sc (.int .u64 v14))])), (32, some (.arr 206 4 (List.map Enc.e t3))), (48, some (.box [.dat (.sc (.int .i64 e.Stop)), .dat (.sc (.int .i64 e.Planned)), .dat (.sc (.int .i64 e.Actual)), .dat (.sc (.int .i64 e.Persons))]))], 80⟩ : X)) hm (Wk_J hL ⟨[(0, []), (3, []), (7, []), (8, [])], [(0, 0, []), (32, 32, []), (48, 256, [])], [], 80⟩ (by kernel_rfl)) ?_
                rintro ⟨v12, v13, v14, t3⟩ r0 hm hb1
                rw [s_l1Cur_visits_L2] at hm
                refine Ok_seq ?_
                obtain ⟨r14, h16, hm⟩ := obind hm
                refine X_reg_seq ty_ok Γok hL [(1, .n (t3.length : Int)), (3, .c (s_l1Cur_pick_r r14) (s_l1Cur_pick_n r14) (s_l1Cur_pick_o ((⟨v12, v13, (⟨v14⟩ : IK .u64)⟩ : l1Cur), 2) r14))] (.cons (len_m Enc.e t3) (.cons (s_l1Cur_pick_c h16) .nil)) (by kernel_rfl) ?_
                refine X_cond (decide ((t3.length : Int) < (w64 (30 + r14.1)))) (by kernel_rfl) (fun hc6 => ?_) (fun hc6 => ?_)
                · have hm := it hc6 hm
                  refine X_skip ?_
                  refine thN ?_
                  refine Ok_block ?_
                  obtain ⟨u1, h17, hm⟩ := obind hm
                  refine X_reg ty_ok Γok hL [(3, .l (List.map Enc.e (t3 ++ ([e] : List Visit))))] (.cons (app_p (f := Enc.e) (g := Enc.e) (l := t3) (r := ([e] : List Visit)) (b := 32) (chk_t h17) rfl) (.cons (app_m Enc.e t3 ([e] : List Visit)) .nil)) (by kernel_rfl) ?_
                  refine ibN ?_
                  obtain rfl := some_inj hm
                  exact thN ⟨_, rfl, Wk_J hL ⟨[(0, []), (3, []), (7, []), (8, [])], [(0, 0, []), (32, 224, []), (48, 48, [])], [], 80⟩ (by kernel_rfl)⟩
                · have hm := ie hc6 hm
                  obtain rfl := some_inj hm
                  obtain rfl := hb1 _ rfl
                  refine Ok_exit ?_
                  refine thE ?_
                  refine thE ?_
                  refine ibE ?_
                  exact thN (Wk_J hL ⟨[(0, []), (3, []), (7, []), (8, [])], [(0, 0, []), (32, 32, []), (48, 48, [])], [], 80⟩ (by kernel_rfl))
              obtain ⟨v15, v16, v17, t4⟩ := vv
              intro s1 hw1
              have hm := hk2
              refine ibN ?_
              obtain rfl := some_inj hm
              exact thN (Wk.trans hw1 (Wk_J hL ⟨[(0, []), (3, []), (7, []), (8, [])], [(0, 0, []), (32, 32, []), (48, 48, [])], [], 80⟩ (by kernel_rfl)))
            · have hm := ie hc5 hm
              refine X_skip ?_
              refine ibN ?_
              obtain rfl := some_inj hm
              exact thN (Wk_J hL ⟨[(0, []), (3, []), (7, []), (8, [])], [(0, 0, []), (32, 32, []), (48, 256, [])], [], 80⟩ (by kernel_rfl))
    obtain ⟨v6, v7, v8, t2, v9, v10, v11⟩ := vv1
    have hm := hk1
    obtain ⟨e1, h18, hm⟩ := obind hm
    refine X_reg_seq ty_ok Γok hL [(3, .d (Enc.e e1)), (4, .sd (Enc.e e1) (List.map Enc.e (t2.set r8.1.toNat (⟨v9, e.Planned, v10, v11⟩ : Visit))))] (.cons (idx_m (f := Enc.e) h18) (.cons (idx_m2 (f := Enc.e) h18) (.cons (set_m Enc.e t2 r8.1.toNat (⟨v9, e.Planned, v10, v11⟩ : Visit)) .nil))) (by kernel_rfl) ?_
    refine X_reg_seq ty_ok Γok hL [] .nil (by kernel_rfl) ?_
    obtain rfl := some_inj hm
    refine Ok_ret ?_
    repeat (first | refine thR ?_ | refine ibR ?_)
    exact X_fin [32] [] (by kernel_rfl) trivial
abbrev s_DrawShiftVisits_r (y : (List Visit) × Int) : AV := .tup [.own 0, .dat (Enc.e y.2)]
abbrev s_DrawShiftVisits_n (y : (List Visit) × Int) : List Obj' := [.arr 206 4 (List.map Enc.e y.1)]
abbrev s_DrawShiftVisits_o (x : (List UInt8)) (y : (List Visit) × Int) : List Obj' := []
noncomputable def s_DrawShiftVisits_S : FnSpec := modS [.rd] (fun x : (List UInt8) => [Enc.e x]) (fun x : (List UInt8) => []) (fun x : (List UInt8) => s_DrawShiftVisits x) s_DrawShiftVisits_r s_DrawShiftVisits_n s_DrawShiftVisits_o
theorem s_DrawShiftVisits_c {code : List UInt8} {y : (List Visit) × Int} (h : s_DrawShiftVisits code = some y) : CallOK s_DrawShiftVisits_S [Enc.e code] [] (s_DrawShiftVisits_r y) (s_DrawShiftVisits_n y) (s_DrawShiftVisits_o code y) :=
  modS_call (by
    rintro a0 b0 h hO
    have q0 : a0 = b0 := Enc.inj _ _ (congrArg (fun l => List.getD l 0 (.sc undef)) h)
    subst q0; rfl) (x := code) h
theorem s_DrawShiftVisits_ok : FnOK Try.prog 69 s_DrawShiftVisits_S := by
  have Γok : ∀ f S, lookF f [(166, s_l1Cur_visits_S), (167, s_l1Cur_among_S)] = some S → FnOK Try.prog f S := lookF_ok (allF_cons s_l1Cur_visits_ok (allF_cons s_l1Cur_among_ok allF_nil))
  have Γlive : Live (fun f => lookF f [(166, s_l1Cur_visits_S), (167, s_l1Cur_among_S)]) := lookF_live (allL_cons modS_live (allL_cons modS_live allL_nil))
  refine fnOK_mod ty_ok (fun args w => Try.call69 args w) Try.func69 rfl [.tmp 2, .tmp 3] (by rw [Try.results69]) 15 Try.ntmps69 16 rfl (fun _ => by first | exact Nat.zero_le _ | (simp)) ?_
  rintro code y cx hm hL
  have hm : s_DrawShiftVisits code = some y := hm
  have hL : cx.L = 0 := hL
  unfold s_DrawShiftVisits at hm
  refine X_reg_seq ty_ok Γok hL [] .nil (by kernel_rfl) ?_
  refine X_reg_seq ty_ok Γok hL [] .nil (by kernel_rfl) ?_
  obtain ⟨r, h, hm⟩ := obind hm
  refine X_reg_seq ty_ok Γok hL [(1, .c (s_l1Cur_visits_r r) (s_l1Cur_visits_n r) (s_l1Cur_visits_o (⟨code, 0, (⟨0⟩ : IK .u64)⟩ : l1Cur) r))] (.cons (s_l1Cur_visits_c h) .nil) (by kernel_rfl) ?_
  obtain ⟨r1, h1, hm⟩ := obind hm
  refine X_reg_seq ty_ok Γok hL [(3, .fz [192] [] []), (3, .c (s_l1Cur_among_r r1) (s_l1Cur_among_n r1) (s_l1Cur_among_o (r.2, ([0, 1, (-1), 5, 60, (-300), 90] : List Int)) r1))] (.cons (s_l1Cur_among_c h1) .nil) (by kernel_rfl) ?_
  obtain rfl := some_inj hm
  refine Ok_ret ?_
  repeat (first | refine thR ?_ | refine ibR ?_)
  exact X_fin [128] [] (by kernel_rfl) trivial
abbrev i_within_r (y : Bool) : AV := .dat (Enc.e y)
abbrev i_within_n (y : Bool) : List Obj' := []
abbrev i_within_o (x : Int × Int × Int) (y : Bool) : List Obj' := []
noncomputable def i_within_S : FnSpec := modS [.rd, .rd, .rd] (fun x : Int × Int × Int => [Enc.e x.1, Enc.e x.2.1, Enc.e x.2.2]) (fun x : Int × Int × Int => []) (fun x : Int × Int × Int => i_within x.1 x.2.1 x.2.2) i_within_r i_within_n i_within_o
theorem i_within_c {n : Int} {lo : Int} {hi : Int} {y : Bool} (h : i_within n lo hi = some y) : CallOK i_within_S [Enc.e n, Enc.e lo, Enc.e hi] [] (i_within_r y) (i_within_n y) (i_within_o (n, lo, hi) y) :=
  modS_call (by
    rintro ⟨a0, a1, a2⟩ ⟨b0, b1, b2⟩ h hO
    have q0 : a0 = b0 := Enc.inj _ _ (congrArg (fun l => List.getD l 0 (.sc undef)) h)
    have q1 : a1 = b1 := Enc.inj _ _ (congrArg (fun l => List.getD l 1 (.sc undef)) h)
    have q2 : a2 = b2 := Enc.inj _ _ (congrArg (fun l => List.getD l 2 (.sc undef)) h)
    subst q0; subst q1; subst q2; rfl) (x := (n, lo, hi)) h
theorem i_within_ok : FnOK Try.prog 94 i_within_S := by
  have Γok : ∀ f S, lookF f [] = some S → FnOK Try.prog f S := lookF_ok allF_nil
  have Γlive : Live (fun f => lookF f []) := lookF_live allL_nil
  refine fnOK_mod ty_ok (fun args w => Try.call94 args w) Try.func94 rfl [.tmp 6] (by rw [Try.results94]) 15 Try.ntmps94 16 rfl (fun _ => by first | exact Nat.zero_le _ | (simp)) ?_
  rintro ⟨n, lo, hi⟩ y cx hm hL
  have hm : i_within n lo hi = some y := hm
  have hL : cx.L = 0 := hL
  unfold i_within at hm
  refine X_reg_seq ty_ok Γok hL [] .nil (by kernel_rfl) ?_
  obtain ⟨v, hv, hk⟩ := obind hm
  refine X_join (n := 15) (fun (v : Bool) => (⟨[(6, .dat (.sc (.bool v)))], [], 32⟩ : X)) v ?_ ?_
  · have hm := hv
    rcases btf (decide (lo ≤ n)) with hb | hb
    · have hm := it hb hm
      obtain rfl := some_inj hm
      refine X_reg ty_ok Γok hL [(3, .b true)] (.cons hb .nil) (by kernel_rfl) ?_
      exact thN (Wk_J hL ⟨[(6, [])], [], [], 32⟩ (by kernel_rfl))
    · have hm := ie hb hm
      obtain rfl := some_inj hm
      refine X_reg ty_ok Γok hL [(3, .b false)] (.cons hb .nil) (by kernel_rfl) ?_
      exact thN (Wk_J hL ⟨[(6, [])], [], [], 32⟩ (by kernel_rfl))
  have hm := hk
  obtain rfl := some_inj hm
  refine Ok_ret ?_
  repeat (first | refine thR ?_ | refine ibR ?_)
  exact X_fin [] [] (by kernel_rfl) trivial
abbrev i_IsValidTime_r (y : Bool) : AV := .dat (Enc.e y)
abbrev i_IsValidTime_n (y : Bool) : List Obj' := []
abbrev i_IsValidTime_o (x : Int) (y : Bool) : List Obj' := []
noncomputable def i_IsValidTime_S : FnSpec := modS [.rd] (fun x : Int => [Enc.e x]) (fun x : Int => []) (fun x : Int => i_IsValidTime x) i_IsValidTime_r i_IsValidTime_n i_IsValidTime_o
theorem i_IsValidTime_c {t : Int} {y : Bool} (h : i_IsValidTime t = some y) : CallOK i_IsValidTime_S [Enc.e t] [] (i_IsValidTime_r y) (i_IsValidTime_n y) (i_IsValidTime_o t y) :=
  modS_call (by
    rintro a0 b0 h hO
    have q0 : a0 = b0 := Enc.inj _ _ (congrArg (fun l => List.getD l 0 (.sc undef)) h)
    subst q0; rfl) (x := t) h
theorem i_IsValidTime_ok : FnOK Try.prog 201 i_IsValidTime_S := by
  have Γok : ∀ f S, lookF f [(94, i_within_S)] = some S → FnOK Try.prog f S := lookF_ok (allF_cons i_within_ok allF_nil)
  have Γlive : Live (fun f => lookF f [(94, i_within_S)]) := lookF_live (allL_cons modS_live allL_nil)
  refine fnOK_mod ty_ok (fun args w => Try.call201 args w) Try.func201 rfl [.tmp 2] (by rw [Try.results201]) 5 Try.ntmps201 16 rfl (fun _ => by first | exact Nat.zero_le _ | (simp)) ?_
  rintro t y cx hm hL
  have hm : i_IsValidTime t = some y := hm
  have hL : cx.L = 0 := hL
  unfold i_IsValidTime at hm
  refine X_reg_seq ty_ok Γok hL [] .nil (by kernel_rfl) ?_
  obtain ⟨r, h, hm⟩ := obind hm
  refine X_reg_seq ty_ok Γok hL [(1, .c (i_within_r r) (i_within_n r) (i_within_o (t, 0, 1799) r))] (.cons (i_within_c h) .nil) (by kernel_rfl) ?_
  obtain rfl := some_inj hm
  refine Ok_ret ?_
  repeat (first | refine thR ?_ | refine ibR ?_)
  exact X_fin [] [] (by kernel_rfl) trivial
abbrev i_IsValidVisits_r (y : Bool) : AV := .dat (Enc.e y)
abbrev i_IsValidVisits_n (y : Bool) : List Obj' := []
abbrev i_IsValidVisits_o (x : (List Visit)) (y : Bool) : List Obj' := []
noncomputable def i_IsValidVisits_S : FnSpec := modS [.rd] (fun x : (List Visit) => [Enc.e x]) (fun x : (List Visit) => []) (fun x : (List Visit) => i_IsValidVisits x) i_IsValidVisits_r i_IsValidVisits_n i_IsValidVisits_o
theorem i_IsValidVisits_c {list : List Visit} {y : Bool} (h : i_IsValidVisits list = some y) : CallOK i_IsValidVisits_S [Enc.e list] [] (i_IsValidVisits_r y) (i_IsValidVisits_n y) (i_IsValidVisits_o list y) :=
  modS_call (by
    rintro a0 b0 h hO
    have q0 : a0 = b0 := Enc.inj _ _ (congrArg (fun l => List.getD l 0 (.sc undef)) h)
    subst q0; rfl) (x := list) h
theorem i_IsValidVisits_ok : FnOK Try.prog 168 i_IsValidVisits_S := by
  have Γok : ∀ f S, lookF f [(94, i_within_S), (201, i_IsValidTime_S)] = some S → FnOK Try.prog f S := lookF_ok (allF_cons i_within_ok (allF_cons i_IsValidTime_ok allF_nil))
  have Γlive : Live (fun f => lookF f [(94, i_within_S), (201, i_IsValidTime_S)]) := lookF_live (allL_cons modS_live (allL_cons modS_live allL_nil))
  refine fnOK_mod ty_ok (fun args w => Try.call168 args w) Try.func168 rfl [.tmp 2] (by rw [Try.results168]) 41 Try.ntmps168 16 rfl (fun _ => by first | exact Nat.zero_le _ | (simp)) ?_
  rintro list y cx hm hL
  have hm : i_IsValidVisits list = some y := hm
  have hL : cx.L = 0 := hL
  unfold i_IsValidVisits at hm
  refine X_reg_seq ty_ok Γok hL [] .nil (by kernel_rfl) ?_
  refine Ok_seq ?_
  refine X_reg_seq ty_ok Γok hL [(1, .n (list.length : Int))] (.cons (len_m Enc.e list) .nil) (by kernel_rfl) ?_
  refine X_cond (decide (30 < (list.length : Int))) (by kernel_rfl) (fun hc => ?_) (fun hc => ?_)
  · have hm := it hc hm
    refine X_reg_seq ty_ok Γok hL [] .nil (by kernel_rfl) ?_
    obtain rfl := some_inj hm
    refine Ok_ret ?_
    repeat (first | refine thR ?_ | refine ibR ?_)
    exact X_fin [] [] (by kernel_rfl) trivial
  · have hm := ie hc hm
    refine X_skip ?_
    refine thN ?_
    refine Ok_seq ?_
    refine X_reg_seq ty_ok Γok hL [(1, .n (list.length : Int))] (.cons (len_m Enc.e list) .nil) (by kernel_rfl) ?_
    obtain ⟨v2, hv1, hr, hk1⟩ := flb_t hm
    refine X_tailF (n := 41) (fun (_ : Unit) => (⟨[], [], 32⟩ : X)) v2 ?_ ?_
    · have hm := hv1
      refine Ok_block ?_
      refine X_loop (n := 41) (step := i_IsValidVisits_L1 list) (fun (v : Int) => (⟨[(8, .dat (Enc.e list)), (9, .dat (.sc (.int .i64 (list.length : Int)))), (10, .dat (.sc (.int .i64 v)))], [], 32⟩ : X)) hm (Wk_J hL ⟨[(8, []), (9, []), (10, [])], [], [], 32⟩ (by kernel_rfl)) ?_
      rintro v r0 hm hb
      rw [i_IsValidVisits_L1] at hm
      refine X_reg_seq ty_ok Γok hL [] .nil (by kernel_rfl) ?_
      refine Ok_seq ?_
      refine X_cond (decide (v < (list.length : Int))) (by kernel_rfl) (fun hc1 => ?_) (fun hc1 => ?_)
      · have hm := it hc1 hm
        refine X_skip ?_
        refine thN ?_
        refine Ok_seq ?_
        refine Ok_block ?_
        obtain ⟨e, h, hm⟩ := obind hm
        refine X_reg_seq ty_ok Γok hL [(0, .d (Enc.e e))] (.cons (idx_m (f := Enc.e) h) .nil) (by kernel_rfl) ?_
        refine Ok_seq ?_
        obtain ⟨r, h1, hm⟩ := obind hm
        obtain ⟨v1, hv, hk⟩ := obind hm
        refine X_join (n := 41) (fun (v1 : Bool) => (⟨[(4, .ref 16 0), (8, .dat (Enc.e list)), (9, .dat (.sc (.int .i64 (list.length : Int)))), (10, .dat (.sc (.int .i64 v))), (29, .dat (.sc (.bool v1)))], [(16, some (.box [.dat (.sc (.int .i64 e.Stop)), .dat (.sc (.int .i64 e.Planned)), .dat (.sc (.int .i64 e.Actual)), .dat (.sc (.int .i64 e.Persons))]))], 48⟩ : X)) v1 ?_ ?_
        · have hm := hv
          rcases btf (!r) with hb1 | hb1
          · have hm := it hb1 hm
            obtain rfl := some_inj hm
            refine X_reg ty_ok Γok hL [(2, .c (i_within_r r) (i_within_n r) (i_within_o (e.Stop, 0, 7) r)), (4, .b true)] (.cons (i_within_c h1) (.cons hb1 .nil)) (by kernel_rfl) ?_
            exact thN (Wk_J hL ⟨[(4, []), (8, []), (9, []), (10, []), (29, [])], [(16, 80, [])], [], 48⟩ (by kernel_rfl))
          · have hm := ie hb1 hm
            obtain ⟨r1, h2, hm⟩ := obind hm
            rcases btf (!r1) with hb2 | hb2
            · have hm := it hb2 hm
              obtain rfl := some_inj hm
              refine X_reg ty_ok Γok hL [(2, .c (i_within_r r) (i_within_n r) (i_within_o (e.Stop, 0, 7) r)), (4, .b false), (7, .c (i_IsValidTime_r r1) (i_IsValidTime_n r1) (i_IsValidTime_o e.Planned r1)), (10, .b true)] (.cons (i_within_c h1) (.cons hb1 (.cons (i_IsValidTime_c h2) (.cons hb2 .nil)))) (by kernel_rfl) ?_
              exact thN (Wk_J hL ⟨[(4, []), (8, []), (9, []), (10, []), (29, [])], [(16, 80, [])], [], 48⟩ (by kernel_rfl))
            · have hm := ie hb2 hm
              obtain ⟨r2, h3, hm⟩ := obind hm
              obtain rfl := some_inj hm
              refine X_reg ty_ok Γok hL [(2, .c (i_within_r r) (i_within_n r) (i_within_o (e.Stop, 0, 7) r)), (4, .b false), (7, .c (i_IsValidTime_r r1) (i_IsValidTime_n r1) (i_IsValidTime_o e.Planned r1)), (10, .b false), (13, .c (i_within_r r2) (i_within_n r2) (i_within_o (e.Persons, 0, 1000) r2))] (.cons (i_within_c h1) (.cons hb1 (.cons (i_IsValidTime_c h2) (.cons hb2 (.cons (i_within_c h3) .nil))))) (by kernel_rfl) ?_
              exact thN (Wk_J hL ⟨[(4, []), (8, []), (9, []), (10, []), (29, [])], [(16, 80, [])], [], 48⟩ (by kernel_rfl))
        have hm := hk
        refine X_cond v1 (by kernel_rfl) (fun hc2 => ?_) (fun hc2 => ?_)
        · have hm := it hc2 hm
          refine X_reg_seq ty_ok Γok hL [] .nil (by kernel_rfl) ?_
          obtain rfl := some_inj hm
          obtain rfl := hb _ rfl
          have hm := congrArg some (hr _ rfl)
          obtain rfl := some_inj hm
          refine Ok_ret ?_
          repeat (first | refine thR ?_ | refine ibR ?_)
          exact X_fin [] [] (by kernel_rfl) trivial
        · have hm := ie hc2 hm
          refine X_skip ?_
          refine thN ?_
          obtain ⟨r4, h4, hm⟩ := obind hm
          refine X_reg_seq ty_ok Γok hL [(8, .c (i_within_r r4) (i_within_n r4) (i_within_o (e.Actual, (w64 (e.Planned - 60)), (w64 (e.Planned + 600))) r4))] (.cons (i_within_c h4) .nil) (by kernel_rfl) ?_
          refine X_cond (!r4) (by kernel_rfl) (fun hc3 => ?_) (fun hc3 => ?_)
          · have hm := it hc3 hm
            refine X_reg_seq ty_ok Γok hL [] .nil (by kernel_rfl) ?_
            obtain rfl := some_inj hm
            obtain rfl := hb _ rfl
            have hm := congrArg some (hr _ rfl)
            obtain rfl := some_inj hm
            refine Ok_ret ?_
            repeat (first | refine thR ?_ | refine ibR ?_)
            exact X_fin [] [] (by kernel_rfl) trivial
          · have hm := ie hc3 hm
            refine X_skip ?_
            refine ibN ?_
            refine thN ?_
            refine X_reg ty_ok Γok hL [] .nil (by kernel_rfl) ?_
            obtain rfl := some_inj hm
            exact thN ⟨_, rfl, Wk_J hL ⟨[(8, []), (9, []), (10, [])], [], [], 32⟩ (by kernel_rfl)⟩
      · have hm := ie hc1 hm
        obtain rfl := some_inj hm
        obtain rfl := hb _ rfl
        refine Ok_exit ?_
        refine thE ?_
        refine thE ?_
        refine ibE ?_
        exact thN ⟨_, rfl, Wk_J hL ⟨[], [], [], 32⟩ (by kernel_rfl)⟩
    rintro ⟨⟩ hu s hw
    have hm := hk1 _ hu
    refine thN ?_
    refine Ok_weak hw ?_
    refine X_reg_seq ty_ok Γok hL [] .nil (by kernel_rfl) ?_
    obtain rfl := some_inj hm
    refine Ok_ret ?_
    repeat (first | refine thR ?_ | refine ibR ?_)
    exact X_fin [] [] (by kernel_rfl) trivial
abbrev slices_Clone_Visit_r (y : (List Visit)) : AV := .own 0
abbrev slices_Clone_Visit_n (y : (List Visit)) : List Obj' := [.arr 206 4 (List.map Enc.e y)]
abbrev slices_Clone_Visit_o (x : (List Visit)) (y : (List Visit)) : List Obj' := []
noncomputable def slices_Clone_Visit_S : FnSpec := modS [.rd] (fun x : (List Visit) => [Enc.e x]) (fun x : (List Visit) => []) (fun x : (List Visit) => slices_Clone_Visit x) slices_Clone_Visit_r slices_Clone_Visit_n slices_Clone_Visit_o
theorem slices_Clone_Visit_c {s : List Visit} {y : (List Visit)} (h : slices_Clone_Visit s = some y) : CallOK slices_Clone_Visit_S [Enc.e s] [] (slices_Clone_Visit_r y) (slices_Clone_Visit_n y) (slices_Clone_Visit_o s y) :=
  modS_call (by
    rintro a0 b0 h hO
    have q0 : a0 = b0 := Enc.inj _ _ (congrArg (fun l => List.getD l 0 (.sc undef)) h)
    subst q0; rfl) (x := s) h
theorem slices_Clone_Visit_ok : FnOK Try.prog 227 slices_Clone_Visit_S := by
  have Γok : ∀ f S, lookF f [] = some S → FnOK Try.prog f S := lookF_ok allF_nil
  have Γlive : Live (fun f => lookF f []) := lookF_live allL_nil
  refine fnOK_mod ty_ok (fun args w => Try.call227 args w) Try.func227 rfl [.tmp 2] (by rw [Try.results227]) 8 Try.ntmps227 16 rfl (fun _ => by first | exact Nat.zero_le _ | (simp)) ?_
  rintro s y cx hm hL
  have hm : slices_Clone_Visit s = some y := hm
  have hL : cx.L = 0 := hL
  unfold slices_Clone_Visit at hm
  obtain ⟨u, h, hm⟩ := obind hm
  obtain rfl := some_inj hm
  refine X_reg_seq ty_ok Γok hL [] .nil (by kernel_rfl) ?_
  refine Ok_seq ?_
  refine X_nil_seq ty_ok Γok 1 (ds := List.map Enc.e s) (es := 4) [] .nil (by kernel_rfl) (by rfl) (by rfl) (by kernel_rfl) ?_
  intro b hb
  refine X_cond b (by kernel_rfl) (fun hc => ?_) (fun hc => ?_)
  · have hl : s = [] := by
      cases s with
      | nil => rfl
      | cons a r => have := hb (by simp); rw [hc] at this; cases this
    subst hl
    refine X_reg_seq ty_ok Γok hL [] .nil (by kernel_rfl) ?_
    refine Ok_weak (Wk_J (x' := ⟨[(2, .own 16)], [(16, some (.arr 206 4 []))], 32⟩) hL ⟨[(2, [.o 16])], [], [(16, 206, 4, [])], 32⟩ (by kernel_rfl)) ?_
    refine Ok_ret ?_
    repeat (first | refine thR ?_ | refine ibR ?_)
    exact X_fin [16] [] (by kernel_rfl) trivial
  · refine X_skip ?_
    refine thN ?_
    refine X_reg_seq ty_ok Γok hL [(2, .l (List.map Enc.e (([] : List Visit) ++ s)))] (.cons (app_p (f := Enc.e) (g := Enc.e) (l := ([] : List Visit)) (r := s) (b := 32) (chk_t h) rfl) (.cons (app_m Enc.e ([] : List Visit) s) .nil)) (by kernel_rfl) ?_
    refine Ok_ret ?_
    repeat (first | refine thR ?_ | refine ibR ?_)
    exact X_fin [96] [] (by kernel_rfl) trivial
abbrev i_shiftVisits_r (y : (List Visit) × Bool) : AV := .tup [.own 0, .dat (Enc.e y.2)]
abbrev i_shiftVisits_n (y : (List Visit) × Bool) : List Obj' := [.arr 206 4 (List.map Enc.e y.1)]
abbrev i_shiftVisits_o (x : (List Visit) × Int) (y : (List Visit) × Bool) : List Obj' := []
noncomputable def i_shiftVisits_S : FnSpec := modS [.rd, .rd] (fun x : (List Visit) × Int => [Enc.e x.1, Enc.e x.2]) (fun x : (List Visit) × Int => []) (fun x : (List Visit) × Int => i_shiftVisits x.1 x.2) i_shiftVisits_r i_shiftVisits_n i_shiftVisits_o
theorem i_shiftVisits_c {list : List Visit} {minutes : Int} {y : (List Visit) × Bool} (h : i_shiftVisits list minutes = some y) : CallOK i_shiftVisits_S [Enc.e list, Enc.e minutes] [] (i_shiftVisits_r y) (i_shiftVisits_n y) (i_shiftVisits_o (list, minutes) y) :=
  modS_call (by
    rintro ⟨a0, a1⟩ ⟨b0, b1⟩ h hO
    have q0 : a0 = b0 := Enc.inj _ _ (congrArg (fun l => List.getD l 0 (.sc undef)) h)
    have q1 : a1 = b1 := Enc.inj _ _ (congrArg (fun l => List.getD l 1 (.sc undef)) h)
    subst q0; subst q1; rfl) (x := (list, minutes)) h
theorem i_shiftVisits_ok : FnOK Try.prog 169 i_shiftVisits_S := by
  have Γok : ∀ f S, lookF f [(227, slices_Clone_Visit_S), (168, i_IsValidVisits_S)] = some S → FnOK Try.prog f S := lookF_ok (allF_cons slices_Clone_Visit_ok (allF_cons i_IsValidVisits_ok allF_nil))
  have Γlive : Live (fun f => lookF f [(227, slices_Clone_Visit_S), (168, i_IsValidVisits_S)]) := lookF_live (allL_cons modS_live (allL_cons modS_live allL_nil))
  refine fnOK_mod ty_ok (fun args w => Try.call169 args w) Try.func169 rfl [.tmp 4, .tmp 5] (by rw [Try.results169]) 28 Try.ntmps169 16 rfl (fun _ => by first | exact Nat.zero_le _ | (simp)) ?_
  rintro ⟨list, minutes⟩ y cx hm hL
  have hm : i_shiftVisits list minutes = some y := hm
  have hL : cx.L = 0 := hL
  unfold i_shiftVisits at hm
  refine X_reg_seq ty_ok Γok hL [] .nil (by kernel_rfl) ?_
  obtain ⟨r, h, hm⟩ := obind hm
  refine X_reg_seq ty_ok Γok hL [(1, .c (slices_Clone_Visit_r r) (slices_Clone_Visit_n r) (slices_Clone_Visit_o list r))] (.cons (slices_Clone_Visit_c h) .nil) (by kernel_rfl) ?_
  refine Ok_seq ?_
  refine X_reg_seq ty_ok Γok hL [(1, .n (r.length : Int))] (.cons (len_m Enc.e r) .nil) (by kernel_rfl) ?_
  obtain ⟨v2, hv, hk⟩ := obind hm
  refine X_tail (n := 28) (fun (v2 : List Visit) => (⟨[(6, .own 16)], [(16, some (.arr 206 4 (List.map Enc.e v2)))], 48⟩ : X)) v2 ?_ ?_
  · have hm := hv
    refine Ok_block ?_
    refine X_loop (n := 28) (step := i_shiftVisits_L1 minutes r) (fun ((v, v1) : Int × (List Visit)) => (⟨[(1, .dat (.sc (.int .i64 minutes))), (6, .own 16), (11, .dat (.sc (.int .i64 (r.length : Int)))), (12, .dat (.sc (.int .i64 v)))], [(16, some (.arr 206 4 (List.map Enc.e v1)))], 48⟩ : X)) hm (Wk_J hL ⟨[(1, []), (6, []), (11, []), (12, [])], [(16, 64, [])], [], 48⟩ (by kernel_rfl)) ?_
    rintro ⟨v, v1⟩ r0 hm hb
    rw [i_shiftVisits_L1] at hm
    refine X_reg_seq ty_ok Γok hL [] .nil (by kernel_rfl) ?_
    refine Ok_seq ?_
    refine X_cond (decide (v < (r.length : Int))) (by kernel_rfl) (fun hc => ?_) (fun hc => ?_)
    · have hm := it hc hm
      refine X_skip ?_
      refine thN ?_
      refine Ok_seq ?_
      refine Ok_block ?_
      refine X_reg_seq ty_ok Γok hL [] .nil (by kernel_rfl) ?_
      obtain ⟨e, h1, hm⟩ := obind hm
      obtain ⟨e1, h2, hm⟩ := obind hm
      refine X_reg ty_ok Γok hL [(2, .d (Enc.e e)), (4, .d (Enc.e e)), (7, .d (Enc.e e1)), (9, .sd (Enc.e e1) (List.map Enc.e (v1.set v.toNat (⟨e1.Stop, (w64 (e.Planned + minutes)), e1.Actual, e1.Persons⟩ : Visit))))] (.cons (idx_m (f := Enc.e) h1) (.cons (idx_m2 (f := Enc.e) h1) (.cons (idx_m (f := Enc.e) h2) (.cons (idx_m2 (f := Enc.e) h2) (.cons (set_m Enc.e v1 v.toNat (⟨e1.Stop, (w64 (e.Planned + minutes)), e1.Actual, e1.Persons⟩ : Visit)) .nil))))) (by kernel_rfl) ?_
      refine ibN ?_
      refine thN ?_
      refine X_reg ty_ok Γok hL [] .nil (by kernel_rfl) ?_
      obtain rfl := some_inj hm
      exact thN ⟨_, rfl, Wk_J hL ⟨[(1, []), (6, []), (11, []), (12, [])], [(16, 16, [])], [], 48⟩ (by kernel_rfl)⟩
    · have hm := ie hc hm
      obtain rfl := some_inj hm
      obtain rfl := hb _ rfl
      refine Ok_exit ?_
      refine thE ?_
      refine thE ?_
      refine ibE ?_
      exact thN (Wk_J hL ⟨[(6, [])], [(16, 16, [])], [], 48⟩ (by kernel_rfl))
  intro s hw
  have hm := hk
  refine thN ?_
  refine Ok_weak hw ?_
  obtain ⟨r1, h3, hm⟩ := obind hm
  refine X_reg_seq ty_ok Γok hL [(2, .c (i_IsValidVisits_r r1) (i_IsValidVisits_n r1) (i_IsValidVisits_o v2 r1))] (.cons (i_IsValidVisits_c h3) .nil) (by kernel_rfl) ?_
  obtain rfl := some_inj hm
  refine Ok_ret ?_
  repeat (first | refine thR ?_ | refine ibR ?_)
  exact X_fin [16] [] (by kernel_rfl) trivial
abbrev i_ShiftVisits_r (y : (List Visit) × Bool) : AV := .tup [.dat (Enc.e y.1), .dat (Enc.e y.2)]
abbrev i_ShiftVisits_n (y : (List Visit) × Bool) : List Obj' := []
abbrev i_ShiftVisits_o (x : (List Visit) × Int) (y : (List Visit) × Bool) : List Obj' := []
noncomputable def i_ShiftVisits_S : FnSpec := modS [.rd, .rd] (fun x : (List Visit) × Int => [Enc.e x.1, Enc.e x.2]) (fun x : (List Visit) × Int => []) (fun x : (List Visit) × Int => i_ShiftVisits x.1 x.2) i_ShiftVisits_r i_ShiftVisits_n i_ShiftVisits_o
theorem i_ShiftVisits_c {list : List Visit} {minutes : Int} {y : (List Visit) × Bool} (h : i_ShiftVisits list minutes = some y) : CallOK i_ShiftVisits_S [Enc.e list, Enc.e minutes] [] (i_ShiftVisits_r y) (i_ShiftVisits_n y) (i_ShiftVisits_o (list, minutes) y) :=
  modS_call (by
    rintro ⟨a0, a1⟩ ⟨b0, b1⟩ h hO
    have q0 : a0 = b0 := Enc.inj _ _ (congrArg (fun l => List.getD l 0 (.sc undef)) h)
    have q1 : a1 = b1 := Enc.inj _ _ (congrArg (fun l => List.getD l 1 (.sc undef)) h)
    subst q0; subst q1; rfl) (x := (list, minutes)) h
theorem i_ShiftVisits_ok : FnOK Try.prog 70 i_ShiftVisits_S := by
  have Γok : ∀ f S, lookF f [(168, i_IsValidVisits_S), (94, i_within_S), (169, i_shiftVisits_S)] = some S → FnOK Try.prog f S := lookF_ok (allF_cons i_IsValidVisits_ok (allF_cons i_within_ok (allF_cons i_shiftVisits_ok allF_nil)))
  have Γlive : Live (fun f => lookF f [(168, i_IsValidVisits_S), (94, i_within_S), (169, i_shiftVisits_S)]) := lookF_live (allL_cons modS_live (allL_cons modS_live (allL_cons modS_live allL_nil)))
  refine fnOK_mod ty_ok (fun args w => Try.call70 args w) Try.func70 rfl [.tmp 4, .tmp 5] (by rw [Try.results70]) 25 Try.ntmps70 16 rfl (fun _ => by first | exact Nat.zero_le _ | (simp)) ?_
  rintro ⟨list, minutes⟩ y cx hm hL
  have hm : i_ShiftVisits list minutes = some y := hm
  have hL : cx.L = 0 := hL
  unfold i_ShiftVisits at hm
  refine X_reg_seq ty_ok Γok hL [] .nil (by kernel_rfl) ?_
  refine Ok_seq ?_
  obtain ⟨r, h, hm⟩ := obind hm
  obtain ⟨v, hv, hk⟩ := obind hm
  refine X_join (n := 25) (fun (v : Bool) => (⟨[(0, .dat (Enc.e list)), (1, .dat (.sc (.int .i64 minutes))), (15, .dat (.sc (.bool v)))], [], 32⟩ : X)) v ?_ ?_
  · have hm := hv
    rcases btf (!r) with hb | hb
    · have hm := it hb hm
      obtain rfl := some_inj hm
      refine X_reg ty_ok Γok hL [(1, .c (i_IsValidVisits_r r) (i_IsValidVisits_n r) (i_IsValidVisits_o list r)), (3, .b true)] (.cons (i_IsValidVisits_c h) (.cons hb .nil)) (by kernel_rfl) ?_
      exact thN (Wk_J hL ⟨[(0, []), (1, []), (15, [])], [], [], 32⟩ (by kernel_rfl))
    · have hm := ie hb hm
      obtain ⟨r1, h1, hm⟩ := obind hm
      obtain rfl := some_inj hm
      refine X_reg ty_ok Γok hL [(1, .c (i_IsValidVisits_r r) (i_IsValidVisits_n r) (i_IsValidVisits_o list r)), (3, .b false), (5, .c (i_within_r r1) (i_within_n r1) (i_within_o (minutes, (-1799), 1799) r1))] (.cons (i_IsValidVisits_c h) (.cons hb (.cons (i_within_c h1) .nil))) (by kernel_rfl) ?_
      exact thN (Wk_J hL ⟨[(0, []), (1, []), (15, [])], [], [], 32⟩ (by kernel_rfl))
  have hm := hk
  refine X_cond v (by kernel_rfl) (fun hc => ?_) (fun hc => ?_)
  · have hm := it hc hm
    refine X_reg_seq ty_ok Γok hL [] .nil (by kernel_rfl) ?_
    obtain rfl := some_inj hm
    refine Ok_ret ?_
    repeat (first | refine thR ?_ | refine ibR ?_)
    exact X_fin [] [[.z 4]] (by kernel_rfl) trivial
  · have hm := ie hc hm
    refine X_skip ?_
    refine thN ?_
    obtain ⟨r2, h2, hm⟩ := obind hm
    refine X_reg_seq ty_ok Γok hL [(2, .c (i_shiftVisits_r r2) (i_shiftVisits_n r2) (i_shiftVisits_o (list, minutes) r2))] (.cons (i_shiftVisits_c h2) .nil) (by kernel_rfl) ?_
    refine Ok_seq ?_
    refine X_reg_seq ty_ok Γok hL [] .nil (by kernel_rfl) ?_
    refine X_cond (!r2.2) (by kernel_rfl) (fun hc1 => ?_) (fun hc1 => ?_)
    · have hm := it hc1 hm
      refine X_reg_seq ty_ok Γok hL [] .nil (by kernel_rfl) ?_
      obtain rfl := some_inj hm
      refine Ok_ret ?_
      repeat (first | refine thR ?_ | refine ibR ?_)
      exact X_fin [] [[.z 4]] (by kernel_rfl) trivial
    · have hm := ie hc1 hm
      refine X_skip ?_
      refine thN ?_
      refine X_reg_seq ty_ok Γok hL [] .nil (by kernel_rfl) ?_
      obtain rfl := some_inj hm
      refine Ok_ret ?_
      repeat (first | refine thR ?_ | refine ibR ?_)
      exact X_fin [] [] (by kernel_rfl) trivial
abbrev s_l1In_r (y : Bool) : AV := .dat (Enc.e y)
abbrev s_l1In_n (y : Bool) : List Obj' := []
abbrev s_l1In_o (x : Int × Int × Int) (y : Bool) : List Obj' := []
noncomputable def s_l1In_S : FnSpec := modS [.rd, .rd, .rd] (fun x : Int × Int × Int => [Enc.e x.1, Enc.e x.2.1, Enc.e x.2.2]) (fun x : Int × Int × Int => []) (fun x : Int × Int × Int => s_l1In x.1 x.2.1 x.2.2) s_l1In_r s_l1In_n s_l1In_o
theorem s_l1In_c {x : Int} {a : Int} {b : Int} {y : Bool} (h : s_l1In x a b = some y) : CallOK s_l1In_S [Enc.e x, Enc.e a, Enc.e b] [] (s_l1In_r y) (s_l1In_n y) (s_l1In_o (x, a, b) y) :=
  modS_call (by
    rintro ⟨a0, a1, a2⟩ ⟨b0, b1, b2⟩ h hO
    have q0 : a0 = b0 := Enc.inj _ _ (congrArg (fun l => List.getD l 0 (.sc undef)) h)
    have q1 : a1 = b1 := Enc.inj _ _ (congrArg (fun l => List.getD l 1 (.sc undef)) h)
    have q2 : a2 = b2 := Enc.inj _ _ (congrArg (fun l => List.getD l 2 (.sc undef)) h)
    subst q0; subst q1; subst q2; rfl) (x := (x, a, b)) h
theorem s_l1In_ok : FnOK Try.prog 88 s_l1In_S := by
  have Γok : ∀ f S, lookF f [] = some S → FnOK Try.prog f S := lookF_ok allF_nil
  have Γlive : Live (fun f => lookF f []) := lookF_live allL_nil
  refine fnOK_mod ty_ok (fun args w => Try.call88 args w) Try.func88 rfl [.tmp 6] (by rw [Try.results88]) 15 Try.ntmps88 16 rfl (fun _ => by first | exact Nat.zero_le _ | (simp)) ?_
  rintro ⟨x, a, b⟩ y cx hm hL
  have hm : s_l1In x a b = some y := hm
  have hL : cx.L = 0 := hL
  unfold s_l1In at hm
  refine X_reg_seq ty_ok Γok hL [] .nil (by kernel_rfl) ?_
  obtain ⟨v, hv, hk⟩ := obind hm
  refine X_join (n := 15) (fun (v : Bool) => (⟨[(6, .dat (.sc (.bool v)))], [], 32⟩ : X)) v ?_ ?_
  · have hm := hv
    rcases btf (decide (a ≤ x)) with hb | hb
    · have hm := it hb hm
      obtain rfl := some_inj hm
      refine X_reg ty_ok Γok hL [(3, .b true)] (.cons hb .nil) (by kernel_rfl) ?_
      exact thN (Wk_J hL ⟨[(6, [])], [], [], 32⟩ (by kernel_rfl))
    · have hm := ie hb hm
      obtain rfl := some_inj hm
      refine X_reg ty_ok Γok hL [(3, .b false)] (.cons hb .nil) (by kernel_rfl) ?_
      exact thN (Wk_J hL ⟨[(6, [])], [], [], 32⟩ (by kernel_rfl))
  have hm := hk
  obtain rfl := some_inj hm
  refine Ok_ret ?_
  repeat (first | refine thR ?_ | refine ibR ?_)
  exact X_fin [] [] (by kernel_rfl) trivial
abbrev s_l4Time_r (y : Bool) : AV := .dat (Enc.e y)
abbrev s_l4Time_n (y : Bool) : List Obj' := []
abbrev s_l4Time_o (x : Int) (y : Bool) : List Obj' := []
noncomputable def s_l4Time_S : FnSpec := modS [.rd] (fun x : Int => [Enc.e x]) (fun x : Int => []) (fun x : Int => s_l4Time x) s_l4Time_r s_l4Time_n s_l4Time_o
theorem s_l4Time_c {t : Int} {y : Bool} (h : s_l4Time t = some y) : CallOK s_l4Time_S [Enc.e t] [] (s_l4Time_r y) (s_l4Time_n y) (s_l4Time_o t y) :=
  modS_call (by
    rintro a0 b0 h hO
    have q0 : a0 = b0 := Enc.inj _ _ (congrArg (fun l => List.getD l 0 (.sc undef)) h)
    subst q0; rfl) (x := t) h
theorem s_l4Time_ok : FnOK Try.prog 204 s_l4Time_S := by
  have Γok : ∀ f S, lookF f [(88, s_l1In_S)] = some S → FnOK Try.prog f S := lookF_ok (allF_cons s_l1In_ok allF_nil)
  have Γlive : Live (fun f => lookF f [(88, s_l1In_S)]) := lookF_live (allL_cons modS_live allL_nil)
  refine fnOK_mod ty_ok (fun args w => Try.call204 args w) Try.func204 rfl [.tmp 2] (by rw [Try.results204]) 5 Try.ntmps204 16 rfl (fun _ => by first | exact Nat.zero_le _ | (simp)) ?_
  rintro t y cx hm hL
  have hm : s_l4Time t = some y := hm
  have hL : cx.L = 0 := hL
  unfold s_l4Time at hm
  refine X_reg_seq ty_ok Γok hL [] .nil (by kernel_rfl) ?_
  obtain ⟨r, h, hm⟩ := obind hm
  refine X_reg_seq ty_ok Γok hL [(1, .c (s_l1In_r r) (s_l1In_n r) (s_l1In_o (t, 0, 1799) r))] (.cons (s_l1In_c h) .nil) (by kernel_rfl) ?_
  obtain rfl := some_inj hm
  refine Ok_ret ?_
  repeat (first | refine thR ?_ | refine ibR ?_)
  exact X_fin [] [] (by kernel_rfl) trivial
abbrev s_l22Good_r (y : Bool) : AV := .dat (Enc.e y)
abbrev s_l22Good_n (y : Bool) : List Obj' := []
abbrev s_l22Good_o (x : (List Visit)) (y : Bool) : List Obj' := []
noncomputable def s_l22Good_S : FnSpec := modS [.rd] (fun x : (List Visit) => [Enc.e x]) (fun x : (List Visit) => []) (fun x : (List Visit) => s_l22Good x) s_l22Good_r s_l22Good_n s_l22Good_o
theorem s_l22Good_c {list : List Visit} {y : Bool} (h : s_l22Good list = some y) : CallOK s_l22Good_S [Enc.e list] [] (s_l22Good_r y) (s_l22Good_n y) (s_l22Good_o list y) :=
  modS_call (by
    rintro a0 b0 h hO
    have q0 : a0 = b0 := Enc.inj _ _ (congrArg (fun l => List.getD l 0 (.sc undef)) h)
    subst q0; rfl) (x := list) h
theorem s_l22Good_ok : FnOK Try.prog 170 s_l22Good_S := by
  have Γok : ∀ f S, lookF f [(88, s_l1In_S), (204, s_l4Time_S)] = some S → FnOK Try.prog f S := lookF_ok (allF_cons s_l1In_ok (allF_cons s_l4Time_ok allF_nil))
  have Γlive : Live (fun f => lookF f [(88, s_l1In_S), (204, s_l4Time_S)]) := lookF_live (allL_cons modS_live (allL_cons modS_live allL_nil))
  refine fnOK_mod ty_ok (fun args w => Try.call170 args w) Try.func170 rfl [.tmp 2] (by rw [Try.results170]) 43 Try.ntmps170 16 rfl (fun _ => by first | exact Nat.zero_le _ | (simp)) ?_
  rintro list y cx hm hL
  have hm : s_l22Good list = some y := hm
  have hL : cx.L = 0 := hL
  unfold s_l22Good at hm
  refine X_reg_seq ty_ok Γok hL [] .nil (by kernel_rfl) ?_
  refine Ok_seq ?_
  refine X_reg_seq ty_ok Γok hL [] .nil (by kernel_rfl) ?_
  obtain ⟨v1, hv1, hr, hk1⟩ := flb_t hm
  refine X_tailF (n := 43) (fun (_ : Unit) => (⟨[(0, .dat (Enc.e list))], [], 32⟩ : X)) v1 ?_ ?_
  · have hm := hv1
    refine Ok_block ?_
    refine X_loop (n := 43) (step := s_l22Good_L1 list) (fun (x : Int) => (⟨[(0, .dat (Enc.e list)), (3, .dat (.sc (.int .i64 x)))], [], 32⟩ : X)) hm (Wk_J hL ⟨[(0, []), (3, [])], [], [], 32⟩ (by kernel_rfl)) ?_
    rintro x r0 hm hb
    rw [s_l22Good_L1] at hm
    refine Ok_seq ?_
    refine X_reg_seq ty_ok Γok hL [(2, .n (list.length : Int))] (.cons (len_m Enc.e list) .nil) (by kernel_rfl) ?_
    refine X_cond (decide (x < (list.length : Int))) (by kernel_rfl) (fun hc => ?_) (fun hc => ?_)
    · have hm := it hc hm
      refine X_skip ?_
      refine thN ?_
      refine Ok_seq ?_
      refine Ok_block ?_
      obtain ⟨e, h, hm⟩ := obind hm
      refine X_reg_seq ty_ok Γok hL [(2, .d (Enc.e e))] (.cons (idx_m (f := Enc.e) h) .nil) (by kernel_rfl) ?_
      obtain ⟨r, h1, hm⟩ := obind hm
      obtain ⟨v, hv, hk⟩ := obind hm
      refine X_join (n := 43) (fun (v : Bool) => (⟨[(0, .dat (Enc.e list)), (3, .dat (.sc (.int .i64 x))), (39, .dat (.sc (.bool v)))], [], 32⟩ : X)) v ?_ ?_
      · have hm := hv
        rcases btf (!r) with hb1 | hb1
        · have hm := it hb1 hm
          obtain rfl := some_inj hm
          refine X_reg ty_ok Γok hL [(2, .c (s_l1In_r r) (s_l1In_n r) (s_l1In_o (e.Stop, 0, 7) r)), (4, .b true)] (.cons (s_l1In_c h1) (.cons hb1 .nil)) (by kernel_rfl) ?_
          exact thN (Wk_J hL ⟨[(0, []), (3, []), (39, [])], [], [], 32⟩ (by kernel_rfl))
        · have hm := ie hb1 hm
          obtain ⟨r1, h2, hm⟩ := obind hm
          rcases btf (!r1) with hb2 | hb2
          · have hm := it hb2 hm
            obtain rfl := some_inj hm
            refine X_reg ty_ok Γok hL [(2, .c (s_l1In_r r) (s_l1In_n r) (s_l1In_o (e.Stop, 0, 7) r)), (4, .b false), (7, .c (s_l4Time_r r1) (s_l4Time_n r1) (s_l4Time_o e.Planned r1)), (10, .b true)] (.cons (s_l1In_c h1) (.cons hb1 (.cons (s_l4Time_c h2) (.cons hb2 .nil)))) (by kernel_rfl) ?_
            exact thN (Wk_J hL ⟨[(0, []), (3, []), (39, [])], [], [], 32⟩ (by kernel_rfl))
          · have hm := ie hb2 hm
            obtain ⟨r2, h3, hm⟩ := obind hm
            rcases btf (!r2) with hb3 | hb3
            · have hm := it hb3 hm
              obtain rfl := some_inj hm
              refine X_reg ty_ok Γok hL [(2, .c (s_l1In_r r) (s_l1In_n r) (s_l1In_o (e.Stop, 0, 7) r)), (4, .b false), (7, .c (s_l4Time_r r1) (s_l4Time_n r1) (s_l4Time_o e.Planned r1)), (10, .b false), (16, .c (s_l1In_r r2) (s_l1In_n r2) (s_l1In_o ((w64 (e.Actual - e.Planned)), (-60), 600) r2)), (19, .b true)] (.cons (s_l1In_c h1) (.cons hb1 (.cons (s_l4Time_c h2) (.cons hb2 (.cons (s_l1In_c h3) (.cons hb3 .nil)))))) (by kernel_rfl) ?_
              exact thN (Wk_J hL ⟨[(0, []), (3, []), (39, [])], [], [], 32⟩ (by kernel_rfl))
            · have hm := ie hb3 hm
              obtain ⟨r3, h4, hm⟩ := obind hm
              obtain rfl := some_inj hm
              refine X_reg ty_ok Γok hL [(2, .c (s_l1In_r r) (s_l1In_n r) (s_l1In_o (e.Stop, 0, 7) r)), (4, .b false), (7, .c (s_l4Time_r r1) (s_l4Time_n r1) (s_l4Time_o e.Planned r1)), (10, .b false), (16, .c (s_l1In_r r2) (s_l1In_n r2) (s_l1In_o ((w64 (e.Actual - e.Planned)), (-60), 600) r2)), (19, .b false), (22, .c (s_l1In_r r3) (s_l1In_n r3) (s_l1In_o (e.Persons, 0, 1000) r3))] (.cons (s_l1In_c h1) (.cons hb1 (.cons (s_l4Time_c h2) (.cons hb2 (.cons (s_l1In_c h3) (.cons hb3 (.cons (s_l1In_c h4) .nil))))))) (by kernel_rfl) ?_
              exact thN (Wk_J hL ⟨[(0, []), (3, []), (39, [])], [], [], 32⟩ (by kernel_rfl))
      have hm := hk
      refine X_cond v (by kernel_rfl) (fun hc1 => ?_) (fun hc1 => ?_)
      · have hm := it hc1 hm
        refine X_reg_seq ty_ok Γok hL [] .nil (by kernel_rfl) ?_
        obtain rfl := some_inj hm
        obtain rfl := hb _ rfl
        have hm := congrArg some (hr _ rfl)
        obtain rfl := some_inj hm
        refine Ok_ret ?_
        repeat (first | refine thR ?_ | refine ibR ?_)
        exact X_fin [] [] (by kernel_rfl) trivial
      · have hm := ie hc1 hm
        refine X_skip ?_
        refine ibN ?_
        refine thN ?_
        refine X_reg ty_ok Γok hL [] .nil (by kernel_rfl) ?_
        obtain rfl := some_inj hm
        exact thN ⟨_, rfl, Wk_J hL ⟨[(0, []), (3, [])], [], [], 32⟩ (by kernel_rfl)⟩
    · have hm := ie hc hm
      obtain rfl := some_inj hm
      obtain rfl := hb _ rfl
      refine Ok_exit ?_
      refine thE ?_
      refine thE ?_
      refine ibE ?_
      exact thN ⟨_, rfl, Wk_J hL ⟨[(0, [])], [], [], 32⟩ (by kernel_rfl)⟩
  rintro ⟨⟩ hu s hw
  have hm := hk1 _ hu
  refine thN ?_
  refine Ok_weak hw ?_
  refine X_reg_seq ty_ok Γok hL [(1, .n (list.length : Int))] (.cons (len_m Enc.e list) .nil) (by kernel_rfl) ?_
  obtain rfl := some_inj hm
  refine Ok_ret ?_
  repeat (first | refine thR ?_ | refine ibR ?_)
  exact X_fin [] [] (by kernel_rfl) trivial
abbrev s_l22Shift_r (y : (List Visit)) : AV := .own 0
abbrev s_l22Shift_n (y : (List Visit)) : List Obj' := [.arr 206 4 (List.map Enc.e y)]
abbrev s_l22Shift_o (x : (List Visit) × Int) (y : (List Visit)) : List Obj' := []
noncomputable def s_l22Shift_S : FnSpec := modS [.rd, .rd] (fun x : (List Visit) × Int => [Enc.e x.1, Enc.e x.2]) (fun x : (List Visit) × Int => []) (fun x : (List Visit) × Int => s_l22Shift x.1 x.2) s_l22Shift_r s_l22Shift_n s_l22Shift_o
theorem s_l22Shift_c {list : List Visit} {minutes : Int} {y : (List Visit)} (h : s_l22Shift list minutes = some y) : CallOK s_l22Shift_S [Enc.e list, Enc.e minutes] [] (s_l22Shift_r y) (s_l22Shift_n y) (s_l22Shift_o (list, minutes) y) :=
  modS_call (by
    rintro ⟨a0, a1⟩ ⟨b0, b1⟩ h hO
    have q0 : a0 = b0 := Enc.inj _ _ (congrArg (fun l => List.getD l 0 (.sc undef)) h)
    have q1 : a1 = b1 := Enc.inj _ _ (congrArg (fun l => List.getD l 1 (.sc undef)) h)
    subst q0; subst q1; rfl) (x := (list, minutes)) h
theorem s_l22Shift_ok : FnOK Try.prog 171 s_l22Shift_S := by
  have Γok : ∀ f S, lookF f [] = some S → FnOK Try.prog f S := lookF_ok allF_nil
  have Γlive : Live (fun f => lookF f []) := lookF_live allL_nil
  refine fnOK_mod ty_ok (fun args w => Try.call171 args w) Try.func171 rfl [.tmp 4] (by rw [Try.results171]) 29 Try.ntmps171 16 rfl (fun _ => by first | exact Nat.zero_le _ | (simp)) ?_
  rintro ⟨list, minutes⟩ y cx hm hL
  have hm : s_l22Shift list minutes = some y := hm
  have hL : cx.L = 0 := hL
  unfold s_l22Shift at hm
  refine X_reg_seq ty_ok Γok hL [] .nil (by kernel_rfl) ?_
  refine X_reg_seq ty_ok Γok hL [] .nil (by kernel_rfl) ?_
  refine Ok_seq ?_
  refine X_reg_seq ty_ok Γok hL [] .nil (by kernel_rfl) ?_
  obtain ⟨x1, hv, hk⟩ := obind hm
  refine X_tail (n := 29) (fun (x1 : List Visit) => (⟨[(5, .own 16)], [(16, some (.arr 206 4 (List.map Enc.e x1)))], 48⟩ : X)) x1 ?_ ?_
  · have hm := hv
    refine Ok_block ?_
    refine X_loop (n := 29) (step := s_l22Shift_L1 list minutes) (fun ((v, x) : Int × (List Visit)) => (⟨[(0, .dat (Enc.e list)), (1, .dat (.sc (.int .i64 minutes))), (5, .own 16), (6, .dat (.sc (.int .i64 v)))], [(16, some (.arr 206 4 (List.map Enc.e x)))], 48⟩ : X)) hm (Wk_J hL ⟨[(0, []), (1, []), (5, []), (6, [])], [(16, 32, [])], [], 48⟩ (by kernel_rfl)) ?_
    rintro ⟨v, x⟩ r0 hm hb
    rw [s_l22Shift_L1] at hm
    refine Ok_seq ?_
    refine X_reg_seq ty_ok Γok hL [(2, .n (list.length : Int))] (.cons (len_m Enc.e list) .nil) (by kernel_rfl) ?_
    refine X_cond (decide (v < (list.length : Int))) (by kernel_rfl) (fun hc => ?_) (fun hc => ?_)
    · have hm := it hc hm
      refine X_skip ?_
      refine thN ?_
      refine Ok_seq ?_
      refine Ok_block ?_
      obtain ⟨e, h, hm⟩ := obind hm
      refine X_reg_seq ty_ok Γok hL [(2, .d (Enc.e e))] (.cons (idx_m (f := Enc.e) h) .nil) (by kernel_rfl) ?_
      refine X_reg_seq ty_ok Γok hL [] .nil (by kernel_rfl) ?_
      obtain ⟨u, h1, hm⟩ := obind hm
      refine X_reg ty_ok Γok hL [(3, .l (List.map Enc.e (x ++ ([(⟨e.Stop, (w64 (e.Planned + minutes)), e.Actual, e.Persons⟩ : Visit)] : List Visit))))] (.cons (app_p (f := Enc.e) (g := Enc.e) (l := x) (r := ([(⟨e.Stop, (w64 (e.Planned + minutes)), e.Actual, e.Persons⟩ : Visit)] : List Visit)) (b := 32) (chk_t h1) rfl) (.cons (app_m Enc.e x ([(⟨e.Stop, (w64 (e.Planned + minutes)), e.Actual, e.Persons⟩ : Visit)] : List Visit)) .nil)) (by kernel_rfl) ?_
      refine ibN ?_
      refine thN ?_
      refine X_reg ty_ok Γok hL [] .nil (by kernel_rfl) ?_
      obtain rfl := some_inj hm
      exact thN ⟨_, rfl, Wk_J hL ⟨[(0, []), (1, []), (5, []), (6, [])], [(16, 352, [])], [], 48⟩ (by kernel_rfl)⟩
    · have hm := ie hc hm
      obtain rfl := some_inj hm
      obtain rfl := hb _ rfl
      refine Ok_exit ?_
      refine thE ?_
      refine thE ?_
      refine ibE ?_
      exact thN (Wk_J hL ⟨[(5, [])], [(16, 16, [])], [], 48⟩ (by kernel_rfl))
  intro s hw
  have hm := hk
  refine thN ?_
  refine Ok_weak hw ?_
  refine X_reg_seq ty_ok Γok hL [] .nil (by kernel_rfl) ?_
  obtain rfl := some_inj hm
  refine Ok_ret ?_
  repeat (first | refine thR ?_ | refine ibR ?_)
  exact X_fin [16] [] (by kernel_rfl) trivial
abbrev s_ShiftVisits_r (y : (List Visit) × Bool) : AV := .tup [.own 0, .dat (Enc.e y.2)]
abbrev s_ShiftVisits_n (y : (List Visit) × Bool) : List Obj' := [.arr 206 4 (List.map Enc.e y.1)]
abbrev s_ShiftVisits_o (x : (List Visit) × Int) (y : (List Visit) × Bool) : List Obj' := []
noncomputable def s_ShiftVisits_S : FnSpec := modS [.rd, .rd] (fun x : (List Visit) × Int => [Enc.e x.1, Enc.e x.2]) (fun x : (List Visit) × Int => []) (fun x : (List Visit) × Int => s_ShiftVisits x.1 x.2) s_ShiftVisits_r s_ShiftVisits_n s_ShiftVisits_o
theorem s_ShiftVisits_c {list : List Visit} {minutes : Int} {y : (List Visit) × Bool} (h : s_ShiftVisits list minutes = some y) : CallOK s_ShiftVisits_S [Enc.e list, Enc.e minutes] [] (s_ShiftVisits_r y) (s_ShiftVisits_n y) (s_ShiftVisits_o (list, minutes) y) :=
  modS_call (by
    rintro ⟨a0, a1⟩ ⟨b0, b1⟩ h hO
    have q0 : a0 = b0 := Enc.inj _ _ (congrArg (fun l => List.getD l 0 (.sc undef)) h)
    have q1 : a1 = b1 := Enc.inj _ _ (congrArg (fun l => List.getD l 1 (.sc undef)) h)
    subst q0; subst q1; rfl) (x := (list, minutes)) h
theorem s_ShiftVisits_ok : FnOK Try.prog 71 s_ShiftVisits_S := by
  have Γok : ∀ f S, lookF f [(170, s_l22Good_S), (88, s_l1In_S), (171, s_l22Shift_S)] = some S → FnOK Try.prog f S := lookF_ok (allF_cons s_l22Good_ok (allF_cons s_l1In_ok (allF_cons s_l22Shift_ok allF_nil)))
  have Γlive : Live (fun f => lookF f [(170, s_l22Good_S), (88, s_l1In_S), (171, s_l22Shift_S)]) := lookF_live (allL_cons modS_live (allL_cons modS_live (allL_cons modS_live allL_nil)))
  refine fnOK_mod ty_ok (fun args w => Try.call71 args w) Try.func71 rfl [.tmp 4, .tmp 5] (by rw [Try.results71]) 25 Try.ntmps71 16 rfl (fun _ => by first | exact Nat.zero_le _ | (simp)) ?_
  rintro ⟨list, minutes⟩ y cx hm hL
  have hm : s_ShiftVisits list minutes = some y := hm
  have hL : cx.L = 0 := hL
  unfold s_ShiftVisits at hm
  refine X_reg_seq ty_ok Γok hL [] .nil (by kernel_rfl) ?_
  refine Ok_seq ?_
  obtain ⟨r, h, hm⟩ := obind hm
  obtain ⟨v, hv, hk⟩ := obind hm
  refine X_join (n := 25) (fun (v : Bool) => (⟨[(0, .dat (Enc.e list)), (1, .dat (.sc (.int .i64 minutes))), (20, .dat (.sc (.bool v)))], [], 32⟩ : X)) v ?_ ?_
  · have hm := hv
    rcases btf (!r) with hb | hb
    · have hm := it hb hm
      obtain rfl := some_inj hm
      refine X_reg ty_ok Γok hL [(1, .c (s_l22Good_r r) (s_l22Good_n r) (s_l22Good_o list r)), (3, .b true)] (.cons (s_l22Good_c h) (.cons hb .nil)) (by kernel_rfl) ?_
      exact thN (Wk_J hL ⟨[(0, []), (1, []), (20, [])], [], [], 32⟩ (by kernel_rfl))
    · have hm := ie hb hm
      obtain ⟨r1, h1, hm⟩ := obind hm
      rcases btf (!r1) with hb1 | hb1
      · have hm := it hb1 hm
        obtain rfl := some_inj hm
        refine X_reg ty_ok Γok hL [(1, .c (s_l22Good_r r) (s_l22Good_n r) (s_l22Good_o list r)), (3, .b false), (5, .c (s_l1In_r r1) (s_l1In_n r1) (s_l1In_o (minutes, (-1799), 1799) r1)), (8, .b true)] (.cons (s_l22Good_c h) (.cons hb (.cons (s_l1In_c h1) (.cons hb1 .nil)))) (by kernel_rfl) ?_
        exact thN (Wk_J hL ⟨[(0, []), (1, []), (20, [])], [], [], 32⟩ (by kernel_rfl))
      · have hm := ie hb1 hm
        obtain ⟨r2, h2, hm⟩ := obind hm
        obtain ⟨r3, h3, hm⟩ := obind hm
        obtain rfl := some_inj hm
        refine X_reg ty_ok Γok hL [(1, .c (s_l22Good_r r) (s_l22Good_n r) (s_l22Good_o list r)), (3, .b false), (5, .c (s_l1In_r r1) (s_l1In_n r1) (s_l1In_o (minutes, (-1799), 1799) r1)), (8, .b false), (11, .c (s_l22Shift_r r2) (s_l22Shift_n r2) (s_l22Shift_o (list, minutes) r2)), (12, .c (s_l22Good_r r3) (s_l22Good_n r3) (s_l22Good_o r2 r3))] (.cons (s_l22Good_c h) (.cons hb (.cons (s_l1In_c h1) (.cons hb1 (.cons (s_l22Shift_c h2) (.cons (s_l22Good_c h3) .nil)))))) (by kernel_rfl) ?_
        exact thN (Wk_J hL ⟨[(0, []), (1, []), (20, [])], [], [], 32⟩ (by kernel_rfl))
  have hm := hk
  refine X_cond v (by kernel_rfl) (fun hc => ?_) (fun hc => ?_)
  · have hm := it hc hm
    refine X_reg_seq ty_ok Γok hL [] .nil (by kernel_rfl) ?_
    obtain rfl := some_inj hm
    refine Ok_ret ?_
    repeat (first | refine thR ?_ | refine ibR ?_)
    exact X_fin [32] [] (by kernel_rfl) trivial
  · have hm := ie hc hm
    refine X_skip ?_
    refine thN ?_
    obtain ⟨r4, h4, hm⟩ := obind hm
    refine X_reg_seq ty_ok Γok hL [(2, .c (s_l22Shift_r r4) (s_l22Shift_n r4) (s_l22Shift_o (list, minutes) r4))] (.cons (s_l22Shift_c h4) .nil) (by kernel_rfl) ?_
    obtain rfl := some_inj hm
    refine Ok_ret ?_
    repeat (first | refine thR ?_ | refine ibR ?_)
    exact X_fin [64] [] (by kernel_rfl) trivial
abbrev i_fraction_r (y : Int × Int × Bool) : AV := .tup [.dat (Enc.e y.1), .dat (Enc.e y.2.1), .dat (Enc.e y.2.2)]
abbrev i_fraction_n (y : Int × Int × Bool) : List Obj' := []
abbrev i_fraction_o (x : Int × Int) (y : Int × Int × Bool) : List Obj' := []
noncomputable def i_fraction_S : FnSpec := modS [.rd, .rd] (fun x : Int × Int => [Enc.e x.1, Enc.e x.2]) (fun x : Int × Int => []) (fun x : Int × Int => i_fraction x.1 x.2) i_fraction_r i_fraction_n i_fraction_o
theorem i_fraction_c {num : Int} {den : Int} {y : Int × Int × Bool} (h : i_fraction num den = some y) : CallOK i_fraction_S [Enc.e num, Enc.e den] [] (i_fraction_r y) (i_fraction_n y) (i_fraction_o (num, den) y) :=
  modS_call (by
    rintro ⟨a0, a1⟩ ⟨b0, b1⟩ h hO
    have q0 : a0 = b0 := Enc.inj _ _ (congrArg (fun l => List.getD l 0 (.sc undef)) h)
    have q1 : a1 = b1 := Enc.inj _ _ (congrArg (fun l => List.getD l 1 (.sc undef)) h)
    subst q0; subst q1; rfl) (x := (num, den)) h
theorem i_fraction_ok : FnOK Try.prog 172 i_fraction_S := by
  have Γok : ∀ f S, lookF f [] = some S → FnOK Try.prog f S := lookF_ok allF_nil
  have Γlive : Live (fun f => lookF f []) := lookF_live allL_nil
  refine fnOK_mod ty_ok (fun args w => Try.call172 args w) Try.func172 rfl [.tmp 4, .tmp 5, .tmp 6] (by rw [Try.results172]) 26 Try.ntmps172 16 rfl (fun _ => by first | exact Nat.zero_le _ | (simp)) ?_
  rintro ⟨num, den⟩ y cx hm hL
  have hm : i_fraction num den = some y := hm
  have hL : cx.L = 0 := hL
  unfold i_fraction at hm
  refine X_reg_seq ty_ok Γok hL [] .nil (by kernel_rfl) ?_
  refine X_reg_seq ty_ok Γok hL [] .nil (by kernel_rfl) ?_
  obtain ⟨v2, hv, hk⟩ := obind hm
  refine X_join (n := 26) (fun (v2 : Int) => (⟨[(0, .dat (.sc (.int .i64 num))), (1, .dat (.sc (.int .i64 den))), (7, .dat (.sc (.int .i64 v2)))], [], 32⟩ : X)) v2 ?_ ?_
  · have hm := hv
    refine Ok_block ?_
    refine X_loop (n := 26) (step := i_fraction_L1) (fun ((v, v1) : Int × Int) => (⟨[(0, .dat (.sc (.int .i64 num))), (1, .dat (.sc (.int .i64 den))), (7, .dat (.sc (.int .i64 v))), (8, .dat (.sc (.int .i64 v1)))], [], 32⟩ : X)) hm (Wk_J hL ⟨[(0, []), (1, []), (7, []), (8, [])], [], [], 32⟩ (by kernel_rfl)) ?_
    rintro ⟨v, v1⟩ r0 hm hb
    rw [i_fraction_L1] at hm
    refine Ok_seq ?_
    refine X_reg_seq ty_ok Γok hL [] .nil (by kernel_rfl) ?_
    refine X_cond (v1 != 0) (by kernel_rfl) (fun hc => ?_) (fun hc => ?_)
    · have hm := it hc hm
      refine X_skip ?_
      refine thN ?_
      refine Ok_block ?_
      obtain ⟨u1, h1, hm⟩ := obind hm
      refine X_draw mixed ty_ok Γok Γlive [] (by kernel_rfl) [] (.cons (chk_t h1) .nil) (by kernel_rfl) ?_
      refine ibN ?_
      obtain rfl := some_inj hm
      exact thN ⟨_, rfl, Wk_J hL ⟨[(0, []), (1, []), (7, []), (8, [])], [], [], 32⟩ (by kernel_rfl)⟩
    · have hm := ie hc hm
      obtain rfl := some_inj hm
      obtain rfl := hb _ rfl
      refine Ok_exit ?_
      refine thE ?_
      refine thE ?_
      refine ibE ?_
      exact thN (Wk_J hL ⟨[(0, []), (1, []), (7, [])], [], [], 32⟩ (by kernel_rfl))
  have hm := hk
  obtain ⟨u4, h4, hm⟩ := obind hm
  obtain ⟨u5, h5, hm⟩ := obind hm
  refine X_draw_seq mixed ty_ok Γok Γlive [] (by kernel_rfl) [] (.cons (chk_t h4) (.cons (chk_t h5) .nil)) (by kernel_rfl) ?_
  obtain rfl := some_inj hm
  refine Ok_ret ?_
  repeat (first | refine thR ?_ | refine ibR ?_)
  exact X_fin [] [] (by kernel_rfl) trivial
abbrev i_MeanDelay_r (y : Int × Int × Bool) : AV := .tup [.dat (Enc.e y.1), .dat (Enc.e y.2.1), .dat (Enc.e y.2.2)]
abbrev i_MeanDelay_n (y : Int × Int × Bool) : List Obj' := []
abbrev i_MeanDelay_o (x : (List Visit)) (y : Int × Int × Bool) : List Obj' := []
noncomputable def i_MeanDelay_S : FnSpec := modS [.rd] (fun x : (List Visit) => [Enc.e x]) (fun x : (List Visit) => []) (fun x : (List Visit) => i_MeanDelay x) i_MeanDelay_r i_MeanDelay_n i_MeanDelay_o
theorem i_MeanDelay_c {list : List Visit} {y : Int × Int × Bool} (h : i_MeanDelay list = some y) : CallOK i_MeanDelay_S [Enc.e list] [] (i_MeanDelay_r y) (i_MeanDelay_n y) (i_MeanDelay_o list y) :=
  modS_call (by
    rintro a0 b0 h hO
    have q0 : a0 = b0 := Enc.inj _ _ (congrArg (fun l => List.getD l 0 (.sc undef)) h)
    subst q0; rfl) (x := list) h
theorem i_MeanDelay_ok : FnOK Try.prog 72 i_MeanDelay_S := by
  have Γok : ∀ f S, lookF f [(168, i_IsValidVisits_S), (172, i_fraction_S)] = some S → FnOK Try.prog f S := lookF_ok (allF_cons i_IsValidVisits_ok (allF_cons i_fraction_ok allF_nil))
  have Γlive : Live (fun f => lookF f [(168, i_IsValidVisits_S), (172, i_fraction_S)]) := lookF_live (allL_cons modS_live (allL_cons modS_live allL_nil))
  refine fnOK_mod ty_ok (fun args w => Try.call72 args w) Try.func72 rfl [.tmp 2, .tmp 3, .tmp 4] (by rw [Try.results72]) 37 Try.ntmps72 16 rfl (fun _ => by first | exact Nat.zero_le _ | (simp)) ?_
  rintro list y cx hm hL
  have hm : i_MeanDelay list = some y := hm
  have hL : cx.L = 0 := hL
  unfold i_MeanDelay at hm
  refine X_reg_seq ty_ok Γok hL [] .nil (by kernel_rfl) ?_
  refine Ok_seq ?_
  obtain ⟨r, h, hm⟩ := obind hm
  obtain ⟨v, hv, hk⟩ := obind hm
  refine X_join (n := 37) (fun (v : Bool) => (⟨[(0, .dat (Enc.e list)), (15, .dat (.sc (.bool v)))], [], 32⟩ : X)) v ?_ ?_
  · have hm := hv
    rcases btf (!r) with hb | hb
    · have hm := it hb hm
      obtain rfl := some_inj hm
      refine X_reg ty_ok Γok hL [(1, .c (i_IsValidVisits_r r) (i_IsValidVisits_n r) (i_IsValidVisits_o list r)), (3, .b true)] (.cons (i_IsValidVisits_c h) (.cons hb .nil)) (by kernel_rfl) ?_
      exact thN (Wk_J hL ⟨[(0, []), (15, [])], [], [], 32⟩ (by kernel_rfl))
    · have hm := ie hb hm
      obtain rfl := some_inj hm
      refine X_reg ty_ok Γok hL [(1, .c (i_IsValidVisits_r r) (i_IsValidVisits_n r) (i_IsValidVisits_o list r)), (3, .b false), (5, .n (list.length : Int))] (.cons (i_IsValidVisits_c h) (.cons hb (.cons (len_m Enc.e list) .nil))) (by kernel_rfl) ?_
      exact thN (Wk_J hL ⟨[(0, []), (15, [])], [], [], 32⟩ (by kernel_rfl))
  have hm := hk
  refine X_cond v (by kernel_rfl) (fun hc => ?_) (fun hc => ?_)
  · have hm := it hc hm
    refine X_reg_seq ty_ok Γok hL [] .nil (by kernel_rfl) ?_
    obtain rfl := some_inj hm
    refine Ok_ret ?_
    repeat (first | refine thR ?_ | refine ibR ?_)
    exact X_fin [] [] (by kernel_rfl) trivial
  · have hm := ie hc hm
    refine X_skip ?_
    refine thN ?_
    refine X_reg_seq ty_ok Γok hL [] .nil (by kernel_rfl) ?_
    refine Ok_seq ?_
    refine X_reg_seq ty_ok Γok hL [(1, .n (list.length : Int))] (.cons (len_m Enc.e list) .nil) (by kernel_rfl) ?_
    obtain ⟨v3, hv1, hk1⟩ := obind hm
    refine X_tail (n := 37) (fun (v3 : Int) => (⟨[(0, .dat (Enc.e list)), (5, .dat (.sc (.int .i64 v3)))], [], 32⟩ : X)) v3 ?_ ?_
    · have hm := hv1
      refine Ok_block ?_
      refine X_loop (n := 37) (step := i_MeanDelay_L1 list) (fun ((v1, v2) : Int × Int) => (⟨[(0, .dat (Enc.e list)), (5, .dat (.sc (.int .i64 v1))), (16, .dat (Enc.e list)), (17, .dat (.sc (.int .i64 (list.length : Int)))), (18, .dat (.sc (.int .i64 v2)))], [], 32⟩ : X)) hm (Wk_J hL ⟨[(0, []), (5, []), (16, []), (17, []), (18, [])], [], [], 32⟩ (by kernel_rfl)) ?_
      rintro ⟨v1, v2⟩ r0 hm hb1
      rw [i_MeanDelay_L1] at hm
      refine X_reg_seq ty_ok Γok hL [] .nil (by kernel_rfl) ?_
      refine Ok_seq ?_
      refine X_cond (decide (v2 < (list.length : Int))) (by kernel_rfl) (fun hc1 => ?_) (fun hc1 => ?_)
      · have hm := it hc1 hm
        refine X_skip ?_
        refine thN ?_
        refine Ok_seq ?_
        refine Ok_block ?_
        obtain ⟨e, h1, hm⟩ := obind hm
        refine X_reg_seq ty_ok Γok hL [(0, .d (Enc.e e))] (.cons (idx_m (f := Enc.e) h1) .nil) (by kernel_rfl) ?_
        refine X_reg ty_ok Γok hL [] .nil (by kernel_rfl) ?_
        refine ibN ?_
        refine thN ?_
        refine X_reg ty_ok Γok hL [] .nil (by kernel_rfl) ?_
        obtain rfl := some_inj hm
        exact thN ⟨_, rfl, Wk_J hL ⟨[(0, []), (5, []), (16, []), (17, []), (18, [])], [], [], 32⟩ (by kernel_rfl)⟩
      · have hm := ie hc1 hm
        obtain rfl := some_inj hm
        obtain rfl := hb1 _ rfl
        refine Ok_exit ?_
        refine thE ?_
        refine thE ?_
        refine ibE ?_
        exact thN (Wk_J hL ⟨[(0, []), (5, [])], [], [], 32⟩ (by kernel_rfl))
    intro s hw
    have hm := hk1
    refine thN ?_
    refine Ok_weak hw ?_
    obtain ⟨r1, h2, hm⟩ := obind hm
    refine X_reg_seq ty_ok Γok hL [(2, .n (list.length : Int)), (3, .c (i_fraction_r r1) (i_fraction_n r1) (i_fraction_o (v3, (list.length : Int)) r1))] (.cons (len_m Enc.e list) (.cons (i_fraction_c h2) .nil)) (by kernel_rfl) ?_
    obtain rfl := some_inj hm
    refine Ok_ret ?_
    repeat (first | refine thR ?_ | refine ibR ?_)
    exact X_fin [] [] (by kernel_rfl) trivial
abbrev math_bits_Len64_r (y : Int) : AV := .dat (Enc.e y)
abbrev math_bits_Len64_n (y : Int) : List Obj' := []
abbrev math_bits_Len64_o (x : (IK .u64)) (y : Int) : List Obj' := []
noncomputable def math_bits_Len64_S : FnSpec := modS [.rd] (fun x : (IK .u64) => [Enc.e x]) (fun x : (IK .u64) => []) (fun x : (IK .u64) => math_bits_Len64 x) math_bits_Len64_r math_bits_Len64_n math_bits_Len64_o
theorem math_bits_Len64_c {x : IK .u64} {y : Int} (h : math_bits_Len64 x = some y) : CallOK math_bits_Len64_S [Enc.e x] [] (math_bits_Len64_r y) (math_bits_Len64_n y) (math_bits_Len64_o x y) :=
  modS_call (by
    rintro a0 b0 h hO
    have q0 : a0 = b0 := Enc.inj _ _ (congrArg (fun l => List.getD l 0 (.sc undef)) h)
    subst q0; rfl) (x := x) h
theorem math_bits_Len64_ok : FnOK Try.prog 259 math_bits_Len64_S := by
  have Γok : ∀ f S, lookF f [] = some S → FnOK Try.prog f S := lookF_ok allF_nil
  have Γlive : Live (fun f => lookF f []) := lookF_live allL_nil
  refine fnOK_mod ty_ok (fun args w => Try.call259 args w) Try.func259 rfl [.tmp 2] (by rw [Try.results259]) 25 Try.ntmps259 16 rfl (fun _ => by first | exact Nat.zero_le _ | (simp)) ?_
  rintro x y cx hm hL
  have hm : math_bits_Len64 x = some y := hm
  have hL : cx.L = 0 := hL
  unfold math_bits_Len64 at hm
  refine X_reg_seq ty_ok Γok hL [] .nil (by kernel_rfl) ?_
  obtain ⟨vv2, hv, hk⟩ := obind hm
  refine X_join (n := 25) (fun ((x1, v) : Int × Int) => (⟨[(0, .dat (.sc (.int .u64 x1))), (2, .dat (.sc (.int .i64 v)))], [], 32⟩ : X)) vv2 ?_ ?_
  · have hm := hv
    refine X_reg_seq ty_ok Γok hL [] .nil (by kernel_rfl) ?_
    refine X_cond (decide (4294967296 ≤ x.v)) (by kernel_rfl) (fun hc => ?_) (fun hc => ?_)
    · have hm := it hc hm
      obtain ⟨u, h, hm⟩ := obind hm
      refine X_reg_seq ty_ok Γok hL [] (.cons (chk_t h) .nil) (by kernel_rfl) ?_
      refine X_reg ty_ok Γok hL [] .nil (by kernel_rfl) ?_
      obtain rfl := some_inj hm
      exact thN (Wk_J hL ⟨[(0, []), (2, [])], [], [], 32⟩ (by kernel_rfl))
    · have hm := ie hc hm
      refine X_skip ?_
      obtain rfl := some_inj hm
      exact thN (Wk_J hL ⟨[(0, []), (2, [])], [], [], 32⟩ (by kernel_rfl))
  obtain ⟨x1, v⟩ := vv2
  have hm := hk
  obtain ⟨vv1, hv1, hk1⟩ := obind hm
  refine X_join (n := 25) (fun ((x2, v1) : Int × Int) => (⟨[(0, .dat (.sc (.int .u64 x2))), (2, .dat (.sc (.int .i64 v1)))], [], 32⟩ : X)) vv1 ?_ ?_
  · have hm := hv1
    refine X_reg_seq ty_ok Γok hL [] .nil (by kernel_rfl) ?_
    refine X_cond (decide (65536 ≤ x1)) (by kernel_rfl) (fun hc1 => ?_) (fun hc1 => ?_)
    · have hm := it hc1 hm
      obtain ⟨u1, h1, hm⟩ := obind hm
      refine X_reg_seq ty_ok Γok hL [] (.cons (chk_t h1) .nil) (by kernel_rfl) ?_
      refine X_reg ty_ok Γok hL [] .nil (by kernel_rfl) ?_
      obtain rfl := some_inj hm
      exact thN (Wk_J hL ⟨[(0, []), (2, [])], [], [], 32⟩ (by kernel_rfl))
    · have hm := ie hc1 hm
      refine X_skip ?_
      obtain rfl := some_inj hm
      exact thN (Wk_J hL ⟨[(0, []), (2, [])], [], [], 32⟩ (by kernel_rfl))
  obtain ⟨x2, v1⟩ := vv1
  have hm := hk1
  obtain ⟨vv, hv2, hk2⟩ := obind hm
  refine X_join (n := 25) (fun ((x3, v2) : Int × Int) => (⟨[(0, .dat (.sc (.int .u64 x3))), (2, .dat (.sc (.int .i64 v2)))], [], 32⟩ : X)) vv ?_ ?_
  · have hm := hv2
    refine X_reg_seq ty_ok Γok hL [] .nil (by kernel_rfl) ?_
    refine X_cond (decide (256 ≤ x2)) (by kernel_rfl) (fun hc2 => ?_) (fun hc2 => ?_)
    · have hm := it hc2 hm
      obtain ⟨u2, h2, hm⟩ := obind hm
      refine X_reg_seq ty_ok Γok hL [] (.cons (chk_t h2) .nil) (by kernel_rfl) ?_
      refine X_reg ty_ok Γok hL [] .nil (by kernel_rfl) ?_
      obtain rfl := some_inj hm
      exact thN (Wk_J hL ⟨[(0, []), (2, [])], [], [], 32⟩ (by kernel_rfl))
    · have hm := ie hc2 hm
      refine X_skip ?_
      obtain rfl := some_inj hm
      exact thN (Wk_J hL ⟨[(0, []), (2, [])], [], [], 32⟩ (by kernel_rfl))
  obtain ⟨x3, v2⟩ := vv
  have hm := hk2
  obtain ⟨u3, h3, hm⟩ := obind hm
  refine X_reg_seq ty_ok Γok hL [] (.cons (chk_t h3) .nil) (by kernel_rfl) ?_
  obtain rfl := some_inj hm
  refine Ok_ret ?_
  repeat (first | refine thR ?_ | refine ibR ?_)
  exact X_fin [] [] (by kernel_rfl) trivial
abbrev math_bits_Len_r (y : Int) : AV := .dat (Enc.e y)
abbrev math_bits_Len_n (y : Int) : List Obj' := []
abbrev math_bits_Len_o (x : (IK .u64)) (y : Int) : List Obj' := []
noncomputable def math_bits_Len_S : FnSpec := modS [.rd] (fun x : (IK .u64) => [Enc.e x]) (fun x : (IK .u64) => []) (fun x : (IK .u64) => math_bits_Len x) math_bits_Len_r math_bits_Len_n math_bits_Len_o
theorem math_bits_Len_c {x : IK .u64} {y : Int} (h : math_bits_Len x = some y) : CallOK math_bits_Len_S [Enc.e x] [] (math_bits_Len_r y) (math_bits_Len_n y) (math_bits_Len_o x y) :=
  modS_call (by
    rintro a0 b0 h hO
    have q0 : a0 = b0 := Enc.inj _ _ (congrArg (fun l => List.getD l 0 (.sc undef)) h)
    subst q0; rfl) (x := x) h
theorem math_bits_Len_ok : FnOK Try.prog 229 math_bits_Len_S := by
  have Γok : ∀ f S, lookF f [(259, math_bits_Len64_S)] = some S → FnOK Try.prog f S := lookF_ok (allF_cons math_bits_Len64_ok allF_nil)
  have Γlive : Live (fun f => lookF f [(259, math_bits_Len64_S)]) := lookF_live (allL_cons modS_live allL_nil)
  refine fnOK_mod ty_ok (fun args w => Try.call229 args w) Try.func229 rfl [.tmp 2] (by rw [Try.results229]) 8 Try.ntmps229 16 rfl (fun _ => by first | exact Nat.zero_le _ | (simp)) ?_
  rintro x y cx hm hL
  have hm : math_bits_Len x = some y := hm
  have hL : cx.L = 0 := hL
  unfold math_bits_Len at hm
  refine X_reg_seq ty_ok Γok hL [] .nil (by kernel_rfl) ?_
  refine Ok_seq ?_
  refine X_cond false (by kernel_rfl) (fun hc => by cases hc) (fun _ => ?_)
  refine X_skip ?_
  refine thN ?_
  obtain ⟨r, h, hm⟩ := obind hm
  refine X_reg_seq ty_ok Γok hL [(1, .c (math_bits_Len64_r r) (math_bits_Len64_n r) (math_bits_Len64_o x r))] (.cons (math_bits_Len64_c h) .nil) (by kernel_rfl) ?_
  obtain rfl := some_inj hm
  refine Ok_ret ?_
  repeat (first | refine thR ?_ | refine ibR ?_)
  exact X_fin [] [] (by kernel_rfl) trivial
abbrev cmp_isNaN_int_r (y : Bool) : AV := .dat (Enc.e y)
abbrev cmp_isNaN_int_n (y : Bool) : List Obj' := []
abbrev cmp_isNaN_int_o (x : Int) (y : Bool) : List Obj' := []
noncomputable def cmp_isNaN_int_S : FnSpec := modS [.rd] (fun x : Int => [Enc.e x]) (fun x : Int => []) (fun x : Int => cmp_isNaN_int x) cmp_isNaN_int_r cmp_isNaN_int_n cmp_isNaN_int_o
theorem cmp_isNaN_int_c {x : Int} {y : Bool} (h : cmp_isNaN_int x = some y) : CallOK cmp_isNaN_int_S [Enc.e x] [] (cmp_isNaN_int_r y) (cmp_isNaN_int_n y) (cmp_isNaN_int_o x y) :=
  modS_call (by
    rintro a0 b0 h hO
    have q0 : a0 = b0 := Enc.inj _ _ (congrArg (fun l => List.getD l 0 (.sc undef)) h)
    subst q0; rfl) (x := x) h
theorem cmp_isNaN_int_ok : FnOK Try.prog 231 cmp_isNaN_int_S := by
  have Γok : ∀ f S, lookF f [] = some S → FnOK Try.prog f S := lookF_ok allF_nil
  have Γlive : Live (fun f => lookF f []) := lookF_live allL_nil
  refine fnOK_mod ty_ok (fun args w => Try.call231 args w) Try.func231 rfl [.tmp 2] (by rw [Try.results231]) 6 Try.ntmps231 16 rfl (fun _ => by first | exact Nat.zero_le _ | (simp)) ?_
  rintro x y cx hm hL
  have hm : cmp_isNaN_int x = some y := hm
  have hL : cx.L = 0 := hL
  unfold cmp_isNaN_int at hm
  refine X_reg_seq ty_ok Γok hL [] .nil (by kernel_rfl) ?_
  refine X_reg_seq ty_ok Γok hL [] .nil (by kernel_rfl) ?_
  obtain rfl := some_inj hm
  refine Ok_ret ?_
  repeat (first | refine thR ?_ | refine ibR ?_)
  exact X_fin [] [] (by kernel_rfl) trivial
abbrev cmp_Less_int_r (y : Bool) : AV := .dat (Enc.e y)
abbrev cmp_Less_int_n (y : Bool) : List Obj' := []
abbrev cmp_Less_int_o (x : Int × Int) (y : Bool) : List Obj' := []
noncomputable def cmp_Less_int_S : FnSpec := modS [.rd, .rd] (fun x : Int × Int => [Enc.e x.1, Enc.e x.2]) (fun x : Int × Int => []) (fun x : Int × Int => cmp_Less_int x.1 x.2) cmp_Less_int_r cmp_Less_int_n cmp_Less_int_o
theorem cmp_Less_int_c {x : Int} {y_ : Int} {y : Bool} (h : cmp_Less_int x y_ = some y) : CallOK cmp_Less_int_S [Enc.e x, Enc.e y_] [] (cmp_Less_int_r y) (cmp_Less_int_n y) (cmp_Less_int_o (x, y_) y) :=
  modS_call (by
    rintro ⟨a0, a1⟩ ⟨b0, b1⟩ h hO
    have q0 : a0 = b0 := Enc.inj _ _ (congrArg (fun l => List.getD l 0 (.sc undef)) h)
    have q1 : a1 = b1 := Enc.inj _ _ (congrArg (fun l => List.getD l 1 (.sc undef)) h)
    subst q0; subst q1; rfl) (x := (x, y_)) h
theorem cmp_Less_int_ok : FnOK Try.prog 255 cmp_Less_int_S := by
  have Γok : ∀ f S, lookF f [(231, cmp_isNaN_int_S)] = some S → FnOK Try.prog f S := lookF_ok (allF_cons cmp_isNaN_int_ok allF_nil)
  have Γlive : Live (fun f => lookF f [(231, cmp_isNaN_int_S)]) := lookF_live (allL_cons modS_live allL_nil)
  refine fnOK_mod ty_ok (fun args w => Try.call255 args w) Try.func255 rfl [.tmp 4] (by rw [Try.results255]) 17 Try.ntmps255 16 rfl (fun _ => by first | exact Nat.zero_le _ | (simp)) ?_
  rintro ⟨x, y_⟩ y cx hm hL
  have hm : cmp_Less_int x y_ = some y := hm
  have hL : cx.L = 0 := hL
  unfold cmp_Less_int at hm
  refine X_reg_seq ty_ok Γok hL [] .nil (by kernel_rfl) ?_
  obtain ⟨r, h, hm⟩ := obind hm
  obtain ⟨v, hv, hk⟩ := obind hm
  refine X_join (n := 17) (fun (v : Bool) => (⟨[(4, .dat (.sc (.bool v)))], [], 32⟩ : X)) v ?_ ?_
  · have hm := hv
    rcases btf r with hb | hb
    · have hm := it hb hm
      obtain ⟨r1, h1, hm⟩ := obind hm
      rcases btf (!r1) with hb1 | hb1
      · have hm := it hb1 hm
        obtain rfl := some_inj hm
        refine X_reg ty_ok Γok hL [(1, .c (cmp_isNaN_int_r r) (cmp_isNaN_int_n r) (cmp_isNaN_int_o x r)), (2, .b true), (4, .c (cmp_isNaN_int_r r1) (cmp_isNaN_int_n r1) (cmp_isNaN_int_o y_ r1)), (7, .b true)] (.cons (cmp_isNaN_int_c h) (.cons hb (.cons (cmp_isNaN_int_c h1) (.cons hb1 .nil)))) (by kernel_rfl) ?_
        exact thN (Wk_J hL ⟨[(4, [])], [], [], 32⟩ (by kernel_rfl))
      · have hm := ie hb1 hm
        obtain rfl := some_inj hm
        refine X_reg ty_ok Γok hL [(1, .c (cmp_isNaN_int_r r) (cmp_isNaN_int_n r) (cmp_isNaN_int_o x r)), (2, .b true), (4, .c (cmp_isNaN_int_r r1) (cmp_isNaN_int_n r1) (cmp_isNaN_int_o y_ r1)), (7, .b false)] (.cons (cmp_isNaN_int_c h) (.cons hb (.cons (cmp_isNaN_int_c h1) (.cons hb1 .nil)))) (by kernel_rfl) ?_
        exact thN (Wk_J hL ⟨[(4, [])], [], [], 32⟩ (by kernel_rfl))
    · have hm := ie hb hm
      obtain rfl := some_inj hm
      refine X_reg ty_ok Γok hL [(1, .c (cmp_isNaN_int_r r) (cmp_isNaN_int_n r) (cmp_isNaN_int_o x r)), (2, .b false)] (.cons (cmp_isNaN_int_c h) (.cons hb .nil)) (by kernel_rfl) ?_
      exact thN (Wk_J hL ⟨[(4, [])], [], [], 32⟩ (by kernel_rfl))
  have hm := hk
  obtain rfl := some_inj hm
  refine Ok_ret ?_
  repeat (first | refine thR ?_ | refine ibR ?_)
  exact X_fin [] [] (by kernel_rfl) trivial
abbrev slices_insertionSortOrdered_int_w_r (y : (List Int)) : AV := .tup []
abbrev slices_insertionSortOrdered_int_w_n (y : (List Int)) : List Obj' := []
abbrev slices_insertionSortOrdered_int_w_o (x : (List Int) × Int × Int) (y : (List Int)) : List Obj' := [.arr 3 1 (List.map Enc.e y)]
noncomputable def slices_insertionSortOrdered_int_w_S : FnSpec := modS [.sl, .rd, .rd] (fun x : (List Int) × Int × Int => [.sc undef, Enc.e x.2.1, Enc.e x.2.2]) (fun x : (List Int) × Int × Int => [.arr 3 1 (List.map Enc.e x.1)]) (fun x : (List Int) × Int × Int => slices_insertionSortOrdered_int_w x.1 x.2.1 x.2.2) slices_insertionSortOrdered_int_w_r slices_insertionSortOrdered_int_w_n slices_insertionSortOrdered_int_w_o
theorem slices_insertionSortOrdered_int_w_c {data : List Int} {a : Int} {b : Int} {y : (List Int)} (h : slices_insertionSortOrdered_int_w data a b = some y) : CallOK slices_insertionSortOrdered_int_w_S [.sc undef, Enc.e a, Enc.e b] [.arr 3 1 (List.map Enc.e data)] (slices_insertionSortOrdered_int_w_r y) (slices_insertionSortOrdered_int_w_n y) (slices_insertionSortOrdered_int_w_o (data, a, b) y) :=
  modS_call (by
    rintro ⟨a0, a1, a2⟩ ⟨b0, b1, b2⟩ h hO
    have q0 : a0 = b0 := Enc.inj _ _ (congrArg (fun l => D.sl 1 (obL l 0)) hO)
    have q1 : a1 = b1 := Enc.inj _ _ (congrArg (fun l => List.getD l 1 (.sc undef)) h)
    have q2 : a2 = b2 := Enc.inj _ _ (congrArg (fun l => List.getD l 2 (.sc undef)) h)
    subst q0; subst q1; subst q2; rfl) (x := (data, a, b)) h
theorem slices_insertionSortOrdered_int_w_ok : FnOK Try.prog 249 slices_insertionSortOrdered_int_w_S := by
  have Γok : ∀ f S, lookF f [(255, cmp_Less_int_S)] = some S → FnOK Try.prog f S := lookF_ok (allF_cons cmp_Less_int_ok allF_nil)
  have Γlive : Live (fun f => lookF f [(255, cmp_Less_int_S)]) := lookF_live (allL_cons modS_live allL_nil)
  refine fnOK_mod ty_ok (fun args w => Try.call249 args w) Try.func249 rfl [] (by rw [Try.results249]) 49 Try.ntmps249 16 rfl (fun _ => by first | exact Nat.zero_le _ | (simp)) ?_
  rintro ⟨data, a, b⟩ y cx hm hL
  have hm : slices_insertionSortOrdered_int_w data a b = some y := hm
  have hL : cx.L = 1 := hL
  unfold slices_insertionSortOrdered_int_w at hm
  refine X_reg_seq ty_ok Γok hL [] .nil (by kernel_rfl) ?_
  refine Ok_block ?_
  refine X_loop (n := 49) (step := slices_insertionSortOrdered_int_w_L2 a b) (fun ((v, data1) : Int × (List Int)) => (⟨[(0, .own 0), (1, .dat (.sc (.int .i64 a))), (2, .dat (.sc (.int .i64 b))), (6, .dat (.sc (.int .i64 v)))], [(0, some (.arr 3 1 (List.map Enc.e data1)))], 48⟩ : X)) hm (Wk_J hL ⟨[(0, []), (1, []), (2, []), (6, [])], [(0, 0, [])], [], 48⟩ (by kernel_rfl)) ?_
  rintro ⟨v, data1⟩ r0 hm hb
  rw [slices_insertionSortOrdered_int_w_L2] at hm
  refine Ok_seq ?_
  refine X_reg_seq ty_ok Γok hL [] .nil (by kernel_rfl) ?_
  refine X_cond (decide (v < b)) (by kernel_rfl) (fun hc => ?_) (fun hc => ?_)
  · have hm := it hc hm
    refine X_skip ?_
    refine thN ?_
    refine Ok_seq ?_
    refine Ok_block ?_
    refine X_reg_seq ty_ok Γok hL [] .nil (by kernel_rfl) ?_
    obtain ⟨data3, hv1, hk1⟩ := obind hm
    refine X_tail (n := 49) (fun (data3 : List Int) => (⟨[(0, .own 0), (1, .dat (.sc (.int .i64 a))), (2, .dat (.sc (.int .i64 b))), (6, .dat (.sc (.int .i64 v)))], [(0, some (.arr 3 1 (List.map Enc.e data3)))], 48⟩ : X)) data3 ?_ ?_
    · have hm := hv1
      refine Ok_block ?_
      refine X_loop (n := 49) (step := slices_insertionSortOrdered_int_w_L1 a) (fun ((v1, data2) : Int × (List Int)) => (⟨[(0, .own 0), (1, .dat (.sc (.int .i64 a))), (2, .dat (.sc (.int .i64 b))), (6, .dat (.sc (.int .i64 v))), (7, .dat (.sc (.int .i64 v1)))], [(0, some (.arr 3 1 (List.map Enc.e data2)))], 48⟩ : X)) hm (Wk_J hL ⟨[(0, []), (1, []), (2, []), (6, []), (7, [])], [(0, 0, [])], [], 48⟩ (by kernel_rfl)) ?_
      rintro ⟨v1, data2⟩ r0 hm hb1
      rw [slices_insertionSortOrdered_int_w_L1] at hm
      refine Ok_seq ?_
      obtain ⟨v2, hv, hk⟩ := obind hm
      refine X_join (n := 49) (fun (v2 : Bool) => (⟨[(0, .own 0), (1, .dat (.sc (.int .i64 a))), (2, .dat (.sc (.int .i64 b))), (6, .dat (.sc (.int .i64 v))), (7, .dat (.sc (.int .i64 v1))), (30, .dat (.sc (.bool v2)))], [(0, some (.arr 3 1 (List.map Enc.e data2)))], 48⟩ : X)) v2 ?_ ?_
      · have hm := hv
        rcases btf (decide (a < v1)) with hb2 | hb2
        · have hm := it hb2 hm
          obtain ⟨e2, h3, hm⟩ := obind hm
          obtain ⟨e3, h4, hm⟩ := obind hm
          obtain ⟨r1, h5, hm⟩ := obind hm
          obtain rfl := some_inj hm
          refine X_draw mixed ty_ok Γok Γlive [] (by kernel_rfl) [(3, .b true), (6, .d (Enc.e e2)), (7, .d (Enc.e e2)), (11, .d (Enc.e e3)), (12, .d (Enc.e e3)), (13, .c (cmp_Less_int_r r1) (cmp_Less_int_n r1) (cmp_Less_int_o (e2, e3) r1))] (.cons hb2 (.cons (idx_m (f := Enc.e) h3) (.cons (idx_m2 (f := Enc.e) h3) (.cons (idx_m (f := Enc.e) h4) (.cons (idx_m2 (f := Enc.e) h4) (.cons (cmp_Less_int_c h5) .nil)))))) (by kernel_rfl) ?_
          exact thN (Wk_J hL ⟨[(0, []), (1, []), (2, []), (6, []), (7, []), (30, [])], [(0, 0, [])], [], 48⟩ (by kernel_rfl))
        · have hm := ie hb2 hm
          obtain rfl := some_inj hm
          refine X_draw mixed ty_ok Γok Γlive [] (by kernel_rfl) [(3, .b false)] (.cons hb2 .nil) (by kernel_rfl) ?_
          exact thN (Wk_J hL ⟨[(0, []), (1, []), (2, []), (6, []), (7, []), (30, [])], [(0, 0, [])], [], 48⟩ (by kernel_rfl))
      have hm := hk
      refine X_cond v2 (by kernel_rfl) (fun hc1 => ?_) (fun hc1 => ?_)
      · have hm := it hc1 hm
        refine X_skip ?_
        refine thN ?_
        refine Ok_seq ?_
        refine Ok_block ?_
        obtain ⟨e8, h10, hm⟩ := obind hm
        obtain ⟨e9, h11, hm⟩ := obind hm
        obtain ⟨e10, h12, hm⟩ := obind hm
        obtain ⟨e11, h13, hm⟩ := obind hm
        refine X_draw mixed ty_ok Γok Γlive [(15, [0]), (17, [0])] (by kernel_rfl) [(8, .d (Enc.e e8)), (9, .d (Enc.e e8)), (12, .d (Enc.e e9)), (13, .d (Enc.e e9)), (14, .d (Enc.e e10)), (15, .sd (Enc.e e10) (List.map Enc.e (data2.set v1.toNat e8))), (16, .d (Enc.e e11)), (17, .sd (Enc.e e11) (List.map Enc.e ((data2.set v1.toNat e8).set (w64 (v1 - 1)).toNat e9)))] (.cons (idx_m (f := Enc.e) h10) (.cons (idx_m2 (f := Enc.e) h10) (.cons (idx_m (f := Enc.e) h11) (.cons (idx_m2 (f := Enc.e) h11) (.cons (idx_m (f := Enc.e) h12) (.cons (idx_m2 (f := Enc.e) h12) (.cons (set_m Enc.e data2 v1.toNat e8) (.cons (idx_m (f := Enc.e) h13) (.cons (idx_m2 (f := Enc.e) h13) (.cons (set_m Enc.e (data2.set v1.toNat e8) (w64 (v1 - 1)).toNat e9) .nil)))))))))) (by kernel_rfl) ?_
        refine ibN ?_
        refine thN ?_
        refine X_reg ty_ok Γok hL [] .nil (by kernel_rfl) ?_
        obtain rfl := some_inj hm
        exact thN ⟨_, rfl, Wk_J hL ⟨[(0, []), (1, []), (2, []), (6, []), (7, [])], [(0, 0, [])], [], 48⟩ (by kernel_rfl)⟩
      · have hm := ie hc1 hm
        obtain rfl := some_inj hm
        obtain rfl := hb1 _ rfl
        refine Ok_exit ?_
        refine thE ?_
        refine thE ?_
        refine ibE ?_
        exact thN (Wk_J hL ⟨[(0, []), (1, []), (2, []), (6, [])], [(0, 0, [])], [], 48⟩ (by kernel_rfl))
    intro s hw
    have hm := hk1
    refine ibN ?_
    refine thN ?_
    refine Ok_weak hw ?_
    refine X_reg ty_ok Γok hL [] .nil (by kernel_rfl) ?_
    obtain rfl := some_inj hm
    exact thN ⟨_, rfl, Wk_J hL ⟨[(0, []), (1, []), (2, []), (6, [])], [(0, 0, [])], [], 48⟩ (by kernel_rfl)⟩
  · have hm := ie hc hm
    obtain rfl := some_inj hm
    have hm := congrArg some (hb _ rfl)
    refine Ok_exit ?_
    refine thE ?_
    refine thE ?_
    refine ibE ?_
    obtain rfl := some_inj hm
    exact X_fin [] [] (by kernel_rfl) trivial
abbrev slices_siftDownOrdered_int_w_r (y : (List Int)) : AV := .tup []
abbrev slices_siftDownOrdered_int_w_n (y : (List Int)) : List Obj' := []
abbrev slices_siftDownOrdered_int_w_o (x : (List Int) × Int × Int × Int) (y : (List Int)) : List Obj' := [.arr 3 1 (List.map Enc.e y)]
noncomputable def slices_siftDownOrdered_int_w_S : FnSpec := modS [.sl, .rd, .rd, .rd] (fun x : (List Int) × Int × Int × Int => [.sc undef, Enc.e x.2.1, Enc.e x.2.2.1, Enc.e x.2.2.2]) (fun x : (List Int) × Int × Int × Int => [.arr 3 1 (List.map Enc.e x.1)]) (fun x : (List Int) × Int × Int × Int => slices_siftDownOrdered_int_w x.1 x.2.1 x.2.2.1 x.2.2.2) slices_siftDownOrdered_int_w_r slices_siftDownOrdered_int_w_n slices_siftDownOrdered_int_w_o
theorem slices_siftDownOrdered_int_w_c {data : List Int} {lo : Int} {hi : Int} {first : Int} {y : (List Int)} (h : slices_siftDownOrdered_int_w data lo hi first = some y) : CallOK slices_siftDownOrdered_int_w_S [.sc undef, Enc.e lo, Enc.e hi, Enc.e first] [.arr 3 1 (List.map Enc.e data)] (slices_siftDownOrdered_int_w_r y) (slices_siftDownOrdered_int_w_n y) (slices_siftDownOrdered_int_w_o (data, lo, hi, first) y) :=
  modS_call (by
    rintro ⟨a0, a1, a2, a3⟩ ⟨b0, b1, b2, b3⟩ h hO
    have q0 : a0 = b0 := Enc.inj _ _ (congrArg (fun l => D.sl 1 (obL l 0)) hO)
    have q1 : a1 = b1 := Enc.inj _ _ (congrArg (fun l => List.getD l 1 (.sc undef)) h)
    have q2 : a2 = b2 := Enc.inj _ _ (congrArg (fun l => List.getD l 2 (.sc undef)) h)
    have q3 : a3 = b3 := Enc.inj _ _ (congrArg (fun l => List.getD l 3 (.sc undef)) h)
    subst q0; subst q1; subst q2; subst q3; rfl) (x := (data, lo, hi, first)) h
theorem slices_siftDownOrdered_int_w_ok : FnOK Try.prog 276 slices_siftDownOrdered_int_w_S := by
  have Γok : ∀ f S, lookF f [(255, cmp_Less_int_S)] = some S → FnOK Try.prog f S := lookF_ok (allF_cons cmp_Less_int_ok allF_nil)
  have Γlive : Live (fun f => lookF f [(255, cmp_Less_int_S)]) := lookF_live (allL_cons modS_live allL_nil)
  refine fnOK_mod ty_ok (fun args w => Try.call276 args w) Try.func276 rfl [] (by rw [Try.results276]) 76 Try.ntmps276 16 rfl (fun _ => by first | exact Nat.zero_le _ | (simp)) ?_
  rintro ⟨data, lo, hi, first⟩ y cx hm hL
  have hm : slices_siftDownOrdered_int_w data lo hi first = some y := hm
  have hL : cx.L = 1 := hL
  unfold slices_siftDownOrdered_int_w at hm
  refine X_reg_seq ty_ok Γok hL [] .nil (by kernel_rfl) ?_
  refine Ok_block ?_
  refine X_loop (n := 76) (step := slices_siftDownOrdered_int_w_L1 hi first) (fun ((v, data1) : Int × (List Int)) => (⟨[(0, .own 0), (2, .dat (.sc (.int .i64 hi))), (3, .dat (.sc (.int .i64 first))), (8, .dat (.sc (.int .i64 v)))], [(0, some (.arr 3 1 (List.map Enc.e data1)))], 48⟩ : X)) hm (Wk_J hL ⟨[(0, []), (2, []), (3, []), (8, [])], [(0, 0, [])], [], 48⟩ (by kernel_rfl)) ?_
  rintro ⟨v, data1⟩ r0 hm hb
  rw [slices_siftDownOrdered_int_w_L1] at hm
  refine Ok_block ?_
  refine X_reg_seq ty_ok Γok hL [] .nil (by kernel_rfl) ?_
  refine Ok_seq ?_
  refine X_reg_seq ty_ok Γok hL [] .nil (by kernel_rfl) ?_
  refine X_cond (decide (hi ≤ (w64 ((w64 (2 * v)) + 1)))) (by kernel_rfl) (fun hc => ?_) (fun hc => ?_)
  · have hm := it hc hm
    obtain rfl := some_inj hm
    have hm := congrArg some (hb _ rfl)
    refine Ok_exit ?_
    refine thE ?_
    refine ibX rfl ?_
    refine thE ?_
    refine ibE ?_
    obtain rfl := some_inj hm
    exact X_fin [] [] (by kernel_rfl) trivial
  · have hm := ie hc hm
    refine X_skip ?_
    refine thN ?_
    obtain ⟨v1, hv, hk⟩ := obind hm
    refine X_join (n := 76) (fun (v1 : Int) => (⟨[(0, .own 0), (2, .dat (.sc (.int .i64 hi))), (3, .dat (.sc (.int .i64 first))), (8, .dat (.sc (.int .i64 v))), (9, .dat (.sc (.int .i64 v1)))], [(0, some (.arr 3 1 (List.map Enc.e data1)))], 48⟩ : X)) v1 ?_ ?_
    · have hm := hv
      obtain ⟨v2, hv1, hk1⟩ := obind hm
      refine X_join (n := 76) (fun (v2 : Bool) => (⟨[(0, .own 0), (2, .dat (.sc (.int .i64 hi))), (3, .dat (.sc (.int .i64 first))), (8, .dat (.sc (.int .i64 v))), (9, .dat (.sc (.int .i64 (w64 ((w64 (2 * v)) + 1))))), (36, .dat (.sc (.bool v2)))], [(0, some (.arr 3 1 (List.map Enc.e data1)))], 48⟩ : X)) v2 ?_ ?_
      · have hm := hv1
        rcases btf (decide ((w64 ((w64 ((w64 (2 * v)) + 1)) + 1)) < hi)) with hb1 | hb1
        · have hm := it hb1 hm
          obtain ⟨e3, h3, hm⟩ := obind hm
          obtain ⟨e4, h4, hm⟩ := obind hm
          obtain ⟨r2, h5, hm⟩ := obind hm
          obtain rfl := some_inj hm
          refine X_draw mixed ty_ok Γok Γlive [] (by kernel_rfl) [(4, .b true), (9, .d (Enc.e e3)), (10, .d (Enc.e e3)), (16, .d (Enc.e e4)), (17, .d (Enc.e e4)), (18, .c (cmp_Less_int_r r2) (cmp_Less_int_n r2) (cmp_Less_int_o (e3, e4) r2))] (.cons hb1 (.cons (idx_m (f := Enc.e) h3) (.cons (idx_m2 (f := Enc.e) h3) (.cons (idx_m (f := Enc.e) h4) (.cons (idx_m2 (f := Enc.e) h4) (.cons (cmp_Less_int_c h5) .nil)))))) (by kernel_rfl) ?_
          exact thN (Wk_J hL ⟨[(0, []), (2, []), (3, []), (8, []), (9, []), (36, [])], [(0, 0, [])], [], 48⟩ (by kernel_rfl))
        · have hm := ie hb1 hm
          obtain rfl := some_inj hm
          refine X_draw mixed ty_ok Γok Γlive [] (by kernel_rfl) [(4, .b false)] (.cons hb1 .nil) (by kernel_rfl) ?_
          exact thN (Wk_J hL ⟨[(0, []), (2, []), (3, []), (8, []), (9, []), (36, [])], [(0, 0, [])], [], 48⟩ (by kernel_rfl))
      have hm := hk1
      refine X_cond v2 (by kernel_rfl) (fun hc1 => ?_) (fun hc1 => ?_)
      · have hm := it hc1 hm
        refine X_reg ty_ok Γok hL [] .nil (by kernel_rfl) ?_
        obtain rfl := some_inj hm
        exact thN (Wk_J hL ⟨[(0, []), (2, []), (3, []), (8, []), (9, [])], [(0, 0, [])], [], 48⟩ (by kernel_rfl))
      · have hm := ie hc1 hm
        refine X_skip ?_
        obtain rfl := some_inj hm
        exact thN (Wk_J hL ⟨[(0, []), (2, []), (3, []), (8, []), (9, [])], [(0, 0, [])], [], 48⟩ (by kernel_rfl))
    have hm := hk
    refine Ok_seq ?_
    obtain ⟨e7, h9, hm⟩ := obind hm
    obtain ⟨e8, h10, hm⟩ := obind hm
    obtain ⟨r4, h11, hm⟩ := obind hm
    refine X_draw_seq mixed ty_ok Γok Γlive [] (by kernel_rfl) [(4, .d (Enc.e e7)), (5, .d (Enc.e e7)), (10, .d (Enc.e e8)), (11, .d (Enc.e e8)), (12, .c (cmp_Less_int_r r4) (cmp_Less_int_n r4) (cmp_Less_int_o (e7, e8) r4))] (.cons (idx_m (f := Enc.e) h9) (.cons (idx_m2 (f := Enc.e) h9) (.cons (idx_m (f := Enc.e) h10) (.cons (idx_m2 (f := Enc.e) h10) (.cons (cmp_Less_int_c h11) .nil))))) (by kernel_rfl) ?_
    refine X_cond (!r4) (by kernel_rfl) (fun hc2 => ?_) (fun hc2 => ?_)
    · have hm := it hc2 hm
      obtain rfl := some_inj hm
      have hm := congrArg some (hb _ rfl)
      obtain rfl := some_inj hm
      refine Ok_ret ?_
      repeat (first | refine thR ?_ | refine ibR ?_)
      exact X_fin [] [] (by kernel_rfl) trivial
    · have hm := ie hc2 hm
      refine X_skip ?_
      refine thN ?_
      obtain ⟨e14, h16, hm⟩ := obind hm
      obtain ⟨e15, h17, hm⟩ := obind hm
      obtain ⟨e16, h18, hm⟩ := obind hm
      obtain ⟨e17, h19, hm⟩ := obind hm
      refine X_draw_seq mixed ty_ok Γok Γlive [(21, [0]), (23, [0])] (by kernel_rfl) [(12, .d (Enc.e e14)), (13, .d (Enc.e e14)), (18, .d (Enc.e e15)), (19, .d (Enc.e e15)), (20, .d (Enc.e e16)), (21, .sd (Enc.e e16) (List.map Enc.e (data1.set (w64 (first + v)).toNat e14))), (22, .d (Enc.e e17)), (23, .sd (Enc.e e17) (List.map Enc.e ((data1.set (w64 (first + v)).toNat e14).set (w64 (first + v1)).toNat e15)))] (.cons (idx_m (f := Enc.e) h16) (.cons (idx_m2 (f := Enc.e) h16) (.cons (idx_m (f := Enc.e) h17) (.cons (idx_m2 (f := Enc.e) h17) (.cons (idx_m (f := Enc.e) h18) (.cons (idx_m2 (f := Enc.e) h18) (.cons (set_m Enc.e data1 (w64 (first + v)).toNat e14) (.cons (idx_m (f := Enc.e) h19) (.cons (idx_m2 (f := Enc.e) h19) (.cons (set_m Enc.e (data1.set (w64 (first + v)).toNat e14) (w64 (first + v1)).toNat e15) .nil)))))))))) (by kernel_rfl) ?_
      refine X_reg ty_ok Γok hL [] .nil (by kernel_rfl) ?_
      refine ibN ?_
      obtain rfl := some_inj hm
      exact thN ⟨_, rfl, Wk_J hL ⟨[(0, []), (2, []), (3, []), (8, [])], [(0, 0, [])], [], 48⟩ (by kernel_rfl)⟩
abbrev slices_heapSortOrdered_int_w_r (y : (List Int)) : AV := .tup []
abbrev slices_heapSortOrdered_int_w_n (y : (List Int)) : List Obj' := []
abbrev slices_heapSortOrdered_int_w_o (x : (List Int) × Int × Int) (y : (List Int)) : List Obj' := [.arr 3 1 (List.map Enc.e y)]
noncomputable def slices_heapSortOrdered_int_w_S : FnSpec := modS [.sl, .rd, .rd] (fun x : (List Int) × Int × Int => [.sc undef, Enc.e x.2.1, Enc.e x.2.2]) (fun x : (List Int) × Int × Int => [.arr 3 1 (List.map Enc.e x.1)]) (fun x : (List Int) × Int × Int => slices_heapSortOrdered_int_w x.1 x.2.1 x.2.2) slices_heapSortOrdered_int_w_r slices_heapSortOrdered_int_w_n slices_heapSortOrdered_int_w_o
theorem slices_heapSortOrdered_int_w_c {data : List Int} {a : Int} {b : Int} {y : (List Int)} (h : slices_heapSortOrdered_int_w data a b = some y) : CallOK slices_heapSortOrdered_int_w_S [.sc undef, Enc.e a, Enc.e b] [.arr 3 1 (List.map Enc.e data)] (slices_heapSortOrdered_int_w_r y) (slices_heapSortOrdered_int_w_n y) (slices_heapSortOrdered_int_w_o (data, a, b) y) :=
  modS_call (by
    rintro ⟨a0, a1, a2⟩ ⟨b0, b1, b2⟩ h hO
    have q0 : a0 = b0 := Enc.inj _ _ (congrArg (fun l => D.sl 1 (obL l 0)) hO)
    have q1 : a1 = b1 := Enc.inj _ _ (congrArg (fun l => List.getD l 1 (.sc undef)) h)
    have q2 : a2 = b2 := Enc.inj _ _ (congrArg (fun l => List.getD l 2 (.sc undef)) h)
    subst q0; subst q1; subst q2; rfl) (x := (data, a, b)) h
theorem slices_heapSortOrdered_int_w_ok : FnOK Try.prog 250 slices_heapSortOrdered_int_w_S := by
  have Γok : ∀ f S, lookF f [(276, slices_siftDownOrdered_int_w_S)] = some S → FnOK Try.prog f S := lookF_ok (allF_cons slices_siftDownOrdered_int_w_ok allF_nil)
  have Γlive : Live (fun f => lookF f [(276, slices_siftDownOrdered_int_w_S)]) := lookF_live (allL_cons modS_live allL_nil)
  refine fnOK_mod ty_ok (fun args w => Try.call250 args w) Try.func250 rfl [] (by rw [Try.results250]) 56 Try.ntmps250 16 rfl (fun _ => by first | exact Nat.zero_le _ | (simp)) ?_
  rintro ⟨data, a, b⟩ y cx hm hL
  have hm : slices_heapSortOrdered_int_w data a b = some y := hm
  have hL : cx.L = 1 := hL
  unfold slices_heapSortOrdered_int_w at hm
  refine X_reg_seq ty_ok Γok hL [] .nil (by kernel_rfl) ?_
  refine X_reg_seq ty_ok Γok hL [] .nil (by kernel_rfl) ?_
  refine X_reg_seq ty_ok Γok hL [] .nil (by kernel_rfl) ?_
  refine Ok_seq ?_
  obtain ⟨u, h, hm⟩ := obind hm
  refine X_reg_seq ty_ok Γok hL [] (.cons (chk_t h) .nil) (by kernel_rfl) ?_
  obtain ⟨data2, hv, hk⟩ := obind hm
  refine X_tail (n := 56) (fun (data2 : List Int) => (⟨[(0, .own 0), (6, .dat (.sc (.int .i64 a))), (7, .dat (.sc (.int .i64 0))), (8, .dat (.sc (.int .i64 (w64 (b - a)))))], [(0, some (.arr 3 1 (List.map Enc.e data2)))], 48⟩ : X)) data2 ?_ ?_
  · have hm := hv
    refine Ok_block ?_
    refine X_loop (n := 56) (step := slices_heapSortOrdered_int_w_L1 a b) (fun ((v, data1) : Int × (List Int)) => (⟨[(0, .own 0), (6, .dat (.sc (.int .i64 a))), (7, .dat (.sc (.int .i64 0))), (8, .dat (.sc (.int .i64 (w64 (b - a))))), (9, .dat (.sc (.int .i64 v)))], [(0, some (.arr 3 1 (List.map Enc.e data1)))], 48⟩ : X)) hm (Wk_J hL ⟨[(0, []), (6, []), (7, []), (8, []), (9, [])], [(0, 0, [])], [], 48⟩ (by kernel_rfl)) ?_
    rintro ⟨v, data1⟩ r0 hm hb
    rw [slices_heapSortOrdered_int_w_L1] at hm
    refine Ok_seq ?_
    refine X_reg_seq ty_ok Γok hL [] .nil (by kernel_rfl) ?_
    refine X_cond (decide (0 ≤ v)) (by kernel_rfl) (fun hc => ?_) (fun hc => ?_)
    · have hm := it hc hm
      refine X_skip ?_
      refine thN ?_
      refine Ok_seq ?_
      refine Ok_block ?_
      obtain ⟨r, h1, hm⟩ := obind hm
      refine X_reg ty_ok Γok hL [(4, .c (slices_siftDownOrdered_int_w_r r) (slices_siftDownOrdered_int_w_n r) (slices_siftDownOrdered_int_w_o (data1, v, (w64 (b - a)), a) r))] (.cons (slices_siftDownOrdered_int_w_c h1) .nil) (by kernel_rfl) ?_
      refine ibN ?_
      refine thN ?_
      refine X_reg ty_ok Γok hL [] .nil (by kernel_rfl) ?_
      obtain rfl := some_inj hm
      exact thN ⟨_, rfl, Wk_J hL ⟨[(0, []), (6, []), (7, []), (8, []), (9, [])], [(0, 0, [])], [], 48⟩ (by kernel_rfl)⟩
    · have hm := ie hc hm
      obtain rfl := some_inj hm
      obtain rfl := hb _ rfl
      refine Ok_exit ?_
      refine thE ?_
      refine thE ?_
      refine ibE ?_
      exact thN (Wk_J hL ⟨[(0, []), (6, []), (7, []), (8, [])], [(0, 0, [])], [], 48⟩ (by kernel_rfl))
  intro s hw
  have hm := hk
  refine thN ?_
  refine Ok_weak hw ?_
  refine X_reg_seq ty_ok Γok hL [] .nil (by kernel_rfl) ?_
  refine Ok_block ?_
  refine X_loop (n := 56) (step := slices_heapSortOrdered_int_w_L2 a) (fun ((v1, data3) : Int × (List Int)) => (⟨[(0, .own 0), (6, .dat (.sc (.int .i64 a))), (7, .dat (.sc (.int .i64 0))), (10, .dat (.sc (.int .i64 v1)))], [(0, some (.arr 3 1 (List.map Enc.e data3)))], 48⟩ : X)) hm (Wk_J hL ⟨[(0, []), (6, []), (7, []), (10, [])], [(0, 0, [])], [], 48⟩ (by kernel_rfl)) ?_
  rintro ⟨v1, data3⟩ r0 hm hb1
  rw [slices_heapSortOrdered_int_w_L2] at hm
  refine Ok_seq ?_
  refine X_reg_seq ty_ok Γok hL [] .nil (by kernel_rfl) ?_
  refine X_cond (decide (0 ≤ v1)) (by kernel_rfl) (fun hc1 => ?_) (fun hc1 => ?_)
  · have hm := it hc1 hm
    refine X_skip ?_
    refine thN ?_
    refine Ok_seq ?_
    refine Ok_block ?_
    obtain ⟨e4, h6, hm⟩ := obind hm
    obtain ⟨e5, h7, hm⟩ := obind hm
    obtain ⟨e6, h8, hm⟩ := obind hm
    obtain ⟨e7, h9, hm⟩ := obind hm
    refine X_draw_seq mixed ty_ok Γok Γlive [(17, [0]), (19, [0])] (by kernel_rfl) [(10, .d (Enc.e e4)), (11, .d (Enc.e e4)), (14, .d (Enc.e e5)), (15, .d (Enc.e e5)), (16, .d (Enc.e e6)), (17, .sd (Enc.e e6) (List.map Enc.e (data3.set a.toNat e4))), (18, .d (Enc.e e7)), (19, .sd (Enc.e e7) (List.map Enc.e ((data3.set a.toNat e4).set (w64 (a + v1)).toNat e5)))] (.cons (idx_m (f := Enc.e) h6) (.cons (idx_m2 (f := Enc.e) h6) (.cons (idx_m (f := Enc.e) h7) (.cons (idx_m2 (f := Enc.e) h7) (.cons (idx_m (f := Enc.e) h8) (.cons (idx_m2 (f := Enc.e) h8) (.cons (set_m Enc.e data3 a.toNat e4) (.cons (idx_m (f := Enc.e) h9) (.cons (idx_m2 (f := Enc.e) h9) (.cons (set_m Enc.e (data3.set a.toNat e4) (w64 (a + v1)).toNat e5) .nil)))))))))) (by kernel_rfl) ?_
    obtain ⟨r1, h10, hm⟩ := obind hm
    refine X_reg ty_ok Γok hL [(4, .c (slices_siftDownOrdered_int_w_r r1) (slices_siftDownOrdered_int_w_n r1) (slices_siftDownOrdered_int_w_o (((data3.set a.toNat e4).set (w64 (a + v1)).toNat e5), 0, v1, a) r1))] (.cons (slices_siftDownOrdered_int_w_c h10) .nil) (by kernel_rfl) ?_
    refine ibN ?_
    refine thN ?_
    refine X_reg ty_ok Γok hL [] .nil (by kernel_rfl) ?_
    obtain rfl := some_inj hm
    exact thN ⟨_, rfl, Wk_J hL ⟨[(0, []), (6, []), (7, []), (10, [])], [(0, 0, [])], [], 48⟩ (by kernel_rfl)⟩
  · have hm := ie hc1 hm
    obtain rfl := some_inj hm
    have hm := congrArg some (hb1 _ rfl)
    refine Ok_exit ?_
    refine thE ?_
    refine thE ?_
    refine ibE ?_
    obtain rfl := some_inj hm
    exact X_fin [] [] (by kernel_rfl) trivial
abbrev slices_order2Ordered_int_r (y : Int × Int × Int) : AV := .tup [.dat (Enc.e y.1), .dat (Enc.e y.2.1)]
abbrev slices_order2Ordered_int_n (y : Int × Int × Int) : List Obj' := []
abbrev slices_order2Ordered_int_o (x : (List Int) × Int × Int × Int) (y : Int × Int × Int) : List Obj' := [.box [.dat (.sc (.int .i64 y.2.2))]]
noncomputable def slices_order2Ordered_int_S : FnSpec := modS [.rd, .rd, .rd, .bx] (fun x : (List Int) × Int × Int × Int => [Enc.e x.1, Enc.e x.2.1, Enc.e x.2.2.1, .sc undef]) (fun x : (List Int) × Int × Int × Int => [.box [.dat (.sc (.int .i64 x.2.2.2))]]) (fun x : (List Int) × Int × Int × Int => slices_order2Ordered_int x.1 x.2.1 x.2.2.1 x.2.2.2) slices_order2Ordered_int_r slices_order2Ordered_int_n slices_order2Ordered_int_o
theorem slices_order2Ordered_int_c {data : List Int} {a : Int} {b : Int} {swaps : Int} {y : Int × Int × Int} (h : slices_order2Ordered_int data a b swaps = some y) : CallOK slices_order2Ordered_int_S [Enc.e data, Enc.e a, Enc.e b, .sc undef] [.box [.dat (.sc (.int .i64 swaps))]] (slices_order2Ordered_int_r y) (slices_order2Ordered_int_n y) (slices_order2Ordered_int_o (data, a, b, swaps) y) :=
  modS_call (by
    rintro ⟨a0, a1, a2, a3⟩ ⟨b0, b1, b2, b3⟩ h hO
    have q0 : a0 = b0 := Enc.inj _ _ (congrArg (fun l => List.getD l 0 (.sc undef)) h)
    have q1 : a1 = b1 := Enc.inj _ _ (congrArg (fun l => List.getD l 1 (.sc undef)) h)
    have q2 : a2 = b2 := Enc.inj _ _ (congrArg (fun l => List.getD l 2 (.sc undef)) h)
    have q3 : a3 = b3 := Enc.inj _ _ (congrArg (fun l => (obD l 0).getD 0 (.sc undef)) hO)
    subst q0; subst q1; subst q2; subst q3; rfl) (x := (data, a, b, swaps)) h
theorem slices_order2Ordered_int_ok : FnOK Try.prog 285 slices_order2Ordered_int_S := by
  have Γok : ∀ f S, lookF f [(255, cmp_Less_int_S)] = some S → FnOK Try.prog f S := lookF_ok (allF_cons cmp_Less_int_ok allF_nil)
  have Γlive : Live (fun f => lookF f [(255, cmp_Less_int_S)]) := lookF_live (allL_cons modS_live allL_nil)
  refine fnOK_mod ty_ok (fun args w => Try.call285 args w) Try.func285 rfl [.tmp 8, .tmp 9] (by rw [Try.results285]) 28 Try.ntmps285 16 rfl (fun _ => by first | exact Nat.zero_le _ | (simp)) ?_
  rintro ⟨data, a, b, swaps⟩ y cx hm hL
  have hm : slices_order2Ordered_int data a b swaps = some y := hm
  have hL : cx.L = 1 := hL
  unfold slices_order2Ordered_int at hm
  refine X_reg_seq ty_ok Γok hL [] .nil (by kernel_rfl) ?_
  refine Ok_seq ?_
  obtain ⟨e2, h3, hm⟩ := obind hm
  obtain ⟨e3, h4, hm⟩ := obind hm
  obtain ⟨r1, h5, hm⟩ := obind hm
  refine X_draw_seq mixed ty_ok Γok Γlive [] (by kernel_rfl) [(2, .d (Enc.e e2)), (6, .d (Enc.e e3)), (8, .c (cmp_Less_int_r r1) (cmp_Less_int_n r1) (cmp_Less_int_o (e2, e3) r1))] (.cons (idx_m (f := Enc.e) h3) (.cons (idx_m (f := Enc.e) h4) (.cons (cmp_Less_int_c h5) .nil))) (by kernel_rfl) ?_
  refine X_cond r1 (by kernel_rfl) (fun hc => ?_) (fun hc => ?_)
  · have hm := it hc hm
    refine X_reg_seq ty_ok Γok hL [] .nil (by kernel_rfl) ?_
    refine X_reg_seq ty_ok Γok hL [] .nil (by kernel_rfl) ?_
    obtain rfl := some_inj hm
    refine Ok_ret ?_
    repeat (first | refine thR ?_ | refine ibR ?_)
    exact X_fin [] [] (by kernel_rfl) trivial
  · have hm := ie hc hm
    refine X_skip ?_
    refine thN ?_
    refine X_reg_seq ty_ok Γok hL [] .nil (by kernel_rfl) ?_
    obtain rfl := some_inj hm
    refine Ok_ret ?_
    repeat (first | refine thR ?_ | refine ibR ?_)
    exact X_fin [] [] (by kernel_rfl) trivial
abbrev slices_medianOrdered_int_r (y : Int × Int) : AV := .dat (Enc.e y.1)
abbrev slices_medianOrdered_int_n (y : Int × Int) : List Obj' := []
abbrev slices_medianOrdered_int_o (x : (List Int) × Int × Int × Int × Int) (y : Int × Int) : List Obj' := [.box [.dat (.sc (.int .i64 y.2))]]
noncomputable def slices_medianOrdered_int_S : FnSpec := modS [.rd, .rd, .rd, .rd, .bx] (fun x : (List Int) × Int × Int × Int × Int => [Enc.e x.1, Enc.e x.2.1, Enc.e x.2.2.1, Enc.e x.2.2.2.1, .sc undef]) (fun x : (List Int) × Int × Int × Int × Int => [.box [.dat (.sc (.int .i64 x.2.2.2.2))]]) (fun x : (List Int) × Int × Int × Int × Int => slices_medianOrdered_int x.1 x.2.1 x.2.2.1 x.2.2.2.1 x.2.2.2.2) slices_medianOrdered_int_r slices_medianOrdered_int_n slices_medianOrdered_int_o
theorem slices_medianOrdered_int_c {data : List Int} {a : Int} {b : Int} {c : Int} {swaps : Int} {y : Int × Int} (h : slices_medianOrdered_int data a b c swaps = some y) : CallOK slices_medianOrdered_int_S [Enc.e data, Enc.e a, Enc.e b, Enc.e c, .sc undef] [.box [.dat (.sc (.int .i64 swaps))]] (slices_medianOrdered_int_r y) (slices_medianOrdered_int_n y) (slices_medianOrdered_int_o (data, a, b, c, swaps) y) :=
  modS_call (by
    rintro ⟨a0, a1, a2, a3, a4⟩ ⟨b0, b1, b2, b3, b4⟩ h hO
    have q0 : a0 = b0 := Enc.inj _ _ (congrArg (fun l => List.getD l 0 (.sc undef)) h)
    have q1 : a1 = b1 := Enc.inj _ _ (congrArg (fun l => List.getD l 1 (.sc undef)) h)
    have q2 : a2 = b2 := Enc.inj _ _ (congrArg (fun l => List.getD l 2 (.sc undef)) h)
    have q3 : a3 = b3 := Enc.inj _ _ (congrArg (fun l => List.getD l 3 (.sc undef)) h)
    have q4 : a4 = b4 := Enc.inj _ _ (congrArg (fun l => (obD l 0).getD 0 (.sc undef)) hO)
    subst q0; subst q1; subst q2; subst q3; subst q4; rfl) (x := (data, a, b, c, swaps)) h
theorem slices_medianOrdered_int_ok : FnOK Try.prog 280 slices_medianOrdered_int_S := by
  have Γok : ∀ f S, lookF f [(285, slices_order2Ordered_int_S)] = some S → FnOK Try.prog f S := lookF_ok (allF_cons slices_order2Ordered_int_ok allF_nil)
  have Γlive : Live (fun f => lookF f [(285, slices_order2Ordered_int_S)]) := lookF_live (allL_cons modS_live allL_nil)
  refine fnOK_mod ty_ok (fun args w => Try.call280 args w) Try.func280 rfl [.tmp 10] (by rw [Try.results280]) 36 Try.ntmps280 16 rfl (fun _ => by first | exact Nat.zero_le _ | (simp)) ?_
  rintro ⟨data, a, b, c, swaps⟩ y cx hm hL
  have hm : slices_medianOrdered_int data a b c swaps = some y := hm
  have hL : cx.L = 1 := hL
  unfold slices_medianOrdered_int at hm
  refine X_reg_seq ty_ok Γok hL [] .nil (by kernel_rfl) ?_
  obtain ⟨r, h, hm⟩ := obind hm
  refine X_reg_seq ty_ok Γok hL [(4, .c (slices_order2Ordered_int_r r) (slices_order2Ordered_int_n r) (slices_order2Ordered_int_o (data, a, b, swaps) r))] (.cons (slices_order2Ordered_int_c h) .nil) (by kernel_rfl) ?_
  obtain ⟨r1, h1, hm⟩ := obind hm
  refine X_reg_seq ty_ok Γok hL [(4, .c (slices_order2Ordered_int_r r1) (slices_order2Ordered_int_n r1) (slices_order2Ordered_int_o (data, r.2.1, c, r.2.2) r1))] (.cons (slices_order2Ordered_int_c h1) .nil) (by kernel_rfl) ?_
  obtain ⟨r2, h2, hm⟩ := obind hm
  refine X_reg_seq ty_ok Γok hL [(4, .c (slices_order2Ordered_int_r r2) (slices_order2Ordered_int_n r2) (slices_order2Ordered_int_o (data, r.1, r1.1, r1.2.2) r2))] (.cons (slices_order2Ordered_int_c h2) .nil) (by kernel_rfl) ?_
  refine X_reg_seq ty_ok Γok hL [] .nil (by kernel_rfl) ?_
  obtain rfl := some_inj hm
  refine Ok_ret ?_
  repeat (first | refine thR ?_ | refine ibR ?_)
  exact X_fin [] [] (by kernel_rfl) trivial
abbrev slices_medianAdjacentOrdered_int_r (y : Int × Int) : AV := .dat (Enc.e y.1)
abbrev slices_medianAdjacentOrdered_int_n (y : Int × Int) : List Obj' := []
abbrev slices_medianAdjacentOrdered_int_o (x : (List Int) × Int × Int) (y : Int × Int) : List Obj' := [.box [.dat (.sc (.int .i64 y.2))]]
noncomputable def slices_medianAdjacentOrdered_int_S : FnSpec := modS [.rd, .rd, .bx] (fun x : (List Int) × Int × Int => [Enc.e x.1, Enc.e x.2.1, .sc undef]) (fun x : (List Int) × Int × Int => [.box [.dat (.sc (.int .i64 x.2.2))]]) (fun x : (List Int) × Int × Int => slices_medianAdjacentOrdered_int x.1 x.2.1 x.2.2) slices_medianAdjacentOrdered_int_r slices_medianAdjacentOrdered_int_n slices_medianAdjacentOrdered_int_o
theorem slices_medianAdjacentOrdered_int_c {data : List Int} {a : Int} {swaps : Int} {y : Int × Int} (h : slices_medianAdjacentOrdered_int data a swaps = some y) : CallOK slices_medianAdjacentOrdered_int_S [Enc.e data, Enc.e a, .sc undef] [.box [.dat (.sc (.int .i64 swaps))]] (slices_medianAdjacentOrdered_int_r y) (slices_medianAdjacentOrdered_int_n y) (slices_medianAdjacentOrdered_int_o (data, a, swaps) y) :=
  modS_call (by
    rintro ⟨a0, a1, a2⟩ ⟨b0, b1, b2⟩ h hO
    have q0 : a0 = b0 := Enc.inj _ _ (congrArg (fun l => List.getD l 0 (.sc undef)) h)
    have q1 : a1 = b1 := Enc.inj _ _ (congrArg (fun l => List.getD l 1 (.sc undef)) h)
    have q2 : a2 = b2 := Enc.inj _ _ (congrArg (fun l => (obD l 0).getD 0 (.sc undef)) hO)
    subst q0; subst q1; subst q2; rfl) (x := (data, a, swaps)) h
theorem slices_medianAdjacentOrdered_int_ok : FnOK Try.prog 279 slices_medianAdjacentOrdered_int_S := by
  have Γok : ∀ f S, lookF f [(280, slices_medianOrdered_int_S)] = some S → FnOK Try.prog f S := lookF_ok (allF_cons slices_medianOrdered_int_ok allF_nil)
  have Γlive : Live (fun f => lookF f [(280, slices_medianOrdered_int_S)]) := lookF_live (allL_cons modS_live allL_nil)
  refine fnOK_mod ty_ok (fun args w => Try.call279 args w) Try.func279 rfl [.tmp 6] (by rw [Try.results279]) 15 Try.ntmps279 16 rfl (fun _ => by first | exact Nat.zero_le _ | (simp)) ?_
  rintro ⟨data, a, swaps⟩ y cx hm hL
  have hm : slices_medianAdjacentOrdered_int data a swaps = some y := hm
  have hL : cx.L = 1 := hL
  unfold slices_medianAdjacentOrdered_int at hm
  refine X_reg_seq ty_ok Γok hL [] .nil (by kernel_rfl) ?_
  obtain ⟨r, h, hm⟩ := obind hm
  refine X_reg_seq ty_ok Γok hL [(7, .c (slices_medianOrdered_int_r r) (slices_medianOrdered_int_n r) (slices_medianOrdered_int_o (data, (w64 (a - 1)), a, (w64 (a + 1)), swaps) r))] (.cons (slices_medianOrdered_int_c h) .nil) (by kernel_rfl) ?_
  obtain rfl := some_inj hm
  refine Ok_ret ?_
  repeat (first | refine thR ?_ | refine ibR ?_)
  exact X_fin [] [] (by kernel_rfl) trivial
abbrev slices_choosePivotOrdered_int_r (y : Int × Int) : AV := .tup [.dat (Enc.e y.1), .dat (Enc.e y.2)]
abbrev slices_choosePivotOrdered_int_n (y : Int × Int) : List Obj' := []
abbrev slices_choosePivotOrdered_int_o (x : (List Int) × Int × Int) (y : Int × Int) : List Obj' := []
noncomputable def slices_choosePivotOrdered_int_S : FnSpec := modS [.rd, .rd, .rd] (fun x : (List Int) × Int × Int => [Enc.e x.1, Enc.e x.2.1, Enc.e x.2.2]) (fun x : (List Int) × Int × Int => []) (fun x : (List Int) × Int × Int => slices_choosePivotOrdered_int x.1 x.2.1 x.2.2) slices_choosePivotOrdered_int_r slices_choosePivotOrdered_int_n slices_choosePivotOrdered_int_o
theorem slices_choosePivotOrdered_int_c {data : List Int} {a : Int} {b : Int} {y : Int × Int} (h : slices_choosePivotOrdered_int data a b = some y) : CallOK slices_choosePivotOrdered_int_S [Enc.e data, Enc.e a, Enc.e b] [] (slices_choosePivotOrdered_int_r y) (slices_choosePivotOrdered_int_n y) (slices_choosePivotOrdered_int_o (data, a, b) y) :=
  modS_call (by
    rintro ⟨a0, a1, a2⟩ ⟨b0, b1, b2⟩ h hO
    have q0 : a0 = b0 := Enc.inj _ _ (congrArg (fun l => List.getD l 0 (.sc undef)) h)
    have q1 : a1 = b1 := Enc.inj _ _ (congrArg (fun l => List.getD l 1 (.sc undef)) h)
    have q2 : a2 = b2 := Enc.inj _ _ (congrArg (fun l => List.getD l 2 (.sc undef)) h)
    subst q0; subst q1; subst q2; rfl) (x := (data, a, b)) h
theorem slices_choosePivotOrdered_int_ok : FnOK Try.prog 252 slices_choosePivotOrdered_int_S := by
  have Γok : ∀ f S, lookF f [(279, slices_medianAdjacentOrdered_int_S), (280, slices_medianOrdered_int_S)] = some S → FnOK Try.prog f S := lookF_ok (allF_cons slices_medianAdjacentOrdered_int_ok (allF_cons slices_medianOrdered_int_ok allF_nil))
  have Γlive : Live (fun f => lookF f [(279, slices_medianAdjacentOrdered_int_S), (280, slices_medianOrdered_int_S)]) := lookF_live (allL_cons modS_live (allL_cons modS_live allL_nil))
  refine fnOK_mod ty_ok (fun args w => Try.call252 args w) Try.func252 rfl [.tmp 6, .tmp 7] (by rw [Try.results252]) 57 Try.ntmps252 16 rfl (fun _ => by first | exact Nat.zero_le _ | (simp)) ?_
  rintro ⟨data, a, b⟩ y cx hm hL
  have hm : slices_choosePivotOrdered_int data a b = some y := hm
  have hL : cx.L = 0 := hL
  unfold slices_choosePivotOrdered_int at hm
  refine X_reg_seq ty_ok Γok hL [] .nil (by kernel_rfl) ?_
  refine X_reg_seq ty_ok Γok hL [] .nil (by kernel_rfl) ?_
  refine X_reg_seq ty_ok Γok hL [] .nil (by kernel_rfl) ?_
  obtain ⟨u, h, hm⟩ := obind hm
  refine X_reg_seq ty_ok Γok hL [] (.cons (chk_t h) .nil) (by kernel_rfl) ?_
  obtain ⟨u1, h1, hm⟩ := obind hm
  refine X_reg_seq ty_ok Γok hL [] (.cons (chk_t h1) .nil) (by kernel_rfl) ?_
  obtain ⟨u2, h2, hm⟩ := obind hm
  refine X_reg_seq ty_ok Γok hL [] (.cons (chk_t h2) .nil) (by kernel_rfl) ?_
  obtain ⟨vv1, hv, hk⟩ := obind hm
  refine X_join (n := 57) (fun ((v, v1) : Int × Int) => (⟨[(9, .ref 16 0), (11, .dat (.sc (.int .i64 v)))], [(16, some (.box [.dat (.sc (.int .i64 v1))]))], 48⟩ : X)) vv1 ?_ ?_
  · have hm := hv
    refine X_reg_seq ty_ok Γok hL [] .nil (by kernel_rfl) ?_
    refine X_cond (decide (8 ≤ (w64 (b - a)))) (by kernel_rfl) (fun hc => ?_) (fun hc => ?_)
    · have hm := it hc hm
      obtain ⟨vv, hv1, hk1⟩ := obind hm
      refine X_join (n := 57) (fun ((v2, v3, v4, v5) : Int × Int × Int × Int) => (⟨[(0, .dat (Enc.e data)), (9, .ref 16 0), (10, .dat (.sc (.int .i64 v2))), (11, .dat (.sc (.int .i64 v3))), (12, .dat (.sc (.int .i64 v4)))], [(16, some (.box [.dat (.sc (.int .i64 v5))]))], 48⟩ : X)) vv ?_ ?_
      · have hm := hv1
        refine X_reg_seq ty_ok Γok hL [] .nil (by kernel_rfl) ?_
        refine X_cond (decide (50 ≤ (w64 (b - a)))) (by kernel_rfl) (fun hc1 => ?_) (fun hc1 => ?_)
        · have hm := it hc1 hm
          obtain ⟨r, h3, hm⟩ := obind hm
          refine X_reg_seq ty_ok Γok hL [(2, .c (slices_medianAdjacentOrdered_int_r r) (slices_medianAdjacentOrdered_int_n r) (slices_medianAdjacentOrdered_int_o (data, (w64 (a + (w64 ((w64 ((w64 (b - a)).tdiv 4)) * 1)))), 0) r))] (.cons (slices_medianAdjacentOrdered_int_c h3) .nil) (by kernel_rfl) ?_
          obtain ⟨r1, h4, hm⟩ := obind hm
          refine X_reg_seq ty_ok Γok hL [(2, .c (slices_medianAdjacentOrdered_int_r r1) (slices_medianAdjacentOrdered_int_n r1) (slices_medianAdjacentOrdered_int_o (data, (w64 (a + (w64 ((w64 ((w64 (b - a)).tdiv 4)) * 2)))), r.2) r1))] (.cons (slices_medianAdjacentOrdered_int_c h4) .nil) (by kernel_rfl) ?_
          obtain ⟨r2, h5, hm⟩ := obind hm
          refine X_reg ty_ok Γok hL [(2, .c (slices_medianAdjacentOrdered_int_r r2) (slices_medianAdjacentOrdered_int_n r2) (slices_medianAdjacentOrdered_int_o (data, (w64 (a + (w64 ((w64 ((w64 (b - a)).tdiv 4)) * 3)))), r1.2) r2))] (.cons (slices_medianAdjacentOrdered_int_c h5) .nil) (by kernel_rfl) ?_
          obtain rfl := some_inj hm
          exact thN (Wk_J hL ⟨[(0, []), (9, []), (10, []), (11, []), (12, [])], [(16, 112, [])], [], 48⟩ (by kernel_rfl))
        · have hm := ie hc1 hm
          refine X_skip ?_
          obtain rfl := some_inj hm
          exact thN (Wk_J hL ⟨[(0, []), (9, []), (10, []), (11, []), (12, [])], [(16, 112, [])], [], 48⟩ (by kernel_rfl))
      obtain ⟨v2, v3, v4, v5⟩ := vv
      have hm := hk1
      obtain ⟨r3, h6, hm⟩ := obind hm
      refine X_reg ty_ok Γok hL [(4, .c (slices_medianOrdered_int_r r3) (slices_medianOrdered_int_n r3) (slices_medianOrdered_int_o (data, v2, v3, v4, v5) r3))] (.cons (slices_medianOrdered_int_c h6) .nil) (by kernel_rfl) ?_
      obtain rfl := some_inj hm
      exact thN (Wk_J hL ⟨[(9, []), (11, [])], [(16, 16, [])], [], 48⟩ (by kernel_rfl))
    · have hm := ie hc hm
      refine X_skip ?_
      obtain rfl := some_inj hm
      exact thN (Wk_J hL ⟨[(9, []), (11, [])], [(16, 112, [])], [], 48⟩ (by kernel_rfl))
  obtain ⟨v, v1⟩ := vv1
  have hm := hk
  refine X_reg_seq ty_ok Γok hL [] .nil (by kernel_rfl) ?_
  refine Ok_block ?_
  refine X_reg_seq ty_ok Γok hL [] .nil (by kernel_rfl) ?_
  refine X_cond (v1 == 0) (by kernel_rfl) (fun hc2 => ?_) (fun hc2 => ?_)
  · have hm := it hc2 hm
    refine X_reg_seq ty_ok Γok hL [] .nil (by kernel_rfl) ?_
    obtain rfl := some_inj hm
    refine Ok_ret ?_
    repeat (first | refine thR ?_ | refine ibR ?_)
    exact X_fin [] [] (by kernel_rfl) trivial
  · have hm := ie hc2 hm
    refine X_reg_seq ty_ok Γok hL [] .nil (by kernel_rfl) ?_
    refine X_cond (v1 == 12) (by kernel_rfl) (fun hc3 => ?_) (fun hc3 => ?_)
    · have hm := it hc3 hm
      refine X_reg_seq ty_ok Γok hL [] .nil (by kernel_rfl) ?_
      obtain rfl := some_inj hm
      refine Ok_ret ?_
      repeat (first | refine thR ?_ | refine ibR ?_)
      exact X_fin [] [] (by kernel_rfl) trivial
    · have hm := ie hc3 hm
      refine X_reg_seq ty_ok Γok hL [] .nil (by kernel_rfl) ?_
      obtain rfl := some_inj hm
      refine Ok_ret ?_
      repeat (first | refine thR ?_ | refine ibR ?_)
      exact X_fin [] [] (by kernel_rfl) trivial
abbrev slices_reverseRangeOrdered_int_w_r (y : (List Int)) : AV := .tup []
abbrev slices_reverseRangeOrdered_int_w_n (y : (List Int)) : List Obj' := []
abbrev slices_reverseRangeOrdered_int_w_o (x : (List Int) × Int × Int) (y : (List Int)) : List Obj' := [.arr 3 1 (List.map Enc.e y)]
noncomputable def slices_reverseRangeOrdered_int_w_S : FnSpec := modS [.sl, .rd, .rd] (fun x : (List Int) × Int × Int => [.sc undef, Enc.e x.2.1, Enc.e x.2.2]) (fun x : (List Int) × Int × Int => [.arr 3 1 (List.map Enc.e x.1)]) (fun x : (List Int) × Int × Int => slices_reverseRangeOrdered_int_w x.1 x.2.1 x.2.2) slices_reverseRangeOrdered_int_w_r slices_reverseRangeOrdered_int_w_n slices_reverseRangeOrdered_int_w_o
theorem slices_reverseRangeOrdered_int_w_c {data : List Int} {a : Int} {b : Int} {y : (List Int)} (h : slices_reverseRangeOrdered_int_w data a b = some y) : CallOK slices_reverseRangeOrdered_int_w_S [.sc undef, Enc.e a, Enc.e b] [.arr 3 1 (List.map Enc.e data)] (slices_reverseRangeOrdered_int_w_r y) (slices_reverseRangeOrdered_int_w_n y) (slices_reverseRangeOrdered_int_w_o (data, a, b) y) :=
  modS_call (by
    rintro ⟨a0, a1, a2⟩ ⟨b0, b1, b2⟩ h hO
    have q0 : a0 = b0 := Enc.inj _ _ (congrArg (fun l => D.sl 1 (obL l 0)) hO)
    have q1 : a1 = b1 := Enc.inj _ _ (congrArg (fun l => List.getD l 1 (.sc undef)) h)
    have q2 : a2 = b2 := Enc.inj _ _ (congrArg (fun l => List.getD l 2 (.sc undef)) h)
    subst q0; subst q1; subst q2; rfl) (x := (data, a, b)) h
theorem slices_reverseRangeOrdered_int_w_ok : FnOK Try.prog 253 slices_reverseRangeOrdered_int_w_S := by
  have Γok : ∀ f S, lookF f [] = some S → FnOK Try.prog f S := lookF_ok allF_nil
  have Γlive : Live (fun f => lookF f []) := lookF_live allL_nil
  refine fnOK_mod ty_ok (fun args w => Try.call253 args w) Try.func253 rfl [] (by rw [Try.results253]) 32 Try.ntmps253 16 rfl (fun _ => by first | exact Nat.zero_le _ | (simp)) ?_
  rintro ⟨data, a, b⟩ y cx hm hL
  have hm : slices_reverseRangeOrdered_int_w data a b = some y := hm
  have hL : cx.L = 1 := hL
  unfold slices_reverseRangeOrdered_int_w at hm
  refine X_reg_seq ty_ok Γok hL [] .nil (by kernel_rfl) ?_
  refine X_reg_seq ty_ok Γok hL [] .nil (by kernel_rfl) ?_
  refine Ok_block ?_
  refine X_loop (n := 32) (step := slices_reverseRangeOrdered_int_w_L1) (fun ((v, v1, data1) : Int × Int × (List Int)) => (⟨[(0, .own 0), (6, .dat (.sc (.int .i64 v))), (7, .dat (.sc (.int .i64 v1)))], [(0, some (.arr 3 1 (List.map Enc.e data1)))], 48⟩ : X)) hm (Wk_J hL ⟨[(0, []), (6, []), (7, [])], [(0, 0, [])], [], 48⟩ (by kernel_rfl)) ?_
  rintro ⟨v, v1, data1⟩ r0 hm hb
  rw [slices_reverseRangeOrdered_int_w_L1] at hm
  refine Ok_seq ?_
  refine X_reg_seq ty_ok Γok hL [] .nil (by kernel_rfl) ?_
  refine X_cond (decide (v < v1)) (by kernel_rfl) (fun hc => ?_) (fun hc => ?_)
  · have hm := it hc hm
    refine X_skip ?_
    refine thN ?_
    refine Ok_block ?_
    obtain ⟨e4, h4, hm⟩ := obind hm
    obtain ⟨e5, h5, hm⟩ := obind hm
    obtain ⟨e6, h6, hm⟩ := obind hm
    obtain ⟨e7, h7, hm⟩ := obind hm
    refine X_draw_seq mixed ty_ok Γok Γlive [(13, [0]), (15, [0])] (by kernel_rfl) [(6, .d (Enc.e e4)), (7, .d (Enc.e e4)), (10, .d (Enc.e e5)), (11, .d (Enc.e e5)), (12, .d (Enc.e e6)), (13, .sd (Enc.e e6) (List.map Enc.e (data1.set v.toNat e4))), (14, .d (Enc.e e7)), (15, .sd (Enc.e e7) (List.map Enc.e ((data1.set v.toNat e4).set v1.toNat e5)))] (.cons (idx_m (f := Enc.e) h4) (.cons (idx_m2 (f := Enc.e) h4) (.cons (idx_m (f := Enc.e) h5) (.cons (idx_m2 (f := Enc.e) h5) (.cons (idx_m (f := Enc.e) h6) (.cons (idx_m2 (f := Enc.e) h6) (.cons (set_m Enc.e data1 v.toNat e4) (.cons (idx_m (f := Enc.e) h7) (.cons (idx_m2 (f := Enc.e) h7) (.cons (set_m Enc.e (data1.set v.toNat e4) v1.toNat e5) .nil)))))))))) (by kernel_rfl) ?_
    refine X_reg_seq ty_ok Γok hL [] .nil (by kernel_rfl) ?_
    refine X_reg ty_ok Γok hL [] .nil (by kernel_rfl) ?_
    refine ibN ?_
    obtain rfl := some_inj hm
    exact thN ⟨_, rfl, Wk_J hL ⟨[(0, []), (6, []), (7, [])], [(0, 0, [])], [], 48⟩ (by kernel_rfl)⟩
  · have hm := ie hc hm
    obtain rfl := some_inj hm
    have hm := congrArg some (hb _ rfl)
    refine Ok_exit ?_
    refine thE ?_
    refine thE ?_
    refine ibE ?_
    obtain rfl := some_inj hm
    exact X_fin [] [] (by kernel_rfl) trivial
abbrev slices_partialInsertionSortOrdered_int_w_r (y : Bool × (List Int)) : AV := .dat (Enc.e y.1)
abbrev slices_partialInsertionSortOrdered_int_w_n (y : Bool × (List Int)) : List Obj' := []
abbrev slices_partialInsertionSortOrdered_int_w_o (x : (List Int) × Int × Int) (y : Bool × (List Int)) : List Obj' := [.arr 3 1 (List.map Enc.e y.2)]
noncomputable def slices_partialInsertionSortOrdered_int_w_S : FnSpec := modS [.sl, .rd, .rd] (fun x : (List Int) × Int × Int => [.sc undef, Enc.e x.2.1, Enc.e x.2.2]) (fun x : (List Int) × Int × Int => [.arr 3 1 (List.map Enc.e x.1)]) (fun x : (List Int) × Int × Int => slices_partialInsertionSortOrdered_int_w x.1 x.2.1 x.2.2) slices_partialInsertionSortOrdered_int_w_r slices_partialInsertionSortOrdered_int_w_n slices_partialInsertionSortOrdered_int_w_o
theorem slices_partialInsertionSortOrdered_int_w_c {data : List Int} {a : Int} {b : Int} {y : Bool × (List Int)} (h : slices_partialInsertionSortOrdered_int_w data a b = some y) : CallOK slices_partialInsertionSortOrdered_int_w_S [.sc undef, Enc.e a, Enc.e b] [.arr 3 1 (List.map Enc.e data)] (slices_partialInsertionSortOrdered_int_w_r y) (slices_partialInsertionSortOrdered_int_w_n y) (slices_partialInsertionSortOrdered_int_w_o (data, a, b) y) :=
  modS_call (by
    rintro ⟨a0, a1, a2⟩ ⟨b0, b1, b2⟩ h hO
    have q0 : a0 = b0 := Enc.inj _ _ (congrArg (fun l => D.sl 1 (obL l 0)) hO)
    have q1 : a1 = b1 := Enc.inj _ _ (congrArg (fun l => List.getD l 1 (.sc undef)) h)
    have q2 : a2 = b2 := Enc.inj _ _ (congrArg (fun l => List.getD l 2 (.sc undef)) h)
    subst q0; subst q1; subst q2; rfl) (x := (data, a, b)) h
theorem slices_partialInsertionSortOrdered_int_w_ok : FnOK Try.prog 254 slices_partialInsertionSortOrdered_int_w_S := by
  have Γok : ∀ f S, lookF f [(255, cmp_Less_int_S)] = some S → FnOK Try.prog f S := lookF_ok (allF_cons cmp_Less_int_ok allF_nil)
  have Γlive : Live (fun f => lookF f [(255, cmp_Less_int_S)]) := lookF_live (allL_cons modS_live allL_nil)
  refine fnOK_mod ty_ok (fun args w => Try.call254 args w) Try.func254 rfl [.tmp 6] (by rw [Try.results254]) 133 Try.ntmps254 16 rfl (fun _ => by first | exact Nat.zero_le _ | (simp)) ?_
  rintro ⟨data, a, b⟩ y cx hm hL
  have hm : slices_partialInsertionSortOrdered_int_w data a b = some y := hm
  have hL : cx.L = 1 := hL
  unfold slices_partialInsertionSortOrdered_int_w at hm
  refine X_reg_seq ty_ok Γok hL [] .nil (by kernel_rfl) ?_
  refine X_reg_seq ty_ok Γok hL [] .nil (by kernel_rfl) ?_
  refine Ok_seq ?_
  refine X_reg_seq ty_ok Γok hL [] .nil (by kernel_rfl) ?_
  obtain ⟨v5, hv6, hr, hk6⟩ := flb_t hm
  refine X_tailF (n := 133) (fun (data8 : List Int) => (⟨[(0, .own 0)], [(0, some (.arr 3 1 (List.map Enc.e data8)))], 48⟩ : X)) v5 ?_ ?_
  · have hm := hv6
    refine Ok_block ?_
    refine X_loop (n := 133) (step := slices_partialInsertionSortOrdered_int_w_L4 a b) (fun ((j, v, data1) : Int × Int × (List Int)) => (⟨[(0, .own 0), (1, .dat (.sc (.int .i64 a))), (2, .dat (.sc (.int .i64 b))), (7, .dat (.sc (.int .i64 j))), (8, .dat (.sc (.int .i64 v)))], [(0, some (.arr 3 1 (List.map Enc.e data1)))], 48⟩ : X)) hm (Wk_J hL ⟨[(0, []), (1, []), (2, []), (7, []), (8, [])], [(0, 0, [])], [], 48⟩ (by kernel_rfl)) ?_
    rintro ⟨j, v, data1⟩ r0 hm hb
    rw [slices_partialInsertionSortOrdered_int_w_L4] at hm
    refine Ok_seq ?_
    refine X_reg_seq ty_ok Γok hL [] .nil (by kernel_rfl) ?_
    refine X_cond (decide (v < 5)) (by kernel_rfl) (fun hc => ?_) (fun hc => ?_)
    · have hm := it hc hm
      refine X_skip ?_
      refine thN ?_
      obtain ⟨v4, hv, hr1, hk⟩ := flb_t hm
      refine X_joinF (n := 133) (fun ((j1, data2) : Int × (List Int)) => (⟨[(0, .own 0), (1, .dat (.sc (.int .i64 a))), (2, .dat (.sc (.int .i64 b))), (7, .dat (.sc (.int .i64 j1))), (8, .dat (.sc (.int .i64 v)))], [(0, some (.arr 3 1 (List.map Enc.e data2)))], 48⟩ : X)) v4 ?_ ?_
      · have hm := hv
        refine Ok_block ?_
        obtain ⟨j3, hv2, hk2⟩ := obind hm
        refine X_join (n := 133) (fun (j3 : Int) => (⟨[(0, .own 0), (1, .dat (.sc (.int .i64 a))), (2, .dat (.sc (.int .i64 b))), (7, .dat (.sc (.int .i64 j3))), (8, .dat (.sc (.int .i64 v)))], [(0, some (.arr 3 1 (List.map Enc.e data1)))], 48⟩ : X)) j3 ?_ ?_
        · have hm := hv2
          refine Ok_block ?_
          refine X_loop (n := 133) (step := slices_partialInsertionSortOrdered_int_w_L1 b data1) (fun (j2 : Int) => (⟨[(0, .own 0), (1, .dat (.sc (.int .i64 a))), (2, .dat (.sc (.int .i64 b))), (7, .dat (.sc (.int .i64 j2))), (8, .dat (.sc (.int .i64 v)))], [(0, some (.arr 3 1 (List.map Enc.e data1)))], 48⟩ : X)) hm (Wk_J hL ⟨[(0, []), (1, []), (2, []), (7, []), (8, [])], [(0, 0, [])], [], 48⟩ (by kernel_rfl)) ?_
          rintro j2 r0 hm hb1
          rw [slices_partialInsertionSortOrdered_int_w_L1] at hm
          refine Ok_seq ?_
          obtain ⟨v1, hv1, hk1⟩ := obind hm
          refine X_join (n := 133) (fun (v1 : Bool) => (⟨[(0, .own 0), (1, .dat (.sc (.int .i64 a))), (2, .dat (.sc (.int .i64 b))), (7, .dat (.sc (.int .i64 j2))), (8, .dat (.sc (.int .i64 v))), (32, .dat (.sc (.bool v1)))], [(0, some (.arr 3 1 (List.map Enc.e data1)))], 48⟩ : X)) v1 ?_ ?_
          · have hm := hv1
            rcases btf (decide (j2 < b)) with hb2 | hb2
            · have hm := it hb2 hm
              obtain ⟨e2, h3, hm⟩ := obind hm
              obtain ⟨e3, h4, hm⟩ := obind hm
              obtain ⟨r1, h5, hm⟩ := obind hm
              obtain rfl := some_inj hm
              refine X_draw mixed ty_ok Γok Γlive [] (by kernel_rfl) [(3, .b true), (6, .d (Enc.e e2)), (7, .d (Enc.e e2)), (11, .d (Enc.e e3)), (12, .d (Enc.e e3)), (13, .c (cmp_Less_int_r r1) (cmp_Less_int_n r1) (cmp_Less_int_o (e2, e3) r1))] (.cons hb2 (.cons (idx_m (f := Enc.e) h3) (.cons (idx_m2 (f := Enc.e) h3) (.cons (idx_m (f := Enc.e) h4) (.cons (idx_m2 (f := Enc.e) h4) (.cons (cmp_Less_int_c h5) .nil)))))) (by kernel_rfl) ?_
              exact thN (Wk_J hL ⟨[(0, []), (1, []), (2, []), (7, []), (8, []), (32, [])], [(0, 0, [])], [], 48⟩ (by kernel_rfl))
            · have hm := ie hb2 hm
              obtain rfl := some_inj hm
              refine X_draw mixed ty_ok Γok Γlive [] (by kernel_rfl) [(3, .b false)] (.cons hb2 .nil) (by kernel_rfl) ?_
              exact thN (Wk_J hL ⟨[(0, []), (1, []), (2, []), (7, []), (8, []), (32, [])], [(0, 0, [])], [], 48⟩ (by kernel_rfl))
          have hm := hk1
          refine X_cond v1 (by kernel_rfl) (fun hc1 => ?_) (fun hc1 => ?_)
          · have hm := it hc1 hm
            refine X_skip ?_
            refine thN ?_
            refine Ok_block ?_
            refine X_reg ty_ok Γok hL [] .nil (by kernel_rfl) ?_
            refine ibN ?_
            obtain rfl := some_inj hm
            exact thN ⟨_, rfl, Wk_J hL ⟨[(0, []), (1, []), (2, []), (7, []), (8, [])], [(0, 0, [])], [], 48⟩ (by kernel_rfl)⟩
          · have hm := ie hc1 hm
            obtain rfl := some_inj hm
            obtain rfl := hb1 _ rfl
            refine Ok_exit ?_
            refine thE ?_
            refine thE ?_
            refine ibE ?_
            exact thN (Wk_J hL ⟨[(0, []), (1, []), (2, []), (7, []), (8, [])], [(0, 0, [])], [], 48⟩ (by kernel_rfl))
        have hm := hk2
        refine Ok_seq ?_
        refine X_reg_seq ty_ok Γok hL [] .nil (by kernel_rfl) ?_
        refine X_cond (j3 == b) (by kernel_rfl) (fun hc2 => ?_) (fun hc2 => ?_)
        · have hm := it hc2 hm
          refine X_reg_seq ty_ok Γok hL [] .nil (by kernel_rfl) ?_
          obtain rfl := some_inj hm
          have hm := congrArg some (hr1 _ rfl)
          obtain rfl := some_inj hm
          obtain rfl := hb _ rfl
          have hm := congrArg some (hr _ rfl)
          obtain rfl := some_inj hm
          refine Ok_ret ?_
          repeat (first | refine thR ?_ | refine ibR ?_)
          exact X_fin [] [] (by kernel_rfl) trivial
        · have hm := ie hc2 hm
          refine X_skip ?_
          refine thN ?_
          refine Ok_seq ?_
          refine X_reg_seq ty_ok Γok hL [] .nil (by kernel_rfl) ?_
          refine X_cond (decide ((w64 (b - a)) < 50)) (by kernel_rfl) (fun hc3 => ?_) (fun hc3 => ?_)
          · have hm := it hc3 hm
            refine X_reg_seq ty_ok Γok hL [] .nil (by kernel_rfl) ?_
            obtain rfl := some_inj hm
            have hm := congrArg some (hr1 _ rfl)
            obtain rfl := some_inj hm
            obtain rfl := hb _ rfl
            have hm := congrArg some (hr _ rfl)
            obtain rfl := some_inj hm
            refine Ok_ret ?_
            repeat (first | refine thR ?_ | refine ibR ?_)
            exact X_fin [] [] (by kernel_rfl) trivial
          · have hm := ie hc3 hm
            refine X_skip ?_
            refine thN ?_
            obtain ⟨e12, h10, hm⟩ := obind hm
            obtain ⟨e13, h11, hm⟩ := obind hm
            obtain ⟨e14, h12, hm⟩ := obind hm
            obtain ⟨e15, h13, hm⟩ := obind hm
            refine X_draw_seq mixed ty_ok Γok Γlive [(15, [0]), (17, [0])] (by kernel_rfl) [(8, .d (Enc.e e12)), (9, .d (Enc.e e12)), (12, .d (Enc.e e13)), (13, .d (Enc.e e13)), (14, .d (Enc.e e14)), (15, .sd (Enc.e e14) (List.map Enc.e (data1.set j3.toNat e12))), (16, .d (Enc.e e15)), (17, .sd (Enc.e e15) (List.map Enc.e ((data1.set j3.toNat e12).set (w64 (j3 - 1)).toNat e13)))] (.cons (idx_m (f := Enc.e) h10) (.cons (idx_m2 (f := Enc.e) h10) (.cons (idx_m (f := Enc.e) h11) (.cons (idx_m2 (f := Enc.e) h11) (.cons (idx_m (f := Enc.e) h12) (.cons (idx_m2 (f := Enc.e) h12) (.cons (set_m Enc.e data1 j3.toNat e12) (.cons (idx_m (f := Enc.e) h13) (.cons (idx_m2 (f := Enc.e) h13) (.cons (set_m Enc.e (data1.set j3.toNat e12) (w64 (j3 - 1)).toNat e13) .nil)))))))))) (by kernel_rfl) ?_
            obtain ⟨data3, hv3, hk3⟩ := obind hm
            refine X_join (n := 133) (fun (data3 : List Int) => (⟨[(0, .own 0), (1, .dat (.sc (.int .i64 a))), (2, .dat (.sc (.int .i64 b))), (7, .dat (.sc (.int .i64 j3))), (8, .dat (.sc (.int .i64 v)))], [(0, some (.arr 3 1 (List.map Enc.e data3)))], 48⟩ : X)) data3 ?_ ?_
            · have hm := hv3
              refine X_reg_seq ty_ok Γok hL [] .nil (by kernel_rfl) ?_
              refine X_cond (decide (2 ≤ (w64 (j3 - a)))) (by kernel_rfl) (fun hc4 => ?_) (fun hc4 => ?_)
              · have hm := it hc4 hm
                refine X_reg_seq ty_ok Γok hL [] .nil (by kernel_rfl) ?_
                obtain ⟨data5, hv4, hk4⟩ := obind hm
                refine X_tail (n := 133) (fun (data5 : List Int) => (⟨[(0, .own 0), (1, .dat (.sc (.int .i64 a))), (2, .dat (.sc (.int .i64 b))), (7, .dat (.sc (.int .i64 j3))), (8, .dat (.sc (.int .i64 v)))], [(0, some (.arr 3 1 (List.map Enc.e data5)))], 48⟩ : X)) data5 ?_ ?_
                · have hm := hv4
                  refine Ok_block ?_
                  refine X_loop (n := 133) (step := slices_partialInsertionSortOrdered_int_w_L2) (fun ((v2, data4) : Int × (List Int)) => (⟨[(0, .own 0), (1, .dat (.sc (.int .i64 a))), (2, .dat (.sc (.int .i64 b))), (7, .dat (.sc (.int .i64 j3))), (8, .dat (.sc (.int .i64 v))), (9, .dat (.sc (.int .i64 v2)))], [(0, some (.arr 3 1 (List.map Enc.e data4)))], 48⟩ : X)) hm (Wk_J hL ⟨[(0, []), (1, []), (2, []), (7, []), (8, []), (9, [])], [(0, 0, [])], [], 48⟩ (by kernel_rfl)) ?_
                  rintro ⟨v2, data4⟩ r0 hm hb3
                  rw [slices_partialInsertionSortOrdered_int_w_L2] at hm
                  refine Ok_seq ?_
                  refine X_reg_seq ty_ok Γok hL [] .nil (by kernel_rfl) ?_
                  refine X_cond (decide (1 ≤ v2)) (by kernel_rfl) (fun hc5 => ?_) (fun hc5 => ?_)
                  · have hm := it hc5 hm
                    refine X_skip ?_
                    refine thN ?_
                    refine Ok_seq ?_
                    refine Ok_block ?_
                    refine Ok_seq ?_
                    obtain ⟨e18, h17, hm⟩ := obind hm
                    obtain ⟨e19, h18, hm⟩ := obind hm
                    obtain ⟨r7, h19, hm⟩ := obind hm
                    refine X_draw_seq mixed ty_ok Γok Γlive [] (by kernel_rfl) [(2, .d (Enc.e e18)), (3, .d (Enc.e e18)), (7, .d (Enc.e e19)), (8, .d (Enc.e e19)), (9, .c (cmp_Less_int_r r7) (cmp_Less_int_n r7) (cmp_Less_int_o (e18, e19) r7))] (.cons (idx_m (f := Enc.e) h17) (.cons (idx_m2 (f := Enc.e) h17) (.cons (idx_m (f := Enc.e) h18) (.cons (idx_m2 (f := Enc.e) h18) (.cons (cmp_Less_int_c h19) .nil))))) (by kernel_rfl) ?_
                    refine X_cond (!r7) (by kernel_rfl) (fun hc6 => ?_) (fun hc6 => ?_)
                    · have hm := it hc6 hm
                      obtain rfl := some_inj hm
                      obtain rfl := hb3 _ rfl
                      refine Ok_exit ?_
                      refine thE ?_
                      refine ibX rfl ?_
                      refine thE ?_
                      refine thE ?_
                      refine ibE ?_
                      exact thN (Wk_J hL ⟨[(0, []), (1, []), (2, []), (7, []), (8, [])], [(0, 0, [])], [], 48⟩ (by kernel_rfl))
                    · have hm := ie hc6 hm
                      refine X_skip ?_
                      refine thN ?_
                      obtain ⟨e24, h24, hm⟩ := obind hm
                      obtain ⟨e25, h25, hm⟩ := obind hm
                      obtain ⟨e26, h26, hm⟩ := obind hm
                      obtain ⟨e27, h27, hm⟩ := obind hm
                      refine X_draw mixed ty_ok Γok Γlive [(15, [0]), (17, [0])] (by kernel_rfl) [(8, .d (Enc.e e24)), (9, .d (Enc.e e24)), (12, .d (Enc.e e25)), (13, .d (Enc.e e25)), (14, .d (Enc.e e26)), (15, .sd (Enc.e e26) (List.map Enc.e (data4.set v2.toNat e24))), (16, .d (Enc.e e27)), (17, .sd (Enc.e e27) (List.map Enc.e ((data4.set v2.toNat e24).set (w64 (v2 - 1)).toNat e25)))] (.cons (idx_m (f := Enc.e) h24) (.cons (idx_m2 (f := Enc.e) h24) (.cons (idx_m (f := Enc.e) h25) (.cons (idx_m2 (f := Enc.e) h25) (.cons (idx_m (f := Enc.e) h26) (.cons (idx_m2 (f := Enc.e) h26) (.cons (set_m Enc.e data4 v2.toNat e24) (.cons (idx_m (f := Enc.e) h27) (.cons (idx_m2 (f := Enc.e) h27) (.cons (set_m Enc.e (data4.set v2.toNat e24) (w64 (v2 - 1)).toNat e25) .nil)))))))))) (by kernel_rfl) ?_
                      refine ibN ?_
                      refine thN ?_
                      refine X_reg ty_ok Γok hL [] .nil (by kernel_rfl) ?_
                      obtain rfl := some_inj hm
                      exact thN ⟨_, rfl, Wk_J hL ⟨[(0, []), (1, []), (2, []), (7, []), (8, []), (9, [])], [(0, 0, [])], [], 48⟩ (by kernel_rfl)⟩
                  · have hm := ie hc5 hm
                    obtain rfl := some_inj hm
                    obtain rfl := hb3 _ rfl
                    refine Ok_exit ?_
                    refine thE ?_
                    refine thE ?_
                    refine ibE ?_
                    exact thN (Wk_J hL ⟨[(0, []), (1, []), (2, []), (7, []), (8, [])], [(0, 0, [])], [], 48⟩ (by kernel_rfl))
                intro s hw
                have hm := hk4
                obtain rfl := some_inj hm
                exact thN (Wk.trans hw (Wk_J hL ⟨[(0, []), (1, []), (2, []), (7, []), (8, [])], [(0, 0, [])], [], 48⟩ (by kernel_rfl)))
              · have hm := ie hc4 hm
                refine X_skip ?_
                obtain rfl := some_inj hm
                exact thN (Wk_J hL ⟨[(0, []), (1, []), (2, []), (7, []), (8, [])], [(0, 0, [])], [], 48⟩ (by kernel_rfl))
            have hm := hk3
            refine X_reg_seq ty_ok Γok hL [] .nil (by kernel_rfl) ?_
            refine X_cond (decide (2 ≤ (w64 (b - j3)))) (by kernel_rfl) (fun hc7 => ?_) (fun hc7 => ?_)
            · have hm := it hc7 hm
              refine X_reg_seq ty_ok Γok hL [] .nil (by kernel_rfl) ?_
              obtain ⟨data7, hv5, hk5⟩ := obind hm
              refine X_tail (n := 133) (fun (data7 : List Int) => (⟨[(0, .own 0), (1, .dat (.sc (.int .i64 a))), (2, .dat (.sc (.int .i64 b))), (7, .dat (.sc (.int .i64 j3))), (8, .dat (.sc (.int .i64 v)))], [(0, some (.arr 3 1 (List.map Enc.e data7)))], 48⟩ : X)) data7 ?_ ?_
              · have hm := hv5
                refine Ok_block ?_
                refine X_loop (n := 133) (step := slices_partialInsertionSortOrdered_int_w_L3 b) (fun ((v3, data6) : Int × (List Int)) => (⟨[(0, .own 0), (1, .dat (.sc (.int .i64 a))), (2, .dat (.sc (.int .i64 b))), (7, .dat (.sc (.int .i64 j3))), (8, .dat (.sc (.int .i64 v))), (10, .dat (.sc (.int .i64 v3)))], [(0, some (.arr 3 1 (List.map Enc.e data6)))], 48⟩ : X)) hm (Wk_J hL ⟨[(0, []), (1, []), (2, []), (7, []), (8, []), (10, [])], [(0, 0, [])], [], 48⟩ (by kernel_rfl)) ?_
                rintro ⟨v3, data6⟩ r0 hm hb4
                rw [slices_partialInsertionSortOrdered_int_w_L3] at hm
                refine Ok_seq ?_
                refine X_reg_seq ty_ok Γok hL [] .nil (by kernel_rfl) ?_
                refine X_cond (decide (v3 < b)) (by kernel_rfl) (fun hc8 => ?_) (fun hc8 => ?_)
                · have hm := it hc8 hm
                  refine X_skip ?_
                  refine thN ?_
                  refine Ok_seq ?_
                  refine Ok_block ?_
                  refine Ok_seq ?_
                  obtain ⟨e30, h31, hm⟩ := obind hm
                  obtain ⟨e31, h32, hm⟩ := obind hm
                  obtain ⟨r9, h33, hm⟩ := obind hm
                  refine X_draw_seq mixed ty_ok Γok Γlive [] (by kernel_rfl) [(2, .d (Enc.e e30)), (3, .d (Enc.e e30)), (7, .d (Enc.e e31)), (8, .d (Enc.e e31)), (9, .c (cmp_Less_int_r r9) (cmp_Less_int_n r9) (cmp_Less_int_o (e30, e31) r9))] (.cons (idx_m (f := Enc.e) h31) (.cons (idx_m2 (f := Enc.e) h31) (.cons (idx_m (f := Enc.e) h32) (.cons (idx_m2 (f := Enc.e) h32) (.cons (cmp_Less_int_c h33) .nil))))) (by kernel_rfl) ?_
                  refine X_cond (!r9) (by kernel_rfl) (fun hc9 => ?_) (fun hc9 => ?_)
                  · have hm := it hc9 hm
                    obtain rfl := some_inj hm
                    obtain rfl := hb4 _ rfl
                    refine Ok_exit ?_
                    refine thE ?_
                    refine ibX rfl ?_
                    refine thE ?_
                    refine thE ?_
                    refine ibE ?_
                    exact thN (Wk_J hL ⟨[(0, []), (1, []), (2, []), (7, []), (8, [])], [(0, 0, [])], [], 48⟩ (by kernel_rfl))
                  · have hm := ie hc9 hm
                    refine X_skip ?_
                    refine thN ?_
                    obtain ⟨e36, h38, hm⟩ := obind hm
                    obtain ⟨e37, h39, hm⟩ := obind hm
                    obtain ⟨e38, h40, hm⟩ := obind hm
                    obtain ⟨e39, h41, hm⟩ := obind hm
                    refine X_draw mixed ty_ok Γok Γlive [(15, [0]), (17, [0])] (by kernel_rfl) [(8, .d (Enc.e e36)), (9, .d (Enc.e e36)), (12, .d (Enc.e e37)), (13, .d (Enc.e e37)), (14, .d (Enc.e e38)), (15, .sd (Enc.e e38) (List.map Enc.e (data6.set v3.toNat e36))), (16, .d (Enc.e e39)), (17, .sd (Enc.e e39) (List.map Enc.e ((data6.set v3.toNat e36).set (w64 (v3 - 1)).toNat e37)))] (.cons (idx_m (f := Enc.e) h38) (.cons (idx_m2 (f := Enc.e) h38) (.cons (idx_m (f := Enc.e) h39) (.cons (idx_m2 (f := Enc.e) h39) (.cons (idx_m (f := Enc.e) h40) (.cons (idx_m2 (f := Enc.e) h40) (.cons (set_m Enc.e data6 v3.toNat e36) (.cons (idx_m (f := Enc.e) h41) (.cons (idx_m2 (f := Enc.e) h41) (.cons (set_m Enc.e (data6.set v3.toNat e36) (w64 (v3 - 1)).toNat e37) .nil)))))))))) (by kernel_rfl) ?_
                    refine ibN ?_
                    refine thN ?_
                    refine X_reg ty_ok Γok hL [] .nil (by kernel_rfl) ?_
                    obtain rfl := some_inj hm
                    exact thN ⟨_, rfl, Wk_J hL ⟨[(0, []), (1, []), (2, []), (7, []), (8, []), (10, [])], [(0, 0, [])], [], 48⟩ (by kernel_rfl)⟩
                · have hm := ie hc8 hm
                  obtain rfl := some_inj hm
                  obtain rfl := hb4 _ rfl
                  refine Ok_exit ?_
                  refine thE ?_
                  refine thE ?_
                  refine ibE ?_
                  exact thN (Wk_J hL ⟨[(0, []), (1, []), (2, []), (7, []), (8, [])], [(0, 0, [])], [], 48⟩ (by kernel_rfl))
              intro s1 hw1
              have hm := hk5
              refine ibN ?_
              obtain rfl := some_inj hm
              exact thN ⟨_, rfl, Wk.trans hw1 (Wk_J hL ⟨[(0, []), (1, []), (2, []), (7, []), (8, [])], [(0, 0, [])], [], 48⟩ (by kernel_rfl))⟩
            · have hm := ie hc7 hm
              refine X_skip ?_
              refine ibN ?_
              obtain rfl := some_inj hm
              exact thN ⟨_, rfl, Wk_J hL ⟨[(0, []), (1, []), (2, []), (7, []), (8, [])], [(0, 0, [])], [], 48⟩ (by kernel_rfl)⟩
      rintro ⟨j1, data2⟩ hu
      have hm := hk _ hu
      refine X_reg ty_ok Γok hL [] .nil (by kernel_rfl) ?_
      obtain rfl := some_inj hm
      exact thN ⟨_, rfl, Wk_J hL ⟨[(0, []), (1, []), (2, []), (7, []), (8, [])], [(0, 0, [])], [], 48⟩ (by kernel_rfl)⟩
    · have hm := ie hc hm
      obtain rfl := some_inj hm
      obtain rfl := hb _ rfl
      refine Ok_exit ?_
      refine thE ?_
      refine thE ?_
      refine ibE ?_
      exact thN ⟨_, rfl, Wk_J hL ⟨[(0, [])], [(0, 0, [])], [], 48⟩ (by kernel_rfl)⟩
  rintro data8 hu1 s2 hw2
  have hm := hk6 _ hu1
  refine thN ?_
  refine Ok_weak hw2 ?_
  refine X_reg_seq ty_ok Γok hL [] .nil (by kernel_rfl) ?_
  obtain rfl := some_inj hm
  refine Ok_ret ?_
  repeat (first | refine thR ?_ | refine ibR ?_)
  exact X_fin [] [] (by kernel_rfl) trivial
abbrev slices_partitionEqualOrdered_int_w_r (y : Int × (List Int)) : AV := .dat (Enc.e y.1)
abbrev slices_partitionEqualOrdered_int_w_n (y : Int × (List Int)) : List Obj' := []
abbrev slices_partitionEqualOrdered_int_w_o (x : (List Int) × Int × Int × Int) (y : Int × (List Int)) : List Obj' := [.arr 3 1 (List.map Enc.e y.2)]
noncomputable def slices_partitionEqualOrdered_int_w_S : FnSpec := modS [.sl, .rd, .rd, .rd] (fun x : (List Int) × Int × Int × Int => [.sc undef, Enc.e x.2.1, Enc.e x.2.2.1, Enc.e x.2.2.2]) (fun x : (List Int) × Int × Int × Int => [.arr 3 1 (List.map Enc.e x.1)]) (fun x : (List Int) × Int × Int × Int => slices_partitionEqualOrdered_int_w x.1 x.2.1 x.2.2.1 x.2.2.2) slices_partitionEqualOrdered_int_w_r slices_partitionEqualOrdered_int_w_n slices_partitionEqualOrdered_int_w_o
theorem slices_partitionEqualOrdered_int_w_c {data : List Int} {a : Int} {b : Int} {pivot : Int} {y : Int × (List Int)} (h : slices_partitionEqualOrdered_int_w data a b pivot = some y) : CallOK slices_partitionEqualOrdered_int_w_S [.sc undef, Enc.e a, Enc.e b, Enc.e pivot] [.arr 3 1 (List.map Enc.e data)] (slices_partitionEqualOrdered_int_w_r y) (slices_partitionEqualOrdered_int_w_n y) (slices_partitionEqualOrdered_int_w_o (data, a, b, pivot) y) :=
  modS_call (by
    rintro ⟨a0, a1, a2, a3⟩ ⟨b0, b1, b2, b3⟩ h hO
    have q0 : a0 = b0 := Enc.inj _ _ (congrArg (fun l => D.sl 1 (obL l 0)) hO)
    have q1 : a1 = b1 := Enc.inj _ _ (congrArg (fun l => List.getD l 1 (.sc undef)) h)
    have q2 : a2 = b2 := Enc.inj _ _ (congrArg (fun l => List.getD l 2 (.sc undef)) h)
    have q3 : a3 = b3 := Enc.inj _ _ (congrArg (fun l => List.getD l 3 (.sc undef)) h)
    subst q0; subst q1; subst q2; subst q3; rfl) (x := (data, a, b, pivot)) h
theorem slices_partitionEqualOrdered_int_w_ok : FnOK Try.prog 256 slices_partitionEqualOrdered_int_w_S := by
  have Γok : ∀ f S, lookF f [(255, cmp_Less_int_S)] = some S → FnOK Try.prog f S := lookF_ok (allF_cons cmp_Less_int_ok allF_nil)
  have Γlive : Live (fun f => lookF f [(255, cmp_Less_int_S)]) := lookF_live (allL_cons modS_live allL_nil)
  refine fnOK_mod ty_ok (fun args w => Try.call256 args w) Try.func256 rfl [.tmp 8] (by rw [Try.results256]) 84 Try.ntmps256 16 rfl (fun _ => by first | exact Nat.zero_le _ | (simp)) ?_
  rintro ⟨data, a, b, pivot⟩ y cx hm hL
  have hm : slices_partitionEqualOrdered_int_w data a b pivot = some y := hm
  have hL : cx.L = 1 := hL
  unfold slices_partitionEqualOrdered_int_w at hm
  refine X_reg_seq ty_ok Γok hL [] .nil (by kernel_rfl) ?_
  obtain ⟨e4, h4, hm⟩ := obind hm
  obtain ⟨e5, h5, hm⟩ := obind hm
  obtain ⟨e6, h6, hm⟩ := obind hm
  obtain ⟨e7, h7, hm⟩ := obind hm
  refine X_draw_seq mixed ty_ok Γok Γlive [(13, [0]), (15, [0])] (by kernel_rfl) [(6, .d (Enc.e e4)), (7, .d (Enc.e e4)), (10, .d (Enc.e e5)), (11, .d (Enc.e e5)), (12, .d (Enc.e e6)), (13, .sd (Enc.e e6) (List.map Enc.e (data.set a.toNat e4))), (14, .d (Enc.e e7)), (15, .sd (Enc.e e7) (List.map Enc.e ((data.set a.toNat e4).set pivot.toNat e5)))] (.cons (idx_m (f := Enc.e) h4) (.cons (idx_m2 (f := Enc.e) h4) (.cons (idx_m (f := Enc.e) h5) (.cons (idx_m2 (f := Enc.e) h5) (.cons (idx_m (f := Enc.e) h6) (.cons (idx_m2 (f := Enc.e) h6) (.cons (set_m Enc.e data a.toNat e4) (.cons (idx_m (f := Enc.e) h7) (.cons (idx_m2 (f := Enc.e) h7) (.cons (set_m Enc.e (data.set a.toNat e4) pivot.toNat e5) .nil)))))))))) (by kernel_rfl) ?_
  refine X_reg_seq ty_ok Γok hL [] .nil (by kernel_rfl) ?_
  obtain ⟨vv, hv4, hk4⟩ := obind hm
  refine X_join (n := 84) (fun ((v8, data2) : Int × (List Int)) => (⟨[(0, .own 0), (9, .dat (.sc (.int .i64 v8)))], [(0, some (.arr 3 1 (List.map Enc.e data2)))], 48⟩ : X)) vv ?_ ?_
  · have hm := hv4
    refine Ok_block ?_
    refine X_loop (n := 84) (step := slices_partitionEqualOrdered_int_w_L3 a) (fun ((v, v1, data1) : Int × Int × (List Int)) => (⟨[(0, .own 0), (1, .dat (.sc (.int .i64 a))), (9, .dat (.sc (.int .i64 v))), (10, .dat (.sc (.int .i64 v1)))], [(0, some (.arr 3 1 (List.map Enc.e data1)))], 48⟩ : X)) hm (Wk_J hL ⟨[(0, []), (1, []), (9, []), (10, [])], [(0, 0, [])], [], 48⟩ (by kernel_rfl)) ?_
    rintro ⟨v, v1, data1⟩ r0 hm hb
    rw [slices_partitionEqualOrdered_int_w_L3] at hm
    refine Ok_block ?_
    obtain ⟨v4, hv1, hk1⟩ := obind hm
    refine X_join (n := 84) (fun (v4 : Int) => (⟨[(0, .own 0), (1, .dat (.sc (.int .i64 a))), (9, .dat (.sc (.int .i64 v4))), (10, .dat (.sc (.int .i64 v1)))], [(0, some (.arr 3 1 (List.map Enc.e data1)))], 48⟩ : X)) v4 ?_ ?_
    · have hm := hv1
      refine Ok_block ?_
      refine X_loop (n := 84) (step := slices_partitionEqualOrdered_int_w_L1 a v1 data1) (fun (v2 : Int) => (⟨[(0, .own 0), (1, .dat (.sc (.int .i64 a))), (9, .dat (.sc (.int .i64 v2))), (10, .dat (.sc (.int .i64 v1)))], [(0, some (.arr 3 1 (List.map Enc.e data1)))], 48⟩ : X)) hm (Wk_J hL ⟨[(0, []), (1, []), (9, []), (10, [])], [(0, 0, [])], [], 48⟩ (by kernel_rfl)) ?_
      rintro v2 r0 hm hb1
      rw [slices_partitionEqualOrdered_int_w_L1] at hm
      refine Ok_seq ?_
      obtain ⟨v3, hv, hk⟩ := obind hm
      refine X_join (n := 84) (fun (v3 : Bool) => (⟨[(0, .own 0), (1, .dat (.sc (.int .i64 a))), (9, .dat (.sc (.int .i64 v2))), (10, .dat (.sc (.int .i64 v1))), (43, .dat (.sc (.bool v3)))], [(0, some (.arr 3 1 (List.map Enc.e data1)))], 48⟩ : X)) v3 ?_ ?_
      · have hm := hv
        rcases btf (decide (v2 ≤ v1)) with hb2 | hb2
        · have hm := it hb2 hm
          obtain ⟨e10, h11, hm⟩ := obind hm
          obtain ⟨e11, h12, hm⟩ := obind hm
          obtain ⟨r1, h13, hm⟩ := obind hm
          obtain rfl := some_inj hm
          refine X_draw mixed ty_ok Γok Γlive [] (by kernel_rfl) [(3, .b true), (6, .d (Enc.e e10)), (7, .d (Enc.e e10)), (10, .d (Enc.e e11)), (11, .d (Enc.e e11)), (12, .c (cmp_Less_int_r r1) (cmp_Less_int_n r1) (cmp_Less_int_o (e10, e11) r1))] (.cons hb2 (.cons (idx_m (f := Enc.e) h11) (.cons (idx_m2 (f := Enc.e) h11) (.cons (idx_m (f := Enc.e) h12) (.cons (idx_m2 (f := Enc.e) h12) (.cons (cmp_Less_int_c h13) .nil)))))) (by kernel_rfl) ?_
          exact thN (Wk_J hL ⟨[(0, []), (1, []), (9, []), (10, []), (43, [])], [(0, 0, [])], [], 48⟩ (by kernel_rfl))
        · have hm := ie hb2 hm
          obtain rfl := some_inj hm
          refine X_draw mixed ty_ok Γok Γlive [] (by kernel_rfl) [(3, .b false)] (.cons hb2 .nil) (by kernel_rfl) ?_
          exact thN (Wk_J hL ⟨[(0, []), (1, []), (9, []), (10, []), (43, [])], [(0, 0, [])], [], 48⟩ (by kernel_rfl))
      have hm := hk
      refine X_cond v3 (by kernel_rfl) (fun hc => ?_) (fun hc => ?_)
      · have hm := it hc hm
        refine X_skip ?_
        refine thN ?_
        refine Ok_block ?_
        refine X_reg ty_ok Γok hL [] .nil (by kernel_rfl) ?_
        refine ibN ?_
        obtain rfl := some_inj hm
        exact thN ⟨_, rfl, Wk_J hL ⟨[(0, []), (1, []), (9, []), (10, [])], [(0, 0, [])], [], 48⟩ (by kernel_rfl)⟩
      · have hm := ie hc hm
        obtain rfl := some_inj hm
        obtain rfl := hb1 _ rfl
        refine Ok_exit ?_
        refine thE ?_
        refine thE ?_
        refine ibE ?_
        exact thN (Wk_J hL ⟨[(0, []), (1, []), (9, []), (10, [])], [(0, 0, [])], [], 48⟩ (by kernel_rfl))
    have hm := hk1
    obtain ⟨v7, hv3, hk3⟩ := obind hm
    refine X_join (n := 84) (fun (v7 : Int) => (⟨[(0, .own 0), (1, .dat (.sc (.int .i64 a))), (9, .dat (.sc (.int .i64 v4))), (10, .dat (.sc (.int .i64 v7)))], [(0, some (.arr 3 1 (List.map Enc.e data1)))], 48⟩ : X)) v7 ?_ ?_
    · have hm := hv3
      refine Ok_block ?_
      refine X_loop (n := 84) (step := slices_partitionEqualOrdered_int_w_L2 a data1 v4) (fun (v5 : Int) => (⟨[(0, .own 0), (1, .dat (.sc (.int .i64 a))), (9, .dat (.sc (.int .i64 v4))), (10, .dat (.sc (.int .i64 v5)))], [(0, some (.arr 3 1 (List.map Enc.e data1)))], 48⟩ : X)) hm (Wk_J hL ⟨[(0, []), (1, []), (9, []), (10, [])], [(0, 0, [])], [], 48⟩ (by kernel_rfl)) ?_
      rintro v5 r0 hm hb3
      rw [slices_partitionEqualOrdered_int_w_L2] at hm
      refine Ok_seq ?_
      obtain ⟨v6, hv2, hk2⟩ := obind hm
      refine X_join (n := 84) (fun (v6 : Bool) => (⟨[(0, .own 0), (1, .dat (.sc (.int .i64 a))), (9, .dat (.sc (.int .i64 v4))), (10, .dat (.sc (.int .i64 v5))), (59, .dat (.sc (.bool v6)))], [(0, some (.arr 3 1 (List.map Enc.e data1)))], 48⟩ : X)) v6 ?_ ?_
      · have hm := hv2
        rcases btf (decide (v4 ≤ v5)) with hb4 | hb4
        · have hm := it hb4 hm
          obtain ⟨e14, h17, hm⟩ := obind hm
          obtain ⟨e15, h18, hm⟩ := obind hm
          obtain ⟨r3, h19, hm⟩ := obind hm
          obtain rfl := some_inj hm
          refine X_draw mixed ty_ok Γok Γlive [] (by kernel_rfl) [(3, .b true), (6, .d (Enc.e e14)), (7, .d (Enc.e e14)), (10, .d (Enc.e e15)), (11, .d (Enc.e e15)), (12, .c (cmp_Less_int_r r3) (cmp_Less_int_n r3) (cmp_Less_int_o (e14, e15) r3))] (.cons hb4 (.cons (idx_m (f := Enc.e) h17) (.cons (idx_m2 (f := Enc.e) h17) (.cons (idx_m (f := Enc.e) h18) (.cons (idx_m2 (f := Enc.e) h18) (.cons (cmp_Less_int_c h19) .nil)))))) (by kernel_rfl) ?_
          exact thN (Wk_J hL ⟨[(0, []), (1, []), (9, []), (10, []), (59, [])], [(0, 0, [])], [], 48⟩ (by kernel_rfl))
        · have hm := ie hb4 hm
          obtain rfl := some_inj hm
          refine X_draw mixed ty_ok Γok Γlive [] (by kernel_rfl) [(3, .b false)] (.cons hb4 .nil) (by kernel_rfl) ?_
          exact thN (Wk_J hL ⟨[(0, []), (1, []), (9, []), (10, []), (59, [])], [(0, 0, [])], [], 48⟩ (by kernel_rfl))
      have hm := hk2
      refine X_cond v6 (by kernel_rfl) (fun hc1 => ?_) (fun hc1 => ?_)
      · have hm := it hc1 hm
        refine X_skip ?_
        refine thN ?_
        refine Ok_block ?_
        refine X_reg ty_ok Γok hL [] .nil (by kernel_rfl) ?_
        refine ibN ?_
        obtain rfl := some_inj hm
        exact thN ⟨_, rfl, Wk_J hL ⟨[(0, []), (1, []), (9, []), (10, [])], [(0, 0, [])], [], 48⟩ (by kernel_rfl)⟩
      · have hm := ie hc1 hm
        obtain rfl := some_inj hm
        obtain rfl := hb3 _ rfl
        refine Ok_exit ?_
        refine thE ?_
        refine thE ?_
        refine ibE ?_
        exact thN (Wk_J hL ⟨[(0, []), (1, []), (9, []), (10, [])], [(0, 0, [])], [], 48⟩ (by kernel_rfl))
    have hm := hk3
    refine Ok_seq ?_
    refine X_reg_seq ty_ok Γok hL [] .nil (by kernel_rfl) ?_
    refine X_cond (decide (v7 < v4)) (by kernel_rfl) (fun hc2 => ?_) (fun hc2 => ?_)
    · have hm := it hc2 hm
      obtain rfl := some_inj hm
      obtain rfl := hb _ rfl
      refine Ok_exit ?_
      refine thE ?_
      refine ibX rfl ?_
      refine thE ?_
      refine ibE ?_
      exact thN (Wk_J hL ⟨[(0, []), (9, [])], [(0, 0, [])], [], 48⟩ (by kernel_rfl))
    · have hm := ie hc2 hm
      refine X_skip ?_
      refine thN ?_
      obtain ⟨e20, h24, hm⟩ := obind hm
      obtain ⟨e21, h25, hm⟩ := obind hm
      obtain ⟨e22, h26, hm⟩ := obind hm
      obtain ⟨e23, h27, hm⟩ := obind hm
      refine X_draw_seq mixed ty_ok Γok Γlive [(13, [0]), (15, [0])] (by kernel_rfl) [(6, .d (Enc.e e20)), (7, .d (Enc.e e20)), (10, .d (Enc.e e21)), (11, .d (Enc.e e21)), (12, .d (Enc.e e22)), (13, .sd (Enc.e e22) (List.map Enc.e (data1.set v4.toNat e20))), (14, .d (Enc.e e23)), (15, .sd (Enc.e e23) (List.map Enc.e ((data1.set v4.toNat e20).set v7.toNat e21)))] (.cons (idx_m (f := Enc.e) h24) (.cons (idx_m2 (f := Enc.e) h24) (.cons (idx_m (f := Enc.e) h25) (.cons (idx_m2 (f := Enc.e) h25) (.cons (idx_m (f := Enc.e) h26) (.cons (idx_m2 (f := Enc.e) h26) (.cons (set_m Enc.e data1 v4.toNat e20) (.cons (idx_m (f := Enc.e) h27) (.cons (idx_m2 (f := Enc.e) h27) (.cons (set_m Enc.e (data1.set v4.toNat e20) v7.toNat e21) .nil)))))))))) (by kernel_rfl) ?_
      refine X_reg_seq ty_ok Γok hL [] .nil (by kernel_rfl) ?_
      refine X_reg ty_ok Γok hL [] .nil (by kernel_rfl) ?_
      refine ibN ?_
      obtain rfl := some_inj hm
      exact thN ⟨_, rfl, Wk_J hL ⟨[(0, []), (1, []), (9, []), (10, [])], [(0, 0, [])], [], 48⟩ (by kernel_rfl)⟩
  obtain ⟨v8, data2⟩ := vv
  have hm := hk4
  refine X_reg_seq ty_ok Γok hL [] .nil (by kernel_rfl) ?_
  obtain rfl := some_inj hm
  refine Ok_ret ?_
  repeat (first | refine thR ?_ | refine ibR ?_)
  exact X_fin [] [] (by kernel_rfl) trivial
abbrev slices_partitionOrdered_int_w_r (y : Int × Bool × (List Int)) : AV := .tup [.dat (Enc.e y.1), .dat (Enc.e y.2.1)]
abbrev slices_partitionOrdered_int_w_n (y : Int × Bool × (List Int)) : List Obj' := []
abbrev slices_partitionOrdered_int_w_o (x : (List Int) × Int × Int × Int) (y : Int × Bool × (List Int)) : List Obj' := [.arr 3 1 (List.map Enc.e y.2.2)]
noncomputable def slices_partitionOrdered_int_w_S : FnSpec := modS [.sl, .rd, .rd, .rd] (fun x : (List Int) × Int × Int × Int => [.sc undef, Enc.e x.2.1, Enc.e x.2.2.1, Enc.e x.2.2.2]) (fun x : (List Int) × Int × Int × Int => [.arr 3 1 (List.map Enc.e x.1)]) (fun x : (List Int) × Int × Int × Int => slices_partitionOrdered_int_w x.1 x.2.1 x.2.2.1 x.2.2.2) slices_partitionOrdered_int_w_r slices_partitionOrdered_int_w_n slices_partitionOrdered_int_w_o
theorem slices_partitionOrdered_int_w_c {data : List Int} {a : Int} {b : Int} {pivot : Int} {y : Int × Bool × (List Int)} (h : slices_partitionOrdered_int_w data a b pivot = some y) : CallOK slices_partitionOrdered_int_w_S [.sc undef, Enc.e a, Enc.e b, Enc.e pivot] [.arr 3 1 (List.map Enc.e data)] (slices_partitionOrdered_int_w_r y) (slices_partitionOrdered_int_w_n y) (slices_partitionOrdered_int_w_o (data, a, b, pivot) y) :=
  modS_call (by
    rintro ⟨a0, a1, a2, a3⟩ ⟨b0, b1, b2, b3⟩ h hO
    have q0 : a0 = b0 := Enc.inj _ _ (congrArg (fun l => D.sl 1 (obL l 0)) hO)
    have q1 : a1 = b1 := Enc.inj _ _ (congrArg (fun l => List.getD l 1 (.sc undef)) h)
    have q2 : a2 = b2 := Enc.inj _ _ (congrArg (fun l => List.getD l 2 (.sc undef)) h)
    have q3 : a3 = b3 := Enc.inj _ _ (congrArg (fun l => List.getD l 3 (.sc undef)) h)
    subst q0; subst q1; subst q2; subst q3; rfl) (x := (data, a, b, pivot)) h
theorem slices_partitionOrdered_int_w_ok : FnOK Try.prog 257 slices_partitionOrdered_int_w_S := by
  have Γok : ∀ f S, lookF f [(255, cmp_Less_int_S)] = some S → FnOK Try.prog f S := lookF_ok (allF_cons cmp_Less_int_ok allF_nil)
  have Γlive : Live (fun f => lookF f [(255, cmp_Less_int_S)]) := lookF_live (allL_cons modS_live allL_nil)
  refine fnOK_mod ty_ok (fun args w => Try.call257 args w) Try.func257 rfl [.tmp 8, .tmp 9] (by rw [Try.results257]) 168 Try.ntmps257 16 rfl (fun _ => by first | exact Nat.zero_le _ | (simp)) ?_
  rintro ⟨data, a, b, pivot⟩ y cx hm hL
  have hm : slices_partitionOrdered_int_w data a b pivot = some y := hm
  have hL : cx.L = 1 := hL
  unfold slices_partitionOrdered_int_w at hm
  refine X_reg_seq ty_ok Γok hL [] .nil (by kernel_rfl) ?_
  obtain ⟨e4, h4, hm⟩ := obind hm
  obtain ⟨e5, h5, hm⟩ := obind hm
  obtain ⟨e6, h6, hm⟩ := obind hm
  obtain ⟨e7, h7, hm⟩ := obind hm
  refine X_draw_seq mixed ty_ok Γok Γlive [(13, [0]), (15, [0])] (by kernel_rfl) [(6, .d (Enc.e e4)), (7, .d (Enc.e e4)), (10, .d (Enc.e e5)), (11, .d (Enc.e e5)), (12, .d (Enc.e e6)), (13, .sd (Enc.e e6) (List.map Enc.e (data.set a.toNat e4))), (14, .d (Enc.e e7)), (15, .sd (Enc.e e7) (List.map Enc.e ((data.set a.toNat e4).set pivot.toNat e5)))] (.cons (idx_m (f := Enc.e) h4) (.cons (idx_m2 (f := Enc.e) h4) (.cons (idx_m (f := Enc.e) h5) (.cons (idx_m2 (f := Enc.e) h5) (.cons (idx_m (f := Enc.e) h6) (.cons (idx_m2 (f := Enc.e) h6) (.cons (set_m Enc.e data a.toNat e4) (.cons (idx_m (f := Enc.e) h7) (.cons (idx_m2 (f := Enc.e) h7) (.cons (set_m Enc.e (data.set a.toNat e4) pivot.toNat e5) .nil)))))))))) (by kernel_rfl) ?_
  refine X_reg_seq ty_ok Γok hL [] .nil (by kernel_rfl) ?_
  obtain ⟨v2, hv1, hk1⟩ := obind hm
  refine X_join (n := 168) (fun (v2 : Int) => (⟨[(0, .own 0), (1, .dat (.sc (.int .i64 a))), (10, .dat (.sc (.int .i64 v2))), (11, .dat (.sc (.int .i64 (w64 (b - 1)))))], [(0, some (.arr 3 1 (List.map Enc.e ((data.set a.toNat e4).set pivot.toNat e5))))], 48⟩ : X)) v2 ?_ ?_
  · have hm := hv1
    refine Ok_block ?_
    refine X_loop (n := 168) (step := slices_partitionOrdered_int_w_L1 data a b pivot e4 e5) (fun (v : Int) => (⟨[(0, .own 0), (1, .dat (.sc (.int .i64 a))), (10, .dat (.sc (.int .i64 v))), (11, .dat (.sc (.int .i64 (w64 (b - 1)))))], [(0, some (.arr 3 1 (List.map Enc.e ((data.set a.toNat e4).set pivot.toNat e5))))], 48⟩ : X)) hm (Wk_J hL ⟨[(0, []), (1, []), (10, []), (11, [])], [(0, 0, [])], [], 48⟩ (by kernel_rfl)) ?_
    rintro v r0 hm hb
    rw [slices_partitionOrdered_int_w_L1] at hm
    refine Ok_seq ?_
    obtain ⟨v1, hv, hk⟩ := obind hm
    refine X_join (n := 168) (fun (v1 : Bool) => (⟨[(0, .own 0), (1, .dat (.sc (.int .i64 a))), (10, .dat (.sc (.int .i64 v))), (11, .dat (.sc (.int .i64 (w64 (b - 1))))), (43, .dat (.sc (.bool v1)))], [(0, some (.arr 3 1 (List.map Enc.e ((data.set a.toNat e4).set pivot.toNat e5))))], 48⟩ : X)) v1 ?_ ?_
    · have hm := hv
      rcases btf (decide (v ≤ (w64 (b - 1)))) with hb1 | hb1
      · have hm := it hb1 hm
        obtain ⟨e10, h11, hm⟩ := obind hm
        obtain ⟨e11, h12, hm⟩ := obind hm
        obtain ⟨r1, h13, hm⟩ := obind hm
        obtain rfl := some_inj hm
        refine X_draw mixed ty_ok Γok Γlive [] (by kernel_rfl) [(3, .b true), (6, .d (Enc.e e10)), (7, .d (Enc.e e10)), (10, .d (Enc.e e11)), (11, .d (Enc.e e11)), (12, .c (cmp_Less_int_r r1) (cmp_Less_int_n r1) (cmp_Less_int_o (e10, e11) r1))] (.cons hb1 (.cons (idx_m (f := Enc.e) h11) (.cons (idx_m2 (f := Enc.e) h11) (.cons (idx_m (f := Enc.e) h12) (.cons (idx_m2 (f := Enc.e) h12) (.cons (cmp_Less_int_c h13) .nil)))))) (by kernel_rfl) ?_
        exact thN (Wk_J hL ⟨[(0, []), (1, []), (10, []), (11, []), (43, [])], [(0, 0, [])], [], 48⟩ (by kernel_rfl))
      · have hm := ie hb1 hm
        obtain rfl := some_inj hm
        refine X_draw mixed ty_ok Γok Γlive [] (by kernel_rfl) [(3, .b false)] (.cons hb1 .nil) (by kernel_rfl) ?_
        exact thN (Wk_J hL ⟨[(0, []), (1, []), (10, []), (11, []), (43, [])], [(0, 0, [])], [], 48⟩ (by kernel_rfl))
    have hm := hk
    refine X_cond v1 (by kernel_rfl) (fun hc => ?_) (fun hc => ?_)
    · have hm := it hc hm
      refine X_skip ?_
      refine thN ?_
      refine Ok_block ?_
      refine X_reg ty_ok Γok hL [] .nil (by kernel_rfl) ?_
      refine ibN ?_
      obtain rfl := some_inj hm
      exact thN ⟨_, rfl, Wk_J hL ⟨[(0, []), (1, []), (10, []), (11, [])], [(0, 0, [])], [], 48⟩ (by kernel_rfl)⟩
    · have hm := ie hc hm
      obtain rfl := some_inj hm
      obtain rfl := hb _ rfl
      refine Ok_exit ?_
      refine thE ?_
      refine thE ?_
      refine ibE ?_
      exact thN (Wk_J hL ⟨[(0, []), (1, []), (10, []), (11, [])], [(0, 0, [])], [], 48⟩ (by kernel_rfl))
  have hm := hk1
  obtain ⟨v5, hv3, hk3⟩ := obind hm
  refine X_join (n := 168) (fun (v5 : Int) => (⟨[(0, .own 0), (1, .dat (.sc (.int .i64 a))), (10, .dat (.sc (.int .i64 v2))), (11, .dat (.sc (.int .i64 v5)))], [(0, some (.arr 3 1 (List.map Enc.e ((data.set a.toNat e4).set pivot.toNat e5))))], 48⟩ : X)) v5 ?_ ?_
  · have hm := hv3
    refine Ok_block ?_
    refine X_loop (n := 168) (step := slices_partitionOrdered_int_w_L2 data a pivot e4 e5 v2) (fun (v3 : Int) => (⟨[(0, .own 0), (1, .dat (.sc (.int .i64 a))), (10, .dat (.sc (.int .i64 v2))), (11, .dat (.sc (.int .i64 v3)))], [(0, some (.arr 3 1 (List.map Enc.e ((data.set a.toNat e4).set pivot.toNat e5))))], 48⟩ : X)) hm (Wk_J hL ⟨[(0, []), (1, []), (10, []), (11, [])], [(0, 0, [])], [], 48⟩ (by kernel_rfl)) ?_
    rintro v3 r0 hm hb2
    rw [slices_partitionOrdered_int_w_L2] at hm
    refine Ok_seq ?_
    obtain ⟨v4, hv2, hk2⟩ := obind hm
    refine X_join (n := 168) (fun (v4 : Bool) => (⟨[(0, .own 0), (1, .dat (.sc (.int .i64 a))), (10, .dat (.sc (.int .i64 v2))), (11, .dat (.sc (.int .i64 v3))), (60, .dat (.sc (.bool v4)))], [(0, some (.arr 3 1 (List.map Enc.e ((data.set a.toNat e4).set pivot.toNat e5))))], 48⟩ : X)) v4 ?_ ?_
    · have hm := hv2
      rcases btf (decide (v2 ≤ v3)) with hb3 | hb3
      · have hm := it hb3 hm
        obtain ⟨e14, h17, hm⟩ := obind hm
        obtain ⟨e15, h18, hm⟩ := obind hm
        obtain ⟨r3, h19, hm⟩ := obind hm
        obtain rfl := some_inj hm
        refine X_draw mixed ty_ok Γok Γlive [] (by kernel_rfl) [(3, .b true), (6, .d (Enc.e e14)), (7, .d (Enc.e e14)), (10, .d (Enc.e e15)), (11, .d (Enc.e e15)), (12, .c (cmp_Less_int_r r3) (cmp_Less_int_n r3) (cmp_Less_int_o (e14, e15) r3))] (.cons hb3 (.cons (idx_m (f := Enc.e) h17) (.cons (idx_m2 (f := Enc.e) h17) (.cons (idx_m (f := Enc.e) h18) (.cons (idx_m2 (f := Enc.e) h18) (.cons (cmp_Less_int_c h19) .nil)))))) (by kernel_rfl) ?_
        exact thN (Wk_J hL ⟨[(0, []), (1, []), (10, []), (11, []), (60, [])], [(0, 0, [])], [], 48⟩ (by kernel_rfl))
      · have hm := ie hb3 hm
        obtain rfl := some_inj hm
        refine X_draw mixed ty_ok Γok Γlive [] (by kernel_rfl) [(3, .b false)] (.cons hb3 .nil) (by kernel_rfl) ?_
        exact thN (Wk_J hL ⟨[(0, []), (1, []), (10, []), (11, []), (60, [])], [(0, 0, [])], [], 48⟩ (by kernel_rfl))
    have hm := hk2
    refine X_cond v4 (by kernel_rfl) (fun hc1 => ?_) (fun hc1 => ?_)
    · have hm := it hc1 hm
      refine X_skip ?_
      refine thN ?_
      refine Ok_block ?_
      refine X_reg ty_ok Γok hL [] .nil (by kernel_rfl) ?_
      refine ibN ?_
      obtain rfl := some_inj hm
      exact thN ⟨_, rfl, Wk_J hL ⟨[(0, []), (1, []), (10, []), (11, [])], [(0, 0, [])], [], 48⟩ (by kernel_rfl)⟩
    · have hm := ie hc1 hm
      obtain rfl := some_inj hm
      obtain rfl := hb2 _ rfl
      refine Ok_exit ?_
      refine thE ?_
      refine thE ?_
      refine ibE ?_
      exact thN (Wk_J hL ⟨[(0, []), (1, []), (10, []), (11, [])], [(0, 0, [])], [], 48⟩ (by kernel_rfl))
  have hm := hk3
  refine Ok_seq ?_
  refine X_reg_seq ty_ok Γok hL [] .nil (by kernel_rfl) ?_
  refine X_cond (decide (v5 < v2)) (by kernel_rfl) (fun hc2 => ?_) (fun hc2 => ?_)
  · have hm := it hc2 hm
    obtain ⟨e20, h24, hm⟩ := obind hm
    obtain ⟨e21, h25, hm⟩ := obind hm
    obtain ⟨e22, h26, hm⟩ := obind hm
    obtain ⟨e23, h27, hm⟩ := obind hm
    refine X_draw_seq mixed ty_ok Γok Γlive [(13, [0]), (15, [0])] (by kernel_rfl) [(6, .d (Enc.e e20)), (7, .d (Enc.e e20)), (10, .d (Enc.e e21)), (11, .d (Enc.e e21)), (12, .d (Enc.e e22)), (13, .sd (Enc.e e22) (List.map Enc.e (((data.set a.toNat e4).set pivot.toNat e5).set v5.toNat e20))), (14, .d (Enc.e e23)), (15, .sd (Enc.e e23) (List.map Enc.e ((((data.set a.toNat e4).set pivot.toNat e5).set v5.toNat e20).set a.toNat e21)))] (.cons (idx_m (f := Enc.e) h24) (.cons (idx_m2 (f := Enc.e) h24) (.cons (idx_m (f := Enc.e) h25) (.cons (idx_m2 (f := Enc.e) h25) (.cons (idx_m (f := Enc.e) h26) (.cons (idx_m2 (f := Enc.e) h26) (.cons (set_m Enc.e ((data.set a.toNat e4).set pivot.toNat e5) v5.toNat e20) (.cons (idx_m (f := Enc.e) h27) (.cons (idx_m2 (f := Enc.e) h27) (.cons (set_m Enc.e (((data.set a.toNat e4).set pivot.toNat e5).set v5.toNat e20) a.toNat e21) .nil)))))))))) (by kernel_rfl) ?_
    refine X_reg_seq ty_ok Γok hL [] .nil (by kernel_rfl) ?_
    obtain rfl := some_inj hm
    refine Ok_ret ?_
    repeat (first | refine thR ?_ | refine ibR ?_)
    exact X_fin [] [] (by kernel_rfl) trivial
  · have hm := ie hc2 hm
    refine X_skip ?_
    refine thN ?_
    obtain ⟨e28, h32, hm⟩ := obind hm
    obtain ⟨e29, h33, hm⟩ := obind hm
    obtain ⟨e30, h34, hm⟩ := obind hm
    obtain ⟨e31, h35, hm⟩ := obind hm
    refine X_draw_seq mixed ty_ok Γok Γlive [(13, [0]), (15, [0])] (by kernel_rfl) [(6, .d (Enc.e e28)), (7, .d (Enc.e e28)), (10, .d (Enc.e e29)), (11, .d (Enc.e e29)), (12, .d (Enc.e e30)), (13, .sd (Enc.e e30) (List.map Enc.e (((data.set a.toNat e4).set pivot.toNat e5).set v2.toNat e28))), (14, .d (Enc.e e31)), (15, .sd (Enc.e e31) (List.map Enc.e ((((data.set a.toNat e4).set pivot.toNat e5).set v2.toNat e28).set v5.toNat e29)))] (.cons (idx_m (f := Enc.e) h32) (.cons (idx_m2 (f := Enc.e) h32) (.cons (idx_m (f := Enc.e) h33) (.cons (idx_m2 (f := Enc.e) h33) (.cons (idx_m (f := Enc.e) h34) (.cons (idx_m2 (f := Enc.e) h34) (.cons (set_m Enc.e ((data.set a.toNat e4).set pivot.toNat e5) v2.toNat e28) (.cons (idx_m (f := Enc.e) h35) (.cons (idx_m2 (f := Enc.e) h35) (.cons (set_m Enc.e (((data.set a.toNat e4).set pivot.toNat e5).set v2.toNat e28) v5.toNat e29) .nil)))))))))) (by kernel_rfl) ?_
    refine X_reg_seq ty_ok Γok hL [] .nil (by kernel_rfl) ?_
    refine X_reg_seq ty_ok Γok hL [] .nil (by kernel_rfl) ?_
    obtain ⟨vv, hv8, hk8⟩ := obind hm
    refine X_join (n := 168) (fun ((v14, data2) : Int × (List Int)) => (⟨[(0, .own 0), (1, .dat (.sc (.int .i64 a))), (11, .dat (.sc (.int .i64 v14)))], [(0, some (.arr 3 1 (List.map Enc.e data2)))], 48⟩ : X)) vv ?_ ?_
    · have hm := hv8
      refine Ok_block ?_
      refine X_loop (n := 168) (step := slices_partitionOrdered_int_w_L5 a) (fun ((v6, v7, data1) : Int × Int × (List Int)) => (⟨[(0, .own 0), (1, .dat (.sc (.int .i64 a))), (10, .dat (.sc (.int .i64 v6))), (11, .dat (.sc (.int .i64 v7)))], [(0, some (.arr 3 1 (List.map Enc.e data1)))], 48⟩ : X)) hm (Wk_J hL ⟨[(0, []), (1, []), (10, []), (11, [])], [(0, 0, [])], [], 48⟩ (by kernel_rfl)) ?_
      rintro ⟨v6, v7, data1⟩ r0 hm hb4
      rw [slices_partitionOrdered_int_w_L5] at hm
      refine Ok_block ?_
      obtain ⟨v10, hv5, hk5⟩ := obind hm
      refine X_join (n := 168) (fun (v10 : Int) => (⟨[(0, .own 0), (1, .dat (.sc (.int .i64 a))), (10, .dat (.sc (.int .i64 v10))), (11, .dat (.sc (.int .i64 v7)))], [(0, some (.arr 3 1 (List.map Enc.e data1)))], 48⟩ : X)) v10 ?_ ?_
      · have hm := hv5
        refine Ok_block ?_
        refine X_loop (n := 168) (step := slices_partitionOrdered_int_w_L3 a v7 data1) (fun (v8 : Int) => (⟨[(0, .own 0), (1, .dat (.sc (.int .i64 a))), (10, .dat (.sc (.int .i64 v8))), (11, .dat (.sc (.int .i64 v7)))], [(0, some (.arr 3 1 (List.map Enc.e data1)))], 48⟩ : X)) hm (Wk_J hL ⟨[(0, []), (1, []), (10, []), (11, [])], [(0, 0, [])], [], 48⟩ (by kernel_rfl)) ?_
        rintro v8 r0 hm hb5
        rw [slices_partitionOrdered_int_w_L3] at hm
        refine Ok_seq ?_
        obtain ⟨v9, hv4, hk4⟩ := obind hm
        refine X_join (n := 168) (fun (v9 : Bool) => (⟨[(0, .own 0), (1, .dat (.sc (.int .i64 a))), (10, .dat (.sc (.int .i64 v8))), (11, .dat (.sc (.int .i64 v7))), (112, .dat (.sc (.bool v9)))], [(0, some (.arr 3 1 (List.map Enc.e data1)))], 48⟩ : X)) v9 ?_ ?_
        · have hm := hv4
          rcases btf (decide (v8 ≤ v7)) with hb6 | hb6
          · have hm := it hb6 hm
            obtain ⟨e34, h39, hm⟩ := obind hm
            obtain ⟨e35, h40, hm⟩ := obind hm
            obtain ⟨r5, h41, hm⟩ := obind hm
            obtain rfl := some_inj hm
            refine X_draw mixed ty_ok Γok Γlive [] (by kernel_rfl) [(3, .b true), (6, .d (Enc.e e34)), (7, .d (Enc.e e34)), (10, .d (Enc.e e35)), (11, .d (Enc.e e35)), (12, .c (cmp_Less_int_r r5) (cmp_Less_int_n r5) (cmp_Less_int_o (e34, e35) r5))] (.cons hb6 (.cons (idx_m (f := Enc.e) h39) (.cons (idx_m2 (f := Enc.e) h39) (.cons (idx_m (f := Enc.e) h40) (.cons (idx_m2 (f := Enc.e) h40) (.cons (cmp_Less_int_c h41) .nil)))))) (by kernel_rfl) ?_
            exact thN (Wk_J hL ⟨[(0, []), (1, []), (10, []), (11, []), (112, [])], [(0, 0, [])], [], 48⟩ (by kernel_rfl))
          · have hm := ie hb6 hm
            obtain rfl := some_inj hm
            refine X_draw mixed ty_ok Γok Γlive [] (by kernel_rfl) [(3, .b false)] (.cons hb6 .nil) (by kernel_rfl) ?_
            exact thN (Wk_J hL ⟨[(0, []), (1, []), (10, []), (11, []), (112, [])], [(0, 0, [])], [], 48⟩ (by kernel_rfl))
        have hm := hk4
        refine X_cond v9 (by kernel_rfl) (fun hc3 => ?_) (fun hc3 => ?_)
        · have hm := it hc3 hm
          refine X_skip ?_
          refine thN ?_
          refine Ok_block ?_
          refine X_reg ty_ok Γok hL [] .nil (by kernel_rfl) ?_
          refine ibN ?_
          obtain rfl := some_inj hm
          exact thN ⟨_, rfl, Wk_J hL ⟨[(0, []), (1, []), (10, []), (11, [])], [(0, 0, [])], [], 48⟩ (by kernel_rfl)⟩
        · have hm := ie hc3 hm
          obtain rfl := some_inj hm
          obtain rfl := hb5 _ rfl
          refine Ok_exit ?_
          refine thE ?_
          refine thE ?_
          refine ibE ?_
          exact thN (Wk_J hL ⟨[(0, []), (1, []), (10, []), (11, [])], [(0, 0, [])], [], 48⟩ (by kernel_rfl))
      have hm := hk5
      obtain ⟨v13, hv7, hk7⟩ := obind hm
      refine X_join (n := 168) (fun (v13 : Int) => (⟨[(0, .own 0), (1, .dat (.sc (.int .i64 a))), (10, .dat (.sc (.int .i64 v10))), (11, .dat (.sc (.int .i64 v13)))], [(0, some (.arr 3 1 (List.map Enc.e data1)))], 48⟩ : X)) v13 ?_ ?_
      · have hm := hv7
        refine Ok_block ?_
        refine X_loop (n := 168) (step := slices_partitionOrdered_int_w_L4 a data1 v10) (fun (v11 : Int) => (⟨[(0, .own 0), (1, .dat (.sc (.int .i64 a))), (10, .dat (.sc (.int .i64 v10))), (11, .dat (.sc (.int .i64 v11)))], [(0, some (.arr 3 1 (List.map Enc.e data1)))], 48⟩ : X)) hm (Wk_J hL ⟨[(0, []), (1, []), (10, []), (11, [])], [(0, 0, [])], [], 48⟩ (by kernel_rfl)) ?_
        rintro v11 r0 hm hb7
        rw [slices_partitionOrdered_int_w_L4] at hm
        refine Ok_seq ?_
        obtain ⟨v12, hv6, hk6⟩ := obind hm
        refine X_join (n := 168) (fun (v12 : Bool) => (⟨[(0, .own 0), (1, .dat (.sc (.int .i64 a))), (10, .dat (.sc (.int .i64 v10))), (11, .dat (.sc (.int .i64 v11))), (129, .dat (.sc (.bool v12)))], [(0, some (.arr 3 1 (List.map Enc.e data1)))], 48⟩ : X)) v12 ?_ ?_
        · have hm := hv6
          rcases btf (decide (v10 ≤ v11)) with hb8 | hb8
          · have hm := it hb8 hm
            obtain ⟨e38, h45, hm⟩ := obind hm
            obtain ⟨e39, h46, hm⟩ := obind hm
            obtain ⟨r7, h47, hm⟩ := obind hm
            obtain rfl := some_inj hm
            refine X_draw mixed ty_ok Γok Γlive [] (by kernel_rfl) [(3, .b true), (6, .d (Enc.e e38)), (7, .d (Enc.e e38)), (10, .d (Enc.e e39)), (11, .d (Enc.e e39)), (12, .c (cmp_Less_int_r r7) (cmp_Less_int_n r7) (cmp_Less_int_o (e38, e39) r7))] (.cons hb8 (.cons (idx_m (f := Enc.e) h45) (.cons (idx_m2 (f := Enc.e) h45) (.cons (idx_m (f := Enc.e) h46) (.cons (idx_m2 (f := Enc.e) h46) (.cons (cmp_Less_int_c h47) .nil)))))) (by kernel_rfl) ?_
            exact thN (Wk_J hL ⟨[(0, []), (1, []), (10, []), (11, []), (129, [])], [(0, 0, [])], [], 48⟩ (by kernel_rfl))
          · have hm := ie hb8 hm
            obtain rfl := some_inj hm
            refine X_draw mixed ty_ok Γok Γlive [] (by kernel_rfl) [(3, .b false)] (.cons hb8 .nil) (by kernel_rfl) ?_
            exact thN (Wk_J hL ⟨[(0, []), (1, []), (10, []), (11, []), (129, [])], [(0, 0, [])], [], 48⟩ (by kernel_rfl))
        have hm := hk6
        refine X_cond v12 (by kernel_rfl) (fun hc4 => ?_) (fun hc4 => ?_)
        · have hm := it hc4 hm
          refine X_skip ?_
          refine thN ?_
          refine Ok_block ?_
          refine X_reg ty_ok Γok hL [] .nil (by kernel_rfl) ?_
          refine ibN ?_
          obtain rfl := some_inj hm
          exact thN ⟨_, rfl, Wk_J hL ⟨[(0, []), (1, []), (10, []), (11, [])], [(0, 0, [])], [], 48⟩ (by kernel_rfl)⟩
        · have hm := ie hc4 hm
          obtain rfl := some_inj hm
          obtain rfl := hb7 _ rfl
          refine Ok_exit ?_
          refine thE ?_
          refine thE ?_
          refine ibE ?_
          exact thN (Wk_J hL ⟨[(0, []), (1, []), (10, []), (11, [])], [(0, 0, [])], [], 48⟩ (by kernel_rfl))
      have hm := hk7
      refine Ok_seq ?_
      refine X_reg_seq ty_ok Γok hL [] .nil (by kernel_rfl) ?_
      refine X_cond (decide (v13 < v10)) (by kernel_rfl) (fun hc5 => ?_) (fun hc5 => ?_)
      · have hm := it hc5 hm
        obtain rfl := some_inj hm
        obtain rfl := hb4 _ rfl
        refine Ok_exit ?_
        refine thE ?_
        refine ibX rfl ?_
        refine thE ?_
        refine ibE ?_
        exact thN (Wk_J hL ⟨[(0, []), (1, []), (11, [])], [(0, 0, [])], [], 48⟩ (by kernel_rfl))
      · have hm := ie hc5 hm
        refine X_skip ?_
        refine thN ?_
        obtain ⟨e44, h52, hm⟩ := obind hm
        obtain ⟨e45, h53, hm⟩ := obind hm
        obtain ⟨e46, h54, hm⟩ := obind hm
        obtain ⟨e47, h55, hm⟩ := obind hm
        refine X_draw_seq mixed ty_ok Γok Γlive [(13, [0]), (15, [0])] (by kernel_rfl) [(6, .d (Enc.e e44)), (7, .d (Enc.e e44)), (10, .d (Enc.e e45)), (11, .d (Enc.e e45)), (12, .d (Enc.e e46)), (13, .sd (Enc.e e46) (List.map Enc.e (data1.set v10.toNat e44))), (14, .d (Enc.e e47)), (15, .sd (Enc.e e47) (List.map Enc.e ((data1.set v10.toNat e44).set v13.toNat e45)))] (.cons (idx_m (f := Enc.e) h52) (.cons (idx_m2 (f := Enc.e) h52) (.cons (idx_m (f := Enc.e) h53) (.cons (idx_m2 (f := Enc.e) h53) (.cons (idx_m (f := Enc.e) h54) (.cons (idx_m2 (f := Enc.e) h54) (.cons (set_m Enc.e data1 v10.toNat e44) (.cons (idx_m (f := Enc.e) h55) (.cons (idx_m2 (f := Enc.e) h55) (.cons (set_m Enc.e (data1.set v10.toNat e44) v13.toNat e45) .nil)))))))))) (by kernel_rfl) ?_
        refine X_reg_seq ty_ok Γok hL [] .nil (by kernel_rfl) ?_
        refine X_reg ty_ok Γok hL [] .nil (by kernel_rfl) ?_
        refine ibN ?_
        obtain rfl := some_inj hm
        exact thN ⟨_, rfl, Wk_J hL ⟨[(0, []), (1, []), (10, []), (11, [])], [(0, 0, [])], [], 48⟩ (by kernel_rfl)⟩
    obtain ⟨v14, data2⟩ := vv
    have hm := hk8
    obtain ⟨e52, h60, hm⟩ := obind hm
    obtain ⟨e53, h61, hm⟩ := obind hm
    obtain ⟨e54, h62, hm⟩ := obind hm
    obtain ⟨e55, h63, hm⟩ := obind hm
    refine X_draw_seq mixed ty_ok Γok Γlive [(13, [0]), (15, [0])] (by kernel_rfl) [(6, .d (Enc.e e52)), (7, .d (Enc.e e52)), (10, .d (Enc.e e53)), (11, .d (Enc.e e53)), (12, .d (Enc.e e54)), (13, .sd (Enc.e e54) (List.map Enc.e (data2.set v14.toNat e52))), (14, .d (Enc.e e55)), (15, .sd (Enc.e e55) (List.map Enc.e ((data2.set v14.toNat e52).set a.toNat e53)))] (.cons (idx_m (f := Enc.e) h60) (.cons (idx_m2 (f := Enc.e) h60) (.cons (idx_m (f := Enc.e) h61) (.cons (idx_m2 (f := Enc.e) h61) (.cons (idx_m (f := Enc.e) h62) (.cons (idx_m2 (f := Enc.e) h62) (.cons (set_m Enc.e data2 v14.toNat e52) (.cons (idx_m (f := Enc.e) h63) (.cons (idx_m2 (f := Enc.e) h63) (.cons (set_m Enc.e (data2.set v14.toNat e52) a.toNat e53) .nil)))))))))) (by kernel_rfl) ?_
    refine X_reg_seq ty_ok Γok hL [] .nil (by kernel_rfl) ?_
    obtain rfl := some_inj hm
    refine Ok_ret ?_
    repeat (first | refine thR ?_ | refine ibR ?_)
    exact X_fin [] [] (by kernel_rfl) trivial
abbrev slices_nextPowerOfTwo_r (y : (IK .u64)) : AV := .dat (Enc.e y)
abbrev slices_nextPowerOfTwo_n (y : (IK .u64)) : List Obj' := []
abbrev slices_nextPowerOfTwo_o (x : Int) (y : (IK .u64)) : List Obj' := []
noncomputable def slices_nextPowerOfTwo_S : FnSpec := modS [.rd] (fun x : Int => [Enc.e x]) (fun x : Int => []) (fun x : Int => slices_nextPowerOfTwo x) slices_nextPowerOfTwo_r slices_nextPowerOfTwo_n slices_nextPowerOfTwo_o
theorem slices_nextPowerOfTwo_c {length : Int} {y : (IK .u64)} (h : slices_nextPowerOfTwo length = some y) : CallOK slices_nextPowerOfTwo_S [Enc.e length] [] (slices_nextPowerOfTwo_r y) (slices_nextPowerOfTwo_n y) (slices_nextPowerOfTwo_o length y) :=
  modS_call (by
    rintro a0 b0 h hO
    have q0 : a0 = b0 := Enc.inj _ _ (congrArg (fun l => List.getD l 0 (.sc undef)) h)
    subst q0; rfl) (x := length) h
theorem slices_nextPowerOfTwo_ok : FnOK Try.prog 277 slices_nextPowerOfTwo_S := by
  have Γok : ∀ f S, lookF f [(229, math_bits_Len_S)] = some S → FnOK Try.prog f S := lookF_ok (allF_cons math_bits_Len_ok allF_nil)
  have Γlive : Live (fun f => lookF f [(229, math_bits_Len_S)]) := lookF_live (allL_cons modS_live allL_nil)
  refine fnOK_mod ty_ok (fun args w => Try.call277 args w) Try.func277 rfl [.tmp 2] (by rw [Try.results277]) 7 Try.ntmps277 16 rfl (fun _ => by first | exact Nat.zero_le _ | (simp)) ?_
  rintro length y cx hm hL
  have hm : slices_nextPowerOfTwo length = some y := hm
  have hL : cx.L = 0 := hL
  unfold slices_nextPowerOfTwo at hm
  refine X_reg_seq ty_ok Γok hL [] .nil (by kernel_rfl) ?_
  obtain ⟨r, h, hm⟩ := obind hm
  obtain ⟨u, h1, hm⟩ := obind hm
  refine X_reg_seq ty_ok Γok hL [(2, .c (math_bits_Len_r r) (math_bits_Len_n r) (math_bits_Len_o (⟨(IntKind.u64.wrap (length))⟩ : IK .u64) r))] (.cons (math_bits_Len_c h) (.cons (chk_t h1) .nil)) (by kernel_rfl) ?_
  obtain rfl := some_inj hm
  refine Ok_ret ?_
  repeat (first | refine thR ?_ | refine ibR ?_)
  exact X_fin [] [] (by kernel_rfl) trivial
end Go.Proofs.Ytepdapiceklppaa
