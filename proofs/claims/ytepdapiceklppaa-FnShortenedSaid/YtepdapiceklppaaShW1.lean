/- Each function computes what its model says. Made by program (dec.py). -/
import Derived.Test.YtepdapiceklppaaTy
import Derived.Test.YtepdapiceklppaaAbEx5
import Derived.Test.YtepdapiceklppaaShM
namespace Go.Proofs.Ytepdapiceklppaa
open Go Go.Ab
set_option maxRecDepth 100000
set_option maxHeartbeats 4000000
set_option linter.unusedVariables false
set_option linter.unusedSimpArgs false
theorem mixed : Try.prog.follows .mixedOrders = true := by kernel_rfl
abbrev v_vBig_r (y : Bool) : AV := .dat (Enc.e y)
abbrev v_vBig_n (y : Bool) : List Obj' := []
abbrev v_vBig_o (x : (List UInt8)) (y : Bool) : List Obj' := []
noncomputable def v_vBig_S : FnSpec := modS [.rd] (fun x : (List UInt8) => [Enc.e x]) (fun x : (List UInt8) => []) (fun x : (List UInt8) => v_vBig x) v_vBig_r v_vBig_n v_vBig_o
theorem v_vBig_c {code : List UInt8} {y : Bool} (h : v_vBig code = some y) : CallOK v_vBig_S [Enc.e code] [] (v_vBig_r y) (v_vBig_n y) (v_vBig_o code y) :=
  modS_call (by
    rintro a0 b0 h hO
    have q0 : a0 = b0 := Enc.inj _ _ (congrArg (fun l => List.getD l 0 (.sc undef)) h)
    subst q0; rfl) (x := code) h
theorem v_vBig_ok : FnOK Try.prog 24 v_vBig_S := by
  have Γok : ∀ f S, lookF f [] = some S → FnOK Try.prog f S := lookF_ok allF_nil
  have Γlive : Live (fun f => lookF f []) := lookF_live allL_nil
  refine fnOK_mod ty_ok (fun args w => Try.call24 args w) Try.func24 rfl [.tmp 2] (by rw [Try.results24]) 6 Try.ntmps24 16 rfl (fun _ => by first | exact Nat.zero_le _ | (simp)) ?_
  rintro code y cx hm hL
  have hm : v_vBig code = some y := hm
  have hL : cx.L = 0 := hL
  unfold v_vBig at hm
  refine X_reg_seq ty_ok Γok hL [] .nil (by kernel_rfl) ?_
  refine X_reg_seq ty_ok Γok hL [(1, .n (code.length : Int))] (.cons (len_m Enc.e code) .nil) (by kernel_rfl) ?_
  obtain rfl := some_inj hm
  refine Ok_ret ?_
  repeat (first | refine thR ?_ | refine ibR ?_)
  exact X_fin [] [] (by kernel_rfl) trivial
abbrev s_l1Cur_next_r (y : Int × l1Cur) : AV := .dat (Enc.e y.1)
abbrev s_l1Cur_next_n (y : Int × l1Cur) : List Obj' := []
abbrev s_l1Cur_next_o (x : l1Cur) (y : Int × l1Cur) : List Obj' := [.box [.dat (Enc.e y.2.code_), .dat (.sc (.int .i64 y.2.at_)), .dat (.sc (.int .u64 y.2.seed_.v))]]
noncomputable def s_l1Cur_next_S : FnSpec := modS [.bx] (fun x : l1Cur => [.sc undef]) (fun x : l1Cur => [.box [.dat (Enc.e x.code_), .dat (.sc (.int .i64 x.at_)), .dat (.sc (.int .u64 x.seed_.v))]]) (fun x : l1Cur => s_l1Cur_next x) s_l1Cur_next_r s_l1Cur_next_n s_l1Cur_next_o
theorem s_l1Cur_next_c {c : l1Cur} {y : Int × l1Cur} (h : s_l1Cur_next c = some y) : CallOK s_l1Cur_next_S [.sc undef] [.box [.dat (Enc.e c.code_), .dat (.sc (.int .i64 c.at_)), .dat (.sc (.int .u64 c.seed_.v))]] (s_l1Cur_next_r y) (s_l1Cur_next_n y) (s_l1Cur_next_o c y) :=
  modS_call (by
    rintro a0 b0 h hO
    have q0 : a0 = b0 := Enc.inj _ _ (congrArg (fun l => D.agg (obD l 0)) hO)
    subst q0; rfl) (x := c) h
theorem s_l1Cur_next_ok : FnOK Try.prog 197 s_l1Cur_next_S := by
  have Γok : ∀ f S, lookF f [] = some S → FnOK Try.prog f S := lookF_ok allF_nil
  have Γlive : Live (fun f => lookF f []) := lookF_live allL_nil
  refine fnOK_mod ty_ok (fun args w => Try.call197 args w) Try.func197 rfl [.tmp 2] (by rw [Try.results197]) 62 Try.ntmps197 16 rfl (fun _ => by first | exact Nat.zero_le _ | (simp)) ?_
  rintro c y cx hm hL
  have hm : s_l1Cur_next c = some y := hm
  have hL : cx.L = 1 := hL
  unfold s_l1Cur_next at hm
  refine X_reg_seq ty_ok Γok hL [] .nil (by kernel_rfl) ?_
  refine X_reg_seq ty_ok Γok hL [] .nil (by kernel_rfl) ?_
  obtain ⟨v, hv, hk⟩ := obind hm
  refine X_join (n := 62) (fun (v : Int) => (⟨[(0, .ref 0 0), (3, .dat (.sc (.int .i64 v)))], [(0, some (.box [.dat (Enc.e c.code_), .dat (.sc (.int .i64 c.at_)), .dat (.sc (.int .u64 c.seed_.v))]))], 48⟩ : X)) v ?_ ?_
  · have hm := hv
    refine X_draw_seq mixed ty_ok Γok Γlive [] (by kernel_rfl) [(8, .n (c.code_.length : Int))] (.cons (len_m Enc.e c.code_) .nil) (by kernel_rfl) ?_
    refine X_cond (decide (c.at_ < (c.code_.length : Int))) (by kernel_rfl) (fun hc => ?_) (fun hc => ?_)
    · have hm := it hc hm
      obtain ⟨e1, h1, hm⟩ := obind hm
      refine X_draw mixed ty_ok Γok Γlive [] (by kernel_rfl) [(8, .d (Enc.e e1))] (.cons (idx_m (f := Enc.e) h1) .nil) (by kernel_rfl) ?_
      obtain rfl := some_inj hm
      exact thN (Wk_J hL ⟨[(0, []), (3, [])], [(0, 0, [])], [], 48⟩ (by kernel_rfl))
    · have hm := ie hc hm
      refine X_skip ?_
      obtain rfl := some_inj hm
      exact thN (Wk_J hL ⟨[(0, []), (3, [])], [(0, 0, [])], [], 48⟩ (by kernel_rfl))
  have hm := hk
  refine X_reg_seq ty_ok Γok hL [] .nil (by kernel_rfl) ?_
  refine X_reg_seq ty_ok Γok hL [] .nil (by kernel_rfl) ?_
  refine Ok_seq ?_
  refine X_draw_seq mixed ty_ok Γok Γlive [] (by kernel_rfl) [(8, .n (c.code_.length : Int))] (.cons (len_m Enc.e c.code_) .nil) (by kernel_rfl) ?_
  refine X_cond (decide ((w64 (c.at_ + 1)) ≤ (c.code_.length : Int))) (by kernel_rfl) (fun hc1 => ?_) (fun hc1 => ?_)
  · have hm := it hc1 hm
    refine X_reg_seq ty_ok Γok hL [] .nil (by kernel_rfl) ?_
    obtain rfl := some_inj hm
    refine Ok_ret ?_
    repeat (first | refine thR ?_ | refine ibR ?_)
    exact X_fin [] [] (by kernel_rfl) trivial
  · have hm := ie hc1 hm
    refine X_skip ?_
    refine thN ?_
    obtain ⟨u, h2, hm⟩ := obind hm
    refine X_reg_seq ty_ok Γok hL [] (.cons (chk_t h2) .nil) (by kernel_rfl) ?_
    obtain rfl := some_inj hm
    refine Ok_ret ?_
    repeat (first | refine thR ?_ | refine ibR ?_)
    exact X_fin [] [] (by kernel_rfl) trivial
abbrev s_l1Cur_pick_r (y : Int × l1Cur) : AV := .dat (Enc.e y.1)
abbrev s_l1Cur_pick_n (y : Int × l1Cur) : List Obj' := []
abbrev s_l1Cur_pick_o (x : l1Cur × Int) (y : Int × l1Cur) : List Obj' := [.box [.dat (Enc.e y.2.code_), .dat (.sc (.int .i64 y.2.at_)), .dat (.sc (.int .u64 y.2.seed_.v))]]
noncomputable def s_l1Cur_pick_S : FnSpec := modS [.bx, .rd] (fun x : l1Cur × Int => [.sc undef, Enc.e x.2]) (fun x : l1Cur × Int => [.box [.dat (Enc.e x.1.code_), .dat (.sc (.int .i64 x.1.at_)), .dat (.sc (.int .u64 x.1.seed_.v))]]) (fun x : l1Cur × Int => s_l1Cur_pick x.1 x.2) s_l1Cur_pick_r s_l1Cur_pick_n s_l1Cur_pick_o
theorem s_l1Cur_pick_c {c : l1Cur} {n : Int} {y : Int × l1Cur} (h : s_l1Cur_pick c n = some y) : CallOK s_l1Cur_pick_S [.sc undef, Enc.e n] [.box [.dat (Enc.e c.code_), .dat (.sc (.int .i64 c.at_)), .dat (.sc (.int .u64 c.seed_.v))]] (s_l1Cur_pick_r y) (s_l1Cur_pick_n y) (s_l1Cur_pick_o (c, n) y) :=
  modS_call (by
    rintro ⟨a0, a1⟩ ⟨b0, b1⟩ h hO
    have q0 : a0 = b0 := Enc.inj _ _ (congrArg (fun l => D.agg (obD l 0)) hO)
    have q1 : a1 = b1 := Enc.inj _ _ (congrArg (fun l => List.getD l 1 (.sc undef)) h)
    subst q0; subst q1; rfl) (x := (c, n)) h
theorem s_l1Cur_pick_ok : FnOK Try.prog 103 s_l1Cur_pick_S := by
  have Γok : ∀ f S, lookF f [(197, s_l1Cur_next_S)] = some S → FnOK Try.prog f S := lookF_ok (allF_cons s_l1Cur_next_ok allF_nil)
  have Γlive : Live (fun f => lookF f [(197, s_l1Cur_next_S)]) := lookF_live (allL_cons modS_live allL_nil)
  refine fnOK_mod ty_ok (fun args w => Try.call103 args w) Try.func103 rfl [.tmp 4] (by rw [Try.results103]) 20 Try.ntmps103 16 rfl (fun _ => by first | exact Nat.zero_le _ | (simp)) ?_
  rintro ⟨c, n⟩ y cx hm hL
  have hm : s_l1Cur_pick c n = some y := hm
  have hL : cx.L = 1 := hL
  unfold s_l1Cur_pick at hm
  refine X_reg_seq ty_ok Γok hL [] .nil (by kernel_rfl) ?_
  refine Ok_seq ?_
  refine X_reg_seq ty_ok Γok hL [] .nil (by kernel_rfl) ?_
  refine X_cond (decide (n ≤ 1)) (by kernel_rfl) (fun hc => ?_) (fun hc => ?_)
  · have hm := it hc hm
    refine X_reg_seq ty_ok Γok hL [] .nil (by kernel_rfl) ?_
    obtain rfl := some_inj hm
    refine Ok_ret ?_
    repeat (first | refine thR ?_ | refine ibR ?_)
    exact X_fin [] [] (by kernel_rfl) trivial
  · have hm := ie hc hm
    refine X_skip ?_
    refine thN ?_
    obtain ⟨r, h, hm⟩ := obind hm
    refine X_reg_seq ty_ok Γok hL [(1, .c (s_l1Cur_next_r r) (s_l1Cur_next_n r) (s_l1Cur_next_o c r))] (.cons (s_l1Cur_next_c h) .nil) (by kernel_rfl) ?_
    obtain ⟨vv, hv, hk⟩ := obind hm
    refine X_join (n := 20) (fun ((v, v1, v2, v3) : Int × (List UInt8) × Int × Int) => (⟨[(0, .ref 0 0), (1, .dat (.sc (.int .i64 n))), (5, .dat (.sc (.int .i64 v)))], [(0, some (.box [.dat (Enc.e v1), .dat (.sc (.int .i64 v2)), .dat (.sc (.int .u64 v3))]))], 48⟩ : X)) vv ?_ ?_
    · have hm := hv
      refine X_reg_seq ty_ok Γok hL [] .nil (by kernel_rfl) ?_
      refine X_cond (decide (200 < n)) (by kernel_rfl) (fun hc1 => ?_) (fun hc1 => ?_)
      · have hm := it hc1 hm
        obtain ⟨r1, h1, hm⟩ := obind hm
        refine X_reg ty_ok Γok hL [(3, .c (s_l1Cur_next_r r1) (s_l1Cur_next_n r1) (s_l1Cur_next_o r.2 r1))] (.cons (s_l1Cur_next_c h1) .nil) (by kernel_rfl) ?_
        obtain rfl := some_inj hm
        exact thN (Wk_J hL ⟨[(0, []), (1, []), (5, [])], [(0, 0, [])], [], 48⟩ (by kernel_rfl))
      · have hm := ie hc1 hm
        refine X_skip ?_
        obtain rfl := some_inj hm
        exact thN (Wk_J hL ⟨[(0, []), (1, []), (5, [])], [(0, 0, [])], [], 48⟩ (by kernel_rfl))
    obtain ⟨v, v1, v2, v3⟩ := vv
    have hm := hk
    obtain ⟨u, h2, hm⟩ := obind hm
    refine X_reg_seq ty_ok Γok hL [] (.cons (chk_t h2) .nil) (by kernel_rfl) ?_
    obtain rfl := some_inj hm
    refine Ok_ret ?_
    repeat (first | refine thR ?_ | refine ibR ?_)
    exact X_fin [] [] (by kernel_rfl) trivial
abbrev s_l1Cur_one_r (y : Bool × l1Cur) : AV := .dat (Enc.e y.1)
abbrev s_l1Cur_one_n (y : Bool × l1Cur) : List Obj' := []
abbrev s_l1Cur_one_o (x : l1Cur × Int) (y : Bool × l1Cur) : List Obj' := [.box [.dat (Enc.e y.2.code_), .dat (.sc (.int .i64 y.2.at_)), .dat (.sc (.int .u64 y.2.seed_.v))]]
noncomputable def s_l1Cur_one_S : FnSpec := modS [.bx, .rd] (fun x : l1Cur × Int => [.sc undef, Enc.e x.2]) (fun x : l1Cur × Int => [.box [.dat (Enc.e x.1.code_), .dat (.sc (.int .i64 x.1.at_)), .dat (.sc (.int .u64 x.1.seed_.v))]]) (fun x : l1Cur × Int => s_l1Cur_one x.1 x.2) s_l1Cur_one_r s_l1Cur_one_n s_l1Cur_one_o
theorem s_l1Cur_one_c {c : l1Cur} {n : Int} {y : Bool × l1Cur} (h : s_l1Cur_one c n = some y) : CallOK s_l1Cur_one_S [.sc undef, Enc.e n] [.box [.dat (Enc.e c.code_), .dat (.sc (.int .i64 c.at_)), .dat (.sc (.int .u64 c.seed_.v))]] (s_l1Cur_one_r y) (s_l1Cur_one_n y) (s_l1Cur_one_o (c, n) y) :=
  modS_call (by
    rintro ⟨a0, a1⟩ ⟨b0, b1⟩ h hO
    have q0 : a0 = b0 := Enc.inj _ _ (congrArg (fun l => D.agg (obD l 0)) hO)
    have q1 : a1 = b1 := Enc.inj _ _ (congrArg (fun l => List.getD l 1 (.sc undef)) h)
    subst q0; subst q1; rfl) (x := (c, n)) h
theorem s_l1Cur_one_ok : FnOK Try.prog 106 s_l1Cur_one_S := by
  have Γok : ∀ f S, lookF f [(103, s_l1Cur_pick_S)] = some S → FnOK Try.prog f S := lookF_ok (allF_cons s_l1Cur_pick_ok allF_nil)
  have Γlive : Live (fun f => lookF f [(103, s_l1Cur_pick_S)]) := lookF_live (allL_cons modS_live allL_nil)
  refine fnOK_mod ty_ok (fun args w => Try.call106 args w) Try.func106 rfl [.tmp 4] (by rw [Try.results106]) 9 Try.ntmps106 16 rfl (fun _ => by first | exact Nat.zero_le _ | (simp)) ?_
  rintro ⟨c, n⟩ y cx hm hL
  have hm : s_l1Cur_one c n = some y := hm
  have hL : cx.L = 1 := hL
  unfold s_l1Cur_one at hm
  refine X_reg_seq ty_ok Γok hL [] .nil (by kernel_rfl) ?_
  obtain ⟨r, h, hm⟩ := obind hm
  refine X_reg_seq ty_ok Γok hL [(2, .c (s_l1Cur_pick_r r) (s_l1Cur_pick_n r) (s_l1Cur_pick_o (c, n) r))] (.cons (s_l1Cur_pick_c h) .nil) (by kernel_rfl) ?_
  obtain rfl := some_inj hm
  refine Ok_ret ?_
  repeat (first | refine thR ?_ | refine ibR ?_)
  exact X_fin [] [] (by kernel_rfl) trivial
abbrev s_l1Num_r (y : ByteArray) : AV := .dat (Enc.e y)
abbrev s_l1Num_n (y : ByteArray) : List Obj' := []
abbrev s_l1Num_o (x : Int) (y : ByteArray) : List Obj' := []
noncomputable def s_l1Num_SR (rec_ : Int → Option (ByteArray)) : FnSpec := modS [.rd] (fun x : Int => [Enc.e x]) (fun x : Int => []) (fun x : Int => rec_ x) s_l1Num_r s_l1Num_n s_l1Num_o
noncomputable def s_l1Num_S : FnSpec := modS [.rd] (fun x : Int => [Enc.e x]) (fun x : Int => []) (fun x : Int => s_l1Num x) s_l1Num_r s_l1Num_n s_l1Num_o
theorem s_l1Num_c {n : Int} {y : ByteArray} (h : s_l1Num n = some y) : CallOK s_l1Num_S [Enc.e n] [] (s_l1Num_r y) (s_l1Num_n y) (s_l1Num_o n y) :=
  modS_call (by
    rintro a0 b0 h hO
    have q0 : a0 = b0 := Enc.inj _ _ (congrArg (fun l => List.getD l 0 (.sc undef)) h)
    subst q0; rfl) (x := n) h
theorem s_l1Num_cR {rec_ : Int → Option (ByteArray)} {n : Int} {y : ByteArray} (h : rec_ n = some y) : CallOK (s_l1Num_SR rec_) [Enc.e n] [] (s_l1Num_r y) (s_l1Num_n y) (s_l1Num_o n y) :=
  modS_call (by
    rintro a0 b0 h hO
    have q0 : a0 = b0 := Enc.inj _ _ (congrArg (fun l => List.getD l 0 (.sc undef)) h)
    subst q0; rfl) (x := n) h
theorem s_l1Num_okF {rec_ : Int → Option (ByteArray)} (hrec : FnOK Try.prog 238 (s_l1Num_SR rec_)) : FnOK Try.prog 238 (s_l1Num_SR (s_l1Num_F rec_)) := by
  have Γok : ∀ f S, lookF f [(238, s_l1Num_SR rec_)] = some S → FnOK Try.prog f S := lookF_ok (allF_cons hrec allF_nil)
  have Γlive : Live (fun f => lookF f [(238, s_l1Num_SR rec_)]) := lookF_live (allL_cons modS_live allL_nil)
  refine fnOK_mod ty_ok (fun args w => Try.call238 args w) Try.func238 rfl [.tmp 2] (by rw [Try.results238]) 25 Try.ntmps238 16 rfl (fun _ => by first | exact Nat.zero_le _ | (simp)) ?_
  rintro n y cx hm hL
  have hm : s_l1Num_F rec_ n = some y := hm
  have hL : cx.L = 0 := hL
  unfold s_l1Num_F at hm
  refine X_reg_seq ty_ok Γok hL [] .nil (by kernel_rfl) ?_
  refine Ok_seq ?_
  refine X_reg_seq ty_ok Γok hL [] .nil (by kernel_rfl) ?_
  refine X_cond (decide (n < 0)) (by kernel_rfl) (fun hc => ?_) (fun hc => ?_)
  · have hm := it hc hm
    obtain ⟨r, h, hm⟩ := obind hm
    obtain ⟨u, h1, hm⟩ := obind hm
    refine X_reg_seq ty_ok Γok hL [(2, .c (s_l1Num_r r) (s_l1Num_n r) (s_l1Num_o (w64 (0 - n)) r))] (.cons (s_l1Num_cR h) (.cons (cat_p (chk_t h1)) .nil)) (by kernel_rfl) ?_
    obtain rfl := some_inj hm
    refine Ok_ret ?_
    repeat (first | refine thR ?_ | refine ibR ?_)
    exact X_fin [] [] (by kernel_rfl) trivial
  · have hm := ie hc hm
    refine X_skip ?_
    refine thN ?_
    refine Ok_seq ?_
    refine X_reg_seq ty_ok Γok hL [] .nil (by kernel_rfl) ?_
    refine X_cond (decide (n < 10)) (by kernel_rfl) (fun hc1 => ?_) (fun hc1 => ?_)
    · have hm := it hc1 hm
      obtain ⟨u1, h2, hm⟩ := obind hm
      refine X_reg_seq ty_ok Γok hL [] (.cons (chk_t h2) .nil) (by kernel_rfl) ?_
      obtain rfl := some_inj hm
      refine Ok_ret ?_
      repeat (first | refine thR ?_ | refine ibR ?_)
      exact X_fin [] [] (by kernel_rfl) trivial
    · have hm := ie hc1 hm
      refine X_skip ?_
      refine thN ?_
      obtain ⟨u7, h9, hm⟩ := obind hm
      obtain ⟨r2, h10, hm⟩ := obind hm
      obtain ⟨u8, h11, hm⟩ := obind hm
      obtain ⟨u9, h12, hm⟩ := obind hm
      obtain ⟨u10, h13, hm⟩ := obind hm
      obtain ⟨u11, h14, hm⟩ := obind hm
      refine X_draw_seq mixed ty_ok Γok Γlive [] (by kernel_rfl) [(2, .c (s_l1Num_r r2) (s_l1Num_n r2) (s_l1Num_o (w64 (n.tdiv 10)) r2))] (.cons (chk_t h9) (.cons (s_l1Num_cR h10) (.cons (chk_t h11) (.cons (chk_t h12) (.cons (chk_t h13) (.cons (cat_p (chk_t h14)) .nil)))))) (by kernel_rfl) ?_
      obtain rfl := some_inj hm
      refine Ok_ret ?_
      repeat (first | refine thR ?_ | refine ibR ?_)
      exact X_fin [] [] (by kernel_rfl) trivial
theorem s_l1Num_okn : ∀ k, FnOK Try.prog 238 (s_l1Num_SR (s_l1Num_k k))
  | 0 => ⟨fun args w => Try.call238 args w, fun vs w F ds obs κ hp => by obtain ⟨x, y, _, _, h⟩ := hp; cases h⟩
  | k + 1 => s_l1Num_okF (s_l1Num_okn k)
theorem s_l1Num_ok : FnOK Try.prog 238 s_l1Num_S := s_l1Num_okn 4294967296
abbrev s_l2Place_r (y : Int) : AV := .dat (Enc.e y)
abbrev s_l2Place_n (y : Int) : List Obj' := []
abbrev s_l2Place_o (x : Line × Int) (y : Int) : List Obj' := []
noncomputable def s_l2Place_S : FnSpec := modS [.rd, .rd] (fun x : Line × Int => [Enc.e x.1, Enc.e x.2]) (fun x : Line × Int => []) (fun x : Line × Int => s_l2Place x.1 x.2) s_l2Place_r s_l2Place_n s_l2Place_o
theorem s_l2Place_c {x : Line} {stop : Int} {y : Int} (h : s_l2Place x stop = some y) : CallOK s_l2Place_S [Enc.e x, Enc.e stop] [] (s_l2Place_r y) (s_l2Place_n y) (s_l2Place_o (x, stop) y) :=
  modS_call (by
    rintro ⟨a0, a1⟩ ⟨b0, b1⟩ h hO
    have q0 : a0 = b0 := Enc.inj _ _ (congrArg (fun l => List.getD l 0 (.sc undef)) h)
    have q1 : a1 = b1 := Enc.inj _ _ (congrArg (fun l => List.getD l 1 (.sc undef)) h)
    subst q0; subst q1; rfl) (x := (x, stop)) h
theorem s_l2Place_ok : FnOK Try.prog 223 s_l2Place_S := by
  have Γok : ∀ f S, lookF f [] = some S → FnOK Try.prog f S := lookF_ok allF_nil
  have Γlive : Live (fun f => lookF f []) := lookF_live allL_nil
  refine fnOK_mod ty_ok (fun args w => Try.call223 args w) Try.func223 rfl [.tmp 4] (by rw [Try.results223]) 21 Try.ntmps223 16 rfl (fun _ => by first | exact Nat.zero_le _ | (simp)) ?_
  rintro ⟨x, stop⟩ y cx hm hL
  have hm : s_l2Place x stop = some y := hm
  have hL : cx.L = 0 := hL
  unfold s_l2Place at hm
  refine X_reg_seq ty_ok Γok hL [] .nil (by kernel_rfl) ?_
  refine Ok_seq ?_
  refine X_reg_seq ty_ok Γok hL [] .nil (by kernel_rfl) ?_
  obtain ⟨v1, hv, hr, hk⟩ := flb_t hm
  refine X_tailF (n := 21) (fun (_ : Unit) => (⟨[], [], 32⟩ : X)) v1 ?_ ?_
  · have hm := hv
    refine Ok_block ?_
    refine X_loop (n := 21) (step := s_l2Place_L1 x stop) (fun (v : Int) => (⟨[(1, .dat (.sc (.int .i64 stop))), (2, .ref 16 0), (5, .dat (.sc (.int .i64 v)))], [(16, some (.box [.dat (.sc (.string x.Name)), .dat (Enc.e x.Stops), .dat (Enc.e x.Runs)]))], 48⟩ : X)) hm (Wk_J hL ⟨[(1, []), (2, []), (5, [])], [(16, 16, [])], [], 48⟩ (by kernel_rfl)) ?_
    rintro v r0 hm hb
    rw [s_l2Place_L1] at hm
    refine Ok_seq ?_
    refine X_reg_seq ty_ok Γok hL [(3, .n (x.Stops.length : Int))] (.cons (len_m Enc.e x.Stops) .nil) (by kernel_rfl) ?_
    refine X_cond (decide (v < (x.Stops.length : Int))) (by kernel_rfl) (fun hc => ?_) (fun hc => ?_)
    · have hm := it hc hm
      refine X_skip ?_
      refine thN ?_
      refine Ok_seq ?_
      refine Ok_block ?_
      obtain ⟨e, h, hm⟩ := obind hm
      refine X_reg_seq ty_ok Γok hL [(3, .d (Enc.e e))] (.cons (idx_m (f := Enc.e) h) .nil) (by kernel_rfl) ?_
      refine X_cond (e == stop) (by kernel_rfl) (fun hc1 => ?_) (fun hc1 => ?_)
      · have hm := it hc1 hm
        refine X_reg_seq ty_ok Γok hL [] .nil (by kernel_rfl) ?_
        obtain rfl := some_inj hm
        obtain rfl := hb _ rfl
        have hm := congrArg some (hr _ rfl)
        obtain rfl := some_inj hm
        refine Ok_ret ?_
        repeat (first | refine thR ?_ | refine ibR ?_)
        exact X_fin [] [] (by kernel_rfl) trivial
      · have hm := ie hc1 hm
        refine X_skip ?_
        refine ibN ?_
        refine thN ?_
        refine X_reg ty_ok Γok hL [] .nil (by kernel_rfl) ?_
        obtain rfl := some_inj hm
        exact thN ⟨_, rfl, Wk_J hL ⟨[(1, []), (2, []), (5, [])], [(16, 16, [])], [], 48⟩ (by kernel_rfl)⟩
    · have hm := ie hc hm
      obtain rfl := some_inj hm
      obtain rfl := hb _ rfl
      refine Ok_exit ?_
      refine thE ?_
      refine thE ?_
      refine ibE ?_
      exact thN ⟨_, rfl, Wk_J hL ⟨[], [], [], 32⟩ (by kernel_rfl)⟩
  rintro ⟨⟩ hu s hw
  have hm := hk _ hu
  refine thN ?_
  refine Ok_weak hw ?_
  refine X_reg_seq ty_ok Γok hL [] .nil (by kernel_rfl) ?_
  obtain rfl := some_inj hm
  refine Ok_ret ?_
  repeat (first | refine thR ?_ | refine ibR ?_)
  exact X_fin [] [] (by kernel_rfl) trivial
abbrev s_l1Cur_line_r (y : Line × l1Cur) : AV := .aggv [.dat (.sc (.string y.1.Name)), .own 0, .own 1]
abbrev s_l1Cur_line_n (y : Line × l1Cur) : List Obj' := [.arr 3 1 (List.map Enc.e y.1.Stops), .arr 3 1 (List.map Enc.e y.1.Runs)]
abbrev s_l1Cur_line_o (x : l1Cur × ByteArray × Int) (y : Line × l1Cur) : List Obj' := [.box [.dat (Enc.e y.2.code_), .dat (.sc (.int .i64 y.2.at_)), .dat (.sc (.int .u64 y.2.seed_.v))]]
noncomputable def s_l1Cur_line_S : FnSpec := modS [.bx, .rd, .rd] (fun x : l1Cur × ByteArray × Int => [.sc undef, Enc.e x.2.1, Enc.e x.2.2]) (fun x : l1Cur × ByteArray × Int => [.box [.dat (Enc.e x.1.code_), .dat (.sc (.int .i64 x.1.at_)), .dat (.sc (.int .u64 x.1.seed_.v))]]) (fun x : l1Cur × ByteArray × Int => s_l1Cur_line x.1 x.2.1 x.2.2) s_l1Cur_line_r s_l1Cur_line_n s_l1Cur_line_o
theorem s_l1Cur_line_c {c : l1Cur} {name : ByteArray} {stops : Int} {y : Line × l1Cur} (h : s_l1Cur_line c name stops = some y) : CallOK s_l1Cur_line_S [.sc undef, Enc.e name, Enc.e stops] [.box [.dat (Enc.e c.code_), .dat (.sc (.int .i64 c.at_)), .dat (.sc (.int .u64 c.seed_.v))]] (s_l1Cur_line_r y) (s_l1Cur_line_n y) (s_l1Cur_line_o (c, name, stops) y) :=
  modS_call (by
    rintro ⟨a0, a1, a2⟩ ⟨b0, b1, b2⟩ h hO
    have q0 : a0 = b0 := Enc.inj _ _ (congrArg (fun l => D.agg (obD l 0)) hO)
    have q1 : a1 = b1 := Enc.inj _ _ (congrArg (fun l => List.getD l 1 (.sc undef)) h)
    have q2 : a2 = b2 := Enc.inj _ _ (congrArg (fun l => List.getD l 2 (.sc undef)) h)
    subst q0; subst q1; subst q2; rfl) (x := (c, name, stops)) h
theorem s_l1Cur_line_ok : FnOK Try.prog 237 s_l1Cur_line_S := by
  have Γok : ∀ f S, lookF f [(103, s_l1Cur_pick_S), (223, s_l2Place_S)] = some S → FnOK Try.prog f S := lookF_ok (allF_cons s_l1Cur_pick_ok (allF_cons s_l2Place_ok allF_nil))
  have Γlive : Live (fun f => lookF f [(103, s_l1Cur_pick_S), (223, s_l2Place_S)]) := lookF_live (allL_cons modS_live (allL_cons modS_live allL_nil))
  refine fnOK_mod ty_ok (fun args w => Try.call237 args w) Try.func237 rfl [.cell 6 198] (by rw [Try.results237]) 72 Try.ntmps237 16 rfl (fun _ => by first | exact Nat.zero_le _ | (simp)) ?_
  rintro ⟨c, name, stops⟩ y cx hm hL
  have hm : s_l1Cur_line c name stops = some y := hm
  have hL : cx.L = 1 := hL
  unfold s_l1Cur_line at hm
  refine X_reg_seq ty_ok Γok hL [] .nil (by kernel_rfl) ?_
  refine X_reg_seq ty_ok Γok hL [] .nil (by kernel_rfl) ?_
  obtain ⟨r, h, hm⟩ := obind hm
  refine X_reg_seq ty_ok Γok hL [(2, .c (s_l1Cur_pick_r r) (s_l1Cur_pick_n r) (s_l1Cur_pick_o (c, stops) r))] (.cons (s_l1Cur_pick_c h) .nil) (by kernel_rfl) ?_
  refine Ok_seq ?_
  obtain ⟨r1, h1, hm⟩ := obind hm
  refine X_reg_seq ty_ok Γok hL [(1, .c (s_l1Cur_pick_r r1) (s_l1Cur_pick_n r1) (s_l1Cur_pick_o (r.2, 3) r1))] (.cons (s_l1Cur_pick_c h1) .nil) (by kernel_rfl) ?_
  obtain ⟨vv1, hv1, hk1⟩ := obind hm
  refine X_tail (n := 72) (fun ((v7, v8, v9, v10) : (List UInt8) × Int × Int × (List Int)) => (⟨[(0, .ref 0 0), (2, .dat (.sc (.int .i64 stops))), (6, .ref 32 0), (7, .ref 48 0)], [(0, some (.box [.dat (Enc.e v7), .dat (.sc (.int .i64 v8)), .dat (.sc (.int .u64 v9))])), (32, some (.box [.dat (.sc (.string ByteArray.empty)), .dat (.sc (.slice none 0 0)), .dat (.sc (.slice none 0 0))])), (48, some (.box [.dat (.sc (.string name)), .own 64, .dat (.sc (.slice none 0 0))])), (64, some (.arr 3 1 (List.map Enc.e v10)))], 96⟩ : X)) vv1 ?_ ?_
  · have hm := hv1
    refine Ok_block ?_
    refine X_loop (n := 72) (step := s_l1Cur_line_L1 name stops) (fun ((v, v1, v2, v3, v4, v5) : Int × Int × (List UInt8) × Int × Int × (List Int)) => (⟨[(0, .ref 0 0), (2, .dat (.sc (.int .i64 stops))), (6, .ref 32 0), (7, .ref 48 0), (8, .dat (.sc (.int .i64 v))), (9, .dat (.sc (.int .i64 v1)))], [(0, some (.box [.dat (Enc.e v2), .dat (.sc (.int .i64 v3)), .dat (.sc (.int .u64 v4))])), (32, some (.box [.dat (.sc (.string ByteArray.empty)), .dat (.sc (.slice none 0 0)), .dat (.sc (.slice none 0 0))])), (48, some (.box [.dat (.sc (.string name)), .own 64, .dat (.sc (.slice none 0 0))])), (64, some (.arr 3 1 (List.map Enc.e v5)))], 96⟩ : X)) hm (Wk_J hL ⟨[(0, []), (2, []), (6, []), (7, []), (8, []), (9, [])], [(0, 0, []), (32, 16, []), (48, 64, [.k, .o 64])], [(64, 3, 1, [])], 96⟩ (by kernel_rfl)) ?_
    rintro ⟨v, v1, v2, v3, v4, v5⟩ r0 hm hb
    rw [s_l1Cur_line_L1] at hm
    refine Ok_seq ?_
    refine X_reg_seq ty_ok Γok hL [] .nil (by kernel_rfl) ?_
    refine X_cond (decide (0 < v1)) (by kernel_rfl) (fun hc => ?_) (fun hc => ?_)
    · have hm := it hc hm
      refine X_skip ?_
      refine thN ?_
      refine Ok_seq ?_
      refine Ok_block ?_
      obtain ⟨v6, hv, hk⟩ := obind hm
      refine X_join (n := 72) (fun (v6 : List Int) => (⟨[(0, .ref 0 0), (2, .dat (.sc (.int .i64 stops))), (6, .ref 32 0), (7, .ref 48 0), (8, .dat (.sc (.int .i64 v))), (9, .dat (.sc (.int .i64 v1)))], [(0, some (.box [.dat (Enc.e v2), .dat (.sc (.int .i64 v3)), .dat (.sc (.int .u64 v4))])), (32, some (.box [.dat (.sc (.string ByteArray.empty)), .dat (.sc (.slice none 0 0)), .dat (.sc (.slice none 0 0))])), (48, some (.box [.dat (.sc (.string name)), .own 64, .dat (.sc (.slice none 0 0))])), (64, some (.arr 3 1 (List.map Enc.e v6)))], 96⟩ : X)) v6 ?_ ?_
      · have hm := hv
        obtain ⟨r2, h2, hm⟩ := obind hm
        refine X_reg_seq ty_ok Γok hL [(2, .c (s_l2Place_r r2) (s_l2Place_n r2) (s_l2Place_o ((⟨name, v5, ([] : List Int)⟩ : Line), v) r2))] (.cons (s_l2Place_c h2) .nil) (by kernel_rfl) ?_
        refine X_cond (decide (r2 < 0)) (by kernel_rfl) (fun hc1 => ?_) (fun hc1 => ?_)
        · have hm := it hc1 hm
          obtain ⟨u, h3, hm⟩ := obind hm
          refine X_reg ty_ok Γok hL [(4, .l (List.map Enc.e (v5 ++ ([v] : List Int))))] (.cons (app_p (f := Enc.e) (g := Enc.e) (l := v5) (r := ([v] : List Int)) (b := 8) (chk_t h3) rfl) (.cons (app_m Enc.e v5 ([v] : List Int)) .nil)) (by kernel_rfl) ?_
          obtain rfl := some_inj hm
          exact thN (Wk_J hL ⟨[(0, []), (2, []), (6, []), (7, []), (8, []), (9, [])], [(0, 0, []), (32, 32, []), (48, 48, []), (64, 256, [])], [], 96⟩ (by kernel_rfl))
        · have hm := ie hc1 hm
          refine X_skip ?_
          obtain rfl := some_inj hm
          exact thN (Wk_J hL ⟨[(0, []), (2, []), (6, []), (7, []), (8, []), (9, [])], [(0, 0, []), (32, 32, []), (48, 48, []), (64, 64, [])], [], 96⟩ (by kernel_rfl))
      have hm := hk
      obtain ⟨r3, h4, hm⟩ := obind hm
      obtain ⟨u1, h5, hm⟩ := obind hm
      refine X_reg ty_ok Γok hL [(3, .c (s_l1Cur_pick_r r3) (s_l1Cur_pick_n r3) (s_l1Cur_pick_o ((⟨v2, v3, (⟨v4⟩ : IK .u64)⟩ : l1Cur), 2) r3))] (.cons (s_l1Cur_pick_c h4) (.cons (chk_t h5) .nil)) (by kernel_rfl) ?_
      refine ibN ?_
      refine thN ?_
      refine X_reg ty_ok Γok hL [] .nil (by kernel_rfl) ?_
      obtain rfl := some_inj hm
      exact thN ⟨_, rfl, Wk_J hL ⟨[(0, []), (2, []), (6, []), (7, []), (8, []), (9, [])], [(0, 0, []), (32, 32, []), (48, 48, []), (64, 64, [])], [], 96⟩ (by kernel_rfl)⟩
    · have hm := ie hc hm
      obtain rfl := some_inj hm
      obtain rfl := hb _ rfl
      refine Ok_exit ?_
      refine thE ?_
      refine thE ?_
      refine ibE ?_
      exact thN (Wk_J hL ⟨[(0, []), (2, []), (6, []), (7, [])], [(0, 0, []), (32, 32, []), (48, 48, []), (64, 64, [])], [], 96⟩ (by kernel_rfl))
  obtain ⟨v7, v8, v9, v10⟩ := vv1
  intro s hw
  have hm := hk1
  refine thN ?_
  refine Ok_weak hw ?_
  obtain ⟨v11, hv2, hk2⟩ := obind hm
  refine X_join (n := 72) (fun (v11 : List Int) => (⟨[(0, .ref 0 0), (6, .ref 32 0), (7, .ref 48 0)], [(0, some (.box [.dat (Enc.e v7), .dat (.sc (.int .i64 v8)), .dat (.sc (.int .u64 v9))])), (32, some (.box [.dat (.sc (.string ByteArray.empty)), .dat (.sc (.slice none 0 0)), .dat (.sc (.slice none 0 0))])), (48, some (.box [.dat (.sc (.string name)), .own 64, .dat (.sc (.slice none 0 0))])), (64, some (.arr 3 1 (List.map Enc.e v11)))], 96⟩ : X)) v11 ?_ ?_
  · have hm := hv2
    refine X_reg_seq ty_ok Γok hL [(2, .n (v10.length : Int))] (.cons (len_m Enc.e v10) .nil) (by kernel_rfl) ?_
    refine X_cond (decide ((v10.length : Int) < 2)) (by kernel_rfl) (fun hc2 => ?_) (fun hc2 => ?_)
    · have hm := it hc2 hm
      obtain ⟨e1, h9, hm⟩ := obind hm
      obtain ⟨u4, h10, hm⟩ := obind hm
      obtain ⟨u5, h11, hm⟩ := obind hm
      refine X_draw mixed ty_ok Γok Γlive [(10, [64, 304]), (12, [48, 320])] (by kernel_rfl) [(4, .d (Enc.e e1)), (5, .d (Enc.e e1)), (10, .l (List.map Enc.e (v10 ++ ([((w64 (e1 + 1)).tmod stops)] : List Int))))] (.cons (idx_m (f := Enc.e) h9) (.cons (idx_m2 (f := Enc.e) h9) (.cons (chk_t h10) (.cons (app_p (f := Enc.e) (g := Enc.e) (l := v10) (r := ([((w64 (e1 + 1)).tmod stops)] : List Int)) (b := 8) (chk_t h11) rfl) (.cons (app_m Enc.e v10 ([((w64 (e1 + 1)).tmod stops)] : List Int)) .nil))))) (by kernel_rfl) ?_
      obtain rfl := some_inj hm
      exact thN (Wk_J hL ⟨[(0, []), (6, []), (7, [])], [(0, 0, []), (32, 32, []), (48, 48, []), (64, 320, [])], [], 96⟩ (by kernel_rfl))
    · have hm := ie hc2 hm
      refine X_skip ?_
      obtain rfl := some_inj hm
      exact thN (Wk_J hL ⟨[(0, []), (6, []), (7, [])], [(0, 0, []), (32, 32, []), (48, 48, []), (64, 64, [])], [], 96⟩ (by kernel_rfl))
  have hm := hk2
  refine Ok_seq ?_
  refine X_reg_seq ty_ok Γok hL [] .nil (by kernel_rfl) ?_
  obtain ⟨vv, hv3, hk3⟩ := obind hm
  refine X_tail (n := 72) (fun ((v17, v18, v19, v20) : (List UInt8) × Int × Int × (List Int)) => (⟨[(0, .ref 0 0), (6, .ref 32 0), (7, .ref 48 0)], [(0, some (.box [.dat (Enc.e v17), .dat (.sc (.int .i64 v18)), .dat (.sc (.int .u64 v19))])), (32, some (.box [.dat (.sc (.string ByteArray.empty)), .dat (.sc (.slice none 0 0)), .dat (.sc (.slice none 0 0))])), (48, some (.box [.dat (.sc (.string name)), .own 64, .own 80])), (64, some (.arr 3 1 (List.map Enc.e v11))), (80, some (.arr 3 1 (List.map Enc.e v20)))], 112⟩ : X)) vv ?_ ?_
  · have hm := hv3
    refine Ok_block ?_
    refine X_loop (n := 72) (step := s_l1Cur_line_L2 v11) (fun ((v12, v13, v14, v15, v16) : Int × (List UInt8) × Int × Int × (List Int)) => (⟨[(0, .ref 0 0), (6, .ref 32 0), (7, .ref 48 0), (10, .dat (.sc (.int .i64 v12)))], [(0, some (.box [.dat (Enc.e v13), .dat (.sc (.int .i64 v14)), .dat (.sc (.int .u64 v15))])), (32, some (.box [.dat (.sc (.string ByteArray.empty)), .dat (.sc (.slice none 0 0)), .dat (.sc (.slice none 0 0))])), (48, some (.box [.dat (.sc (.string name)), .own 64, .own 80])), (64, some (.arr 3 1 (List.map Enc.e v11))), (80, some (.arr 3 1 (List.map Enc.e v16)))], 112⟩ : X)) hm (Wk_J hL ⟨[(0, []), (6, []), (7, []), (10, [])], [(0, 0, []), (32, 32, []), (48, 48, [.k, .k, .o 80]), (64, 64, [])], [(80, 3, 1, [])], 112⟩ (by kernel_rfl)) ?_
    rintro ⟨v12, v13, v14, v15, v16⟩ r0 hm hb1
    rw [s_l1Cur_line_L2] at hm
    refine Ok_seq ?_
    refine X_reg_seq ty_ok Γok hL [(3, .n (v11.length : Int))] (.cons (len_m Enc.e v11) .nil) (by kernel_rfl) ?_
    refine X_cond (decide (v12 < (v11.length : Int))) (by kernel_rfl) (fun hc3 => ?_) (fun hc3 => ?_)
    · have hm := it hc3 hm
      refine X_skip ?_
      refine thN ?_
      refine Ok_seq ?_
      refine Ok_block ?_
      obtain ⟨r5, h14, hm⟩ := obind hm
      obtain ⟨u7, h15, hm⟩ := obind hm
      refine X_draw mixed ty_ok Γok Γlive [(3, [0]), (6, [80, 272]), (8, [48, 288])] (by kernel_rfl) [(3, .c (s_l1Cur_pick_r r5) (s_l1Cur_pick_n r5) (s_l1Cur_pick_o ((⟨v13, v14, (⟨v15⟩ : IK .u64)⟩ : l1Cur), 12) r5)), (6, .l (List.map Enc.e (v16 ++ ([(w64 (3 + r5.1))] : List Int))))] (.cons (s_l1Cur_pick_c h14) (.cons (app_p (f := Enc.e) (g := Enc.e) (l := v16) (r := ([(w64 (3 + r5.1))] : List Int)) (b := 8) (chk_t h15) rfl) (.cons (app_m Enc.e v16 ([(w64 (3 + r5.1))] : List Int)) .nil))) (by kernel_rfl) ?_
      refine ibN ?_
      refine thN ?_
      refine X_reg ty_ok Γok hL [] .nil (by kernel_rfl) ?_
      obtain rfl := some_inj hm
      exact thN ⟨_, rfl, Wk_J hL ⟨[(0, []), (6, []), (7, []), (10, [])], [(0, 0, []), (32, 32, []), (48, 48, []), (64, 64, []), (80, 288, [])], [], 112⟩ (by kernel_rfl)⟩
    · have hm := ie hc3 hm
      obtain rfl := some_inj hm
      obtain rfl := hb1 _ rfl
      refine Ok_exit ?_
      refine thE ?_
      refine thE ?_
      refine ibE ?_
      exact thN (Wk_J hL ⟨[(0, []), (6, []), (7, [])], [(0, 0, []), (32, 32, []), (48, 48, []), (64, 64, []), (80, 80, [])], [], 112⟩ (by kernel_rfl))
  obtain ⟨v17, v18, v19, v20⟩ := vv
  intro s1 hw1
  have hm := hk3
  refine thN ?_
  refine Ok_weak hw1 ?_
  refine X_reg_seq ty_ok Γok hL [] .nil (by kernel_rfl) ?_
  obtain rfl := some_inj hm
  refine Ok_ret ?_
  repeat (first | refine thR ?_ | refine ibR ?_)
  exact X_fin [64, 80] [] (by kernel_rfl) trivial
abbrev s_l1Cur_line_f_r (y : Line × l1Cur) : AV := .dat (Enc.e y.1)
abbrev s_l1Cur_line_f_n (y : Line × l1Cur) : List Obj' := []
abbrev s_l1Cur_line_f_o (x : l1Cur × ByteArray × Int) (y : Line × l1Cur) : List Obj' := [.box [.dat (Enc.e y.2.code_), .dat (.sc (.int .i64 y.2.at_)), .dat (.sc (.int .u64 y.2.seed_.v))]]
noncomputable def s_l1Cur_line_f_S : FnSpec := modS [.bx, .rd, .rd] (fun x : l1Cur × ByteArray × Int => [.sc undef, Enc.e x.2.1, Enc.e x.2.2]) (fun x : l1Cur × ByteArray × Int => [.box [.dat (Enc.e x.1.code_), .dat (.sc (.int .i64 x.1.at_)), .dat (.sc (.int .u64 x.1.seed_.v))]]) (fun x : l1Cur × ByteArray × Int => s_l1Cur_line_f x.1 x.2.1 x.2.2) s_l1Cur_line_f_r s_l1Cur_line_f_n s_l1Cur_line_f_o
theorem s_l1Cur_line_f_c {c : l1Cur} {name : ByteArray} {stops : Int} {y : Line × l1Cur} (h : s_l1Cur_line_f c name stops = some y) : CallOK s_l1Cur_line_f_S [.sc undef, Enc.e name, Enc.e stops] [.box [.dat (Enc.e c.code_), .dat (.sc (.int .i64 c.at_)), .dat (.sc (.int .u64 c.seed_.v))]] (s_l1Cur_line_f_r y) (s_l1Cur_line_f_n y) (s_l1Cur_line_f_o (c, name, stops) y) :=
  modS_call (by
    rintro ⟨a0, a1, a2⟩ ⟨b0, b1, b2⟩ h hO
    have q0 : a0 = b0 := Enc.inj _ _ (congrArg (fun l => D.agg (obD l 0)) hO)
    have q1 : a1 = b1 := Enc.inj _ _ (congrArg (fun l => List.getD l 1 (.sc undef)) h)
    have q2 : a2 = b2 := Enc.inj _ _ (congrArg (fun l => List.getD l 2 (.sc undef)) h)
    subst q0; subst q1; subst q2; rfl) (x := (c, name, stops)) h
theorem s_l1Cur_line_f_ok : FnOK Try.prog 237 s_l1Cur_line_f_S := by
  have Γok : ∀ f S, lookF f [(103, s_l1Cur_pick_S), (223, s_l2Place_S)] = some S → FnOK Try.prog f S := lookF_ok (allF_cons s_l1Cur_pick_ok (allF_cons s_l2Place_ok allF_nil))
  have Γlive : Live (fun f => lookF f [(103, s_l1Cur_pick_S), (223, s_l2Place_S)]) := lookF_live (allL_cons modS_live (allL_cons modS_live allL_nil))
  refine fnOK_mod ty_ok (fun args w => Try.call237 args w) Try.func237 rfl [.cell 6 198] (by rw [Try.results237]) 72 Try.ntmps237 16 rfl (fun _ => by first | exact Nat.zero_le _ | (simp)) ?_
  rintro ⟨c, name, stops⟩ y cx hm hL
  have hm : s_l1Cur_line_f c name stops = some y := hm
  have hL : cx.L = 1 := hL
  unfold s_l1Cur_line_f at hm
  refine X_reg_seq ty_ok Γok hL [] .nil (by kernel_rfl) ?_
  refine X_reg_seq ty_ok Γok hL [] .nil (by kernel_rfl) ?_
  obtain ⟨r, h, hm⟩ := obind hm
  refine X_reg_seq ty_ok Γok hL [(2, .c (s_l1Cur_pick_r r) (s_l1Cur_pick_n r) (s_l1Cur_pick_o (c, stops) r))] (.cons (s_l1Cur_pick_c h) .nil) (by kernel_rfl) ?_
  refine Ok_seq ?_
  obtain ⟨r1, h1, hm⟩ := obind hm
  refine X_reg_seq ty_ok Γok hL [(1, .c (s_l1Cur_pick_r r1) (s_l1Cur_pick_n r1) (s_l1Cur_pick_o (r.2, 3) r1))] (.cons (s_l1Cur_pick_c h1) .nil) (by kernel_rfl) ?_
  obtain ⟨vv1, hv1, hk1⟩ := obind hm
  refine X_tail (n := 72) (fun ((v7, v8, v9, v10) : (List UInt8) × Int × Int × (List Int)) => (⟨[(0, .ref 0 0), (2, .dat (.sc (.int .i64 stops))), (6, .ref 32 0), (7, .ref 48 0)], [(0, some (.box [.dat (Enc.e v7), .dat (.sc (.int .i64 v8)), .dat (.sc (.int .u64 v9))])), (32, some (.box [.dat (.sc (.string ByteArray.empty)), .dat (.sc (.slice none 0 0)), .dat (.sc (.slice none 0 0))])), (48, some (.box [.dat (.sc (.string name)), .own 64, .dat (.sc (.slice none 0 0))])), (64, some (.arr 3 1 (List.map Enc.e v10)))], 96⟩ : X)) vv1 ?_ ?_
  · have hm := hv1
    refine Ok_block ?_
    refine X_loop (n := 72) (step := s_l1Cur_line_f_L1 name stops) (fun ((v, v1, v2, v3, v4, v5) : Int × Int × (List UInt8) × Int × Int × (List Int)) => (⟨[(0, .ref 0 0), (2, .dat (.sc (.int .i64 stops))), (6, .ref 32 0), (7, .ref 48 0), (8, .dat (.sc (.int .i64 v))), (9, .dat (.sc (.int .i64 v1)))], [(0, some (.box [.dat (Enc.e v2), .dat (.sc (.int .i64 v3)), .dat (.sc (.int .u64 v4))])), (32, some (.box [.dat (.sc (.string ByteArray.empty)), .dat (.sc (.slice none 0 0)), .dat (.sc (.slice none 0 0))])), (48, some (.box [.dat (.sc (.string name)), .own 64, .dat (.sc (.slice none 0 0))])), (64, some (.arr 3 1 (List.map Enc.e v5)))], 96⟩ : X)) hm (Wk_J hL ⟨[(0, []), (2, []), (6, []), (7, []), (8, []), (9, [])], [(0, 0, []), (32, 16, []), (48, 64, [.k, .o 64])], [(64, 3, 1, [])], 96⟩ (by kernel_rfl)) ?_
    rintro ⟨v, v1, v2, v3, v4, v5⟩ r0 hm hb
    rw [s_l1Cur_line_f_L1] at hm
    refine Ok_seq ?_
    refine X_reg_seq ty_ok Γok hL [] .nil (by kernel_rfl) ?_
    refine X_cond (decide (0 < v1)) (by kernel_rfl) (fun hc => ?_) (fun hc => ?_)
    · have hm := it hc hm
      refine X_skip ?_
      refine thN ?_
      refine Ok_seq ?_
      refine Ok_block ?_
      obtain ⟨v6, hv, hk⟩ := obind hm
      refine X_join (n := 72) (fun (v6 : List Int) => (⟨[(0, .ref 0 0), (2, .dat (.sc (.int .i64 stops))), (6, .ref 32 0), (7, .ref 48 0), (8, .dat (.sc (.int .i64 v))), (9, .dat (.sc (.int .i64 v1)))], [(0, some (.box [.dat (Enc.e v2), .dat (.sc (.int .i64 v3)), .dat (.sc (.int .u64 v4))])), (32, some (.box [.dat (.sc (.string ByteArray.empty)), .dat (.sc (.slice none 0 0)), .dat (.sc (.slice none 0 0))])), (48, some (.box [.dat (.sc (.string name)), .own 64, .dat (.sc (.slice none 0 0))])), (64, some (.arr 3 1 (List.map Enc.e v6)))], 96⟩ : X)) v6 ?_ ?_
      · have hm := hv
        obtain ⟨r2, h2, hm⟩ := obind hm
        refine X_reg_seq ty_ok Γok hL [(2, .c (s_l2Place_r r2) (s_l2Place_n r2) (s_l2Place_o ((⟨name, v5, ([] : List Int)⟩ : Line), v) r2))] (.cons (s_l2Place_c h2) .nil) (by kernel_rfl) ?_
        refine X_cond (decide (r2 < 0)) (by kernel_rfl) (fun hc1 => ?_) (fun hc1 => ?_)
        · have hm := it hc1 hm
          obtain ⟨u, h3, hm⟩ := obind hm
          refine X_reg ty_ok Γok hL [(4, .l (List.map Enc.e (v5 ++ ([v] : List Int))))] (.cons (app_p (f := Enc.e) (g := Enc.e) (l := v5) (r := ([v] : List Int)) (b := 8) (chk_t h3) rfl) (.cons (app_m Enc.e v5 ([v] : List Int)) .nil)) (by kernel_rfl) ?_
          obtain rfl := some_inj hm
          exact thN (Wk_J hL ⟨[(0, []), (2, []), (6, []), (7, []), (8, []), (9, [])], [(0, 0, []), (32, 32, []), (48, 48, []), (64, 256, [])], [], 96⟩ (by kernel_rfl))
        · have hm := ie hc1 hm
          refine X_skip ?_
          obtain rfl := some_inj hm
          exact thN (Wk_J hL ⟨[(0, []), (2, []), (6, []), (7, []), (8, []), (9, [])], [(0, 0, []), (32, 32, []), (48, 48, []), (64, 64, [])], [], 96⟩ (by kernel_rfl))
      have hm := hk
      obtain ⟨r3, h4, hm⟩ := obind hm
      obtain ⟨u1, h5, hm⟩ := obind hm
      refine X_reg ty_ok Γok hL [(3, .c (s_l1Cur_pick_r r3) (s_l1Cur_pick_n r3) (s_l1Cur_pick_o ((⟨v2, v3, (⟨v4⟩ : IK .u64)⟩ : l1Cur), 2) r3))] (.cons (s_l1Cur_pick_c h4) (.cons (chk_t h5) .nil)) (by kernel_rfl) ?_
      refine ibN ?_
      refine thN ?_
      refine X_reg ty_ok Γok hL [] .nil (by kernel_rfl) ?_
      obtain rfl := some_inj hm
      exact thN ⟨_, rfl, Wk_J hL ⟨[(0, []), (2, []), (6, []), (7, []), (8, []), (9, [])], [(0, 0, []), (32, 32, []), (48, 48, []), (64, 64, [])], [], 96⟩ (by kernel_rfl)⟩
    · have hm := ie hc hm
      obtain rfl := some_inj hm
      obtain rfl := hb _ rfl
      refine Ok_exit ?_
      refine thE ?_
      refine thE ?_
      refine ibE ?_
      exact thN (Wk_J hL ⟨[(0, []), (2, []), (6, []), (7, [])], [(0, 0, []), (32, 32, []), (48, 48, []), (64, 64, [])], [], 96⟩ (by kernel_rfl))
  obtain ⟨v7, v8, v9, v10⟩ := vv1
  intro s hw
  have hm := hk1
  refine thN ?_
  refine Ok_weak hw ?_
  obtain ⟨v11, hv2, hk2⟩ := obind hm
  refine X_join (n := 72) (fun (v11 : List Int) => (⟨[(0, .ref 0 0), (6, .ref 32 0), (7, .ref 48 0)], [(0, some (.box [.dat (Enc.e v7), .dat (.sc (.int .i64 v8)), .dat (.sc (.int .u64 v9))])), (32, some (.box [.dat (.sc (.string ByteArray.empty)), .dat (.sc (.slice none 0 0)), .dat (.sc (.slice none 0 0))])), (48, some (.box [.dat (.sc (.string name)), .own 64, .dat (.sc (.slice none 0 0))])), (64, some (.arr 3 1 (List.map Enc.e v11)))], 96⟩ : X)) v11 ?_ ?_
  · have hm := hv2
    refine X_reg_seq ty_ok Γok hL [(2, .n (v10.length : Int))] (.cons (len_m Enc.e v10) .nil) (by kernel_rfl) ?_
    refine X_cond (decide ((v10.length : Int) < 2)) (by kernel_rfl) (fun hc2 => ?_) (fun hc2 => ?_)
    · have hm := it hc2 hm
      obtain ⟨e1, h9, hm⟩ := obind hm
      obtain ⟨u4, h10, hm⟩ := obind hm
      obtain ⟨u5, h11, hm⟩ := obind hm
      refine X_draw mixed ty_ok Γok Γlive [(10, [64, 304]), (12, [48, 320])] (by kernel_rfl) [(4, .d (Enc.e e1)), (5, .d (Enc.e e1)), (10, .l (List.map Enc.e (v10 ++ ([((w64 (e1 + 1)).tmod stops)] : List Int))))] (.cons (idx_m (f := Enc.e) h9) (.cons (idx_m2 (f := Enc.e) h9) (.cons (chk_t h10) (.cons (app_p (f := Enc.e) (g := Enc.e) (l := v10) (r := ([((w64 (e1 + 1)).tmod stops)] : List Int)) (b := 8) (chk_t h11) rfl) (.cons (app_m Enc.e v10 ([((w64 (e1 + 1)).tmod stops)] : List Int)) .nil))))) (by kernel_rfl) ?_
      obtain rfl := some_inj hm
      exact thN (Wk_J hL ⟨[(0, []), (6, []), (7, [])], [(0, 0, []), (32, 32, []), (48, 48, []), (64, 320, [])], [], 96⟩ (by kernel_rfl))
    · have hm := ie hc2 hm
      refine X_skip ?_
      obtain rfl := some_inj hm
      exact thN (Wk_J hL ⟨[(0, []), (6, []), (7, [])], [(0, 0, []), (32, 32, []), (48, 48, []), (64, 64, [])], [], 96⟩ (by kernel_rfl))
  have hm := hk2
  refine Ok_seq ?_
  refine X_reg_seq ty_ok Γok hL [] .nil (by kernel_rfl) ?_
  obtain ⟨vv, hv3, hk3⟩ := obind hm
  refine X_tail (n := 72) (fun ((v17, v18, v19, v20) : (List UInt8) × Int × Int × (List Int)) => (⟨[(0, .ref 0 0), (6, .ref 32 0), (7, .ref 48 0)], [(0, some (.box [.dat (Enc.e v17), .dat (.sc (.int .i64 v18)), .dat (.sc (.int .u64 v19))])), (32, some (.box [.dat (.sc (.string ByteArray.empty)), .dat (.sc (.slice none 0 0)), .dat (.sc (.slice none 0 0))])), (48, some (.box [.dat (.sc (.string name)), .own 64, .own 80])), (64, some (.arr 3 1 (List.map Enc.e v11))), (80, some (.arr 3 1 (List.map Enc.e v20)))], 112⟩ : X)) vv ?_ ?_
  · have hm := hv3
    refine Ok_block ?_
    refine X_loop (n := 72) (step := s_l1Cur_line_f_L2 v11) (fun ((v12, v13, v14, v15, v16) : Int × (List UInt8) × Int × Int × (List Int)) => (⟨[(0, .ref 0 0), (6, .ref 32 0), (7, .ref 48 0), (10, .dat (.sc (.int .i64 v12)))], [(0, some (.box [.dat (Enc.e v13), .dat (.sc (.int .i64 v14)), .dat (.sc (.int .u64 v15))])), (32, some (.box [.dat (.sc (.string ByteArray.empty)), .dat (.sc (.slice none 0 0)), .dat (.sc (.slice none 0 0))])), (48, some (.box [.dat (.sc (.string name)), .own 64, .own 80])), (64, some (.arr 3 1 (List.map Enc.e v11))), (80, some (.arr 3 1 (List.map Enc.e v16)))], 112⟩ : X)) hm (Wk_J hL ⟨[(0, []), (6, []), (7, []), (10, [])], [(0, 0, []), (32, 32, []), (48, 48, [.k, .k, .o 80]), (64, 64, [])], [(80, 3, 1, [])], 112⟩ (by kernel_rfl)) ?_
    rintro ⟨v12, v13, v14, v15, v16⟩ r0 hm hb1
    rw [s_l1Cur_line_f_L2] at hm
    refine Ok_seq ?_
    refine X_reg_seq ty_ok Γok hL [(3, .n (v11.length : Int))] (.cons (len_m Enc.e v11) .nil) (by kernel_rfl) ?_
    refine X_cond (decide (v12 < (v11.length : Int))) (by kernel_rfl) (fun hc3 => ?_) (fun hc3 => ?_)
    · have hm := it hc3 hm
      refine X_skip ?_
      refine thN ?_
      refine Ok_seq ?_
      refine Ok_block ?_
      obtain ⟨r5, h14, hm⟩ := obind hm
      obtain ⟨u7, h15, hm⟩ := obind hm
      refine X_draw mixed ty_ok Γok Γlive [(3, [0]), (6, [80, 272]), (8, [48, 288])] (by kernel_rfl) [(3, .c (s_l1Cur_pick_r r5) (s_l1Cur_pick_n r5) (s_l1Cur_pick_o ((⟨v13, v14, (⟨v15⟩ : IK .u64)⟩ : l1Cur), 12) r5)), (6, .l (List.map Enc.e (v16 ++ ([(w64 (3 + r5.1))] : List Int))))] (.cons (s_l1Cur_pick_c h14) (.cons (app_p (f := Enc.e) (g := Enc.e) (l := v16) (r := ([(w64 (3 + r5.1))] : List Int)) (b := 8) (chk_t h15) rfl) (.cons (app_m Enc.e v16 ([(w64 (3 + r5.1))] : List Int)) .nil))) (by kernel_rfl) ?_
      refine ibN ?_
      refine thN ?_
      refine X_reg ty_ok Γok hL [] .nil (by kernel_rfl) ?_
      obtain rfl := some_inj hm
      exact thN ⟨_, rfl, Wk_J hL ⟨[(0, []), (6, []), (7, []), (10, [])], [(0, 0, []), (32, 32, []), (48, 48, []), (64, 64, []), (80, 288, [])], [], 112⟩ (by kernel_rfl)⟩
    · have hm := ie hc3 hm
      obtain rfl := some_inj hm
      obtain rfl := hb1 _ rfl
      refine Ok_exit ?_
      refine thE ?_
      refine thE ?_
      refine ibE ?_
      exact thN (Wk_J hL ⟨[(0, []), (6, []), (7, [])], [(0, 0, []), (32, 32, []), (48, 48, []), (64, 64, []), (80, 80, [])], [], 112⟩ (by kernel_rfl))
  obtain ⟨v17, v18, v19, v20⟩ := vv
  intro s1 hw1
  have hm := hk3
  refine thN ?_
  refine Ok_weak hw1 ?_
  refine X_reg_seq ty_ok Γok hL [] .nil (by kernel_rfl) ?_
  obtain rfl := some_inj hm
  refine Ok_ret ?_
  repeat (first | refine thR ?_ | refine ibR ?_)
  exact X_fin [] [] (by kernel_rfl) trivial
abbrev s_l2Back_r (y : (List Int)) : AV := .own 0
abbrev s_l2Back_n (y : (List Int)) : List Obj' := [.arr 3 1 (List.map Enc.e y)]
abbrev s_l2Back_o (x : (List Int)) (y : (List Int)) : List Obj' := []
noncomputable def s_l2Back_S : FnSpec := modS [.rd] (fun x : (List Int) => [Enc.e x]) (fun x : (List Int) => []) (fun x : (List Int) => s_l2Back x) s_l2Back_r s_l2Back_n s_l2Back_o
theorem s_l2Back_c {list : List Int} {y : (List Int)} (h : s_l2Back list = some y) : CallOK s_l2Back_S [Enc.e list] [] (s_l2Back_r y) (s_l2Back_n y) (s_l2Back_o list y) :=
  modS_call (by
    rintro a0 b0 h hO
    have q0 : a0 = b0 := Enc.inj _ _ (congrArg (fun l => List.getD l 0 (.sc undef)) h)
    subst q0; rfl) (x := list) h
theorem s_l2Back_ok : FnOK Try.prog 268 s_l2Back_S := by
  have Γok : ∀ f S, lookF f [] = some S → FnOK Try.prog f S := lookF_ok allF_nil
  have Γlive : Live (fun f => lookF f []) := lookF_live allL_nil
  refine fnOK_mod ty_ok (fun args w => Try.call268 args w) Try.func268 rfl [.tmp 2] (by rw [Try.results268]) 21 Try.ntmps268 16 rfl (fun _ => by first | exact Nat.zero_le _ | (simp)) ?_
  rintro list y cx hm hL
  have hm : s_l2Back list = some y := hm
  have hL : cx.L = 0 := hL
  unfold s_l2Back at hm
  refine X_reg_seq ty_ok Γok hL [] .nil (by kernel_rfl) ?_
  refine X_reg_seq ty_ok Γok hL [] .nil (by kernel_rfl) ?_
  refine Ok_seq ?_
  refine X_reg_seq ty_ok Γok hL [(1, .n (list.length : Int))] (.cons (len_m Enc.e list) .nil) (by kernel_rfl) ?_
  obtain ⟨i1, hv, hk⟩ := obind hm
  refine X_tail (n := 21) (fun (i1 : List Int) => (⟨[(3, .own 16)], [(16, some (.arr 3 1 (List.map Enc.e i1)))], 48⟩ : X)) i1 ?_ ?_
  · have hm := hv
    refine Ok_block ?_
    refine X_loop (n := 21) (step := s_l2Back_L1 list) (fun ((v, i) : Int × (List Int)) => (⟨[(0, .dat (Enc.e list)), (3, .own 16), (4, .dat (.sc (.int .i64 v)))], [(16, some (.arr 3 1 (List.map Enc.e i)))], 48⟩ : X)) hm (Wk_J hL ⟨[(0, []), (3, []), (4, [])], [(16, 32, [])], [], 48⟩ (by kernel_rfl)) ?_
    rintro ⟨v, i⟩ r0 hm hb
    rw [s_l2Back_L1] at hm
    refine Ok_seq ?_
    refine X_reg_seq ty_ok Γok hL [] .nil (by kernel_rfl) ?_
    refine X_cond (decide (0 ≤ v)) (by kernel_rfl) (fun hc => ?_) (fun hc => ?_)
    · have hm := it hc hm
      refine X_skip ?_
      refine thN ?_
      refine Ok_seq ?_
      refine Ok_block ?_
      obtain ⟨e, h, hm⟩ := obind hm
      obtain ⟨u, h1, hm⟩ := obind hm
      refine X_reg ty_ok Γok hL [(3, .d (Enc.e e)), (6, .l (List.map Enc.e (i ++ ([e] : List Int))))] (.cons (idx_m (f := Enc.e) h) (.cons (app_p (f := Enc.e) (g := Enc.e) (l := i) (r := ([e] : List Int)) (b := 8) (chk_t h1) rfl) (.cons (app_m Enc.e i ([e] : List Int)) .nil))) (by kernel_rfl) ?_
      refine ibN ?_
      refine thN ?_
      refine X_reg ty_ok Γok hL [] .nil (by kernel_rfl) ?_
      obtain rfl := some_inj hm
      exact thN ⟨_, rfl, Wk_J hL ⟨[(0, []), (3, []), (4, [])], [(16, 176, [])], [], 48⟩ (by kernel_rfl)⟩
    · have hm := ie hc hm
      obtain rfl := some_inj hm
      obtain rfl := hb _ rfl
      refine Ok_exit ?_
      refine thE ?_
      refine thE ?_
      refine ibE ?_
      exact thN (Wk_J hL ⟨[(3, [])], [(16, 16, [])], [], 48⟩ (by kernel_rfl))
  intro s hw
  have hm := hk
  refine thN ?_
  refine Ok_weak hw ?_
  refine X_reg_seq ty_ok Γok hL [] .nil (by kernel_rfl) ?_
  obtain rfl := some_inj hm
  refine Ok_ret ?_
  repeat (first | refine thR ?_ | refine ibR ?_)
  exact X_fin [16] [] (by kernel_rfl) trivial
abbrev s_l2Back_f_r (y : (List Int)) : AV := .dat (Enc.e y)
abbrev s_l2Back_f_n (y : (List Int)) : List Obj' := []
abbrev s_l2Back_f_o (x : (List Int)) (y : (List Int)) : List Obj' := []
noncomputable def s_l2Back_f_S : FnSpec := modS [.rd] (fun x : (List Int) => [Enc.e x]) (fun x : (List Int) => []) (fun x : (List Int) => s_l2Back_f x) s_l2Back_f_r s_l2Back_f_n s_l2Back_f_o
theorem s_l2Back_f_c {list : List Int} {y : (List Int)} (h : s_l2Back_f list = some y) : CallOK s_l2Back_f_S [Enc.e list] [] (s_l2Back_f_r y) (s_l2Back_f_n y) (s_l2Back_f_o list y) :=
  modS_call (by
    rintro a0 b0 h hO
    have q0 : a0 = b0 := Enc.inj _ _ (congrArg (fun l => List.getD l 0 (.sc undef)) h)
    subst q0; rfl) (x := list) h
theorem s_l2Back_f_ok : FnOK Try.prog 268 s_l2Back_f_S := by
  have Γok : ∀ f S, lookF f [] = some S → FnOK Try.prog f S := lookF_ok allF_nil
  have Γlive : Live (fun f => lookF f []) := lookF_live allL_nil
  refine fnOK_mod ty_ok (fun args w => Try.call268 args w) Try.func268 rfl [.tmp 2] (by rw [Try.results268]) 21 Try.ntmps268 16 rfl (fun _ => by first | exact Nat.zero_le _ | (simp)) ?_
  rintro list y cx hm hL
  have hm : s_l2Back_f list = some y := hm
  have hL : cx.L = 0 := hL
  unfold s_l2Back_f at hm
  refine X_reg_seq ty_ok Γok hL [] .nil (by kernel_rfl) ?_
  refine X_reg_seq ty_ok Γok hL [] .nil (by kernel_rfl) ?_
  refine Ok_seq ?_
  refine X_reg_seq ty_ok Γok hL [(1, .n (list.length : Int))] (.cons (len_m Enc.e list) .nil) (by kernel_rfl) ?_
  obtain ⟨i1, hv, hk⟩ := obind hm
  refine X_tail (n := 21) (fun (i1 : List Int) => (⟨[(3, .own 16)], [(16, some (.arr 3 1 (List.map Enc.e i1)))], 48⟩ : X)) i1 ?_ ?_
  · have hm := hv
    refine Ok_block ?_
    refine X_loop (n := 21) (step := s_l2Back_f_L1 list) (fun ((v, i) : Int × (List Int)) => (⟨[(0, .dat (Enc.e list)), (3, .own 16), (4, .dat (.sc (.int .i64 v)))], [(16, some (.arr 3 1 (List.map Enc.e i)))], 48⟩ : X)) hm (Wk_J hL ⟨[(0, []), (3, []), (4, [])], [(16, 32, [])], [], 48⟩ (by kernel_rfl)) ?_
    rintro ⟨v, i⟩ r0 hm hb
    rw [s_l2Back_f_L1] at hm
    refine Ok_seq ?_
    refine X_reg_seq ty_ok Γok hL [] .nil (by kernel_rfl) ?_
    refine X_cond (decide (0 ≤ v)) (by kernel_rfl) (fun hc => ?_) (fun hc => ?_)
    · have hm := it hc hm
      refine X_skip ?_
      refine thN ?_
      refine Ok_seq ?_
      refine Ok_block ?_
      obtain ⟨e, h, hm⟩ := obind hm
      obtain ⟨u, h1, hm⟩ := obind hm
      refine X_reg ty_ok Γok hL [(3, .d (Enc.e e)), (6, .l (List.map Enc.e (i ++ ([e] : List Int))))] (.cons (idx_m (f := Enc.e) h) (.cons (app_p (f := Enc.e) (g := Enc.e) (l := i) (r := ([e] : List Int)) (b := 8) (chk_t h1) rfl) (.cons (app_m Enc.e i ([e] : List Int)) .nil))) (by kernel_rfl) ?_
      refine ibN ?_
      refine thN ?_
      refine X_reg ty_ok Γok hL [] .nil (by kernel_rfl) ?_
      obtain rfl := some_inj hm
      exact thN ⟨_, rfl, Wk_J hL ⟨[(0, []), (3, []), (4, [])], [(16, 176, [])], [], 48⟩ (by kernel_rfl)⟩
    · have hm := ie hc hm
      obtain rfl := some_inj hm
      obtain rfl := hb _ rfl
      refine Ok_exit ?_
      refine thE ?_
      refine thE ?_
      refine ibE ?_
      exact thN (Wk_J hL ⟨[(3, [])], [(16, 16, [])], [], 48⟩ (by kernel_rfl))
  intro s hw
  have hm := hk
  refine thN ?_
  refine Ok_weak hw ?_
  refine X_reg_seq ty_ok Γok hL [] .nil (by kernel_rfl) ?_
  obtain rfl := some_inj hm
  refine Ok_ret ?_
  repeat (first | refine thR ?_ | refine ibR ?_)
  exact X_fin [] [] (by kernel_rfl) trivial
abbrev s_l1Own_r (y : (List Int)) : AV := .own 0
abbrev s_l1Own_n (y : (List Int)) : List Obj' := [.arr 3 1 (List.map Enc.e y)]
abbrev s_l1Own_o (x : (List Int)) (y : (List Int)) : List Obj' := []
noncomputable def s_l1Own_S : FnSpec := modS [.rd] (fun x : (List Int) => [Enc.e x]) (fun x : (List Int) => []) (fun x : (List Int) => s_l1Own x) s_l1Own_r s_l1Own_n s_l1Own_o
theorem s_l1Own_c {l : List Int} {y : (List Int)} (h : s_l1Own l = some y) : CallOK s_l1Own_S [Enc.e l] [] (s_l1Own_r y) (s_l1Own_n y) (s_l1Own_o l y) :=
  modS_call (by
    rintro a0 b0 h hO
    have q0 : a0 = b0 := Enc.inj _ _ (congrArg (fun l => List.getD l 0 (.sc undef)) h)
    subst q0; rfl) (x := l) h
theorem s_l1Own_ok : FnOK Try.prog 190 s_l1Own_S := by
  have Γok : ∀ f S, lookF f [] = some S → FnOK Try.prog f S := lookF_ok allF_nil
  have Γlive : Live (fun f => lookF f []) := lookF_live allL_nil
  refine fnOK_mod ty_ok (fun args w => Try.call190 args w) Try.func190 rfl [.tmp 2] (by rw [Try.results190]) 6 Try.ntmps190 16 rfl (fun _ => by first | exact Nat.zero_le _ | (simp)) ?_
  rintro l y cx hm hL
  have hm : s_l1Own l = some y := hm
  have hL : cx.L = 0 := hL
  unfold s_l1Own at hm
  refine X_reg_seq ty_ok Γok hL [] .nil (by kernel_rfl) ?_
  obtain ⟨u, h, hm⟩ := obind hm
  refine X_reg_seq ty_ok Γok hL [(2, .l (List.map Enc.e (([] : List Int) ++ l)))] (.cons (app_p (f := Enc.e) (g := Enc.e) (l := ([] : List Int)) (r := l) (b := 8) (chk_t h) rfl) (.cons (app_m Enc.e ([] : List Int) l) .nil)) (by kernel_rfl) ?_
  obtain rfl := some_inj hm
  refine Ok_ret ?_
  repeat (first | refine thR ?_ | refine ibR ?_)
  exact X_fin [64] [] (by kernel_rfl) trivial
abbrev s_l1Own_f_r (y : (List Int)) : AV := .dat (Enc.e y)
abbrev s_l1Own_f_n (y : (List Int)) : List Obj' := []
abbrev s_l1Own_f_o (x : (List Int)) (y : (List Int)) : List Obj' := []
noncomputable def s_l1Own_f_S : FnSpec := modS [.rd] (fun x : (List Int) => [Enc.e x]) (fun x : (List Int) => []) (fun x : (List Int) => s_l1Own_f x) s_l1Own_f_r s_l1Own_f_n s_l1Own_f_o
theorem s_l1Own_f_c {l : List Int} {y : (List Int)} (h : s_l1Own_f l = some y) : CallOK s_l1Own_f_S [Enc.e l] [] (s_l1Own_f_r y) (s_l1Own_f_n y) (s_l1Own_f_o l y) :=
  modS_call (by
    rintro a0 b0 h hO
    have q0 : a0 = b0 := Enc.inj _ _ (congrArg (fun l => List.getD l 0 (.sc undef)) h)
    subst q0; rfl) (x := l) h
theorem s_l1Own_f_ok : FnOK Try.prog 190 s_l1Own_f_S := by
  have Γok : ∀ f S, lookF f [] = some S → FnOK Try.prog f S := lookF_ok allF_nil
  have Γlive : Live (fun f => lookF f []) := lookF_live allL_nil
  refine fnOK_mod ty_ok (fun args w => Try.call190 args w) Try.func190 rfl [.tmp 2] (by rw [Try.results190]) 6 Try.ntmps190 16 rfl (fun _ => by first | exact Nat.zero_le _ | (simp)) ?_
  rintro l y cx hm hL
  have hm : s_l1Own_f l = some y := hm
  have hL : cx.L = 0 := hL
  unfold s_l1Own_f at hm
  refine X_reg_seq ty_ok Γok hL [] .nil (by kernel_rfl) ?_
  obtain ⟨u, h, hm⟩ := obind hm
  refine X_reg_seq ty_ok Γok hL [(2, .l (List.map Enc.e (([] : List Int) ++ l)))] (.cons (app_p (f := Enc.e) (g := Enc.e) (l := ([] : List Int)) (r := l) (b := 8) (chk_t h) rfl) (.cons (app_m Enc.e ([] : List Int) l) .nil)) (by kernel_rfl) ?_
  obtain rfl := some_inj hm
  refine Ok_ret ?_
  repeat (first | refine thR ?_ | refine ibR ?_)
  exact X_fin [] [] (by kernel_rfl) trivial
abbrev s_l2Own_r (y : Network) : AV := .aggv [.own 0, .own 1]
abbrev s_l2Own_n (y : Network) : List Obj' := [.arr 9 1 (List.map Enc.e y.Stops), .arr 198 3 (List.map Enc.e y.Lines)]
abbrev s_l2Own_o (x : Network) (y : Network) : List Obj' := []
noncomputable def s_l2Own_S : FnSpec := modS [.rd] (fun x : Network => [Enc.e x]) (fun x : Network => []) (fun x : Network => s_l2Own x) s_l2Own_r s_l2Own_n s_l2Own_o
theorem s_l2Own_c {n : Network} {y : Network} (h : s_l2Own n = some y) : CallOK s_l2Own_S [Enc.e n] [] (s_l2Own_r y) (s_l2Own_n y) (s_l2Own_o n y) :=
  modS_call (by
    rintro a0 b0 h hO
    have q0 : a0 = b0 := Enc.inj _ _ (congrArg (fun l => List.getD l 0 (.sc undef)) h)
    subst q0; rfl) (x := n) h
theorem s_l2Own_ok : FnOK Try.prog 269 s_l2Own_S := by
  have Γok : ∀ f S, lookF f [(190, s_l1Own_f_S)] = some S → FnOK Try.prog f S := lookF_ok (allF_cons s_l1Own_f_ok allF_nil)
  have Γlive : Live (fun f => lookF f [(190, s_l1Own_f_S)]) := lookF_live (allL_cons modS_live allL_nil)
  refine fnOK_mod ty_ok (fun args w => Try.call269 args w) Try.func269 rfl [.cell 2 63] (by rw [Try.results269]) 44 Try.ntmps269 16 rfl (fun _ => by first | exact Nat.zero_le _ | (simp)) ?_
  rintro n y cx hm hL
  have hm : s_l2Own n = some y := hm
  have hL : cx.L = 0 := hL
  unfold s_l2Own at hm
  refine X_reg_seq ty_ok Γok hL [] .nil (by kernel_rfl) ?_
  obtain ⟨u, h, hm⟩ := obind hm
  refine X_reg_seq ty_ok Γok hL [(3, .l (List.map Enc.e (([] : List ByteArray) ++ n.Stops)))] (.cons (app_p (f := Enc.e) (g := Enc.e) (l := ([] : List ByteArray)) (r := n.Stops) (b := 16) (chk_t h) rfl) (.cons (app_m Enc.e ([] : List ByteArray) n.Stops) .nil)) (by kernel_rfl) ?_
  refine Ok_seq ?_
  refine X_reg_seq ty_ok Γok hL [] .nil (by kernel_rfl) ?_
  obtain ⟨v2, hv, hk⟩ := obind hm
  refine X_tail (n := 44) (fun (v2 : List Line) => (⟨[(2, .ref 16 0), (3, .ref 32 0)], [(16, some (.box [.dat (.sc (.slice none 0 0)), .dat (.sc (.slice none 0 0))])), (32, some (.box [.own 48, .own 64])), (48, some (.arr 9 1 (List.map Enc.e (([] : List ByteArray) ++ n.Stops)))), (64, some (.arr 198 3 (List.map Enc.e v2)))], 96⟩ : X)) v2 ?_ ?_
  · have hm := hv
    refine Ok_block ?_
    refine X_loop (n := 44) (step := s_l2Own_L1 n) (fun ((v, v1) : Int × (List Line)) => (⟨[(1, .ref 16 0), (2, .ref 32 0), (3, .ref 48 0), (4, .dat (.sc (.int .i64 v)))], [(16, some (.box [.dat (Enc.e n.Stops), .dat (Enc.e n.Lines)])), (32, some (.box [.dat (.sc (.slice none 0 0)), .dat (.sc (.slice none 0 0))])), (48, some (.box [.own 64, .own 80])), (64, some (.arr 9 1 (List.map Enc.e (([] : List ByteArray) ++ n.Stops)))), (80, some (.arr 198 3 (List.map Enc.e v1)))], 112⟩ : X)) hm (Wk_J hL ⟨[(1, []), (2, []), (3, []), (4, [])], [(16, 16, []), (32, 32, []), (48, 128, [.k, .o 80]), (64, 96, [])], [(80, 198, 3, [])], 112⟩ (by kernel_rfl)) ?_
    rintro ⟨v, v1⟩ r0 hm hb
    rw [s_l2Own_L1] at hm
    refine Ok_seq ?_
    refine X_reg_seq ty_ok Γok hL [(3, .n (n.Lines.length : Int))] (.cons (len_m Enc.e n.Lines) .nil) (by kernel_rfl) ?_
    refine X_cond (decide (v < (n.Lines.length : Int))) (by kernel_rfl) (fun hc => ?_) (fun hc => ?_)
    · have hm := it hc hm
      refine X_skip ?_
      refine thN ?_
      refine Ok_seq ?_
      refine Ok_block ?_
      obtain ⟨e3, h7, hm⟩ := obind hm
      obtain ⟨e4, h8, hm⟩ := obind hm
      obtain ⟨r2, h9, hm⟩ := obind hm
      obtain ⟨e5, h10, hm⟩ := obind hm
      obtain ⟨r3, h11, hm⟩ := obind hm
      obtain ⟨u2, h12, hm⟩ := obind hm
      refine X_draw mixed ty_ok Γok Γlive [(23, []), (24, [80, 560]), (26, [48, 576])] (by kernel_rfl) [(5, .d (Enc.e e3)), (11, .d (Enc.e e4)), (14, .c (s_l1Own_f_r r2) (s_l1Own_f_n r2) (s_l1Own_f_o e4.Stops r2)), (18, .d (Enc.e e5)), (21, .c (s_l1Own_f_r r3) (s_l1Own_f_n r3) (s_l1Own_f_o e5.Runs r3)), (24, .l (List.map Enc.e (v1 ++ ([(⟨e3.Name, r2, r3⟩ : Line)] : List Line))))] (.cons (idx_m (f := Enc.e) h7) (.cons (idx_m (f := Enc.e) h8) (.cons (s_l1Own_f_c h9) (.cons (idx_m (f := Enc.e) h10) (.cons (s_l1Own_f_c h11) (.cons (app_p (f := Enc.e) (g := Enc.e) (l := v1) (r := ([(⟨e3.Name, r2, r3⟩ : Line)] : List Line)) (b := 64) (chk_t h12) rfl) (.cons (app_m Enc.e v1 ([(⟨e3.Name, r2, r3⟩ : Line)] : List Line)) .nil))))))) (by kernel_rfl) ?_
      refine ibN ?_
      refine thN ?_
      refine X_reg ty_ok Γok hL [] .nil (by kernel_rfl) ?_
      obtain rfl := some_inj hm
      exact thN ⟨_, rfl, Wk_J hL ⟨[(1, []), (2, []), (3, []), (4, [])], [(16, 16, []), (32, 32, []), (48, 48, []), (64, 64, []), (80, 576, [])], [], 112⟩ (by kernel_rfl)⟩
    · have hm := ie hc hm
      obtain rfl := some_inj hm
      obtain rfl := hb _ rfl
      refine Ok_exit ?_
      refine thE ?_
      refine thE ?_
      refine ibE ?_
      exact thN (Wk_J hL ⟨[(2, []), (3, [])], [(16, 32, []), (32, 48, []), (48, 64, []), (64, 80, [])], [], 96⟩ (by kernel_rfl))
  intro s hw
  have hm := hk
  refine thN ?_
  refine Ok_weak hw ?_
  refine X_reg_seq ty_ok Γok hL [] .nil (by kernel_rfl) ?_
  obtain rfl := some_inj hm
  refine Ok_ret ?_
  repeat (first | refine thR ?_ | refine ibR ?_)
  exact X_fin [48, 64] [] (by kernel_rfl) trivial
abbrev s_l1Cur_network_r (y : Network × l1Cur) : AV := .aggv [.own 0, .own 1]
abbrev s_l1Cur_network_n (y : Network × l1Cur) : List Obj' := [.arr 9 1 (List.map Enc.e y.1.Stops), .arr 198 3 (List.map Enc.e y.1.Lines)]
abbrev s_l1Cur_network_o (x : l1Cur) (y : Network × l1Cur) : List Obj' := [.box [.dat (Enc.e y.2.code_), .dat (.sc (.int .i64 y.2.at_)), .dat (.sc (.int .u64 y.2.seed_.v))]]
noncomputable def s_l1Cur_network_S : FnSpec := modS [.bx] (fun x : l1Cur => [.sc undef]) (fun x : l1Cur => [.box [.dat (Enc.e x.code_), .dat (.sc (.int .i64 x.at_)), .dat (.sc (.int .u64 x.seed_.v))]]) (fun x : l1Cur => s_l1Cur_network x) s_l1Cur_network_r s_l1Cur_network_n s_l1Cur_network_o
theorem s_l1Cur_network_c {c : l1Cur} {y : Network × l1Cur} (h : s_l1Cur_network c = some y) : CallOK s_l1Cur_network_S [.sc undef] [.box [.dat (Enc.e c.code_), .dat (.sc (.int .i64 c.at_)), .dat (.sc (.int .u64 c.seed_.v))]] (s_l1Cur_network_r y) (s_l1Cur_network_n y) (s_l1Cur_network_o c y) :=
  modS_call (by
    rintro a0 b0 h hO
    have q0 : a0 = b0 := Enc.inj _ _ (congrArg (fun l => D.agg (obD l 0)) hO)
    subst q0; rfl) (x := c) h
theorem s_l1Cur_network_ok : FnOK Try.prog 235 s_l1Cur_network_S := by
  have Γok : ∀ f S, lookF f [(103, s_l1Cur_pick_S), (238, s_l1Num_S), (237, s_l1Cur_line_f_S), (106, s_l1Cur_one_S), (268, s_l2Back_f_S), (269, s_l2Own_S)] = some S → FnOK Try.prog f S := lookF_ok (allF_cons s_l1Cur_pick_ok (allF_cons s_l1Num_ok (allF_cons s_l1Cur_line_f_ok (allF_cons s_l1Cur_one_ok (allF_cons s_l2Back_f_ok (allF_cons s_l2Own_ok allF_nil))))))
  have Γlive : Live (fun f => lookF f [(103, s_l1Cur_pick_S), (238, s_l1Num_S), (237, s_l1Cur_line_f_S), (106, s_l1Cur_one_S), (268, s_l2Back_f_S), (269, s_l2Own_S)]) := lookF_live (allL_cons modS_live (allL_cons modS_live (allL_cons modS_live (allL_cons modS_live (allL_cons modS_live (allL_cons modS_live allL_nil))))))
  refine fnOK_mod ty_ok (fun args w => Try.call235 args w) Try.func235 rfl [.cell 2 63] (by rw [Try.results235]) 52 Try.ntmps235 16 rfl (fun _ => by first | exact Nat.zero_le _ | (simp)) ?_
  rintro c y cx hm hL
  have hm : s_l1Cur_network c = some y := hm
  have hL : cx.L = 1 := hL
  unfold s_l1Cur_network at hm
  refine X_reg_seq ty_ok Γok hL [] .nil (by kernel_rfl) ?_
  obtain ⟨r, h, hm⟩ := obind hm
  refine X_reg_seq ty_ok Γok hL [(1, .c (s_l1Cur_pick_r r) (s_l1Cur_pick_n r) (s_l1Cur_pick_o (c, 5) r))] (.cons (s_l1Cur_pick_c h) .nil) (by kernel_rfl) ?_
  obtain ⟨u, h1, hm⟩ := obind hm
  refine X_reg_seq ty_ok Γok hL [(2, .fz [96] [] []), (2, .l (List.map Enc.e ((([(str [112, 111, 114, 116]), (str [109, 105, 108, 108]), (str [112, 97, 114, 107]), (str [104, 97, 108, 108]), (str [100, 111, 99, 107]), (str [102, 97, 105, 114])] : List ByteArray).take (w64 (2 + r.1)).toNat).drop (0 : Int).toNat)))] (.cons (cut_p (f := Enc.e) (l := ([(str [112, 111, 114, 116]), (str [109, 105, 108, 108]), (str [112, 97, 114, 107]), (str [104, 97, 108, 108]), (str [100, 111, 99, 107]), (str [102, 97, 105, 114])] : List ByteArray)) (lo := 0) (hi := (w64 (2 + r.1))) (chk_t h1)) (.cons (cut_m Enc.e ([(str [112, 111, 114, 116]), (str [109, 105, 108, 108]), (str [112, 97, 114, 107]), (str [104, 97, 108, 108]), (str [100, 111, 99, 107]), (str [102, 97, 105, 114])] : List ByteArray) (0 : Int).toNat (w64 (2 + r.1)).toNat) .nil)) (by kernel_rfl) ?_
  refine Ok_seq ?_
  obtain ⟨r1, h2, hm⟩ := obind hm
  refine X_reg_seq ty_ok Γok hL [(1, .c (s_l1Cur_pick_r r1) (s_l1Cur_pick_n r1) (s_l1Cur_pick_o (r.2, 3) r1))] (.cons (s_l1Cur_pick_c h2) .nil) (by kernel_rfl) ?_
  obtain ⟨vv1, hv, hk⟩ := obind hm
  refine X_tail (n := 52) (fun ((v4, v5, v6, v7) : (List UInt8) × Int × Int × (List Line)) => (⟨[(0, .ref 0 0), (2, .ref 32 0), (4, .ref 48 0)], [(0, some (.box [.dat (Enc.e v4), .dat (.sc (.int .i64 v5)), .dat (.sc (.int .u64 v6))])), (32, some (.box [.dat (.sc (.slice none 0 0)), .dat (.sc (.slice none 0 0))])), (48, some (.box [.dat (Enc.e ((([(str [112, 111, 114, 116]), (str [109, 105, 108, 108]), (str [112, 97, 114, 107]), (str [104, 97, 108, 108]), (str [100, 111, 99, 107]), (str [102, 97, 105, 114])] : List ByteArray).take (w64 (2 + r.1)).toNat).drop (0 : Int).toNat)), .own 64])), (64, some (.arr 198 3 (List.map Enc.e v7)))], 96⟩ : X)) vv1 ?_ ?_
  · have hm := hv
    refine Ok_block ?_
    refine X_loop (n := 52) (step := s_l1Cur_network_L1 r) (fun ((x, v, v1, v2, v3) : Int × (List UInt8) × Int × Int × (List Line)) => (⟨[(0, .ref 0 0), (2, .ref 32 0), (3, .dat (.sc (.int .i64 (w64 (2 + r.1))))), (4, .ref 48 0), (5, .dat (.sc (.int .i64 x)))], [(0, some (.box [.dat (Enc.e v), .dat (.sc (.int .i64 v1)), .dat (.sc (.int .u64 v2))])), (32, some (.box [.dat (.sc (.slice none 0 0)), .dat (.sc (.slice none 0 0))])), (48, some (.box [.dat (Enc.e ((([(str [112, 111, 114, 116]), (str [109, 105, 108, 108]), (str [112, 97, 114, 107]), (str [104, 97, 108, 108]), (str [100, 111, 99, 107]), (str [102, 97, 105, 114])] : List ByteArray).take (w64 (2 + r.1)).toNat).drop (0 : Int).toNat)), .own 64])), (64, some (.arr 198 3 (List.map Enc.e v3)))], 96⟩ : X)) hm (Wk_J hL ⟨[(0, []), (2, []), (3, []), (4, []), (5, [])], [(0, 0, []), (32, 16, []), (48, 160, [.k, .o 64])], [(64, 198, 3, [])], 96⟩ (by kernel_rfl)) ?_
    rintro ⟨x, v, v1, v2, v3⟩ r0 hm hb
    rw [s_l1Cur_network_L1] at hm
    refine Ok_seq ?_
    refine X_reg_seq ty_ok Γok hL [] .nil (by kernel_rfl) ?_
    refine X_cond (decide (0 < x)) (by kernel_rfl) (fun hc => ?_) (fun hc => ?_)
    · have hm := it hc hm
      refine X_skip ?_
      refine thN ?_
      refine Ok_seq ?_
      refine Ok_block ?_
      obtain ⟨r4, h7, hm⟩ := obind hm
      obtain ⟨u3, h8, hm⟩ := obind hm
      obtain ⟨r5, h9, hm⟩ := obind hm
      obtain ⟨u4, h10, hm⟩ := obind hm
      refine X_draw mixed ty_ok Γok Γlive [(7, [0]), (8, []), (9, [64, 256]), (11, [48, 272])] (by kernel_rfl) [(4, .c (s_l1Num_r r4) (s_l1Num_n r4) (s_l1Num_o x r4)), (7, .c (s_l1Cur_line_f_r r5) (s_l1Cur_line_f_n r5) (s_l1Cur_line_f_o ((⟨v, v1, (⟨v2⟩ : IK .u64)⟩ : l1Cur), ((str [108]) ++ r4), (w64 (2 + r.1))) r5)), (9, .l (List.map Enc.e (v3 ++ ([r5.1] : List Line))))] (.cons (s_l1Num_c h7) (.cons (cat_p (chk_t h8)) (.cons (s_l1Cur_line_f_c h9) (.cons (app_p (f := Enc.e) (g := Enc.e) (l := v3) (r := ([r5.1] : List Line)) (b := 64) (chk_t h10) rfl) (.cons (app_m Enc.e v3 ([r5.1] : List Line)) .nil))))) (by kernel_rfl) ?_
      refine ibN ?_
      refine thN ?_
      refine X_reg ty_ok Γok hL [] .nil (by kernel_rfl) ?_
      obtain rfl := some_inj hm
      exact thN ⟨_, rfl, Wk_J hL ⟨[(0, []), (2, []), (3, []), (4, []), (5, [])], [(0, 0, []), (32, 32, []), (48, 48, []), (64, 272, [])], [], 96⟩ (by kernel_rfl)⟩
    · have hm := ie hc hm
      obtain rfl := some_inj hm
      obtain rfl := hb _ rfl
      refine Ok_exit ?_
      refine thE ?_
      refine thE ?_
      refine ibE ?_
      exact thN (Wk_J hL ⟨[(0, []), (2, []), (4, [])], [(0, 0, []), (32, 32, []), (48, 48, []), (64, 64, [])], [], 96⟩ (by kernel_rfl))
  obtain ⟨v4, v5, v6, v7⟩ := vv1
  intro s hw
  have hm := hk
  refine thN ?_
  refine Ok_weak hw ?_
  obtain ⟨vv, hv1, hk1⟩ := obind hm
  refine X_join (n := 52) (fun ((v8, v9, v10, v11) : (List UInt8) × Int × Int × (List Line)) => (⟨[(0, .ref 0 0), (2, .ref 32 0), (4, .ref 48 0)], [(0, some (.box [.dat (Enc.e v8), .dat (.sc (.int .i64 v9)), .dat (.sc (.int .u64 v10))])), (32, some (.box [.dat (.sc (.slice none 0 0)), .dat (.sc (.slice none 0 0))])), (48, some (.box [.dat (Enc.e ((([(str [112, 111, 114, 116]), (str [109, 105, 108, 108]), (str [112, 97, 114, 107]), (str [104, 97, 108, 108]), (str [100, 111, 99, 107]), (str [102, 97, 105, 114])] : List ByteArray).take (w64 (2 + r.1)).toNat).drop (0 : Int).toNat)), .own 64])), (64, some (.arr 198 3 (List.map Enc.e v11)))], 96⟩ : X)) vv ?_ ?_
  · have hm := hv1
    obtain ⟨r6, h11, hm⟩ := obind hm
    refine X_reg_seq ty_ok Γok hL [(1, .c (s_l1Cur_one_r r6) (s_l1Cur_one_n r6) (s_l1Cur_one_o ((⟨v4, v5, (⟨v6⟩ : IK .u64)⟩ : l1Cur), 2) r6))] (.cons (s_l1Cur_one_c h11) .nil) (by kernel_rfl) ?_
    refine X_cond r6.1 (by kernel_rfl) (fun hc1 => ?_) (fun hc1 => ?_)
    · have hm := it hc1 hm
      obtain ⟨e, h12, hm⟩ := obind hm
      refine X_reg_seq ty_ok Γok hL [(2, .d (Enc.e e)), (3, .d (Enc.e e))] (.cons (idx_m (f := Enc.e) h12) (.cons (idx_m2 (f := Enc.e) h12) .nil)) (by kernel_rfl) ?_
      obtain ⟨r9, h16, hm⟩ := obind hm
      obtain ⟨r10, h17, hm⟩ := obind hm
      obtain ⟨u6, h18, hm⟩ := obind hm
      refine X_draw mixed ty_ok Γok Γlive [(9, []), (10, [64, 368]), (12, [48, 384])] (by kernel_rfl) [(4, .c (s_l2Back_f_r r9) (s_l2Back_f_n r9) (s_l2Back_f_o e.Stops r9)), (7, .c (s_l2Back_f_r r10) (s_l2Back_f_n r10) (s_l2Back_f_o e.Runs r10)), (10, .l (List.map Enc.e (v7 ++ ([(⟨(str [114, 49]), r9, r10⟩ : Line)] : List Line))))] (.cons (s_l2Back_f_c h16) (.cons (s_l2Back_f_c h17) (.cons (app_p (f := Enc.e) (g := Enc.e) (l := v7) (r := ([(⟨(str [114, 49]), r9, r10⟩ : Line)] : List Line)) (b := 64) (chk_t h18) rfl) (.cons (app_m Enc.e v7 ([(⟨(str [114, 49]), r9, r10⟩ : Line)] : List Line)) .nil)))) (by kernel_rfl) ?_
      obtain rfl := some_inj hm
      exact thN (Wk_J hL ⟨[(0, []), (2, []), (4, [])], [(0, 0, []), (32, 32, []), (48, 48, []), (64, 384, [])], [], 96⟩ (by kernel_rfl))
    · have hm := ie hc1 hm
      refine X_skip ?_
      obtain rfl := some_inj hm
      exact thN (Wk_J hL ⟨[(0, []), (2, []), (4, [])], [(0, 0, []), (32, 32, []), (48, 48, []), (64, 64, [])], [], 96⟩ (by kernel_rfl))
  obtain ⟨v8, v9, v10, v11⟩ := vv
  have hm := hk1
  obtain ⟨r11, h19, hm⟩ := obind hm
  refine X_reg_seq ty_ok Γok hL [(1, .fz [64] [] []), (1, .c (s_l2Own_r r11) (s_l2Own_n r11) (s_l2Own_o (⟨((([(str [112, 111, 114, 116]), (str [109, 105, 108, 108]), (str [112, 97, 114, 107]), (str [104, 97, 108, 108]), (str [100, 111, 99, 107]), (str [102, 97, 105, 114])] : List ByteArray).take (w64 (2 + r.1)).toNat).drop (0 : Int).toNat), v11⟩ : Network) r11))] (.cons (s_l2Own_c h19) .nil) (by kernel_rfl) ?_
  obtain rfl := some_inj hm
  refine Ok_ret ?_
  repeat (first | refine thR ?_ | refine ibR ?_)
  exact X_fin [112, 113] [] (by kernel_rfl) trivial
abbrev s_l1Cur_timetable_r (y : Timetable × l1Cur) : AV := .aggv [.own 0, .own 1, .own 2]
abbrev s_l1Cur_timetable_n (y : Timetable × l1Cur) : List Obj' := [.arr 9 1 (List.map Enc.e y.1.Network.Stops), .arr 198 3 (List.map Enc.e y.1.Network.Lines), .arr 196 3 (List.map Enc.e y.1.Trips)]
abbrev s_l1Cur_timetable_o (x : l1Cur) (y : Timetable × l1Cur) : List Obj' := [.box [.dat (Enc.e y.2.code_), .dat (.sc (.int .i64 y.2.at_)), .dat (.sc (.int .u64 y.2.seed_.v))]]
noncomputable def s_l1Cur_timetable_S : FnSpec := modS [.bx] (fun x : l1Cur => [.sc undef]) (fun x : l1Cur => [.box [.dat (Enc.e x.code_), .dat (.sc (.int .i64 x.at_)), .dat (.sc (.int .u64 x.seed_.v))]]) (fun x : l1Cur => s_l1Cur_timetable x) s_l1Cur_timetable_r s_l1Cur_timetable_n s_l1Cur_timetable_o
theorem s_l1Cur_timetable_c {c : l1Cur} {y : Timetable × l1Cur} (h : s_l1Cur_timetable c = some y) : CallOK s_l1Cur_timetable_S [.sc undef] [.box [.dat (Enc.e c.code_), .dat (.sc (.int .i64 c.at_)), .dat (.sc (.int .u64 c.seed_.v))]] (s_l1Cur_timetable_r y) (s_l1Cur_timetable_n y) (s_l1Cur_timetable_o c y) :=
  modS_call (by
    rintro a0 b0 h hO
    have q0 : a0 = b0 := Enc.inj _ _ (congrArg (fun l => D.agg (obD l 0)) hO)
    subst q0; rfl) (x := c) h
theorem s_l1Cur_timetable_ok : FnOK Try.prog 270 s_l1Cur_timetable_S := by
  have Γok : ∀ f S, lookF f [(235, s_l1Cur_network_S), (103, s_l1Cur_pick_S)] = some S → FnOK Try.prog f S := lookF_ok (allF_cons s_l1Cur_network_ok (allF_cons s_l1Cur_pick_ok allF_nil))
  have Γlive : Live (fun f => lookF f [(235, s_l1Cur_network_S), (103, s_l1Cur_pick_S)]) := lookF_live (allL_cons modS_live (allL_cons modS_live allL_nil))
  refine fnOK_mod ty_ok (fun args w => Try.call270 args w) Try.func270 rfl [.cell 2 101] (by rw [Try.results270]) 38 Try.ntmps270 16 rfl (fun _ => by first | exact Nat.zero_le _ | (simp)) ?_
  rintro c y cx hm hL
  have hm : s_l1Cur_timetable c = some y := hm
  have hL : cx.L = 1 := hL
  unfold s_l1Cur_timetable at hm
  refine X_reg_seq ty_ok Γok hL [] .nil (by kernel_rfl) ?_
  obtain ⟨r, h, hm⟩ := obind hm
  refine X_reg_seq ty_ok Γok hL [(1, .c (s_l1Cur_network_r r) (s_l1Cur_network_n r) (s_l1Cur_network_o c r))] (.cons (s_l1Cur_network_c h) .nil) (by kernel_rfl) ?_
  refine X_reg_seq ty_ok Γok hL [] .nil (by kernel_rfl) ?_
  refine Ok_seq ?_
  obtain ⟨r1, h1, hm⟩ := obind hm
  refine X_reg_seq ty_ok Γok hL [(1, .c (s_l1Cur_pick_r r1) (s_l1Cur_pick_n r1) (s_l1Cur_pick_o (r.2, 8) r1))] (.cons (s_l1Cur_pick_c h1) .nil) (by kernel_rfl) ?_
  obtain ⟨vv, hv, hk⟩ := obind hm
  refine X_tail (n := 38) (fun ((v5, v6, v7, v8) : (List UInt8) × Int × Int × (List Trip)) => (⟨[(0, .ref 0 0), (2, .ref 32 0), (3, .ref 48 0)], [(0, some (.box [.dat (Enc.e v5), .dat (.sc (.int .i64 v6)), .dat (.sc (.int .u64 v7))])), (32, some (.box [.dat (.sc (.slice none 0 0)), .dat (.sc (.slice none 0 0)), .dat (.sc (.slice none 0 0))])), (48, some (.box [.own 64, .own 80, .own 96])), (64, some (.arr 9 1 (List.map Enc.e r.1.Stops))), (80, some (.arr 198 3 (List.map Enc.e r.1.Lines))), (96, some (.arr 196 3 (List.map Enc.e v8)))], 128⟩ : X)) vv ?_ ?_
  · have hm := hv
    refine Ok_block ?_
    refine X_loop (n := 38) (step := s_l1Cur_timetable_L1 r) (fun ((n, v, v1, v2, v3, v4) : Int × Int × (List UInt8) × Int × Int × (List Trip)) => (⟨[(0, .ref 0 0), (2, .ref 32 0), (3, .ref 48 0), (4, .dat (.sc (.int .i64 n))), (5, .dat (.sc (.int .i64 v)))], [(0, some (.box [.dat (Enc.e v1), .dat (.sc (.int .i64 v2)), .dat (.sc (.int .u64 v3))])), (32, some (.box [.dat (.sc (.slice none 0 0)), .dat (.sc (.slice none 0 0)), .dat (.sc (.slice none 0 0))])), (48, some (.box [.own 64, .own 80, .own 96])), (64, some (.arr 9 1 (List.map Enc.e r.1.Stops))), (80, some (.arr 198 3 (List.map Enc.e r.1.Lines))), (96, some (.arr 196 3 (List.map Enc.e v4)))], 128⟩ : X)) hm (Wk_J hL ⟨[(0, []), (2, []), (3, []), (4, []), (5, [])], [(0, 0, []), (32, 16, []), (48, 80, [.k, .k, .o 96]), (64, 48, []), (80, 49, [])], [(96, 196, 3, [])], 128⟩ (by kernel_rfl)) ?_
    rintro ⟨n, v, v1, v2, v3, v4⟩ r0 hm hb
    rw [s_l1Cur_timetable_L1] at hm
    refine Ok_seq ?_
    refine X_reg_seq ty_ok Γok hL [] .nil (by kernel_rfl) ?_
    refine X_cond (decide (0 < v)) (by kernel_rfl) (fun hc => ?_) (fun hc => ?_)
    · have hm := it hc hm
      refine X_skip ?_
      refine thN ?_
      refine Ok_seq ?_
      refine Ok_block ?_
      obtain ⟨r2, h2, hm⟩ := obind hm
      refine X_reg_seq ty_ok Γok hL [(3, .c (s_l1Cur_pick_r r2) (s_l1Cur_pick_n r2) (s_l1Cur_pick_o ((⟨v1, v2, (⟨v3⟩ : IK .u64)⟩ : l1Cur), 3) r2))] (.cons (s_l1Cur_pick_c h2) .nil) (by kernel_rfl) ?_
      obtain ⟨r5, h6, hm⟩ := obind hm
      obtain ⟨r6, h7, hm⟩ := obind hm
      obtain ⟨u1, h8, hm⟩ := obind hm
      refine X_draw mixed ty_ok Γok Γlive [(8, [0]), (10, [0]), (15, [96, 480]), (17, [48, 496])] (by kernel_rfl) [(7, .n (r.1.Lines.length : Int)), (8, .c (s_l1Cur_pick_r r5) (s_l1Cur_pick_n r5) (s_l1Cur_pick_o (r2.2, (r.1.Lines.length : Int)) r5)), (10, .c (s_l1Cur_pick_r r6) (s_l1Cur_pick_n r6) (s_l1Cur_pick_o (r5.2, 24) r6)), (15, .l (List.map Enc.e (v4 ++ ([(⟨(w64 ((w64 (n + 1)) + r2.1)), r5.1, (w64 (360 + (w64 (5 * r6.1))))⟩ : Trip)] : List Trip))))] (.cons (len_m Enc.e r.1.Lines) (.cons (s_l1Cur_pick_c h6) (.cons (s_l1Cur_pick_c h7) (.cons (app_p (f := Enc.e) (g := Enc.e) (l := v4) (r := ([(⟨(w64 ((w64 (n + 1)) + r2.1)), r5.1, (w64 (360 + (w64 (5 * r6.1))))⟩ : Trip)] : List Trip)) (b := 24) (chk_t h8) rfl) (.cons (app_m Enc.e v4 ([(⟨(w64 ((w64 (n + 1)) + r2.1)), r5.1, (w64 (360 + (w64 (5 * r6.1))))⟩ : Trip)] : List Trip)) .nil))))) (by kernel_rfl) ?_
      refine ibN ?_
      refine thN ?_
      refine X_reg ty_ok Γok hL [] .nil (by kernel_rfl) ?_
      obtain rfl := some_inj hm
      exact thN ⟨_, rfl, Wk_J hL ⟨[(0, []), (2, []), (3, []), (4, []), (5, [])], [(0, 0, []), (32, 32, []), (48, 48, []), (64, 64, []), (80, 80, []), (96, 496, [])], [], 128⟩ (by kernel_rfl)⟩
    · have hm := ie hc hm
      obtain rfl := some_inj hm
      obtain rfl := hb _ rfl
      refine Ok_exit ?_
      refine thE ?_
      refine thE ?_
      refine ibE ?_
      exact thN (Wk_J hL ⟨[(0, []), (2, []), (3, [])], [(0, 0, []), (32, 32, []), (48, 48, []), (64, 64, []), (80, 80, []), (96, 96, [])], [], 128⟩ (by kernel_rfl))
  obtain ⟨v5, v6, v7, v8⟩ := vv
  intro s hw
  have hm := hk
  refine thN ?_
  refine Ok_weak hw ?_
  refine X_reg_seq ty_ok Γok hL [] .nil (by kernel_rfl) ?_
  obtain rfl := some_inj hm
  refine Ok_ret ?_
  repeat (first | refine thR ?_ | refine ibR ?_)
  exact X_fin [64, 80, 96] [] (by kernel_rfl) trivial
abbrev s_l1Cur_among_r (y : Int × l1Cur) : AV := .dat (Enc.e y.1)
abbrev s_l1Cur_among_n (y : Int × l1Cur) : List Obj' := []
abbrev s_l1Cur_among_o (x : l1Cur × (List Int)) (y : Int × l1Cur) : List Obj' := [.box [.dat (Enc.e y.2.code_), .dat (.sc (.int .i64 y.2.at_)), .dat (.sc (.int .u64 y.2.seed_.v))]]
noncomputable def s_l1Cur_among_S : FnSpec := modS [.bx, .rd] (fun x : l1Cur × (List Int) => [.sc undef, Enc.e x.2]) (fun x : l1Cur × (List Int) => [.box [.dat (Enc.e x.1.code_), .dat (.sc (.int .i64 x.1.at_)), .dat (.sc (.int .u64 x.1.seed_.v))]]) (fun x : l1Cur × (List Int) => s_l1Cur_among x.1 x.2) s_l1Cur_among_r s_l1Cur_among_n s_l1Cur_among_o
theorem s_l1Cur_among_c {c : l1Cur} {list : List Int} {y : Int × l1Cur} (h : s_l1Cur_among c list = some y) : CallOK s_l1Cur_among_S [.sc undef, Enc.e list] [.box [.dat (Enc.e c.code_), .dat (.sc (.int .i64 c.at_)), .dat (.sc (.int .u64 c.seed_.v))]] (s_l1Cur_among_r y) (s_l1Cur_among_n y) (s_l1Cur_among_o (c, list) y) :=
  modS_call (by
    rintro ⟨a0, a1⟩ ⟨b0, b1⟩ h hO
    have q0 : a0 = b0 := Enc.inj _ _ (congrArg (fun l => D.agg (obD l 0)) hO)
    have q1 : a1 = b1 := Enc.inj _ _ (congrArg (fun l => List.getD l 1 (.sc undef)) h)
    subst q0; subst q1; rfl) (x := (c, list)) h
theorem s_l1Cur_among_ok : FnOK Try.prog 167 s_l1Cur_among_S := by
  have Γok : ∀ f S, lookF f [(103, s_l1Cur_pick_S)] = some S → FnOK Try.prog f S := lookF_ok (allF_cons s_l1Cur_pick_ok allF_nil)
  have Γlive : Live (fun f => lookF f [(103, s_l1Cur_pick_S)]) := lookF_live (allL_cons modS_live allL_nil)
  refine fnOK_mod ty_ok (fun args w => Try.call167 args w) Try.func167 rfl [.tmp 4] (by rw [Try.results167]) 12 Try.ntmps167 16 rfl (fun _ => by first | exact Nat.zero_le _ | (simp)) ?_
  rintro ⟨c, list⟩ y cx hm hL
  have hm : s_l1Cur_among c list = some y := hm
  have hL : cx.L = 1 := hL
  unfold s_l1Cur_among at hm
  refine X_reg_seq ty_ok Γok hL [] .nil (by kernel_rfl) ?_
  obtain ⟨r, h, hm⟩ := obind hm
  obtain ⟨e, h1, hm⟩ := obind hm
  refine X_reg_seq ty_ok Γok hL [(3, .n (list.length : Int)), (4, .c (s_l1Cur_pick_r r) (s_l1Cur_pick_n r) (s_l1Cur_pick_o (c, (list.length : Int)) r)), (5, .d (Enc.e e))] (.cons (len_m Enc.e list) (.cons (s_l1Cur_pick_c h) (.cons (idx_m (f := Enc.e) h1) .nil))) (by kernel_rfl) ?_
  obtain rfl := some_inj hm
  refine Ok_ret ?_
  repeat (first | refine thR ?_ | refine ibR ?_)
  exact X_fin [] [] (by kernel_rfl) trivial
abbrev s_l1Cur_of_r (y : ByteArray × l1Cur) : AV := .dat (Enc.e y.1)
abbrev s_l1Cur_of_n (y : ByteArray × l1Cur) : List Obj' := []
abbrev s_l1Cur_of_o (x : l1Cur × (List ByteArray)) (y : ByteArray × l1Cur) : List Obj' := [.box [.dat (Enc.e y.2.code_), .dat (.sc (.int .i64 y.2.at_)), .dat (.sc (.int .u64 y.2.seed_.v))]]
noncomputable def s_l1Cur_of_S : FnSpec := modS [.bx, .rd] (fun x : l1Cur × (List ByteArray) => [.sc undef, Enc.e x.2]) (fun x : l1Cur × (List ByteArray) => [.box [.dat (Enc.e x.1.code_), .dat (.sc (.int .i64 x.1.at_)), .dat (.sc (.int .u64 x.1.seed_.v))]]) (fun x : l1Cur × (List ByteArray) => s_l1Cur_of x.1 x.2) s_l1Cur_of_r s_l1Cur_of_n s_l1Cur_of_o
theorem s_l1Cur_of_c {c : l1Cur} {list : List ByteArray} {y : ByteArray × l1Cur} (h : s_l1Cur_of c list = some y) : CallOK s_l1Cur_of_S [.sc undef, Enc.e list] [.box [.dat (Enc.e c.code_), .dat (.sc (.int .i64 c.at_)), .dat (.sc (.int .u64 c.seed_.v))]] (s_l1Cur_of_r y) (s_l1Cur_of_n y) (s_l1Cur_of_o (c, list) y) :=
  modS_call (by
    rintro ⟨a0, a1⟩ ⟨b0, b1⟩ h hO
    have q0 : a0 = b0 := Enc.inj _ _ (congrArg (fun l => D.agg (obD l 0)) hO)
    have q1 : a1 = b1 := Enc.inj _ _ (congrArg (fun l => List.getD l 1 (.sc undef)) h)
    subst q0; subst q1; rfl) (x := (c, list)) h
theorem s_l1Cur_of_ok : FnOK Try.prog 236 s_l1Cur_of_S := by
  have Γok : ∀ f S, lookF f [(103, s_l1Cur_pick_S)] = some S → FnOK Try.prog f S := lookF_ok (allF_cons s_l1Cur_pick_ok allF_nil)
  have Γlive : Live (fun f => lookF f [(103, s_l1Cur_pick_S)]) := lookF_live (allL_cons modS_live allL_nil)
  refine fnOK_mod ty_ok (fun args w => Try.call236 args w) Try.func236 rfl [.tmp 4] (by rw [Try.results236]) 12 Try.ntmps236 16 rfl (fun _ => by first | exact Nat.zero_le _ | (simp)) ?_
  rintro ⟨c, list⟩ y cx hm hL
  have hm : s_l1Cur_of c list = some y := hm
  have hL : cx.L = 1 := hL
  unfold s_l1Cur_of at hm
  refine X_reg_seq ty_ok Γok hL [] .nil (by kernel_rfl) ?_
  obtain ⟨r, h, hm⟩ := obind hm
  obtain ⟨e, h1, hm⟩ := obind hm
  refine X_reg_seq ty_ok Γok hL [(3, .n (list.length : Int)), (4, .c (s_l1Cur_pick_r r) (s_l1Cur_pick_n r) (s_l1Cur_pick_o (c, (list.length : Int)) r)), (5, .d (Enc.e e))] (.cons (len_m Enc.e list) (.cons (s_l1Cur_pick_c h) (.cons (idx_m (f := Enc.e) h1) .nil))) (by kernel_rfl) ?_
  obtain rfl := some_inj hm
  refine Ok_ret ?_
  repeat (first | refine thR ?_ | refine ibR ?_)
  exact X_fin [] [] (by kernel_rfl) trivial
abbrev s_l1Cur_of_w_r (y : ByteArray × l1Cur) : AV := .dat (Enc.e y.1)
abbrev s_l1Cur_of_w_n (y : ByteArray × l1Cur) : List Obj' := []
abbrev s_l1Cur_of_w_o (x : l1Cur × (List ByteArray)) (y : ByteArray × l1Cur) : List Obj' := [.box [.dat (Enc.e y.2.code_), .dat (.sc (.int .i64 y.2.at_)), .dat (.sc (.int .u64 y.2.seed_.v))], .arr 9 1 (List.map Enc.e x.2)]
noncomputable def s_l1Cur_of_w_S : FnSpec := modS [.bx, .sl] (fun x : l1Cur × (List ByteArray) => [.sc undef, .sc undef]) (fun x : l1Cur × (List ByteArray) => [.box [.dat (Enc.e x.1.code_), .dat (.sc (.int .i64 x.1.at_)), .dat (.sc (.int .u64 x.1.seed_.v))], .arr 9 1 (List.map Enc.e x.2)]) (fun x : l1Cur × (List ByteArray) => s_l1Cur_of_w x.1 x.2) s_l1Cur_of_w_r s_l1Cur_of_w_n s_l1Cur_of_w_o
theorem s_l1Cur_of_w_c {c : l1Cur} {list : List ByteArray} {y : ByteArray × l1Cur} (h : s_l1Cur_of_w c list = some y) : CallOK s_l1Cur_of_w_S [.sc undef, .sc undef] [.box [.dat (Enc.e c.code_), .dat (.sc (.int .i64 c.at_)), .dat (.sc (.int .u64 c.seed_.v))], .arr 9 1 (List.map Enc.e list)] (s_l1Cur_of_w_r y) (s_l1Cur_of_w_n y) (s_l1Cur_of_w_o (c, list) y) :=
  modS_call (by
    rintro ⟨a0, a1⟩ ⟨b0, b1⟩ h hO
    have q0 : a0 = b0 := Enc.inj _ _ (congrArg (fun l => D.agg (obD l 0)) hO)
    have q1 : a1 = b1 := Enc.inj _ _ (congrArg (fun l => D.sl 1 (obL l 1)) hO)
    subst q0; subst q1; rfl) (x := (c, list)) h
theorem s_l1Cur_of_w_ok : FnOK Try.prog 236 s_l1Cur_of_w_S := by
  have Γok : ∀ f S, lookF f [(103, s_l1Cur_pick_S)] = some S → FnOK Try.prog f S := lookF_ok (allF_cons s_l1Cur_pick_ok allF_nil)
  have Γlive : Live (fun f => lookF f [(103, s_l1Cur_pick_S)]) := lookF_live (allL_cons modS_live allL_nil)
  refine fnOK_mod ty_ok (fun args w => Try.call236 args w) Try.func236 rfl [.tmp 4] (by rw [Try.results236]) 12 Try.ntmps236 16 rfl (fun _ => by first | exact Nat.zero_le _ | (simp)) ?_
  rintro ⟨c, list⟩ y cx hm hL
  have hm : s_l1Cur_of_w c list = some y := hm
  have hL : cx.L = 2 := hL
  unfold s_l1Cur_of_w at hm
  refine X_reg_seq ty_ok Γok hL [] .nil (by kernel_rfl) ?_
  obtain ⟨r, h, hm⟩ := obind hm
  obtain ⟨e, h1, hm⟩ := obind hm
  refine X_reg_seq ty_ok Γok hL [(3, .n (list.length : Int)), (4, .c (s_l1Cur_pick_r r) (s_l1Cur_pick_n r) (s_l1Cur_pick_o (c, (list.length : Int)) r)), (5, .d (Enc.e e)), (6, .d (Enc.e e))] (.cons (len_m Enc.e list) (.cons (s_l1Cur_pick_c h) (.cons (idx_m (f := Enc.e) h1) (.cons (idx_m2 (f := Enc.e) h1) .nil)))) (by kernel_rfl) ?_
  obtain rfl := some_inj hm
  refine Ok_ret ?_
  repeat (first | refine thR ?_ | refine ibR ?_)
  exact X_fin [] [] (by kernel_rfl) trivial
abbrev s_l2Own_t_r (y : Network) : AV := .aggv [.own 0, .own 1]
abbrev s_l2Own_t_n (y : Network) : List Obj' := [.arr 9 1 (List.map Enc.e y.Stops), .tab 198 3 [none, some 3, some 3] (List.map Enc.e y.Lines) 0 none]
abbrev s_l2Own_t_o (x : Network) (y : Network) : List Obj' := []
noncomputable def s_l2Own_t_S : FnSpec := modS [.rd] (fun x : Network => [Enc.e x]) (fun x : Network => []) (fun x : Network => s_l2Own_t x) s_l2Own_t_r s_l2Own_t_n s_l2Own_t_o
theorem s_l2Own_t_c {n : Network} {y : Network} (h : s_l2Own_t n = some y) : CallOK s_l2Own_t_S [Enc.e n] [] (s_l2Own_t_r y) (s_l2Own_t_n y) (s_l2Own_t_o n y) :=
  modS_call (by
    rintro a0 b0 h hO
    have q0 : a0 = b0 := Enc.inj _ _ (congrArg (fun l => List.getD l 0 (.sc undef)) h)
    subst q0; rfl) (x := n) h
theorem s_l2Own_t_ok : FnOK Try.prog 269 s_l2Own_t_S := by
  have Γok : ∀ f S, lookF f [(190, s_l1Own_S)] = some S → FnOK Try.prog f S := lookF_ok (allF_cons s_l1Own_ok allF_nil)
  have Γlive : Live (fun f => lookF f [(190, s_l1Own_S)]) := lookF_live (allL_cons modS_live allL_nil)
  refine fnOK_mod ty_ok (fun args w => Try.call269 args w) Try.func269 rfl [.cell 2 63] (by rw [Try.results269]) 44 Try.ntmps269 16 rfl (fun _ => by first | exact Nat.zero_le _ | (simp)) ?_
  rintro n y cx hm hL
  have hm : s_l2Own_t n = some y := hm
  have hL : cx.L = 0 := hL
  unfold s_l2Own_t at hm
  refine X_reg_seq ty_ok Γok hL [] .nil (by kernel_rfl) ?_
  obtain ⟨u, h, hm⟩ := obind hm
  refine X_reg_seq ty_ok Γok hL [(3, .l (List.map Enc.e (([] : List ByteArray) ++ n.Stops)))] (.cons (app_p (f := Enc.e) (g := Enc.e) (l := ([] : List ByteArray)) (r := n.Stops) (b := 16) (chk_t h) rfl) (.cons (app_m Enc.e ([] : List ByteArray) n.Stops) .nil)) (by kernel_rfl) ?_
  refine Ok_seq ?_
  refine X_reg_seq ty_ok Γok hL [] .nil (by kernel_rfl) ?_
  obtain ⟨v2, hv, hk⟩ := obind hm
  refine X_tail (n := 44) (fun (v2 : List Line) => (⟨[(2, .ref 16 0), (3, .ref 32 0)], [(16, some (.box [.dat (.sc (.slice none 0 0)), .dat (.sc (.slice none 0 0))])), (32, some (.box [.own 48, .own 64])), (48, some (.arr 9 1 (List.map Enc.e (([] : List ByteArray) ++ n.Stops)))), (64, some (.tab 198 3 [none, some 3, some 3] (List.map Enc.e v2) 64 none))], 96⟩ : X)) v2 ?_ ?_
  · have hm := hv
    refine Ok_block ?_
    refine X_loop (n := 44) (step := s_l2Own_t_L1 n) (fun ((v, v1) : Int × (List Line)) => (⟨[(1, .ref 16 0), (2, .ref 32 0), (3, .ref 48 0), (4, .dat (.sc (.int .i64 v)))], [(16, some (.box [.dat (Enc.e n.Stops), .dat (Enc.e n.Lines)])), (32, some (.box [.dat (.sc (.slice none 0 0)), .dat (.sc (.slice none 0 0))])), (48, some (.box [.own 64, .own 80])), (64, some (.arr 9 1 (List.map Enc.e (([] : List ByteArray) ++ n.Stops)))), (80, some (.tab 198 3 [none, some 3, some 3] (List.map Enc.e v1) 80 none))], 112⟩ : X)) hm (Wk_J hL ⟨[(1, []), (2, []), (3, []), (4, [])], [(16, 16, []), (32, 32, []), (48, 128, [.k, .o 80]), (64, 96, [])], [(80, 198, 3, [none, some 3, some 3])], 112⟩ (by kernel_rfl)) ?_
    rintro ⟨v, v1⟩ r0 hm hb
    rw [s_l2Own_t_L1] at hm
    refine Ok_seq ?_
    refine X_reg_seq ty_ok Γok hL [(3, .n (n.Lines.length : Int))] (.cons (len_m Enc.e n.Lines) .nil) (by kernel_rfl) ?_
    refine X_cond (decide (v < (n.Lines.length : Int))) (by kernel_rfl) (fun hc => ?_) (fun hc => ?_)
    · have hm := it hc hm
      refine X_skip ?_
      refine thN ?_
      refine Ok_seq ?_
      refine Ok_block ?_
      obtain ⟨e3, h7, hm⟩ := obind hm
      obtain ⟨e4, h8, hm⟩ := obind hm
      obtain ⟨r2, h9, hm⟩ := obind hm
      obtain ⟨e5, h10, hm⟩ := obind hm
      obtain ⟨r3, h11, hm⟩ := obind hm
      obtain ⟨u2, h12, hm⟩ := obind hm
      refine X_draw mixed ty_ok Γok Γlive [(23, [416, 528]), (24, [80, 560]), (26, [48, 576])] (by kernel_rfl) [(5, .d (Enc.e e3)), (11, .d (Enc.e e4)), (14, .c (s_l1Own_r r2) (s_l1Own_n r2) (s_l1Own_o e4.Stops r2)), (18, .d (Enc.e e5)), (21, .c (s_l1Own_r r3) (s_l1Own_n r3) (s_l1Own_o e5.Runs r3)), (24, .l (List.map Enc.e (v1 ++ ([(⟨e3.Name, r2, r3⟩ : Line)] : List Line))))] (.cons (idx_m (f := Enc.e) h7) (.cons (idx_m (f := Enc.e) h8) (.cons (s_l1Own_c h9) (.cons (idx_m (f := Enc.e) h10) (.cons (s_l1Own_c h11) (.cons (nodupB_ok (l := [416, 528]) rfl) (.cons (app_p (f := Enc.e) (g := Enc.e) (l := v1) (r := ([(⟨e3.Name, r2, r3⟩ : Line)] : List Line)) (b := 64) (chk_t h12) rfl) (.cons (app_m Enc.e v1 ([(⟨e3.Name, r2, r3⟩ : Line)] : List Line)) .nil)))))))) (by kernel_rfl) ?_
      refine ibN ?_
      refine thN ?_
      refine X_reg ty_ok Γok hL [] .nil (by kernel_rfl) ?_
      obtain rfl := some_inj hm
      exact thN ⟨_, rfl, Wk_J hL ⟨[(1, []), (2, []), (3, []), (4, [])], [(16, 16, []), (32, 32, []), (48, 48, []), (64, 64, []), (80, 576, [])], [], 112⟩ (by kernel_rfl)⟩
    · have hm := ie hc hm
      obtain rfl := some_inj hm
      obtain rfl := hb _ rfl
      refine Ok_exit ?_
      refine thE ?_
      refine thE ?_
      refine ibE ?_
      exact thN (Wk_J hL ⟨[(2, []), (3, [])], [(16, 32, []), (32, 48, []), (48, 64, []), (64, 80, [])], [], 96⟩ (by kernel_rfl))
  intro s hw
  have hm := hk
  refine thN ?_
  refine Ok_weak hw ?_
  refine X_reg_seq ty_ok Γok hL [] .nil (by kernel_rfl) ?_
  obtain rfl := some_inj hm
  refine Ok_ret ?_
  repeat (first | refine thR ?_ | refine ibR ?_)
  exact X_fin [48, 64] [] (by kernel_rfl) trivial
abbrev s_l1Cur_network_t_r (y : Network × l1Cur) : AV := .aggv [.own 0, .own 1]
abbrev s_l1Cur_network_t_n (y : Network × l1Cur) : List Obj' := [.arr 9 1 (List.map Enc.e y.1.Stops), .tab 198 3 [none, some 3, some 3] (List.map Enc.e y.1.Lines) 0 none]
abbrev s_l1Cur_network_t_o (x : l1Cur) (y : Network × l1Cur) : List Obj' := [.box [.dat (Enc.e y.2.code_), .dat (.sc (.int .i64 y.2.at_)), .dat (.sc (.int .u64 y.2.seed_.v))]]
noncomputable def s_l1Cur_network_t_S : FnSpec := modS [.bx] (fun x : l1Cur => [.sc undef]) (fun x : l1Cur => [.box [.dat (Enc.e x.code_), .dat (.sc (.int .i64 x.at_)), .dat (.sc (.int .u64 x.seed_.v))]]) (fun x : l1Cur => s_l1Cur_network_t x) s_l1Cur_network_t_r s_l1Cur_network_t_n s_l1Cur_network_t_o
theorem s_l1Cur_network_t_c {c : l1Cur} {y : Network × l1Cur} (h : s_l1Cur_network_t c = some y) : CallOK s_l1Cur_network_t_S [.sc undef] [.box [.dat (Enc.e c.code_), .dat (.sc (.int .i64 c.at_)), .dat (.sc (.int .u64 c.seed_.v))]] (s_l1Cur_network_t_r y) (s_l1Cur_network_t_n y) (s_l1Cur_network_t_o c y) :=
  modS_call (by
    rintro a0 b0 h hO
    have q0 : a0 = b0 := Enc.inj _ _ (congrArg (fun l => D.agg (obD l 0)) hO)
    subst q0; rfl) (x := c) h
theorem s_l1Cur_network_t_ok : FnOK Try.prog 235 s_l1Cur_network_t_S := by
  have Γok : ∀ f S, lookF f [(103, s_l1Cur_pick_S), (238, s_l1Num_S), (237, s_l1Cur_line_f_S), (106, s_l1Cur_one_S), (268, s_l2Back_f_S), (269, s_l2Own_t_S)] = some S → FnOK Try.prog f S := lookF_ok (allF_cons s_l1Cur_pick_ok (allF_cons s_l1Num_ok (allF_cons s_l1Cur_line_f_ok (allF_cons s_l1Cur_one_ok (allF_cons s_l2Back_f_ok (allF_cons s_l2Own_t_ok allF_nil))))))
  have Γlive : Live (fun f => lookF f [(103, s_l1Cur_pick_S), (238, s_l1Num_S), (237, s_l1Cur_line_f_S), (106, s_l1Cur_one_S), (268, s_l2Back_f_S), (269, s_l2Own_t_S)]) := lookF_live (allL_cons modS_live (allL_cons modS_live (allL_cons modS_live (allL_cons modS_live (allL_cons modS_live (allL_cons modS_live allL_nil))))))
  refine fnOK_mod ty_ok (fun args w => Try.call235 args w) Try.func235 rfl [.cell 2 63] (by rw [Try.results235]) 52 Try.ntmps235 16 rfl (fun _ => by first | exact Nat.zero_le _ | (simp)) ?_
  rintro c y cx hm hL
  have hm : s_l1Cur_network_t c = some y := hm
  have hL : cx.L = 1 := hL
  unfold s_l1Cur_network_t at hm
  refine X_reg_seq ty_ok Γok hL [] .nil (by kernel_rfl) ?_
  obtain ⟨r, h, hm⟩ := obind hm
  refine X_reg_seq ty_ok Γok hL [(1, .c (s_l1Cur_pick_r r) (s_l1Cur_pick_n r) (s_l1Cur_pick_o (c, 5) r))] (.cons (s_l1Cur_pick_c h) .nil) (by kernel_rfl) ?_
  obtain ⟨u, h1, hm⟩ := obind hm
  refine X_reg_seq ty_ok Γok hL [(2, .fz [96] [] []), (2, .l (List.map Enc.e ((([(str [112, 111, 114, 116]), (str [109, 105, 108, 108]), (str [112, 97, 114, 107]), (str [104, 97, 108, 108]), (str [100, 111, 99, 107]), (str [102, 97, 105, 114])] : List ByteArray).take (w64 (2 + r.1)).toNat).drop (0 : Int).toNat)))] (.cons (cut_p (f := Enc.e) (l := ([(str [112, 111, 114, 116]), (str [109, 105, 108, 108]), (str [112, 97, 114, 107]), (str [104, 97, 108, 108]), (str [100, 111, 99, 107]), (str [102, 97, 105, 114])] : List ByteArray)) (lo := 0) (hi := (w64 (2 + r.1))) (chk_t h1)) (.cons (cut_m Enc.e ([(str [112, 111, 114, 116]), (str [109, 105, 108, 108]), (str [112, 97, 114, 107]), (str [104, 97, 108, 108]), (str [100, 111, 99, 107]), (str [102, 97, 105, 114])] : List ByteArray) (0 : Int).toNat (w64 (2 + r.1)).toNat) .nil)) (by kernel_rfl) ?_
  refine Ok_seq ?_
  obtain ⟨r1, h2, hm⟩ := obind hm
  refine X_reg_seq ty_ok Γok hL [(1, .c (s_l1Cur_pick_r r1) (s_l1Cur_pick_n r1) (s_l1Cur_pick_o (r.2, 3) r1))] (.cons (s_l1Cur_pick_c h2) .nil) (by kernel_rfl) ?_
  obtain ⟨vv1, hv, hk⟩ := obind hm
  refine X_tail (n := 52) (fun ((v4, v5, v6, v7) : (List UInt8) × Int × Int × (List Line)) => (⟨[(0, .ref 0 0), (2, .ref 32 0), (4, .ref 48 0)], [(0, some (.box [.dat (Enc.e v4), .dat (.sc (.int .i64 v5)), .dat (.sc (.int .u64 v6))])), (32, some (.box [.dat (.sc (.slice none 0 0)), .dat (.sc (.slice none 0 0))])), (48, some (.box [.dat (Enc.e ((([(str [112, 111, 114, 116]), (str [109, 105, 108, 108]), (str [112, 97, 114, 107]), (str [104, 97, 108, 108]), (str [100, 111, 99, 107]), (str [102, 97, 105, 114])] : List ByteArray).take (w64 (2 + r.1)).toNat).drop (0 : Int).toNat)), .own 64])), (64, some (.arr 198 3 (List.map Enc.e v7)))], 96⟩ : X)) vv1 ?_ ?_
  · have hm := hv
    refine Ok_block ?_
    refine X_loop (n := 52) (step := s_l1Cur_network_t_L1 r) (fun ((x, v, v1, v2, v3) : Int × (List UInt8) × Int × Int × (List Line)) => (⟨[(0, .ref 0 0), (2, .ref 32 0), (3, .dat (.sc (.int .i64 (w64 (2 + r.1))))), (4, .ref 48 0), (5, .dat (.sc (.int .i64 x)))], [(0, some (.box [.dat (Enc.e v), .dat (.sc (.int .i64 v1)), .dat (.sc (.int .u64 v2))])), (32, some (.box [.dat (.sc (.slice none 0 0)), .dat (.sc (.slice none 0 0))])), (48, some (.box [.dat (Enc.e ((([(str [112, 111, 114, 116]), (str [109, 105, 108, 108]), (str [112, 97, 114, 107]), (str [104, 97, 108, 108]), (str [100, 111, 99, 107]), (str [102, 97, 105, 114])] : List ByteArray).take (w64 (2 + r.1)).toNat).drop (0 : Int).toNat)), .own 64])), (64, some (.arr 198 3 (List.map Enc.e v3)))], 96⟩ : X)) hm (Wk_J hL ⟨[(0, []), (2, []), (3, []), (4, []), (5, [])], [(0, 0, []), (32, 16, []), (48, 160, [.k, .o 64])], [(64, 198, 3, [])], 96⟩ (by kernel_rfl)) ?_
    rintro ⟨x, v, v1, v2, v3⟩ r0 hm hb
    rw [s_l1Cur_network_t_L1] at hm
    refine Ok_seq ?_
    refine X_reg_seq ty_ok Γok hL [] .nil (by kernel_rfl) ?_
    refine X_cond (decide (0 < x)) (by kernel_rfl) (fun hc => ?_) (fun hc => ?_)
    · have hm := it hc hm
      refine X_skip ?_
      refine thN ?_
      refine Ok_seq ?_
      refine Ok_block ?_
      obtain ⟨r4, h7, hm⟩ := obind hm
      obtain ⟨u3, h8, hm⟩ := obind hm
      obtain ⟨r5, h9, hm⟩ := obind hm
      obtain ⟨u4, h10, hm⟩ := obind hm
      refine X_draw mixed ty_ok Γok Γlive [(7, [0]), (8, []), (9, [64, 256]), (11, [48, 272])] (by kernel_rfl) [(4, .c (s_l1Num_r r4) (s_l1Num_n r4) (s_l1Num_o x r4)), (7, .c (s_l1Cur_line_f_r r5) (s_l1Cur_line_f_n r5) (s_l1Cur_line_f_o ((⟨v, v1, (⟨v2⟩ : IK .u64)⟩ : l1Cur), ((str [108]) ++ r4), (w64 (2 + r.1))) r5)), (9, .l (List.map Enc.e (v3 ++ ([r5.1] : List Line))))] (.cons (s_l1Num_c h7) (.cons (cat_p (chk_t h8)) (.cons (s_l1Cur_line_f_c h9) (.cons (app_p (f := Enc.e) (g := Enc.e) (l := v3) (r := ([r5.1] : List Line)) (b := 64) (chk_t h10) rfl) (.cons (app_m Enc.e v3 ([r5.1] : List Line)) .nil))))) (by kernel_rfl) ?_
      refine ibN ?_
      refine thN ?_
      refine X_reg ty_ok Γok hL [] .nil (by kernel_rfl) ?_
      obtain rfl := some_inj hm
      exact thN ⟨_, rfl, Wk_J hL ⟨[(0, []), (2, []), (3, []), (4, []), (5, [])], [(0, 0, []), (32, 32, []), (48, 48, []), (64, 272, [])], [], 96⟩ (by kernel_rfl)⟩
    · have hm := ie hc hm
      obtain rfl := some_inj hm
      obtain rfl := hb _ rfl
      refine Ok_exit ?_
      refine thE ?_
      refine thE ?_
      refine ibE ?_
      exact thN (Wk_J hL ⟨[(0, []), (2, []), (4, [])], [(0, 0, []), (32, 32, []), (48, 48, []), (64, 64, [])], [], 96⟩ (by kernel_rfl))
  obtain ⟨v4, v5, v6, v7⟩ := vv1
  intro s hw
  have hm := hk
  refine thN ?_
  refine Ok_weak hw ?_
  obtain ⟨vv, hv1, hk1⟩ := obind hm
  refine X_join (n := 52) (fun ((v8, v9, v10, v11) : (List UInt8) × Int × Int × (List Line)) => (⟨[(0, .ref 0 0), (2, .ref 32 0), (4, .ref 48 0)], [(0, some (.box [.dat (Enc.e v8), .dat (.sc (.int .i64 v9)), .dat (.sc (.int .u64 v10))])), (32, some (.box [.dat (.sc (.slice none 0 0)), .dat (.sc (.slice none 0 0))])), (48, some (.box [.dat (Enc.e ((([(str [112, 111, 114, 116]), (str [109, 105, 108, 108]), (str [112, 97, 114, 107]), (str [104, 97, 108, 108]), (str [100, 111, 99, 107]), (str [102, 97, 105, 114])] : List ByteArray).take (w64 (2 + r.1)).toNat).drop (0 : Int).toNat)), .own 64])), (64, some (.arr 198 3 (List.map Enc.e v11)))], 96⟩ : X)) vv ?_ ?_
  · have hm := hv1
    obtain ⟨r6, h11, hm⟩ := obind hm
    refine X_reg_seq ty_ok Γok hL [(1, .c (s_l1Cur_one_r r6) (s_l1Cur_one_n r6) (s_l1Cur_one_o ((⟨v4, v5, (⟨v6⟩ : IK .u64)⟩ : l1Cur), 2) r6))] (.cons (s_l1Cur_one_c h11) .nil) (by kernel_rfl) ?_
    refine X_cond r6.1 (by kernel_rfl) (fun hc1 => ?_) (fun hc1 => ?_)
    · have hm := it hc1 hm
      obtain ⟨e, h12, hm⟩ := obind hm
      refine X_reg_seq ty_ok Γok hL [(2, .d (Enc.e e)), (3, .d (Enc.e e))] (.cons (idx_m (f := Enc.e) h12) (.cons (idx_m2 (f := Enc.e) h12) .nil)) (by kernel_rfl) ?_
      obtain ⟨r9, h16, hm⟩ := obind hm
      obtain ⟨r10, h17, hm⟩ := obind hm
      obtain ⟨u6, h18, hm⟩ := obind hm
      refine X_draw mixed ty_ok Γok Γlive [(9, []), (10, [64, 368]), (12, [48, 384])] (by kernel_rfl) [(4, .c (s_l2Back_f_r r9) (s_l2Back_f_n r9) (s_l2Back_f_o e.Stops r9)), (7, .c (s_l2Back_f_r r10) (s_l2Back_f_n r10) (s_l2Back_f_o e.Runs r10)), (10, .l (List.map Enc.e (v7 ++ ([(⟨(str [114, 49]), r9, r10⟩ : Line)] : List Line))))] (.cons (s_l2Back_f_c h16) (.cons (s_l2Back_f_c h17) (.cons (app_p (f := Enc.e) (g := Enc.e) (l := v7) (r := ([(⟨(str [114, 49]), r9, r10⟩ : Line)] : List Line)) (b := 64) (chk_t h18) rfl) (.cons (app_m Enc.e v7 ([(⟨(str [114, 49]), r9, r10⟩ : Line)] : List Line)) .nil)))) (by kernel_rfl) ?_
      obtain rfl := some_inj hm
      exact thN (Wk_J hL ⟨[(0, []), (2, []), (4, [])], [(0, 0, []), (32, 32, []), (48, 48, []), (64, 384, [])], [], 96⟩ (by kernel_rfl))
    · have hm := ie hc1 hm
      refine X_skip ?_
      obtain rfl := some_inj hm
      exact thN (Wk_J hL ⟨[(0, []), (2, []), (4, [])], [(0, 0, []), (32, 32, []), (48, 48, []), (64, 64, [])], [], 96⟩ (by kernel_rfl))
  obtain ⟨v8, v9, v10, v11⟩ := vv
  have hm := hk1
  obtain ⟨r11, h19, hm⟩ := obind hm
  refine X_reg_seq ty_ok Γok hL [(1, .fz [64] [] []), (1, .c (s_l2Own_t_r r11) (s_l2Own_t_n r11) (s_l2Own_t_o (⟨((([(str [112, 111, 114, 116]), (str [109, 105, 108, 108]), (str [112, 97, 114, 107]), (str [104, 97, 108, 108]), (str [100, 111, 99, 107]), (str [102, 97, 105, 114])] : List ByteArray).take (w64 (2 + r.1)).toNat).drop (0 : Int).toNat), v11⟩ : Network) r11))] (.cons (s_l2Own_t_c h19) .nil) (by kernel_rfl) ?_
  obtain rfl := some_inj hm
  refine Ok_ret ?_
  repeat (first | refine thR ?_ | refine ibR ?_)
  exact X_fin [112, 113] [] (by kernel_rfl) trivial
abbrev s_l1Cur_among_w_r (y : Int × l1Cur) : AV := .dat (Enc.e y.1)
abbrev s_l1Cur_among_w_n (y : Int × l1Cur) : List Obj' := []
abbrev s_l1Cur_among_w_o (x : l1Cur × (List Int)) (y : Int × l1Cur) : List Obj' := [.box [.dat (Enc.e y.2.code_), .dat (.sc (.int .i64 y.2.at_)), .dat (.sc (.int .u64 y.2.seed_.v))], .arr 3 1 (List.map Enc.e x.2)]
noncomputable def s_l1Cur_among_w_S : FnSpec := modS [.bx, .sl] (fun x : l1Cur × (List Int) => [.sc undef, .sc undef]) (fun x : l1Cur × (List Int) => [.box [.dat (Enc.e x.1.code_), .dat (.sc (.int .i64 x.1.at_)), .dat (.sc (.int .u64 x.1.seed_.v))], .arr 3 1 (List.map Enc.e x.2)]) (fun x : l1Cur × (List Int) => s_l1Cur_among_w x.1 x.2) s_l1Cur_among_w_r s_l1Cur_among_w_n s_l1Cur_among_w_o
theorem s_l1Cur_among_w_c {c : l1Cur} {list : List Int} {y : Int × l1Cur} (h : s_l1Cur_among_w c list = some y) : CallOK s_l1Cur_among_w_S [.sc undef, .sc undef] [.box [.dat (Enc.e c.code_), .dat (.sc (.int .i64 c.at_)), .dat (.sc (.int .u64 c.seed_.v))], .arr 3 1 (List.map Enc.e list)] (s_l1Cur_among_w_r y) (s_l1Cur_among_w_n y) (s_l1Cur_among_w_o (c, list) y) :=
  modS_call (by
    rintro ⟨a0, a1⟩ ⟨b0, b1⟩ h hO
    have q0 : a0 = b0 := Enc.inj _ _ (congrArg (fun l => D.agg (obD l 0)) hO)
    have q1 : a1 = b1 := Enc.inj _ _ (congrArg (fun l => D.sl 1 (obL l 1)) hO)
    subst q0; subst q1; rfl) (x := (c, list)) h
theorem s_l1Cur_among_w_ok : FnOK Try.prog 167 s_l1Cur_among_w_S := by
  have Γok : ∀ f S, lookF f [(103, s_l1Cur_pick_S)] = some S → FnOK Try.prog f S := lookF_ok (allF_cons s_l1Cur_pick_ok allF_nil)
  have Γlive : Live (fun f => lookF f [(103, s_l1Cur_pick_S)]) := lookF_live (allL_cons modS_live allL_nil)
  refine fnOK_mod ty_ok (fun args w => Try.call167 args w) Try.func167 rfl [.tmp 4] (by rw [Try.results167]) 12 Try.ntmps167 16 rfl (fun _ => by first | exact Nat.zero_le _ | (simp)) ?_
  rintro ⟨c, list⟩ y cx hm hL
  have hm : s_l1Cur_among_w c list = some y := hm
  have hL : cx.L = 2 := hL
  unfold s_l1Cur_among_w at hm
  refine X_reg_seq ty_ok Γok hL [] .nil (by kernel_rfl) ?_
  obtain ⟨r, h, hm⟩ := obind hm
  obtain ⟨e, h1, hm⟩ := obind hm
  refine X_reg_seq ty_ok Γok hL [(3, .n (list.length : Int)), (4, .c (s_l1Cur_pick_r r) (s_l1Cur_pick_n r) (s_l1Cur_pick_o (c, (list.length : Int)) r)), (5, .d (Enc.e e)), (6, .d (Enc.e e))] (.cons (len_m Enc.e list) (.cons (s_l1Cur_pick_c h) (.cons (idx_m (f := Enc.e) h1) (.cons (idx_m2 (f := Enc.e) h1) .nil)))) (by kernel_rfl) ?_
  obtain rfl := some_inj hm
  refine Ok_ret ?_
  repeat (first | refine thR ?_ | refine ibR ?_)
  exact X_fin [] [] (by kernel_rfl) trivial
abbrev s_l1Cur_anyNetwork_r (y : Network × l1Cur) : AV := .aggv [.own 0, .dat (Enc.e y.1.Lines)]
abbrev s_l1Cur_anyNetwork_n (y : Network × l1Cur) : List Obj' := [.arr 9 1 (List.map Enc.e y.1.Stops)]
abbrev s_l1Cur_anyNetwork_o (x : l1Cur) (y : Network × l1Cur) : List Obj' := [.box [.dat (Enc.e y.2.code_), .dat (.sc (.int .i64 y.2.at_)), .dat (.sc (.int .u64 y.2.seed_.v))]]
noncomputable def s_l1Cur_anyNetwork_S : FnSpec := modS [.bx] (fun x : l1Cur => [.sc undef]) (fun x : l1Cur => [.box [.dat (Enc.e x.code_), .dat (.sc (.int .i64 x.at_)), .dat (.sc (.int .u64 x.seed_.v))]]) (fun x : l1Cur => s_l1Cur_anyNetwork x) s_l1Cur_anyNetwork_r s_l1Cur_anyNetwork_n s_l1Cur_anyNetwork_o
theorem s_l1Cur_anyNetwork_c {c : l1Cur} {y : Network × l1Cur} (h : s_l1Cur_anyNetwork c = some y) : CallOK s_l1Cur_anyNetwork_S [.sc undef] [.box [.dat (Enc.e c.code_), .dat (.sc (.int .i64 c.at_)), .dat (.sc (.int .u64 c.seed_.v))]] (s_l1Cur_anyNetwork_r y) (s_l1Cur_anyNetwork_n y) (s_l1Cur_anyNetwork_o c y) :=
  modS_call (by
    rintro a0 b0 h hO
    have q0 : a0 = b0 := Enc.inj _ _ (congrArg (fun l => D.agg (obD l 0)) hO)
    subst q0; rfl) (x := c) h
theorem s_l1Cur_anyNetwork_ok : FnOK Try.prog 205 s_l1Cur_anyNetwork_S := by
  have Γok : ∀ f S, lookF f [(235, s_l1Cur_network_t_S), (103, s_l1Cur_pick_S), (236, s_l1Cur_of_w_S), (167, s_l1Cur_among_w_S), (238, s_l1Num_S), (237, s_l1Cur_line_S)] = some S → FnOK Try.prog f S := lookF_ok (allF_cons s_l1Cur_network_t_ok (allF_cons s_l1Cur_pick_ok (allF_cons s_l1Cur_of_w_ok (allF_cons s_l1Cur_among_w_ok (allF_cons s_l1Num_ok (allF_cons s_l1Cur_line_ok allF_nil))))))
  have Γlive : Live (fun f => lookF f [(235, s_l1Cur_network_t_S), (103, s_l1Cur_pick_S), (236, s_l1Cur_of_w_S), (167, s_l1Cur_among_w_S), (238, s_l1Num_S), (237, s_l1Cur_line_S)]) := lookF_live (allL_cons modS_live (allL_cons modS_live (allL_cons modS_live (allL_cons modS_live (allL_cons modS_live (allL_cons modS_live allL_nil))))))
  refine fnOK_mod ty_ok (fun args w => Try.call205 args w) Try.func205 rfl [.cell 2 63] (by rw [Try.results205]) 108 Try.ntmps205 16 rfl (fun _ => by first | exact Nat.zero_le _ | (simp)) ?_
  rintro c y cx hm hL
  have hm : s_l1Cur_anyNetwork c = some y := hm
  have hL : cx.L = 1 := hL
  unfold s_l1Cur_anyNetwork at hm
  refine X_reg_seq ty_ok Γok hL [] .nil (by kernel_rfl) ?_
  obtain ⟨r, h, hm⟩ := obind hm
  refine X_reg_seq ty_ok Γok hL [(1, .c (s_l1Cur_network_t_r r) (s_l1Cur_network_t_n r) (s_l1Cur_network_t_o c r))] (.cons (s_l1Cur_network_t_c h) .nil) (by kernel_rfl) ?_
  obtain ⟨r1, h1, hm⟩ := obind hm
  refine X_reg_seq ty_ok Γok hL [(3, .n (r.1.Lines.length : Int)), (4, .c (s_l1Cur_pick_r r1) (s_l1Cur_pick_n r1) (s_l1Cur_pick_o (r.2, (r.1.Lines.length : Int)) r1))] (.cons (len_m Enc.e r.1.Lines) (.cons (s_l1Cur_pick_c h1) .nil)) (by kernel_rfl) ?_
  obtain ⟨e, h2, hm⟩ := obind hm
  refine X_reg_seq ty_ok Γok hL [(3, .d (Enc.e e)), (4, .d (Enc.e e))] (.cons (idx_m (f := Enc.e) h2) (.cons (idx_m2 (f := Enc.e) h2) .nil)) (by kernel_rfl) ?_
  obtain ⟨v17, hv, hr, hk⟩ := flb_t hm
  refine X_joinF (n := 108) (fun ((v, v1, v2, v3, v4, v5, v6) : (List UInt8) × Int × Int × ByteArray × (List ByteArray) × (List Line) × (List Int)) => (⟨[(0, .ref 0 0), (2, .ref 32 0), (3, .ref 48 0), (4, .dat (.sc (.int .i64 r1.1))), (5, .ref 64 0)], [(0, some (.box [.dat (Enc.e v), .dat (.sc (.int .i64 v1)), .dat (.sc (.int .u64 v2))])), (32, some (.box [.dat (.sc (.slice none 0 0)), .dat (.sc (.slice none 0 0))])), (48, some (.box [.own 80, .own 96])), (64, some (.box [.dat (.sc (.string v3)), .row 96 96 r1.1.toNat 1, .own 112])), (80, some (.arr 9 1 (List.map Enc.e v4))), (96, some (.tab 198 3 [none, some 3, some 3] (List.map Enc.e v5) 96 (some (r1.1.toNat, 2)))), (112, some (.arr 3 1 (List.map Enc.e v6)))], 144⟩ : X)) v17 ?_ ?_
  · have hm := hv
    obtain ⟨r2, h3, hm⟩ := obind hm
    refine X_reg_seq ty_ok Γok hL [(1, .c (s_l1Cur_pick_r r2) (s_l1Cur_pick_n r2) (s_l1Cur_pick_o (r1.2, 24) r2))] (.cons (s_l1Cur_pick_c h3) .nil) (by kernel_rfl) ?_
    refine Ok_block ?_
    refine X_reg_seq ty_ok Γok hL [] .nil (by kernel_rfl) ?_
    refine X_cond (r2.1 == 0) (by kernel_rfl) (fun hc => ?_) (fun hc => ?_)
    · have hm := it hc hm
      obtain ⟨r4, h6, hm⟩ := obind hm
      obtain ⟨e2, h7, hm⟩ := obind hm
      refine X_draw mixed ty_ok Γok Γlive [(4, [0, 416]), (6, [48])] (by kernel_rfl) [(4, .c (s_l1Cur_of_w_r r4) (s_l1Cur_of_w_n r4) (s_l1Cur_of_w_o (r2.2, ([(str [109, 105, 108, 108]), (str []), (str [65]), (str [97, 98, 99, 100, 101, 102, 103, 104]), (str [97, 98, 99, 100, 101, 102, 103, 104, 105])] : List ByteArray)) r4)), (5, .d (Enc.e e2)), (6, .sd (Enc.e e2) (List.map Enc.e (r.1.Stops.set (0 : Int).toNat r4.1)))] (.cons (s_l1Cur_of_w_c h6) (.cons (idx_m (f := Enc.e) h7) (.cons (idx_m2 (f := Enc.e) h7) (.cons (set_m Enc.e r.1.Stops (0 : Int).toNat r4.1) .nil)))) (by kernel_rfl) ?_
      refine ibN ?_
      obtain rfl := some_inj hm
      exact thN ⟨_, rfl, Wk.trans (Wk_S (.c 272 2) (Enc.e e) (.cons (idx_m2 (f := Enc.e) (l := r.1.Lines) (i := r1.1) h2) .nil) (by kernel_rfl)) (Wk_J hL ⟨[(0, []), (2, []), (3, []), (4, []), (5, [])], [(0, 0, []), (32, 16, []), (48, 64, []), (64, 272, []), (80, 48, []), (96, 49, []), (112, 480, [])], [], 144⟩ (by kernel_rfl))⟩
    · have hm := ie hc hm
      refine X_reg_seq ty_ok Γok hL [] .nil (by kernel_rfl) ?_
      refine X_cond (r2.1 == 1) (by kernel_rfl) (fun hc1 => ?_) (fun hc1 => ?_)
      · have hm := it hc1 hm
        obtain ⟨r5, h8, hm⟩ := obind hm
        refine X_reg ty_ok Γok hL [(2, .c (s_l1Cur_of_w_r r5) (s_l1Cur_of_w_n r5) (s_l1Cur_of_w_o (r2.2, ([(str [114, 49]), (str [108, 49]), (str []), (str [88])] : List ByteArray)) r5))] (.cons (s_l1Cur_of_w_c h8) .nil) (by kernel_rfl) ?_
        refine ibN ?_
        obtain rfl := some_inj hm
        exact thN ⟨_, rfl, Wk.trans (Wk_S (.c 272 2) (Enc.e e) (.cons (idx_m2 (f := Enc.e) (l := r.1.Lines) (i := r1.1) h2) .nil) (by kernel_rfl)) (Wk_J hL ⟨[(0, []), (2, []), (3, []), (4, []), (5, [])], [(0, 0, []), (32, 16, []), (48, 64, []), (64, 272, []), (80, 48, []), (96, 49, []), (112, 480, [])], [], 144⟩ (by kernel_rfl))⟩
      · have hm := ie hc1 hm
        refine X_reg_seq ty_ok Γok hL [] .nil (by kernel_rfl) ?_
        refine X_cond (r2.1 == 2) (by kernel_rfl) (fun hc2 => ?_) (fun hc2 => ?_)
        · have hm := it hc2 hm
          obtain ⟨r8, h12, hm⟩ := obind hm
          obtain ⟨r9, h13, hm⟩ := obind hm
          obtain ⟨e4, h14, hm⟩ := obind hm
          refine X_draw mixed ty_ok Γok Γlive [(6, [0]), (8, [0]), (11, [49])] (by kernel_rfl) [(5, .dn (Enc.e e) (e.Stops.length : Int)), (6, .c (s_l1Cur_pick_r r8) (s_l1Cur_pick_n r8) (s_l1Cur_pick_o (r2.2, (e.Stops.length : Int)) r8)), (8, .c (s_l1Cur_pick_r r9) (s_l1Cur_pick_n r9) (s_l1Cur_pick_o (r8.2, 10) r9)), (10, .d (Enc.e e)), (11, .sd2 (Enc.e e) (Enc.e e4) (List.map Enc.e (e.Stops.set r8.1.toNat (w64 (r9.1 - 1)))) (List.map Enc.e (r.1.Lines.set r1.1.toNat (⟨e.Name, (e.Stops.set r8.1.toNat (w64 (r9.1 - 1))), e.Runs⟩ : Line))))] (.cons (idx_m2 (f := Enc.e) h2) (.cons (len_m Enc.e e.Stops) (.cons (s_l1Cur_pick_c h12) (.cons (s_l1Cur_pick_c h13) (.cons (idx_m2 (f := Enc.e) h2) (.cons (idx_b (f := Enc.e) h14) (.cons (idx_m2 (f := Enc.e) h2) (.cons (idx_m2 (f := Enc.e) h14) (.cons (set_m Enc.e e.Stops r8.1.toNat (w64 (r9.1 - 1))) (.cons (set_m Enc.e r.1.Lines r1.1.toNat (⟨e.Name, (e.Stops.set r8.1.toNat (w64 (r9.1 - 1))), e.Runs⟩ : Line)) .nil)))))))))) (by kernel_rfl) ?_
          refine ibN ?_
          obtain rfl := some_inj hm
          exact thN ⟨_, rfl, Wk.trans (Wk_S (.c 272 2) (Enc.e (⟨e.Name, (e.Stops.set r8.1.toNat (w64 (r9.1 - 1))), e.Runs⟩ : Line)) (.cons (idx_m2 (f := Enc.e) (l := (r.1.Lines.set r1.1.toNat (⟨e.Name, (e.Stops.set r8.1.toNat (w64 (r9.1 - 1))), e.Runs⟩ : Line))) (i := r1.1) (idx_set (y := (⟨e.Name, (e.Stops.set r8.1.toNat (w64 (r9.1 - 1))), e.Runs⟩ : Line)) h2)) .nil) (by kernel_rfl)) (Wk_J hL ⟨[(0, []), (2, []), (3, []), (4, []), (5, [])], [(0, 0, []), (32, 16, []), (48, 64, []), (64, 272, []), (80, 48, []), (96, 49, []), (112, 624, [])], [], 144⟩ (by kernel_rfl))⟩
        · have hm := ie hc2 hm
          refine X_reg_seq ty_ok Γok hL [] .nil (by kernel_rfl) ?_
          refine X_cond (r2.1 == 3) (by kernel_rfl) (fun hc3 => ?_) (fun hc3 => ?_)
          · have hm := it hc3 hm
            obtain ⟨r12, h18, hm⟩ := obind hm
            obtain ⟨r13, h19, hm⟩ := obind hm
            obtain ⟨e6, h20, hm⟩ := obind hm
            refine X_draw mixed ty_ok Γok Γlive [(6, [0]), (9, [0, 592]), (11, [49])] (by kernel_rfl) [(5, .dn (Enc.e e) (e.Runs.length : Int)), (6, .c (s_l1Cur_pick_r r12) (s_l1Cur_pick_n r12) (s_l1Cur_pick_o (r2.2, (e.Runs.length : Int)) r12)), (9, .c (s_l1Cur_among_w_r r13) (s_l1Cur_among_w_n r13) (s_l1Cur_among_w_o (r12.2, ([0, 60, 61, (-1)] : List Int)) r13)), (10, .d (Enc.e e)), (11, .sd2 (Enc.e e) (Enc.e e6) (List.map Enc.e (e.Runs.set r12.1.toNat r13.1)) (List.map Enc.e (r.1.Lines.set r1.1.toNat (⟨e.Name, e.Stops, (e.Runs.set r12.1.toNat r13.1)⟩ : Line))))] (.cons (idx_m2 (f := Enc.e) h2) (.cons (len_m Enc.e e.Runs) (.cons (s_l1Cur_pick_c h18) (.cons (s_l1Cur_among_w_c h19) (.cons (idx_m2 (f := Enc.e) h2) (.cons (idx_b (f := Enc.e) h20) (.cons (idx_m2 (f := Enc.e) h2) (.cons (idx_m2 (f := Enc.e) h20) (.cons (set_m Enc.e e.Runs r12.1.toNat r13.1) (.cons (set_m Enc.e r.1.Lines r1.1.toNat (⟨e.Name, e.Stops, (e.Runs.set r12.1.toNat r13.1)⟩ : Line)) .nil)))))))))) (by kernel_rfl) ?_
            refine ibN ?_
            obtain rfl := some_inj hm
            exact thN ⟨_, rfl, Wk.trans (Wk_S (.c 272 2) (Enc.e (⟨e.Name, e.Stops, (e.Runs.set r12.1.toNat r13.1)⟩ : Line)) (.cons (idx_m2 (f := Enc.e) (l := (r.1.Lines.set r1.1.toNat (⟨e.Name, e.Stops, (e.Runs.set r12.1.toNat r13.1)⟩ : Line))) (i := r1.1) (idx_set (y := (⟨e.Name, e.Stops, (e.Runs.set r12.1.toNat r13.1)⟩ : Line)) h2)) .nil) (by kernel_rfl)) (Wk_J hL ⟨[(0, []), (2, []), (3, []), (4, []), (5, [])], [(0, 0, []), (32, 16, []), (48, 64, []), (64, 272, []), (80, 48, []), (96, 49, []), (112, 656, [])], [], 144⟩ (by kernel_rfl))⟩
          · have hm := ie hc3 hm
            refine X_reg_seq ty_ok Γok hL [] .nil (by kernel_rfl) ?_
            refine X_cond (r2.1 == 4) (by kernel_rfl) (fun hc4 => ?_) (fun hc4 => ?_)
            · have hm := it hc4 hm
              obtain ⟨u, h21, hm⟩ := obind hm
              refine X_reg ty_ok Γok hL [(3, .sd (Enc.e e) (List.map Enc.e (e.Runs ++ ([3] : List Int))))] (.cons (idx_m2 (f := Enc.e) h2) (.cons (app_p (f := Enc.e) (g := Enc.e) (l := e.Runs) (r := ([3] : List Int)) (b := 8) (chk_t h21) rfl) (.cons (app_m Enc.e e.Runs ([3] : List Int)) .nil))) (by kernel_rfl) ?_
              refine ibN ?_
              obtain rfl := some_inj hm
              exact thN ⟨_, rfl, Wk_J hL ⟨[(0, []), (2, []), (3, []), (4, []), (5, [])], [(0, 0, []), (32, 16, []), (48, 64, []), (64, 272, []), (80, 48, []), (96, 49, []), (112, 544, [])], [], 144⟩ (by kernel_rfl)⟩
            · have hm := ie hc4 hm
              refine X_reg_seq ty_ok Γok hL [] .nil (by kernel_rfl) ?_
              refine X_cond (r2.1 == 5) (by kernel_rfl) (fun hc5 => ?_) (fun hc5 => ?_)
              · have hm := it hc5 hm
                refine X_reg_seq ty_ok Γok hL [] .nil (by kernel_rfl) ?_
                refine X_reg_seq ty_ok Γok hL [] .nil (by kernel_rfl) ?_
                obtain rfl := some_inj hm
                have hm := congrArg some (hr _ rfl)
                obtain rfl := some_inj hm
                refine Ok_ret ?_
                repeat (first | refine thR ?_ | refine ibR ?_)
                exact X_fin [48] [] (by kernel_rfl) trivial
              · have hm := ie hc5 hm
                refine X_reg_seq ty_ok Γok hL [] .nil (by kernel_rfl) ?_
                refine X_cond (r2.1 == 6) (by kernel_rfl) (fun hc6 => ?_) (fun hc6 => ?_)
                · have hm := it hc6 hm
                  refine Ok_seq ?_
                  refine X_reg_seq ty_ok Γok hL [] .nil (by kernel_rfl) ?_
                  obtain ⟨vv, hv2, hk2⟩ := obind hm
                  refine X_tail (n := 108) (fun ((v13, v14, v15, v16) : (List UInt8) × Int × Int × (List Line)) => (⟨[(0, .ref 0 0), (2, .ref 32 0), (3, .ref 48 0)], [(0, some (.box [.dat (Enc.e v13), .dat (.sc (.int .i64 v14)), .dat (.sc (.int .u64 v15))])), (32, some (.box [.dat (.sc (.slice none 0 0)), .dat (.sc (.slice none 0 0))])), (48, some (.box [.own 64, .own 80])), (64, some (.arr 9 1 (List.map Enc.e r.1.Stops))), (80, some (.tab 198 3 [none, some 3, some 3] (List.map Enc.e v16) 80 none))], 112⟩ : X)) vv ?_ ?_
                  · have hm := hv2
                    refine Ok_block ?_
                    refine X_loop (n := 108) (step := s_l1Cur_anyNetwork_L1 r) (fun ((v7, v8, v9, v10, v11) : Int × (List UInt8) × Int × Int × (List Line)) => (⟨[(0, .ref 0 0), (2, .ref 32 0), (3, .ref 48 0), (6, .dat (.sc (.int .i64 v7)))], [(0, some (.box [.dat (Enc.e v8), .dat (.sc (.int .i64 v9)), .dat (.sc (.int .u64 v10))])), (32, some (.box [.dat (.sc (.slice none 0 0)), .dat (.sc (.slice none 0 0))])), (48, some (.box [.own 64, .own 80])), (64, some (.arr 9 1 (List.map Enc.e r.1.Stops))), (80, some (.tab 198 3 [none, some 3, some 3] (List.map Enc.e v11) 80 none))], 112⟩ : X)) hm (Wk_J hL ⟨[(0, []), (2, []), (3, []), (6, [])], [(0, 0, []), (32, 16, []), (48, 64, []), (64, 48, []), (80, 49, [])], [], 112⟩ (by kernel_rfl)) ?_
                    rintro ⟨v7, v8, v9, v10, v11⟩ r0 hm hb
                    rw [s_l1Cur_anyNetwork_L1] at hm
                    refine Ok_seq ?_
                    obtain ⟨r16, h23, hm⟩ := obind hm
                    obtain ⟨v12, hv1, hk1⟩ := obind hm
                    refine X_join (n := 108) (fun (v12 : Bool) => (⟨[(0, .ref 0 0), (2, .ref 32 0), (3, .ref 48 0), (6, .dat (.sc (.int .i64 v7))), (85, .dat (.sc (.bool v12)))], [(0, some (.box [.dat (Enc.e r16.2.code_), .dat (.sc (.int .i64 r16.2.at_)), .dat (.sc (.int .u64 r16.2.seed_.v))])), (32, some (.box [.dat (.sc (.slice none 0 0)), .dat (.sc (.slice none 0 0))])), (48, some (.box [.own 64, .own 80])), (64, some (.arr 9 1 (List.map Enc.e r.1.Stops))), (80, some (.tab 198 3 [none, some 3, some 3] (List.map Enc.e v11) 80 none))], 112⟩ : X)) v12 ?_ ?_
                    · have hm := hv1
                      rcases btf (decide ((v11.length : Int) < (w64 (5 + r16.1)))) with hb1 | hb1
                      · have hm := it hb1 hm
                        obtain rfl := some_inj hm
                        refine X_draw mixed ty_ok Γok Γlive [(4, [0])] (by kernel_rfl) [(2, .n (v11.length : Int)), (4, .c (s_l1Cur_pick_r r16) (s_l1Cur_pick_n r16) (s_l1Cur_pick_o ((⟨v8, v9, (⟨v10⟩ : IK .u64)⟩ : l1Cur), 2) r16)), (7, .b true)] (.cons (len_m Enc.e v11) (.cons (s_l1Cur_pick_c h23) (.cons hb1 .nil))) (by kernel_rfl) ?_
                        exact thN (Wk_J hL ⟨[(0, []), (2, []), (3, []), (6, []), (85, [])], [(0, 0, []), (32, 32, []), (48, 48, []), (64, 64, []), (80, 80, [])], [], 112⟩ (by kernel_rfl))
                      · have hm := ie hb1 hm
                        obtain rfl := some_inj hm
                        refine X_draw mixed ty_ok Γok Γlive [(4, [0])] (by kernel_rfl) [(2, .n (v11.length : Int)), (4, .c (s_l1Cur_pick_r r16) (s_l1Cur_pick_n r16) (s_l1Cur_pick_o ((⟨v8, v9, (⟨v10⟩ : IK .u64)⟩ : l1Cur), 2) r16)), (7, .b false)] (.cons (len_m Enc.e v11) (.cons (s_l1Cur_pick_c h23) (.cons hb1 .nil))) (by kernel_rfl) ?_
                        exact thN (Wk_J hL ⟨[(0, []), (2, []), (3, []), (6, []), (85, [])], [(0, 0, []), (32, 32, []), (48, 48, []), (64, 64, []), (80, 80, [])], [], 112⟩ (by kernel_rfl))
                    have hm := hk1
                    refine X_cond v12 (by kernel_rfl) (fun hc7 => ?_) (fun hc7 => ?_)
                    · have hm := it hc7 hm
                      refine X_skip ?_
                      refine thN ?_
                      refine Ok_seq ?_
                      refine Ok_block ?_
                      obtain ⟨r19, h28, hm⟩ := obind hm
                      obtain ⟨u3, h29, hm⟩ := obind hm
                      obtain ⟨r20, h30, hm⟩ := obind hm
                      obtain ⟨u4, h31, hm⟩ := obind hm
                      refine X_draw mixed ty_ok Γok Γlive [(9, [0]), (10, [256, 257]), (11, [80, 272]), (13, [48, 288])] (by kernel_rfl) [(4, .c (s_l1Num_r r19) (s_l1Num_n r19) (s_l1Num_o v7 r19)), (8, .n (r.1.Stops.length : Int)), (9, .c (s_l1Cur_line_r r20) (s_l1Cur_line_n r20) (s_l1Cur_line_o (r16.2, ((str [120]) ++ r19), (r.1.Stops.length : Int)) r20)), (11, .l (List.map Enc.e (v11 ++ ([(⟨r20.1.Name, r20.1.Stops, r20.1.Runs⟩ : Line)] : List Line))))] (.cons (s_l1Num_c h28) (.cons (cat_p (chk_t h29)) (.cons (len_m Enc.e r.1.Stops) (.cons (s_l1Cur_line_c h30) (.cons (nodupB_ok (l := [256, 257]) rfl) (.cons (app_p (f := Enc.e) (g := Enc.e) (l := v11) (r := ([(⟨r20.1.Name, r20.1.Stops, r20.1.Runs⟩ : Line)] : List Line)) (b := 64) (chk_t h31) rfl) (.cons (app_m Enc.e v11 ([(⟨r20.1.Name, r20.1.Stops, r20.1.Runs⟩ : Line)] : List Line)) .nil))))))) (by kernel_rfl) ?_
                      refine ibN ?_
                      refine thN ?_
                      refine X_reg ty_ok Γok hL [] .nil (by kernel_rfl) ?_
                      obtain rfl := some_inj hm
                      exact thN ⟨_, rfl, Wk_J hL ⟨[(0, []), (2, []), (3, []), (6, [])], [(0, 0, []), (32, 32, []), (48, 48, []), (64, 64, []), (80, 288, [])], [], 112⟩ (by kernel_rfl)⟩
                    · have hm := ie hc7 hm
                      obtain rfl := some_inj hm
                      obtain rfl := hb _ rfl
                      refine Ok_exit ?_
                      refine thE ?_
                      refine thE ?_
                      refine ibE ?_
                      exact thN (Wk_J hL ⟨[(0, []), (2, []), (3, [])], [(0, 0, []), (32, 32, []), (48, 48, []), (64, 64, []), (80, 80, [])], [], 112⟩ (by kernel_rfl))
                  obtain ⟨v13, v14, v15, v16⟩ := vv
                  intro s hw
                  have hm := hk2
                  refine thN ?_
                  refine Ok_weak hw ?_
                  refine X_reg_seq ty_ok Γok hL [] .nil (by kernel_rfl) ?_
                  obtain rfl := some_inj hm
                  have hm := congrArg some (hr _ rfl)
                  obtain rfl := some_inj hm
                  refine Ok_ret ?_
                  repeat (first | refine thR ?_ | refine ibR ?_)
                  exact X_fin [64] [] (by kernel_rfl) trivial
                · have hm := ie hc6 hm
                  refine X_skip ?_
                  refine ibN ?_
                  obtain rfl := some_inj hm
                  exact thN ⟨_, rfl, Wk.trans (Wk_S (.c 272 2) (Enc.e e) (.cons (idx_m2 (f := Enc.e) (l := r.1.Lines) (i := r1.1) h2) .nil) (by kernel_rfl)) (Wk_J hL ⟨[(0, []), (2, []), (3, []), (4, []), (5, [])], [(0, 0, []), (32, 16, []), (48, 64, []), (64, 272, []), (80, 48, []), (96, 49, []), (112, 560, [])], [], 144⟩ (by kernel_rfl))⟩
  rintro ⟨v, v1, v2, v3, v4, v5, v6⟩ hu
  have hm := hk _ hu
  obtain ⟨e9, h32, hm⟩ := obind hm
  refine X_reg_seq ty_ok Γok hL [(4, .d (Enc.e e9)), (5, .sd (Enc.e e9) (List.map Enc.e (v5.set r1.1.toNat (⟨v3, e9.Stops, v6⟩ : Line))))] (.cons (idx_m (f := Enc.e) h32) (.cons (idx_m2 (f := Enc.e) h32) (.cons (set_m Enc.e v5 r1.1.toNat (⟨v3, e9.Stops, v6⟩ : Line)) (.cons (Eq.refl r1.1.toNat) (.cons (Eq.refl r1.1.toNat) .nil))))) (by kernel_rfl) ?_
  refine X_reg_seq ty_ok Γok hL [] .nil (by kernel_rfl) ?_
  obtain rfl := some_inj hm
  refine Ok_ret ?_
  repeat (first | refine thR ?_ | refine ibR ?_)
  exact X_fin [80] [] (by kernel_rfl) trivial
abbrev s_l1Cur_anyTimetable_r (y : Timetable × l1Cur) : AV := .aggv [.own 0, .dat (Enc.e y.1.Network.Lines), .own 1]
abbrev s_l1Cur_anyTimetable_n (y : Timetable × l1Cur) : List Obj' := [.arr 9 1 (List.map Enc.e y.1.Network.Stops), .arr 196 3 (List.map Enc.e y.1.Trips)]
abbrev s_l1Cur_anyTimetable_o (x : l1Cur) (y : Timetable × l1Cur) : List Obj' := [.box [.dat (Enc.e y.2.code_), .dat (.sc (.int .i64 y.2.at_)), .dat (.sc (.int .u64 y.2.seed_.v))]]
noncomputable def s_l1Cur_anyTimetable_S : FnSpec := modS [.bx] (fun x : l1Cur => [.sc undef]) (fun x : l1Cur => [.box [.dat (Enc.e x.code_), .dat (.sc (.int .i64 x.at_)), .dat (.sc (.int .u64 x.seed_.v))]]) (fun x : l1Cur => s_l1Cur_anyTimetable x) s_l1Cur_anyTimetable_r s_l1Cur_anyTimetable_n s_l1Cur_anyTimetable_o
theorem s_l1Cur_anyTimetable_c {c : l1Cur} {y : Timetable × l1Cur} (h : s_l1Cur_anyTimetable c = some y) : CallOK s_l1Cur_anyTimetable_S [.sc undef] [.box [.dat (Enc.e c.code_), .dat (.sc (.int .i64 c.at_)), .dat (.sc (.int .u64 c.seed_.v))]] (s_l1Cur_anyTimetable_r y) (s_l1Cur_anyTimetable_n y) (s_l1Cur_anyTimetable_o c y) :=
  modS_call (by
    rintro a0 b0 h hO
    have q0 : a0 = b0 := Enc.inj _ _ (congrArg (fun l => D.agg (obD l 0)) hO)
    subst q0; rfl) (x := c) h
theorem s_l1Cur_anyTimetable_ok : FnOK Try.prog 245 s_l1Cur_anyTimetable_S := by
  have Γok : ∀ f S, lookF f [(270, s_l1Cur_timetable_S), (103, s_l1Cur_pick_S), (167, s_l1Cur_among_S), (205, s_l1Cur_anyNetwork_S)] = some S → FnOK Try.prog f S := lookF_ok (allF_cons s_l1Cur_timetable_ok (allF_cons s_l1Cur_pick_ok (allF_cons s_l1Cur_among_ok (allF_cons s_l1Cur_anyNetwork_ok allF_nil))))
  have Γlive : Live (fun f => lookF f [(270, s_l1Cur_timetable_S), (103, s_l1Cur_pick_S), (167, s_l1Cur_among_S), (205, s_l1Cur_anyNetwork_S)]) := lookF_live (allL_cons modS_live (allL_cons modS_live (allL_cons modS_live (allL_cons modS_live allL_nil))))
  refine fnOK_mod ty_ok (fun args w => Try.call245 args w) Try.func245 rfl [.cell 2 101] (by rw [Try.results245]) 81 Try.ntmps245 16 rfl (fun _ => by first | exact Nat.zero_le _ | (simp)) ?_
  rintro c y cx hm hL
  have hm : s_l1Cur_anyTimetable c = some y := hm
  have hL : cx.L = 1 := hL
  unfold s_l1Cur_anyTimetable at hm
  refine X_reg_seq ty_ok Γok hL [] .nil (by kernel_rfl) ?_
  obtain ⟨r, h, hm⟩ := obind hm
  refine X_reg_seq ty_ok Γok hL [(1, .c (s_l1Cur_timetable_r r) (s_l1Cur_timetable_n r) (s_l1Cur_timetable_o c r))] (.cons (s_l1Cur_timetable_c h) .nil) (by kernel_rfl) ?_
  refine Ok_seq ?_
  refine X_reg_seq ty_ok Γok hL [(2, .n (r.1.Trips.length : Int))] (.cons (len_m Enc.e r.1.Trips) .nil) (by kernel_rfl) ?_
  refine X_cond ((r.1.Trips.length : Int) == 0) (by kernel_rfl) (fun hc => ?_) (fun hc => ?_)
  · have hm := it hc hm
    refine X_reg_seq ty_ok Γok hL [] .nil (by kernel_rfl) ?_
    obtain rfl := some_inj hm
    refine Ok_ret ?_
    repeat (first | refine thR ?_ | refine ibR ?_)
    exact X_fin [48, 50] [] (by kernel_rfl) trivial
  · have hm := ie hc hm
    refine X_skip ?_
    refine thN ?_
    obtain ⟨r1, h1, hm⟩ := obind hm
    refine X_reg_seq ty_ok Γok hL [(3, .n (r.1.Trips.length : Int)), (4, .c (s_l1Cur_pick_r r1) (s_l1Cur_pick_n r1) (s_l1Cur_pick_o (r.2, (r.1.Trips.length : Int)) r1))] (.cons (len_m Enc.e r.1.Trips) (.cons (s_l1Cur_pick_c h1) .nil)) (by kernel_rfl) ?_
    obtain ⟨e, h2, hm⟩ := obind hm
    refine X_reg_seq ty_ok Γok hL [(3, .d (Enc.e e)), (4, .d (Enc.e e))] (.cons (idx_m (f := Enc.e) h2) (.cons (idx_m2 (f := Enc.e) h2) .nil)) (by kernel_rfl) ?_
    obtain ⟨v18, hv, hr, hk⟩ := flb_t hm
    refine X_joinF (n := 81) (fun ((v, v1, v2, v3, v4, v5, v6, v7) : (List UInt8) × Int × Int × (List Line) × Int × Int × Int × (List ByteArray)) => (⟨[(0, .ref 0 0), (2, .ref 32 0), (3, .ref 48 0), (4, .dat (.sc (.int .i64 r1.1))), (5, .ref 64 0)], [(0, some (.box [.dat (Enc.e v), .dat (.sc (.int .i64 v1)), .dat (.sc (.int .u64 v2))])), (32, some (.box [.dat (.sc (.slice none 0 0)), .dat (.sc (.slice none 0 0)), .dat (.sc (.slice none 0 0))])), (48, some (.box [.own 80, .dat (Enc.e v3), .own 96])), (64, some (.box [.dat (.sc (.int .i64 v4)), .dat (.sc (.int .i64 v5)), .dat (.sc (.int .i64 v6))])), (80, some (.arr 9 1 (List.map Enc.e v7))), (96, some (.arr 196 3 (List.map Enc.e r.1.Trips)))], 128⟩ : X)) v18 ?_ ?_
    · have hm := hv
      obtain ⟨r2, h3, hm⟩ := obind hm
      refine X_reg_seq ty_ok Γok hL [(1, .c (s_l1Cur_pick_r r2) (s_l1Cur_pick_n r2) (s_l1Cur_pick_o (r1.2, 24) r2))] (.cons (s_l1Cur_pick_c h3) .nil) (by kernel_rfl) ?_
      refine Ok_block ?_
      refine X_reg_seq ty_ok Γok hL [] .nil (by kernel_rfl) ?_
      refine X_cond (r2.1 == 0) (by kernel_rfl) (fun hc1 => ?_) (fun hc1 => ?_)
      · have hm := it hc1 hm
        obtain ⟨r3, h4, hm⟩ := obind hm
        refine X_reg ty_ok Γok hL [(2, .fz [448] [] []), (2, .c (s_l1Cur_among_r r3) (s_l1Cur_among_n r3) (s_l1Cur_among_o (r2.2, ([0, 999, 1000, 2] : List Int)) r3))] (.cons (s_l1Cur_among_c h4) .nil) (by kernel_rfl) ?_
        refine ibN ?_
        obtain rfl := some_inj hm
        exact thN ⟨_, rfl, Wk_J hL ⟨[(0, []), (2, []), (3, []), (4, []), (5, [])], [(0, 0, []), (32, 16, []), (48, 64, []), (64, 336, []), (80, 48, []), (96, 50, [])], [], 128⟩ (by kernel_rfl)⟩
      · have hm := ie hc1 hm
        refine X_reg_seq ty_ok Γok hL [] .nil (by kernel_rfl) ?_
        refine X_cond (r2.1 == 1) (by kernel_rfl) (fun hc2 => ?_) (fun hc2 => ?_)
        · have hm := it hc2 hm
          obtain ⟨r4, h5, hm⟩ := obind hm
          refine X_reg ty_ok Γok hL [(1, .c (s_l1Cur_pick_r r4) (s_l1Cur_pick_n r4) (s_l1Cur_pick_o (r2.2, 7) r4))] (.cons (s_l1Cur_pick_c h5) .nil) (by kernel_rfl) ?_
          refine ibN ?_
          obtain rfl := some_inj hm
          exact thN ⟨_, rfl, Wk_J hL ⟨[(0, []), (2, []), (3, []), (4, []), (5, [])], [(0, 0, []), (32, 16, []), (48, 64, []), (64, 336, []), (80, 48, []), (96, 50, [])], [], 128⟩ (by kernel_rfl)⟩
        · have hm := ie hc2 hm
          refine X_reg_seq ty_ok Γok hL [] .nil (by kernel_rfl) ?_
          refine X_cond (r2.1 == 2) (by kernel_rfl) (fun hc3 => ?_) (fun hc3 => ?_)
          · have hm := it hc3 hm
            obtain ⟨r5, h6, hm⟩ := obind hm
            refine X_reg ty_ok Γok hL [(2, .fz [512] [] []), (2, .c (s_l1Cur_among_r r5) (s_l1Cur_among_n r5) (s_l1Cur_among_o (r2.2, ([(-1), 0, 1799, 1798, 1800] : List Int)) r5))] (.cons (s_l1Cur_among_c h6) .nil) (by kernel_rfl) ?_
            refine ibN ?_
            obtain rfl := some_inj hm
            exact thN ⟨_, rfl, Wk_J hL ⟨[(0, []), (2, []), (3, []), (4, []), (5, [])], [(0, 0, []), (32, 16, []), (48, 64, []), (64, 336, []), (80, 48, []), (96, 50, [])], [], 128⟩ (by kernel_rfl)⟩
          · have hm := ie hc3 hm
            refine X_reg_seq ty_ok Γok hL [] .nil (by kernel_rfl) ?_
            refine X_cond (r2.1 == 3) (by kernel_rfl) (fun hc4 => ?_) (fun hc4 => ?_)
            · have hm := it hc4 hm
              obtain ⟨r6, h7, hm⟩ := obind hm
              refine X_reg ty_ok Γok hL [(1, .c (s_l1Cur_anyNetwork_r r6) (s_l1Cur_anyNetwork_n r6) (s_l1Cur_anyNetwork_o r2.2 r6))] (.cons (s_l1Cur_anyNetwork_c h7) .nil) (by kernel_rfl) ?_
              refine ibN ?_
              obtain rfl := some_inj hm
              exact thN ⟨_, rfl, Wk_J hL ⟨[(0, []), (2, []), (3, []), (4, []), (5, [])], [(0, 0, []), (32, 16, []), (48, 64, []), (64, 336, []), (80, 544, []), (96, 50, [])], [], 128⟩ (by kernel_rfl)⟩
            · have hm := ie hc4 hm
              refine X_reg_seq ty_ok Γok hL [] .nil (by kernel_rfl) ?_
              refine X_cond (r2.1 == 4) (by kernel_rfl) (fun hc5 => ?_) (fun hc5 => ?_)
              · have hm := it hc5 hm
                refine Ok_seq ?_
                refine X_reg_seq ty_ok Γok hL [] .nil (by kernel_rfl) ?_
                obtain ⟨vv, hv2, hk2⟩ := obind hm
                refine X_tail (n := 81) (fun ((v14, v15, v16, v17) : (List UInt8) × Int × Int × (List Trip)) => (⟨[(0, .ref 0 0), (2, .ref 32 0), (3, .ref 48 0)], [(0, some (.box [.dat (Enc.e v14), .dat (.sc (.int .i64 v15)), .dat (.sc (.int .u64 v16))])), (32, some (.box [.dat (.sc (.slice none 0 0)), .dat (.sc (.slice none 0 0)), .dat (.sc (.slice none 0 0))])), (48, some (.box [.own 64, .own 80, .own 96])), (64, some (.arr 9 1 (List.map Enc.e r.1.Network.Stops))), (80, some (.arr 198 3 (List.map Enc.e r.1.Network.Lines))), (96, some (.arr 196 3 (List.map Enc.e v17)))], 128⟩ : X)) vv ?_ ?_
                · have hm := hv2
                  refine Ok_block ?_
                  refine X_loop (n := 81) (step := s_l1Cur_anyTimetable_L1) (fun ((v8, v9, v10, v11, v12) : Int × (List UInt8) × Int × Int × (List Trip)) => (⟨[(0, .ref 0 0), (2, .ref 32 0), (3, .ref 48 0), (6, .dat (.sc (.int .i64 v8)))], [(0, some (.box [.dat (Enc.e v9), .dat (.sc (.int .i64 v10)), .dat (.sc (.int .u64 v11))])), (32, some (.box [.dat (.sc (.slice none 0 0)), .dat (.sc (.slice none 0 0)), .dat (.sc (.slice none 0 0))])), (48, some (.box [.own 64, .own 80, .own 96])), (64, some (.arr 9 1 (List.map Enc.e r.1.Network.Stops))), (80, some (.arr 198 3 (List.map Enc.e r.1.Network.Lines))), (96, some (.arr 196 3 (List.map Enc.e v12)))], 128⟩ : X)) hm (Wk_J hL ⟨[(0, []), (2, []), (3, []), (6, [])], [(0, 0, []), (32, 16, []), (48, 64, []), (64, 48, []), (80, 49, []), (96, 50, [])], [], 128⟩ (by kernel_rfl)) ?_
                  rintro ⟨v8, v9, v10, v11, v12⟩ r0 hm hb
                  rw [s_l1Cur_anyTimetable_L1] at hm
                  refine Ok_seq ?_
                  obtain ⟨r8, h9, hm⟩ := obind hm
                  obtain ⟨v13, hv1, hk1⟩ := obind hm
                  refine X_join (n := 81) (fun (v13 : Bool) => (⟨[(0, .ref 0 0), (2, .ref 32 0), (3, .ref 48 0), (6, .dat (.sc (.int .i64 v8))), (61, .dat (.sc (.bool v13)))], [(0, some (.box [.dat (Enc.e r8.2.code_), .dat (.sc (.int .i64 r8.2.at_)), .dat (.sc (.int .u64 r8.2.seed_.v))])), (32, some (.box [.dat (.sc (.slice none 0 0)), .dat (.sc (.slice none 0 0)), .dat (.sc (.slice none 0 0))])), (48, some (.box [.own 64, .own 80, .own 96])), (64, some (.arr 9 1 (List.map Enc.e r.1.Network.Stops))), (80, some (.arr 198 3 (List.map Enc.e r.1.Network.Lines))), (96, some (.arr 196 3 (List.map Enc.e v12)))], 128⟩ : X)) v13 ?_ ?_
                  · have hm := hv1
                    rcases btf (decide ((v12.length : Int) < (w64 (12 + r8.1)))) with hb1 | hb1
                    · have hm := it hb1 hm
                      obtain rfl := some_inj hm
                      refine X_draw mixed ty_ok Γok Γlive [(4, [0])] (by kernel_rfl) [(2, .n (v12.length : Int)), (4, .c (s_l1Cur_pick_r r8) (s_l1Cur_pick_n r8) (s_l1Cur_pick_o ((⟨v9, v10, (⟨v11⟩ : IK .u64)⟩ : l1Cur), 2) r8)), (7, .b true)] (.cons (len_m Enc.e v12) (.cons (s_l1Cur_pick_c h9) (.cons hb1 .nil))) (by kernel_rfl) ?_
                      exact thN (Wk_J hL ⟨[(0, []), (2, []), (3, []), (6, []), (61, [])], [(0, 0, []), (32, 32, []), (48, 48, []), (64, 64, []), (80, 80, []), (96, 96, [])], [], 128⟩ (by kernel_rfl))
                    · have hm := ie hb1 hm
                      obtain rfl := some_inj hm
                      refine X_draw mixed ty_ok Γok Γlive [(4, [0])] (by kernel_rfl) [(2, .n (v12.length : Int)), (4, .c (s_l1Cur_pick_r r8) (s_l1Cur_pick_n r8) (s_l1Cur_pick_o ((⟨v9, v10, (⟨v11⟩ : IK .u64)⟩ : l1Cur), 2) r8)), (7, .b false)] (.cons (len_m Enc.e v12) (.cons (s_l1Cur_pick_c h9) (.cons hb1 .nil))) (by kernel_rfl) ?_
                      exact thN (Wk_J hL ⟨[(0, []), (2, []), (3, []), (6, []), (61, [])], [(0, 0, []), (32, 32, []), (48, 48, []), (64, 64, []), (80, 80, []), (96, 96, [])], [], 128⟩ (by kernel_rfl))
                  have hm := hk1
                  refine X_cond v13 (by kernel_rfl) (fun hc6 => ?_) (fun hc6 => ?_)
                  · have hm := it hc6 hm
                    refine X_skip ?_
                    refine thN ?_
                    refine Ok_seq ?_
                    refine Ok_block ?_
                    obtain ⟨u, h10, hm⟩ := obind hm
                    refine X_reg ty_ok Γok hL [(8, .l (List.map Enc.e (v12 ++ ([(⟨(w64 (100 + v8)), 0, (w64 (400 + v8))⟩ : Trip)] : List Trip))))] (.cons (app_p (f := Enc.e) (g := Enc.e) (l := v12) (r := ([(⟨(w64 (100 + v8)), 0, (w64 (400 + v8))⟩ : Trip)] : List Trip)) (b := 24) (chk_t h10) rfl) (.cons (app_m Enc.e v12 ([(⟨(w64 (100 + v8)), 0, (w64 (400 + v8))⟩ : Trip)] : List Trip)) .nil)) (by kernel_rfl) ?_
                    refine ibN ?_
                    refine thN ?_
                    refine X_reg ty_ok Γok hL [] .nil (by kernel_rfl) ?_
                    obtain rfl := some_inj hm
                    exact thN ⟨_, rfl, Wk_J hL ⟨[(0, []), (2, []), (3, []), (6, [])], [(0, 0, []), (32, 32, []), (48, 48, []), (64, 64, []), (80, 80, []), (96, 256, [])], [], 128⟩ (by kernel_rfl)⟩
                  · have hm := ie hc6 hm
                    obtain rfl := some_inj hm
                    obtain rfl := hb _ rfl
                    refine Ok_exit ?_
                    refine thE ?_
                    refine thE ?_
                    refine ibE ?_
                    exact thN (Wk_J hL ⟨[(0, []), (2, []), (3, [])], [(0, 0, []), (32, 32, []), (48, 48, []), (64, 64, []), (80, 80, []), (96, 96, [])], [], 128⟩ (by kernel_rfl))
                obtain ⟨v14, v15, v16, v17⟩ := vv
                intro s hw
                have hm := hk2
                refine thN ?_
                refine Ok_weak hw ?_
                refine X_reg_seq ty_ok Γok hL [] .nil (by kernel_rfl) ?_
                obtain rfl := some_inj hm
                have hm := congrArg some (hr _ rfl)
                obtain rfl := some_inj hm
                refine Ok_ret ?_
                repeat (first | refine thR ?_ | refine ibR ?_)
                exact X_fin [64, 96] [] (by kernel_rfl) trivial
              · have hm := ie hc5 hm
                refine X_skip ?_
                refine ibN ?_
                obtain rfl := some_inj hm
                exact thN ⟨_, rfl, Wk_J hL ⟨[(0, []), (2, []), (3, []), (4, []), (5, [])], [(0, 0, []), (32, 16, []), (48, 64, []), (64, 336, []), (80, 48, []), (96, 50, [])], [], 128⟩ (by kernel_rfl)⟩
    rintro ⟨v, v1, v2, v3, v4, v5, v6, v7⟩ hu
    have hm := hk _ hu
    obtain ⟨e2, h11, hm⟩ := obind hm
    refine X_reg_seq ty_ok Γok hL [(4, .d (Enc.e e2)), (5, .sd (Enc.e e2) (List.map Enc.e (r.1.Trips.set r1.1.toNat (⟨v4, v5, v6⟩ : Trip))))] (.cons (idx_m (f := Enc.e) h11) (.cons (idx_m2 (f := Enc.e) h11) (.cons (set_m Enc.e r.1.Trips r1.1.toNat (⟨v4, v5, v6⟩ : Trip)) .nil))) (by kernel_rfl) ?_
    refine X_reg_seq ty_ok Γok hL [] .nil (by kernel_rfl) ?_
    obtain rfl := some_inj hm
    refine Ok_ret ?_
    repeat (first | refine thR ?_ | refine ibR ?_)
    exact X_fin [80, 96] [] (by kernel_rfl) trivial
abbrev s_l1Most_r (y : Int) : AV := .dat (Enc.e y)
abbrev s_l1Most_n (y : Int) : List Obj' := []
abbrev s_l1Most_o (x : Int × Int) (y : Int) : List Obj' := []
noncomputable def s_l1Most_S : FnSpec := modS [.rd, .rd] (fun x : Int × Int => [Enc.e x.1, Enc.e x.2]) (fun x : Int × Int => []) (fun x : Int × Int => s_l1Most x.1 x.2) s_l1Most_r s_l1Most_n s_l1Most_o
theorem s_l1Most_c {a : Int} {b : Int} {y : Int} (h : s_l1Most a b = some y) : CallOK s_l1Most_S [Enc.e a, Enc.e b] [] (s_l1Most_r y) (s_l1Most_n y) (s_l1Most_o (a, b) y) :=
  modS_call (by
    rintro ⟨a0, a1⟩ ⟨b0, b1⟩ h hO
    have q0 : a0 = b0 := Enc.inj _ _ (congrArg (fun l => List.getD l 0 (.sc undef)) h)
    have q1 : a1 = b1 := Enc.inj _ _ (congrArg (fun l => List.getD l 1 (.sc undef)) h)
    subst q0; subst q1; rfl) (x := (a, b)) h
theorem s_l1Most_ok : FnOK Try.prog 181 s_l1Most_S := by
  have Γok : ∀ f S, lookF f [] = some S → FnOK Try.prog f S := lookF_ok allF_nil
  have Γlive : Live (fun f => lookF f []) := lookF_live allL_nil
  refine fnOK_mod ty_ok (fun args w => Try.call181 args w) Try.func181 rfl [.tmp 4] (by rw [Try.results181]) 10 Try.ntmps181 16 rfl (fun _ => by first | exact Nat.zero_le _ | (simp)) ?_
  rintro ⟨a, b⟩ y cx hm hL
  have hm : s_l1Most a b = some y := hm
  have hL : cx.L = 0 := hL
  unfold s_l1Most at hm
  refine X_reg_seq ty_ok Γok hL [] .nil (by kernel_rfl) ?_
  refine Ok_seq ?_
  refine X_reg_seq ty_ok Γok hL [] .nil (by kernel_rfl) ?_
  refine X_cond (decide (b < a)) (by kernel_rfl) (fun hc => ?_) (fun hc => ?_)
  · have hm := it hc hm
    refine X_reg_seq ty_ok Γok hL [] .nil (by kernel_rfl) ?_
    obtain rfl := some_inj hm
    refine Ok_ret ?_
    repeat (first | refine thR ?_ | refine ibR ?_)
    exact X_fin [] [] (by kernel_rfl) trivial
  · have hm := ie hc hm
    refine X_skip ?_
    refine thN ?_
    refine X_reg_seq ty_ok Γok hL [] .nil (by kernel_rfl) ?_
    obtain rfl := some_inj hm
    refine Ok_ret ?_
    repeat (first | refine thR ?_ | refine ibR ?_)
    exact X_fin [] [] (by kernel_rfl) trivial
abbrev s_l1Cur_trips_r (y : Timetable × l1Cur) : AV := .aggv [.own 0, .dat (Enc.e y.1.Network.Lines), .own 1]
abbrev s_l1Cur_trips_n (y : Timetable × l1Cur) : List Obj' := [.arr 9 1 (List.map Enc.e y.1.Network.Stops), .arr 196 3 (List.map Enc.e y.1.Trips)]
abbrev s_l1Cur_trips_o (x : l1Cur) (y : Timetable × l1Cur) : List Obj' := [.box [.dat (Enc.e y.2.code_), .dat (.sc (.int .i64 y.2.at_)), .dat (.sc (.int .u64 y.2.seed_.v))]]
noncomputable def s_l1Cur_trips_S : FnSpec := modS [.bx] (fun x : l1Cur => [.sc undef]) (fun x : l1Cur => [.box [.dat (Enc.e x.code_), .dat (.sc (.int .i64 x.at_)), .dat (.sc (.int .u64 x.seed_.v))]]) (fun x : l1Cur => s_l1Cur_trips x) s_l1Cur_trips_r s_l1Cur_trips_n s_l1Cur_trips_o
theorem s_l1Cur_trips_c {c : l1Cur} {y : Timetable × l1Cur} (h : s_l1Cur_trips c = some y) : CallOK s_l1Cur_trips_S [.sc undef] [.box [.dat (Enc.e c.code_), .dat (.sc (.int .i64 c.at_)), .dat (.sc (.int .u64 c.seed_.v))]] (s_l1Cur_trips_r y) (s_l1Cur_trips_n y) (s_l1Cur_trips_o c y) :=
  modS_call (by
    rintro a0 b0 h hO
    have q0 : a0 = b0 := Enc.inj _ _ (congrArg (fun l => D.agg (obD l 0)) hO)
    subst q0; rfl) (x := c) h
theorem s_l1Cur_trips_ok : FnOK Try.prog 216 s_l1Cur_trips_S := by
  have Γok : ∀ f S, lookF f [(106, s_l1Cur_one_S), (245, s_l1Cur_anyTimetable_S), (235, s_l1Cur_network_S), (103, s_l1Cur_pick_S), (181, s_l1Most_S)] = some S → FnOK Try.prog f S := lookF_ok (allF_cons s_l1Cur_one_ok (allF_cons s_l1Cur_anyTimetable_ok (allF_cons s_l1Cur_network_ok (allF_cons s_l1Cur_pick_ok (allF_cons s_l1Most_ok allF_nil)))))
  have Γlive : Live (fun f => lookF f [(106, s_l1Cur_one_S), (245, s_l1Cur_anyTimetable_S), (235, s_l1Cur_network_S), (103, s_l1Cur_pick_S), (181, s_l1Most_S)]) := lookF_live (allL_cons modS_live (allL_cons modS_live (allL_cons modS_live (allL_cons modS_live (allL_cons modS_live allL_nil)))))
  refine fnOK_mod ty_ok (fun args w => Try.call216 args w) Try.func216 rfl [.cell 2 101] (by rw [Try.results216]) 79 Try.ntmps216 16 rfl (fun _ => by first | exact Nat.zero_le _ | (simp)) ?_
  rintro c y cx hm hL
  have hm : s_l1Cur_trips c = some y := hm
  have hL : cx.L = 1 := hL
  unfold s_l1Cur_trips at hm
  refine X_reg_seq ty_ok Γok hL [] .nil (by kernel_rfl) ?_
  refine Ok_seq ?_
  obtain ⟨r, h, hm⟩ := obind hm
  refine X_reg_seq ty_ok Γok hL [(1, .c (s_l1Cur_one_r r) (s_l1Cur_one_n r) (s_l1Cur_one_o (c, 16) r))] (.cons (s_l1Cur_one_c h) .nil) (by kernel_rfl) ?_
  refine X_cond r.1 (by kernel_rfl) (fun hc => ?_) (fun hc => ?_)
  · have hm := it hc hm
    obtain ⟨r1, h1, hm⟩ := obind hm
    refine X_reg_seq ty_ok Γok hL [(1, .c (s_l1Cur_anyTimetable_r r1) (s_l1Cur_anyTimetable_n r1) (s_l1Cur_anyTimetable_o r.2 r1))] (.cons (s_l1Cur_anyTimetable_c h1) .nil) (by kernel_rfl) ?_
    obtain rfl := some_inj hm
    refine Ok_ret ?_
    repeat (first | refine thR ?_ | refine ibR ?_)
    exact X_fin [80, 81] [] (by kernel_rfl) trivial
  · have hm := ie hc hm
    refine X_skip ?_
    refine thN ?_
    obtain ⟨r2, h2, hm⟩ := obind hm
    refine X_reg_seq ty_ok Γok hL [(1, .c (s_l1Cur_network_r r2) (s_l1Cur_network_n r2) (s_l1Cur_network_o r.2 r2))] (.cons (s_l1Cur_network_c h2) .nil) (by kernel_rfl) ?_
    refine Ok_seq ?_
    obtain ⟨r3, h3, hm⟩ := obind hm
    refine X_reg_seq ty_ok Γok hL [(1, .c (s_l1Cur_pick_r r3) (s_l1Cur_pick_n r3) (s_l1Cur_pick_o (r2.2, 6) r3))] (.cons (s_l1Cur_pick_c h3) .nil) (by kernel_rfl) ?_
    obtain ⟨vv, hv, hk⟩ := obind hm
    refine X_tail (n := 79) (fun ((v4, v5, v6, v7) : (List UInt8) × Int × Int × (List Trip)) => (⟨[(0, .ref 0 0), (2, .ref 32 0), (3, .ref 48 0)], [(0, some (.box [.dat (Enc.e v4), .dat (.sc (.int .i64 v5)), .dat (.sc (.int .u64 v6))])), (32, some (.box [.dat (.sc (.slice none 0 0)), .dat (.sc (.slice none 0 0)), .dat (.sc (.slice none 0 0))])), (48, some (.box [.own 64, .own 80, .own 96])), (64, some (.arr 9 1 (List.map Enc.e r2.1.Stops))), (80, some (.arr 198 3 (List.map Enc.e r2.1.Lines))), (96, some (.arr 196 3 (List.map Enc.e v7)))], 128⟩ : X)) vv ?_ ?_
    · have hm := hv
      refine Ok_block ?_
      refine X_loop (n := 79) (step := s_l1Cur_trips_L1 r2) (fun ((i, v, v1, v2, v3) : Int × (List UInt8) × Int × Int × (List Trip)) => (⟨[(0, .ref 0 0), (2, .ref 32 0), (3, .ref 48 0), (4, .dat (.sc (.int .i64 i)))], [(0, some (.box [.dat (Enc.e v), .dat (.sc (.int .i64 v1)), .dat (.sc (.int .u64 v2))])), (32, some (.box [.dat (.sc (.slice none 0 0)), .dat (.sc (.slice none 0 0)), .dat (.sc (.slice none 0 0))])), (48, some (.box [.own 64, .own 80, .own 96])), (64, some (.arr 9 1 (List.map Enc.e r2.1.Stops))), (80, some (.arr 198 3 (List.map Enc.e r2.1.Lines))), (96, some (.arr 196 3 (List.map Enc.e v3)))], 128⟩ : X)) hm (Wk_J hL ⟨[(0, []), (2, []), (3, []), (4, [])], [(0, 0, []), (32, 16, []), (48, 112, [.k, .k, .o 96]), (64, 80, []), (80, 81, [])], [(96, 196, 3, [])], 128⟩ (by kernel_rfl)) ?_
      rintro ⟨i, v, v1, v2, v3⟩ r0 hm hb
      rw [s_l1Cur_trips_L1] at hm
      refine Ok_seq ?_
      refine X_reg_seq ty_ok Γok hL [] .nil (by kernel_rfl) ?_
      refine X_cond (decide (0 < i)) (by kernel_rfl) (fun hc1 => ?_) (fun hc1 => ?_)
      · have hm := it hc1 hm
        refine X_skip ?_
        refine thN ?_
        refine Ok_seq ?_
        refine Ok_block ?_
        obtain ⟨r7, h8, hm⟩ := obind hm
        obtain ⟨r8, h9, hm⟩ := obind hm
        obtain ⟨r9, h10, hm⟩ := obind hm
        obtain ⟨u1, h11, hm⟩ := obind hm
        refine X_draw mixed ty_ok Γok Γlive [(11, [0]), (19, [0]), (21, [0]), (26, [96, 560]), (28, [48, 576])] (by kernel_rfl) [(4, .n (v3.length : Int)), (8, .n (v3.length : Int)), (11, .c (s_l1Cur_pick_r r7) (s_l1Cur_pick_n r7) (s_l1Cur_pick_o ((⟨v, v1, (⟨v2⟩ : IK .u64)⟩ : l1Cur), 2) r7)), (18, .n (r2.1.Lines.length : Int)), (19, .c (s_l1Cur_pick_r r8) (s_l1Cur_pick_n r8) (s_l1Cur_pick_o (r7.2, (r2.1.Lines.length : Int)) r8)), (21, .c (s_l1Cur_pick_r r9) (s_l1Cur_pick_n r9) (s_l1Cur_pick_o (r8.2, 16) r9)), (26, .l (List.map Enc.e (v3 ++ ([(⟨(w64 ((w64 ((v3.length : Int) + 1)) + (w64 ((w64 (2 * (v3.length : Int))) * r7.1)))), r8.1, (w64 (360 + (w64 (5 * r9.1))))⟩ : Trip)] : List Trip))))] (.cons (len_m Enc.e v3) (.cons (len_m Enc.e v3) (.cons (s_l1Cur_pick_c h8) (.cons (len_m Enc.e r2.1.Lines) (.cons (s_l1Cur_pick_c h9) (.cons (s_l1Cur_pick_c h10) (.cons (app_p (f := Enc.e) (g := Enc.e) (l := v3) (r := ([(⟨(w64 ((w64 ((v3.length : Int) + 1)) + (w64 ((w64 (2 * (v3.length : Int))) * r7.1)))), r8.1, (w64 (360 + (w64 (5 * r9.1))))⟩ : Trip)] : List Trip)) (b := 24) (chk_t h11) rfl) (.cons (app_m Enc.e v3 ([(⟨(w64 ((w64 ((v3.length : Int) + 1)) + (w64 ((w64 (2 * (v3.length : Int))) * r7.1)))), r8.1, (w64 (360 + (w64 (5 * r9.1))))⟩ : Trip)] : List Trip)) .nil)))))))) (by kernel_rfl) ?_
        refine ibN ?_
        refine thN ?_
        refine X_reg ty_ok Γok hL [] .nil (by kernel_rfl) ?_
        obtain rfl := some_inj hm
        exact thN ⟨_, rfl, Wk_J hL ⟨[(0, []), (2, []), (3, []), (4, [])], [(0, 0, []), (32, 32, []), (48, 48, []), (64, 64, []), (80, 80, []), (96, 576, [])], [], 128⟩ (by kernel_rfl)⟩
      · have hm := ie hc1 hm
        obtain rfl := some_inj hm
        obtain rfl := hb _ rfl
        refine Ok_exit ?_
        refine thE ?_
        refine thE ?_
        refine ibE ?_
        exact thN (Wk_J hL ⟨[(0, []), (2, []), (3, [])], [(0, 0, []), (32, 32, []), (48, 48, []), (64, 64, []), (80, 80, []), (96, 96, [])], [], 128⟩ (by kernel_rfl))
    obtain ⟨v4, v5, v6, v7⟩ := vv
    intro s hw
    have hm := hk
    refine thN ?_
    refine Ok_weak hw ?_
    refine Ok_seq ?_
    refine X_reg_seq ty_ok Γok hL [] .nil (by kernel_rfl) ?_
    obtain ⟨v9, hv1, hk1⟩ := obind hm
    refine X_tail (n := 79) (fun (v9 : List Trip) => (⟨[(0, .ref 0 0), (2, .ref 32 0), (3, .ref 48 0)], [(0, some (.box [.dat (Enc.e v4), .dat (.sc (.int .i64 v5)), .dat (.sc (.int .u64 v6))])), (32, some (.box [.dat (.sc (.slice none 0 0)), .dat (.sc (.slice none 0 0)), .dat (.sc (.slice none 0 0))])), (48, some (.box [.own 64, .own 80, .own 96])), (64, some (.arr 9 1 (List.map Enc.e r2.1.Stops))), (80, some (.arr 198 3 (List.map Enc.e r2.1.Lines))), (96, some (.arr 196 3 (List.map Enc.e v9)))], 128⟩ : X)) v9 ?_ ?_
    · have hm := hv1
      refine Ok_block ?_
      refine X_loop (n := 79) (step := s_l1Cur_trips_L2) (fun ((x, v8) : Int × (List Trip)) => (⟨[(0, .ref 0 0), (2, .ref 32 0), (3, .ref 48 0), (5, .dat (.sc (.int .i64 x)))], [(0, some (.box [.dat (Enc.e v4), .dat (.sc (.int .i64 v5)), .dat (.sc (.int .u64 v6))])), (32, some (.box [.dat (.sc (.slice none 0 0)), .dat (.sc (.slice none 0 0)), .dat (.sc (.slice none 0 0))])), (48, some (.box [.own 64, .own 80, .own 96])), (64, some (.arr 9 1 (List.map Enc.e r2.1.Stops))), (80, some (.arr 198 3 (List.map Enc.e r2.1.Lines))), (96, some (.arr 196 3 (List.map Enc.e v8)))], 128⟩ : X)) hm (Wk_J hL ⟨[(0, []), (2, []), (3, []), (5, [])], [(0, 0, []), (32, 32, []), (48, 48, []), (64, 64, []), (80, 80, []), (96, 96, [])], [], 128⟩ (by kernel_rfl)) ?_
      rintro ⟨x, v8⟩ r0 hm hb1
      rw [s_l1Cur_trips_L2] at hm
      refine Ok_seq ?_
      refine X_reg_seq ty_ok Γok hL [(3, .n (v8.length : Int))] (.cons (len_m Enc.e v8) .nil) (by kernel_rfl) ?_
      refine X_cond (decide (x < (v8.length : Int))) (by kernel_rfl) (fun hc2 => ?_) (fun hc2 => ?_)
      · have hm := it hc2 hm
        refine X_skip ?_
        refine thN ?_
        refine Ok_seq ?_
        refine Ok_block ?_
        obtain ⟨e, h12, hm⟩ := obind hm
        refine X_reg_seq ty_ok Γok hL [(3, .d (Enc.e e)), (4, .d (Enc.e e))] (.cons (idx_m (f := Enc.e) h12) (.cons (idx_m2 (f := Enc.e) h12) .nil)) (by kernel_rfl) ?_
        obtain ⟨e2, h15, hm⟩ := obind hm
        obtain ⟨r11, h16, hm⟩ := obind hm
        refine X_draw_seq mixed ty_ok Γok Γlive [(12, [288])] (by kernel_rfl) [(6, .d (Enc.e e2)), (8, .d (Enc.e e2)), (10, .c (s_l1Most_r r11) (s_l1Most_n r11) (s_l1Most_o (e.Id, (w64 (e2.Id + 1))) r11))] (.cons (idx_m (f := Enc.e) h15) (.cons (idx_m2 (f := Enc.e) h15) (.cons (s_l1Most_c h16) .nil))) (by kernel_rfl) ?_
        obtain ⟨e3, h17, hm⟩ := obind hm
        refine X_reg ty_ok Γok hL [(4, .d (Enc.e e3)), (5, .sd (Enc.e e3) (List.map Enc.e (v8.set x.toNat (⟨r11, e.Line, e.Start⟩ : Trip))))] (.cons (idx_m (f := Enc.e) h17) (.cons (idx_m2 (f := Enc.e) h17) (.cons (set_m Enc.e v8 x.toNat (⟨r11, e.Line, e.Start⟩ : Trip)) .nil))) (by kernel_rfl) ?_
        refine ibN ?_
        refine thN ?_
        refine X_reg ty_ok Γok hL [] .nil (by kernel_rfl) ?_
        obtain rfl := some_inj hm
        exact thN ⟨_, rfl, Wk_J hL ⟨[(0, []), (2, []), (3, []), (5, [])], [(0, 0, []), (32, 32, []), (48, 48, []), (64, 64, []), (80, 80, []), (96, 96, [])], [], 128⟩ (by kernel_rfl)⟩
      · have hm := ie hc2 hm
        obtain rfl := some_inj hm
        obtain rfl := hb1 _ rfl
        refine Ok_exit ?_
        refine thE ?_
        refine thE ?_
        refine ibE ?_
        exact thN (Wk_J hL ⟨[(0, []), (2, []), (3, [])], [(0, 0, []), (32, 32, []), (48, 48, []), (64, 64, []), (80, 80, []), (96, 96, [])], [], 128⟩ (by kernel_rfl))
    intro s1 hw1
    have hm := hk1
    refine thN ?_
    refine Ok_weak hw1 ?_
    refine X_reg_seq ty_ok Γok hL [] .nil (by kernel_rfl) ?_
    obtain rfl := some_inj hm
    refine Ok_ret ?_
    repeat (first | refine thR ?_ | refine ibR ?_)
    exact X_fin [64, 96] [] (by kernel_rfl) trivial
abbrev s_l1In_r (y : Bool) : AV := .dat (Enc.e y)
abbrev s_l1In_n (y : Bool) : List Obj' := []
abbrev s_l1In_o (x : Int × Int × Int) (y : Bool) : List Obj' := []
noncomputable def s_l1In_S : FnSpec := modS [.rd, .rd, .rd] (fun x : Int × Int × Int => [Enc.e x.1, Enc.e x.2.1, Enc.e x.2.2]) (fun x : Int × Int × Int => []) (fun x : Int × Int × Int => s_l1In x.1 x.2.1 x.2.2) s_l1In_r s_l1In_n s_l1In_o
theorem s_l1In_c {x : Int} {a : Int} {b : Int} {y : Bool} (h : s_l1In x a b = some y) : CallOK s_l1In_S [Enc.e x, Enc.e a, Enc.e b] [] (s_l1In_r y) (s_l1In_n y) (s_l1In_o (x, a, b) y) :=
  modS_call (by
    rintro ⟨a0, a1, a2⟩ ⟨b0, b1, b2⟩ h hO
    have q0 : a0 = b0 := Enc.inj _ _ (congrArg (fun l => List.getD l 0 (.sc undef)) h)
    have q1 : a1 = b1 := Enc.inj _ _ (congrArg (fun l => List.getD l 1 (.sc undef)) h)
    have q2 : a2 = b2 := Enc.inj _ _ (congrArg (fun l => List.getD l 2 (.sc undef)) h)
    subst q0; subst q1; subst q2; rfl) (x := (x, a, b)) h
theorem s_l1In_ok : FnOK Try.prog 88 s_l1In_S := by
  have Γok : ∀ f S, lookF f [] = some S → FnOK Try.prog f S := lookF_ok allF_nil
  have Γlive : Live (fun f => lookF f []) := lookF_live allL_nil
  refine fnOK_mod ty_ok (fun args w => Try.call88 args w) Try.func88 rfl [.tmp 6] (by rw [Try.results88]) 15 Try.ntmps88 16 rfl (fun _ => by first | exact Nat.zero_le _ | (simp)) ?_
  rintro ⟨x, a, b⟩ y cx hm hL
  have hm : s_l1In x a b = some y := hm
  have hL : cx.L = 0 := hL
  unfold s_l1In at hm
  refine X_reg_seq ty_ok Γok hL [] .nil (by kernel_rfl) ?_
  obtain ⟨v, hv, hk⟩ := obind hm
  refine X_join (n := 15) (fun (v : Bool) => (⟨[(6, .dat (.sc (.bool v)))], [], 32⟩ : X)) v ?_ ?_
  · have hm := hv
    rcases btf (decide (a ≤ x)) with hb | hb
    · have hm := it hb hm
      obtain rfl := some_inj hm
      refine X_reg ty_ok Γok hL [(3, .b true)] (.cons hb .nil) (by kernel_rfl) ?_
      exact thN (Wk_J hL ⟨[(6, [])], [], [], 32⟩ (by kernel_rfl))
    · have hm := ie hb hm
      obtain rfl := some_inj hm
      refine X_reg ty_ok Γok hL [(3, .b false)] (.cons hb .nil) (by kernel_rfl) ?_
      exact thN (Wk_J hL ⟨[(6, [])], [], [], 32⟩ (by kernel_rfl))
  have hm := hk
  obtain rfl := some_inj hm
  refine Ok_ret ?_
  repeat (first | refine thR ?_ | refine ibR ?_)
  exact X_fin [] [] (by kernel_rfl) trivial
abbrev s_l2Name_r (y : Bool) : AV := .dat (Enc.e y)
abbrev s_l2Name_n (y : Bool) : List Obj' := []
abbrev s_l2Name_o (x : ByteArray) (y : Bool) : List Obj' := []
noncomputable def s_l2Name_S : FnSpec := modS [.rd] (fun x : ByteArray => [Enc.e x]) (fun x : ByteArray => []) (fun x : ByteArray => s_l2Name x) s_l2Name_r s_l2Name_n s_l2Name_o
theorem s_l2Name_c {s : ByteArray} {y : Bool} (h : s_l2Name s = some y) : CallOK s_l2Name_S [Enc.e s] [] (s_l2Name_r y) (s_l2Name_n y) (s_l2Name_o s y) :=
  modS_call (by
    rintro a0 b0 h hO
    have q0 : a0 = b0 := Enc.inj _ _ (congrArg (fun l => List.getD l 0 (.sc undef)) h)
    subst q0; rfl) (x := s) h
theorem s_l2Name_ok : FnOK Try.prog 239 s_l2Name_S := by
  have Γok : ∀ f S, lookF f [(88, s_l1In_S)] = some S → FnOK Try.prog f S := lookF_ok (allF_cons s_l1In_ok allF_nil)
  have Γlive : Live (fun f => lookF f [(88, s_l1In_S)]) := lookF_live (allL_cons modS_live allL_nil)
  refine fnOK_mod ty_ok (fun args w => Try.call239 args w) Try.func239 rfl [.tmp 2] (by rw [Try.results239]) 46 Try.ntmps239 16 rfl (fun _ => by first | exact Nat.zero_le _ | (simp)) ?_
  rintro s y cx hm hL
  have hm : s_l2Name s = some y := hm
  have hL : cx.L = 0 := hL
  unfold s_l2Name at hm
  refine X_reg_seq ty_ok Γok hL [] .nil (by kernel_rfl) ?_
  refine Ok_seq ?_
  obtain ⟨r, h, hm⟩ := obind hm
  obtain ⟨v, hv, hk⟩ := obind hm
  refine X_join (n := 46) (fun (v : Bool) => (⟨[(0, .dat (.sc (.string s))), (17, .dat (.sc (.bool v)))], [], 32⟩ : X)) v ?_ ?_
  · have hm := hv
    rcases btf (!r) with hb | hb
    · have hm := it hb hm
      obtain rfl := some_inj hm
      refine X_reg ty_ok Γok hL [(2, .c (s_l1In_r r) (s_l1In_n r) (s_l1In_o ((s.size : Int), 1, 8) r)), (4, .b true)] (.cons (s_l1In_c h) (.cons hb .nil)) (by kernel_rfl) ?_
      exact thN (Wk_J hL ⟨[(0, []), (17, [])], [], [], 32⟩ (by kernel_rfl))
    · have hm := ie hb hm
      obtain ⟨u, h1, hm⟩ := obind hm
      rcases btf (decide (((s.data.toList.getD (0 : Int).toNat 0).toNat : Int) < 97)) with hb1 | hb1
      · have hm := it hb1 hm
        obtain rfl := some_inj hm
        refine X_reg ty_ok Γok hL [(2, .c (s_l1In_r r) (s_l1In_n r) (s_l1In_o ((s.size : Int), 1, 8) r)), (4, .b false), (9, .b true)] (.cons (s_l1In_c h) (.cons hb (.cons (chk_t h1) (.cons hb1 .nil)))) (by kernel_rfl) ?_
        exact thN (Wk_J hL ⟨[(0, []), (17, [])], [], [], 32⟩ (by kernel_rfl))
      · have hm := ie hb1 hm
        obtain ⟨u1, h2, hm⟩ := obind hm
        obtain rfl := some_inj hm
        refine X_reg ty_ok Γok hL [(2, .c (s_l1In_r r) (s_l1In_n r) (s_l1In_o ((s.size : Int), 1, 8) r)), (4, .b false), (9, .b false)] (.cons (s_l1In_c h) (.cons hb (.cons (chk_t h1) (.cons hb1 (.cons (chk_t h2) .nil))))) (by kernel_rfl) ?_
        exact thN (Wk_J hL ⟨[(0, []), (17, [])], [], [], 32⟩ (by kernel_rfl))
  have hm := hk
  refine X_cond v (by kernel_rfl) (fun hc => ?_) (fun hc => ?_)
  · have hm := it hc hm
    refine X_reg_seq ty_ok Γok hL [] .nil (by kernel_rfl) ?_
    obtain rfl := some_inj hm
    refine Ok_ret ?_
    repeat (first | refine thR ?_ | refine ibR ?_)
    exact X_fin [] [] (by kernel_rfl) trivial
  · have hm := ie hc hm
    refine X_skip ?_
    refine thN ?_
    refine Ok_seq ?_
    refine X_reg_seq ty_ok Γok hL [] .nil (by kernel_rfl) ?_
    obtain ⟨v3, hv2, hr, hk2⟩ := flb_t hm
    refine X_tailF (n := 46) (fun (_ : Unit) => (⟨[], [], 32⟩ : X)) v3 ?_ ?_
    · have hm := hv2
      refine Ok_block ?_
      refine X_loop (n := 46) (step := s_l2Name_L1 s) (fun (v1 : Int) => (⟨[(0, .dat (.sc (.string s))), (3, .dat (.sc (.int .i64 v1)))], [], 32⟩ : X)) hm (Wk_J hL ⟨[(0, []), (3, [])], [], [], 32⟩ (by kernel_rfl)) ?_
      rintro v1 r0 hm hb2
      rw [s_l2Name_L1] at hm
      refine Ok_seq ?_
      refine X_reg_seq ty_ok Γok hL [] .nil (by kernel_rfl) ?_
      refine X_cond (decide (v1 < (s.size : Int))) (by kernel_rfl) (fun hc1 => ?_) (fun hc1 => ?_)
      · have hm := it hc1 hm
        refine X_skip ?_
        refine thN ?_
        refine Ok_seq ?_
        refine Ok_block ?_
        obtain ⟨u2, h3, hm⟩ := obind hm
        obtain ⟨v2, hv1, hk1⟩ := obind hm
        refine X_join (n := 46) (fun (v2 : Bool) => (⟨[(0, .dat (.sc (.string s))), (3, .dat (.sc (.int .i64 v1))), (45, .dat (.sc (.bool v2)))], [], 32⟩ : X)) v2 ?_ ?_
        · have hm := hv1
          rcases btf (decide (((s.data.toList.getD v1.toNat 0).toNat : Int) < 97)) with hb3 | hb3
          · have hm := it hb3 hm
            obtain ⟨u3, h4, hm⟩ := obind hm
            rcases btf (decide (((s.data.toList.getD v1.toNat 0).toNat : Int) < 48)) with hb4 | hb4
            · have hm := it hb4 hm
              obtain rfl := some_inj hm
              refine X_reg ty_ok Γok hL [(4, .b true), (15, .b true)] (.cons (chk_t h3) (.cons hb3 (.cons (chk_t h4) (.cons hb4 .nil)))) (by kernel_rfl) ?_
              exact thN (Wk_J hL ⟨[(0, []), (3, []), (45, [])], [], [], 32⟩ (by kernel_rfl))
            · have hm := ie hb4 hm
              obtain ⟨u4, h5, hm⟩ := obind hm
              obtain rfl := some_inj hm
              refine X_reg ty_ok Γok hL [(4, .b true), (15, .b false)] (.cons (chk_t h3) (.cons hb3 (.cons (chk_t h4) (.cons hb4 (.cons (chk_t h5) .nil))))) (by kernel_rfl) ?_
              exact thN (Wk_J hL ⟨[(0, []), (3, []), (45, [])], [], [], 32⟩ (by kernel_rfl))
          · have hm := ie hb3 hm
            obtain ⟨u5, h6, hm⟩ := obind hm
            rcases btf (decide (122 < ((s.data.toList.getD v1.toNat 0).toNat : Int))) with hb5 | hb5
            · have hm := it hb5 hm
              obtain ⟨u6, h7, hm⟩ := obind hm
              rcases btf (decide (((s.data.toList.getD v1.toNat 0).toNat : Int) < 48)) with hb6 | hb6
              · have hm := it hb6 hm
                obtain rfl := some_inj hm
                refine X_reg ty_ok Γok hL [(4, .b false), (10, .b true), (15, .b true)] (.cons (chk_t h3) (.cons hb3 (.cons (chk_t h6) (.cons hb5 (.cons (chk_t h7) (.cons hb6 .nil)))))) (by kernel_rfl) ?_
                exact thN (Wk_J hL ⟨[(0, []), (3, []), (45, [])], [], [], 32⟩ (by kernel_rfl))
              · have hm := ie hb6 hm
                obtain ⟨u7, h8, hm⟩ := obind hm
                obtain rfl := some_inj hm
                refine X_reg ty_ok Γok hL [(4, .b false), (10, .b true), (15, .b false)] (.cons (chk_t h3) (.cons hb3 (.cons (chk_t h6) (.cons hb5 (.cons (chk_t h7) (.cons hb6 (.cons (chk_t h8) .nil))))))) (by kernel_rfl) ?_
                exact thN (Wk_J hL ⟨[(0, []), (3, []), (45, [])], [], [], 32⟩ (by kernel_rfl))
            · have hm := ie hb5 hm
              obtain rfl := some_inj hm
              refine X_reg ty_ok Γok hL [(4, .b false), (10, .b false)] (.cons (chk_t h3) (.cons hb3 (.cons (chk_t h6) (.cons hb5 .nil)))) (by kernel_rfl) ?_
              exact thN (Wk_J hL ⟨[(0, []), (3, []), (45, [])], [], [], 32⟩ (by kernel_rfl))
        have hm := hk1
        refine X_cond v2 (by kernel_rfl) (fun hc2 => ?_) (fun hc2 => ?_)
        · have hm := it hc2 hm
          refine X_reg_seq ty_ok Γok hL [] .nil (by kernel_rfl) ?_
          obtain rfl := some_inj hm
          obtain rfl := hb2 _ rfl
          have hm := congrArg some (hr _ rfl)
          obtain rfl := some_inj hm
          refine Ok_ret ?_
          repeat (first | refine thR ?_ | refine ibR ?_)
          exact X_fin [] [] (by kernel_rfl) trivial
        · have hm := ie hc2 hm
          refine X_skip ?_
          refine ibN ?_
          refine thN ?_
          refine X_reg ty_ok Γok hL [] .nil (by kernel_rfl) ?_
          obtain rfl := some_inj hm
          exact thN ⟨_, rfl, Wk_J hL ⟨[(0, []), (3, [])], [], [], 32⟩ (by kernel_rfl)⟩
      · have hm := ie hc1 hm
        obtain rfl := some_inj hm
        obtain rfl := hb2 _ rfl
        refine Ok_exit ?_
        refine thE ?_
        refine thE ?_
        refine ibE ?_
        exact thN ⟨_, rfl, Wk_J hL ⟨[], [], [], 32⟩ (by kernel_rfl)⟩
    rintro ⟨⟩ hu s1 hw
    have hm := hk2 _ hu
    refine thN ?_
    refine Ok_weak hw ?_
    refine X_reg_seq ty_ok Γok hL [] .nil (by kernel_rfl) ?_
    obtain rfl := some_inj hm
    refine Ok_ret ?_
    repeat (first | refine thR ?_ | refine ibR ?_)
    exact X_fin [] [] (by kernel_rfl) trivial
abbrev s_l2Find_r (y : Int) : AV := .dat (Enc.e y)
abbrev s_l2Find_n (y : Int) : List Obj' := []
abbrev s_l2Find_o (x : (List ByteArray) × ByteArray) (y : Int) : List Obj' := []
noncomputable def s_l2Find_S : FnSpec := modS [.rd, .rd] (fun x : (List ByteArray) × ByteArray => [Enc.e x.1, Enc.e x.2]) (fun x : (List ByteArray) × ByteArray => []) (fun x : (List ByteArray) × ByteArray => s_l2Find x.1 x.2) s_l2Find_r s_l2Find_n s_l2Find_o
theorem s_l2Find_c {list : List ByteArray} {name : ByteArray} {y : Int} (h : s_l2Find list name = some y) : CallOK s_l2Find_S [Enc.e list, Enc.e name] [] (s_l2Find_r y) (s_l2Find_n y) (s_l2Find_o (list, name) y) :=
  modS_call (by
    rintro ⟨a0, a1⟩ ⟨b0, b1⟩ h hO
    have q0 : a0 = b0 := Enc.inj _ _ (congrArg (fun l => List.getD l 0 (.sc undef)) h)
    have q1 : a1 = b1 := Enc.inj _ _ (congrArg (fun l => List.getD l 1 (.sc undef)) h)
    subst q0; subst q1; rfl) (x := (list, name)) h
theorem s_l2Find_ok : FnOK Try.prog 240 s_l2Find_S := by
  have Γok : ∀ f S, lookF f [] = some S → FnOK Try.prog f S := lookF_ok allF_nil
  have Γlive : Live (fun f => lookF f []) := lookF_live allL_nil
  refine fnOK_mod ty_ok (fun args w => Try.call240 args w) Try.func240 rfl [.tmp 4] (by rw [Try.results240]) 19 Try.ntmps240 16 rfl (fun _ => by first | exact Nat.zero_le _ | (simp)) ?_
  rintro ⟨list, name⟩ y cx hm hL
  have hm : s_l2Find list name = some y := hm
  have hL : cx.L = 0 := hL
  unfold s_l2Find at hm
  refine X_reg_seq ty_ok Γok hL [] .nil (by kernel_rfl) ?_
  refine Ok_seq ?_
  refine X_reg_seq ty_ok Γok hL [] .nil (by kernel_rfl) ?_
  obtain ⟨v1, hv, hr, hk⟩ := flb_t hm
  refine X_tailF (n := 19) (fun (_ : Unit) => (⟨[], [], 32⟩ : X)) v1 ?_ ?_
  · have hm := hv
    refine Ok_block ?_
    refine X_loop (n := 19) (step := s_l2Find_L1 list name) (fun (v : Int) => (⟨[(0, .dat (Enc.e list)), (1, .dat (.sc (.string name))), (5, .dat (.sc (.int .i64 v)))], [], 32⟩ : X)) hm (Wk_J hL ⟨[(0, []), (1, []), (5, [])], [], [], 32⟩ (by kernel_rfl)) ?_
    rintro v r0 hm hb
    rw [s_l2Find_L1] at hm
    refine Ok_seq ?_
    refine X_reg_seq ty_ok Γok hL [(2, .n (list.length : Int))] (.cons (len_m Enc.e list) .nil) (by kernel_rfl) ?_
    refine X_cond (decide (v < (list.length : Int))) (by kernel_rfl) (fun hc => ?_) (fun hc => ?_)
    · have hm := it hc hm
      refine X_skip ?_
      refine thN ?_
      refine Ok_seq ?_
      refine Ok_block ?_
      obtain ⟨e, h, hm⟩ := obind hm
      refine X_reg_seq ty_ok Γok hL [(2, .d (Enc.e e))] (.cons (idx_m (f := Enc.e) h) .nil) (by kernel_rfl) ?_
      refine X_cond (e.toList == name.toList) (by kernel_rfl) (fun hc1 => ?_) (fun hc1 => ?_)
      · have hm := it hc1 hm
        refine X_reg_seq ty_ok Γok hL [] .nil (by kernel_rfl) ?_
        obtain rfl := some_inj hm
        obtain rfl := hb _ rfl
        have hm := congrArg some (hr _ rfl)
        obtain rfl := some_inj hm
        refine Ok_ret ?_
        repeat (first | refine thR ?_ | refine ibR ?_)
        exact X_fin [] [] (by kernel_rfl) trivial
      · have hm := ie hc1 hm
        refine X_skip ?_
        refine ibN ?_
        refine thN ?_
        refine X_reg ty_ok Γok hL [] .nil (by kernel_rfl) ?_
        obtain rfl := some_inj hm
        exact thN ⟨_, rfl, Wk_J hL ⟨[(0, []), (1, []), (5, [])], [], [], 32⟩ (by kernel_rfl)⟩
    · have hm := ie hc hm
      obtain rfl := some_inj hm
      obtain rfl := hb _ rfl
      refine Ok_exit ?_
      refine thE ?_
      refine thE ?_
      refine ibE ?_
      exact thN ⟨_, rfl, Wk_J hL ⟨[], [], [], 32⟩ (by kernel_rfl)⟩
  rintro ⟨⟩ hu s hw
  have hm := hk _ hu
  refine thN ?_
  refine Ok_weak hw ?_
  refine X_reg_seq ty_ok Γok hL [] .nil (by kernel_rfl) ?_
  obtain rfl := some_inj hm
  refine Ok_ret ?_
  repeat (first | refine thR ?_ | refine ibR ?_)
  exact X_fin [] [] (by kernel_rfl) trivial
abbrev s_l2Line_r (y : Bool) : AV := .dat (Enc.e y)
abbrev s_l2Line_n (y : Bool) : List Obj' := []
abbrev s_l2Line_o (x : Line × Int) (y : Bool) : List Obj' := []
noncomputable def s_l2Line_S : FnSpec := modS [.rd, .rd] (fun x : Line × Int => [Enc.e x.1, Enc.e x.2]) (fun x : Line × Int => []) (fun x : Line × Int => s_l2Line x.1 x.2) s_l2Line_r s_l2Line_n s_l2Line_o
theorem s_l2Line_c {x : Line} {stops : Int} {y : Bool} (h : s_l2Line x stops = some y) : CallOK s_l2Line_S [Enc.e x, Enc.e stops] [] (s_l2Line_r y) (s_l2Line_n y) (s_l2Line_o (x, stops) y) :=
  modS_call (by
    rintro ⟨a0, a1⟩ ⟨b0, b1⟩ h hO
    have q0 : a0 = b0 := Enc.inj _ _ (congrArg (fun l => List.getD l 0 (.sc undef)) h)
    have q1 : a1 = b1 := Enc.inj _ _ (congrArg (fun l => List.getD l 1 (.sc undef)) h)
    subst q0; subst q1; rfl) (x := (x, stops)) h
theorem s_l2Line_ok : FnOK Try.prog 241 s_l2Line_S := by
  have Γok : ∀ f S, lookF f [(239, s_l2Name_S), (88, s_l1In_S), (223, s_l2Place_S)] = some S → FnOK Try.prog f S := lookF_ok (allF_cons s_l2Name_ok (allF_cons s_l1In_ok (allF_cons s_l2Place_ok allF_nil)))
  have Γlive : Live (fun f => lookF f [(239, s_l2Name_S), (88, s_l1In_S), (223, s_l2Place_S)]) := lookF_live (allL_cons modS_live (allL_cons modS_live (allL_cons modS_live allL_nil)))
  refine fnOK_mod ty_ok (fun args w => Try.call241 args w) Try.func241 rfl [.tmp 4] (by rw [Try.results241]) 69 Try.ntmps241 16 rfl (fun _ => by first | exact Nat.zero_le _ | (simp)) ?_
  rintro ⟨x, stops⟩ y cx hm hL
  have hm : s_l2Line x stops = some y := hm
  have hL : cx.L = 0 := hL
  unfold s_l2Line at hm
  refine X_reg_seq ty_ok Γok hL [] .nil (by kernel_rfl) ?_
  refine Ok_seq ?_
  obtain ⟨r, h, hm⟩ := obind hm
  obtain ⟨v, hv, hk⟩ := obind hm
  refine X_join (n := 69) (fun (v : Bool) => (⟨[(1, .dat (.sc (.int .i64 stops))), (2, .ref 16 0), (27, .dat (.sc (.bool v)))], [(16, some (.box [.dat (.sc (.string x.Name)), .dat (Enc.e x.Stops), .dat (Enc.e x.Runs)]))], 48⟩ : X)) v ?_ ?_
  · have hm := hv
    rcases btf (!r) with hb | hb
    · have hm := it hb hm
      obtain rfl := some_inj hm
      refine X_reg ty_ok Γok hL [(2, .c (s_l2Name_r r) (s_l2Name_n r) (s_l2Name_o x.Name r)), (4, .b true)] (.cons (s_l2Name_c h) (.cons hb .nil)) (by kernel_rfl) ?_
      exact thN (Wk_J hL ⟨[(1, []), (2, []), (27, [])], [(16, 16, [])], [], 48⟩ (by kernel_rfl))
    · have hm := ie hb hm
      obtain ⟨r1, h1, hm⟩ := obind hm
      rcases btf (!r1) with hb1 | hb1
      · have hm := it hb1 hm
        obtain rfl := some_inj hm
        refine X_reg ty_ok Γok hL [(2, .c (s_l2Name_r r) (s_l2Name_n r) (s_l2Name_o x.Name r)), (4, .b false), (7, .n (x.Stops.length : Int)), (8, .c (s_l1In_r r1) (s_l1In_n r1) (s_l1In_o ((x.Stops.length : Int), 2, 6) r1)), (11, .b true)] (.cons (s_l2Name_c h) (.cons hb (.cons (len_m Enc.e x.Stops) (.cons (s_l1In_c h1) (.cons hb1 .nil))))) (by kernel_rfl) ?_
        exact thN (Wk_J hL ⟨[(1, []), (2, []), (27, [])], [(16, 16, [])], [], 48⟩ (by kernel_rfl))
      · have hm := ie hb1 hm
        obtain rfl := some_inj hm
        refine X_reg ty_ok Γok hL [(2, .c (s_l2Name_r r) (s_l2Name_n r) (s_l2Name_o x.Name r)), (4, .b false), (7, .n (x.Stops.length : Int)), (8, .c (s_l1In_r r1) (s_l1In_n r1) (s_l1In_o ((x.Stops.length : Int), 2, 6) r1)), (11, .b false), (14, .n (x.Runs.length : Int)), (17, .n (x.Stops.length : Int))] (.cons (s_l2Name_c h) (.cons hb (.cons (len_m Enc.e x.Stops) (.cons (s_l1In_c h1) (.cons hb1 (.cons (len_m Enc.e x.Runs) (.cons (len_m Enc.e x.Stops) .nil))))))) (by kernel_rfl) ?_
        exact thN (Wk_J hL ⟨[(1, []), (2, []), (27, [])], [(16, 16, [])], [], 48⟩ (by kernel_rfl))
  have hm := hk
  refine X_cond v (by kernel_rfl) (fun hc => ?_) (fun hc => ?_)
  · have hm := it hc hm
    refine X_reg_seq ty_ok Γok hL [] .nil (by kernel_rfl) ?_
    obtain rfl := some_inj hm
    refine Ok_ret ?_
    repeat (first | refine thR ?_ | refine ibR ?_)
    exact X_fin [] [] (by kernel_rfl) trivial
  · have hm := ie hc hm
    refine X_skip ?_
    refine thN ?_
    refine Ok_seq ?_
    refine X_reg_seq ty_ok Γok hL [] .nil (by kernel_rfl) ?_
    obtain ⟨v5, hv2, hr, hk2⟩ := flb_t hm
    refine X_tailF (n := 69) (fun (_ : Unit) => (⟨[(2, .ref 16 0)], [(16, some (.box [.dat (.sc (.string x.Name)), .dat (Enc.e x.Stops), .dat (Enc.e x.Runs)]))], 48⟩ : X)) v5 ?_ ?_
    · have hm := hv2
      refine Ok_block ?_
      refine X_loop (n := 69) (step := s_l2Line_L1 x stops) (fun (v1 : Int) => (⟨[(1, .dat (.sc (.int .i64 stops))), (2, .ref 16 0), (5, .dat (.sc (.int .i64 v1)))], [(16, some (.box [.dat (.sc (.string x.Name)), .dat (Enc.e x.Stops), .dat (Enc.e x.Runs)]))], 48⟩ : X)) hm (Wk_J hL ⟨[(1, []), (2, []), (5, [])], [(16, 16, [])], [], 48⟩ (by kernel_rfl)) ?_
      rintro v1 r0 hm hb2
      rw [s_l2Line_L1] at hm
      refine Ok_seq ?_
      refine X_reg_seq ty_ok Γok hL [(3, .n (x.Stops.length : Int))] (.cons (len_m Enc.e x.Stops) .nil) (by kernel_rfl) ?_
      refine X_cond (decide (v1 < (x.Stops.length : Int))) (by kernel_rfl) (fun hc1 => ?_) (fun hc1 => ?_)
      · have hm := it hc1 hm
        refine X_skip ?_
        refine thN ?_
        refine Ok_seq ?_
        refine Ok_block ?_
        obtain ⟨e2, h6, hm⟩ := obind hm
        obtain ⟨r4, h7, hm⟩ := obind hm
        obtain ⟨v2, hv1, hk1⟩ := obind hm
        refine X_join (n := 69) (fun (v2 : Bool) => (⟨[(1, .dat (.sc (.int .i64 stops))), (2, .ref 16 0), (5, .dat (.sc (.int .i64 v1))), (54, .dat (.sc (.bool v2)))], [(16, some (.box [.dat (.sc (.string x.Name)), .dat (Enc.e x.Stops), .dat (Enc.e x.Runs)]))], 48⟩ : X)) v2 ?_ ?_
        · have hm := hv1
          rcases btf (!r4) with hb3 | hb3
          · have hm := it hb3 hm
            obtain rfl := some_inj hm
            refine X_draw mixed ty_ok Γok Γlive [] (by kernel_rfl) [(3, .d (Enc.e e2)), (7, .c (s_l1In_r r4) (s_l1In_n r4) (s_l1In_o (e2, 0, (w64 (stops - 1))) r4)), (9, .b true)] (.cons (idx_m (f := Enc.e) h6) (.cons (s_l1In_c h7) (.cons hb3 .nil))) (by kernel_rfl) ?_
            exact thN (Wk_J hL ⟨[(1, []), (2, []), (5, []), (54, [])], [(16, 16, [])], [], 48⟩ (by kernel_rfl))
          · have hm := ie hb3 hm
            obtain ⟨e3, h8, hm⟩ := obind hm
            obtain ⟨r5, h9, hm⟩ := obind hm
            obtain rfl := some_inj hm
            refine X_draw mixed ty_ok Γok Γlive [] (by kernel_rfl) [(3, .d (Enc.e e2)), (7, .c (s_l1In_r r4) (s_l1In_n r4) (s_l1In_o (e2, 0, (w64 (stops - 1))) r4)), (9, .b false), (14, .d (Enc.e e3)), (16, .c (s_l2Place_r r5) (s_l2Place_n r5) (s_l2Place_o (x, e3) r5))] (.cons (idx_m (f := Enc.e) h6) (.cons (s_l1In_c h7) (.cons hb3 (.cons (idx_m (f := Enc.e) h8) (.cons (s_l2Place_c h9) .nil))))) (by kernel_rfl) ?_
            exact thN (Wk_J hL ⟨[(1, []), (2, []), (5, []), (54, [])], [(16, 16, [])], [], 48⟩ (by kernel_rfl))
        have hm := hk1
        refine X_cond v2 (by kernel_rfl) (fun hc2 => ?_) (fun hc2 => ?_)
        · have hm := it hc2 hm
          refine X_reg_seq ty_ok Γok hL [] .nil (by kernel_rfl) ?_
          obtain rfl := some_inj hm
          obtain rfl := hb2 _ rfl
          have hm := congrArg some (hr _ rfl)
          obtain rfl := some_inj hm
          refine Ok_ret ?_
          repeat (first | refine thR ?_ | refine ibR ?_)
          exact X_fin [] [] (by kernel_rfl) trivial
        · have hm := ie hc2 hm
          refine X_skip ?_
          refine ibN ?_
          refine thN ?_
          refine X_reg ty_ok Γok hL [] .nil (by kernel_rfl) ?_
          obtain rfl := some_inj hm
          exact thN ⟨_, rfl, Wk_J hL ⟨[(1, []), (2, []), (5, [])], [(16, 16, [])], [], 48⟩ (by kernel_rfl)⟩
      · have hm := ie hc1 hm
        obtain rfl := some_inj hm
        obtain rfl := hb2 _ rfl
        refine Ok_exit ?_
        refine thE ?_
        refine thE ?_
        refine ibE ?_
        exact thN ⟨_, rfl, Wk_J hL ⟨[(2, [])], [(16, 16, [])], [], 48⟩ (by kernel_rfl)⟩
    rintro ⟨⟩ hu1 s hw
    have hm := hk2 _ hu1
    refine thN ?_
    refine Ok_weak hw ?_
    refine Ok_seq ?_
    refine X_reg_seq ty_ok Γok hL [] .nil (by kernel_rfl) ?_
    obtain ⟨v4, hv3, hr1, hk3⟩ := flb_t hm
    refine X_tailF (n := 69) (fun (_ : Unit) => (⟨[], [], 32⟩ : X)) v4 ?_ ?_
    · have hm := hv3
      refine Ok_block ?_
      refine X_loop (n := 69) (step := s_l2Line_L2 x) (fun (v3 : Int) => (⟨[(2, .ref 16 0), (6, .dat (.sc (.int .i64 v3)))], [(16, some (.box [.dat (.sc (.string x.Name)), .dat (Enc.e x.Stops), .dat (Enc.e x.Runs)]))], 48⟩ : X)) hm (Wk_J hL ⟨[(2, []), (6, [])], [(16, 16, [])], [], 48⟩ (by kernel_rfl)) ?_
      rintro v3 r0 hm hb4
      rw [s_l2Line_L2] at hm
      refine Ok_seq ?_
      refine X_reg_seq ty_ok Γok hL [(3, .n (x.Runs.length : Int))] (.cons (len_m Enc.e x.Runs) .nil) (by kernel_rfl) ?_
      refine X_cond (decide (v3 < (x.Runs.length : Int))) (by kernel_rfl) (fun hc3 => ?_) (fun hc3 => ?_)
      · have hm := it hc3 hm
        refine X_skip ?_
        refine thN ?_
        refine Ok_seq ?_
        refine Ok_block ?_
        obtain ⟨e5, h10, hm⟩ := obind hm
        obtain ⟨r7, h11, hm⟩ := obind hm
        refine X_reg_seq ty_ok Γok hL [(3, .d (Enc.e e5)), (5, .c (s_l1In_r r7) (s_l1In_n r7) (s_l1In_o (e5, 1, 60) r7))] (.cons (idx_m (f := Enc.e) h10) (.cons (s_l1In_c h11) .nil)) (by kernel_rfl) ?_
        refine X_cond (!r7) (by kernel_rfl) (fun hc4 => ?_) (fun hc4 => ?_)
        · have hm := it hc4 hm
          refine X_reg_seq ty_ok Γok hL [] .nil (by kernel_rfl) ?_
          obtain rfl := some_inj hm
          obtain rfl := hb4 _ rfl
          have hm := congrArg some (hr1 _ rfl)
          obtain rfl := some_inj hm
          refine Ok_ret ?_
          repeat (first | refine thR ?_ | refine ibR ?_)
          exact X_fin [] [] (by kernel_rfl) trivial
        · have hm := ie hc4 hm
          refine X_skip ?_
          refine ibN ?_
          refine thN ?_
          refine X_reg ty_ok Γok hL [] .nil (by kernel_rfl) ?_
          obtain rfl := some_inj hm
          exact thN ⟨_, rfl, Wk_J hL ⟨[(2, []), (6, [])], [(16, 16, [])], [], 48⟩ (by kernel_rfl)⟩
      · have hm := ie hc3 hm
        obtain rfl := some_inj hm
        obtain rfl := hb4 _ rfl
        refine Ok_exit ?_
        refine thE ?_
        refine thE ?_
        refine ibE ?_
        exact thN ⟨_, rfl, Wk_J hL ⟨[], [], [], 32⟩ (by kernel_rfl)⟩
    rintro ⟨⟩ hu s1 hw1
    have hm := hk3 _ hu
    refine thN ?_
    refine Ok_weak hw1 ?_
    refine X_reg_seq ty_ok Γok hL [] .nil (by kernel_rfl) ?_
    obtain rfl := some_inj hm
    refine Ok_ret ?_
    repeat (first | refine thR ?_ | refine ibR ?_)
    exact X_fin [] [] (by kernel_rfl) trivial
abbrev s_l2LineNamed_r (y : Int) : AV := .dat (Enc.e y)
abbrev s_l2LineNamed_n (y : Int) : List Obj' := []
abbrev s_l2LineNamed_o (x : Network × ByteArray) (y : Int) : List Obj' := []
noncomputable def s_l2LineNamed_S : FnSpec := modS [.rd, .rd] (fun x : Network × ByteArray => [Enc.e x.1, Enc.e x.2]) (fun x : Network × ByteArray => []) (fun x : Network × ByteArray => s_l2LineNamed x.1 x.2) s_l2LineNamed_r s_l2LineNamed_n s_l2LineNamed_o
theorem s_l2LineNamed_c {n : Network} {name : ByteArray} {y : Int} (h : s_l2LineNamed n name = some y) : CallOK s_l2LineNamed_S [Enc.e n, Enc.e name] [] (s_l2LineNamed_r y) (s_l2LineNamed_n y) (s_l2LineNamed_o (n, name) y) :=
  modS_call (by
    rintro ⟨a0, a1⟩ ⟨b0, b1⟩ h hO
    have q0 : a0 = b0 := Enc.inj _ _ (congrArg (fun l => List.getD l 0 (.sc undef)) h)
    have q1 : a1 = b1 := Enc.inj _ _ (congrArg (fun l => List.getD l 1 (.sc undef)) h)
    subst q0; subst q1; rfl) (x := (n, name)) h
theorem s_l2LineNamed_ok : FnOK Try.prog 242 s_l2LineNamed_S := by
  have Γok : ∀ f S, lookF f [] = some S → FnOK Try.prog f S := lookF_ok allF_nil
  have Γlive : Live (fun f => lookF f []) := lookF_live allL_nil
  refine fnOK_mod ty_ok (fun args w => Try.call242 args w) Try.func242 rfl [.tmp 4] (by rw [Try.results242]) 22 Try.ntmps242 16 rfl (fun _ => by first | exact Nat.zero_le _ | (simp)) ?_
  rintro ⟨n, name⟩ y cx hm hL
  have hm : s_l2LineNamed n name = some y := hm
  have hL : cx.L = 0 := hL
  unfold s_l2LineNamed at hm
  refine X_reg_seq ty_ok Γok hL [] .nil (by kernel_rfl) ?_
  refine Ok_seq ?_
  refine X_reg_seq ty_ok Γok hL [] .nil (by kernel_rfl) ?_
  obtain ⟨v1, hv, hr, hk⟩ := flb_t hm
  refine X_tailF (n := 22) (fun (_ : Unit) => (⟨[], [], 32⟩ : X)) v1 ?_ ?_
  · have hm := hv
    refine Ok_block ?_
    refine X_loop (n := 22) (step := s_l2LineNamed_L1 n name) (fun (v : Int) => (⟨[(1, .dat (.sc (.string name))), (2, .ref 16 0), (5, .dat (.sc (.int .i64 v)))], [(16, some (.box [.dat (Enc.e n.Stops), .dat (Enc.e n.Lines)]))], 48⟩ : X)) hm (Wk_J hL ⟨[(1, []), (2, []), (5, [])], [(16, 16, [])], [], 48⟩ (by kernel_rfl)) ?_
    rintro v r0 hm hb
    rw [s_l2LineNamed_L1] at hm
    refine Ok_seq ?_
    refine X_reg_seq ty_ok Γok hL [(3, .n (n.Lines.length : Int))] (.cons (len_m Enc.e n.Lines) .nil) (by kernel_rfl) ?_
    refine X_cond (decide (v < (n.Lines.length : Int))) (by kernel_rfl) (fun hc => ?_) (fun hc => ?_)
    · have hm := it hc hm
      refine X_skip ?_
      refine thN ?_
      refine Ok_seq ?_
      refine Ok_block ?_
      obtain ⟨e, h, hm⟩ := obind hm
      refine X_reg_seq ty_ok Γok hL [(3, .d (Enc.e e))] (.cons (idx_m (f := Enc.e) h) .nil) (by kernel_rfl) ?_
      refine X_cond (e.Name.toList == name.toList) (by kernel_rfl) (fun hc1 => ?_) (fun hc1 => ?_)
      · have hm := it hc1 hm
        refine X_reg_seq ty_ok Γok hL [] .nil (by kernel_rfl) ?_
        obtain rfl := some_inj hm
        obtain rfl := hb _ rfl
        have hm := congrArg some (hr _ rfl)
        obtain rfl := some_inj hm
        refine Ok_ret ?_
        repeat (first | refine thR ?_ | refine ibR ?_)
        exact X_fin [] [] (by kernel_rfl) trivial
      · have hm := ie hc1 hm
        refine X_skip ?_
        refine ibN ?_
        refine thN ?_
        refine X_reg ty_ok Γok hL [] .nil (by kernel_rfl) ?_
        obtain rfl := some_inj hm
        exact thN ⟨_, rfl, Wk_J hL ⟨[(1, []), (2, []), (5, [])], [(16, 16, [])], [], 48⟩ (by kernel_rfl)⟩
    · have hm := ie hc hm
      obtain rfl := some_inj hm
      obtain rfl := hb _ rfl
      refine Ok_exit ?_
      refine thE ?_
      refine thE ?_
      refine ibE ?_
      exact thN ⟨_, rfl, Wk_J hL ⟨[], [], [], 32⟩ (by kernel_rfl)⟩
  rintro ⟨⟩ hu s hw
  have hm := hk _ hu
  refine thN ?_
  refine Ok_weak hw ?_
  refine X_reg_seq ty_ok Γok hL [] .nil (by kernel_rfl) ?_
  obtain rfl := some_inj hm
  refine Ok_ret ?_
  repeat (first | refine thR ?_ | refine ibR ?_)
  exact X_fin [] [] (by kernel_rfl) trivial
abbrev s_l2Good_r (y : Bool) : AV := .dat (Enc.e y)
abbrev s_l2Good_n (y : Bool) : List Obj' := []
abbrev s_l2Good_o (x : Network) (y : Bool) : List Obj' := []
noncomputable def s_l2Good_S : FnSpec := modS [.rd] (fun x : Network => [Enc.e x]) (fun x : Network => []) (fun x : Network => s_l2Good x) s_l2Good_r s_l2Good_n s_l2Good_o
theorem s_l2Good_c {n : Network} {y : Bool} (h : s_l2Good n = some y) : CallOK s_l2Good_S [Enc.e n] [] (s_l2Good_r y) (s_l2Good_n y) (s_l2Good_o n y) :=
  modS_call (by
    rintro a0 b0 h hO
    have q0 : a0 = b0 := Enc.inj _ _ (congrArg (fun l => List.getD l 0 (.sc undef)) h)
    subst q0; rfl) (x := n) h
theorem s_l2Good_ok : FnOK Try.prog 209 s_l2Good_S := by
  have Γok : ∀ f S, lookF f [(88, s_l1In_S), (239, s_l2Name_S), (240, s_l2Find_S), (241, s_l2Line_S), (242, s_l2LineNamed_S)] = some S → FnOK Try.prog f S := lookF_ok (allF_cons s_l1In_ok (allF_cons s_l2Name_ok (allF_cons s_l2Find_ok (allF_cons s_l2Line_ok (allF_cons s_l2LineNamed_ok allF_nil)))))
  have Γlive : Live (fun f => lookF f [(88, s_l1In_S), (239, s_l2Name_S), (240, s_l2Find_S), (241, s_l2Line_S), (242, s_l2LineNamed_S)]) := lookF_live (allL_cons modS_live (allL_cons modS_live (allL_cons modS_live (allL_cons modS_live (allL_cons modS_live allL_nil)))))
  refine fnOK_mod ty_ok (fun args w => Try.call209 args w) Try.func209 rfl [.tmp 2] (by rw [Try.results209]) 72 Try.ntmps209 16 rfl (fun _ => by first | exact Nat.zero_le _ | (simp)) ?_
  rintro n y cx hm hL
  have hm : s_l2Good n = some y := hm
  have hL : cx.L = 0 := hL
  unfold s_l2Good at hm
  refine X_reg_seq ty_ok Γok hL [] .nil (by kernel_rfl) ?_
  refine Ok_seq ?_
  obtain ⟨r, h, hm⟩ := obind hm
  obtain ⟨v, hv, hk⟩ := obind hm
  refine X_join (n := 72) (fun (v : Bool) => (⟨[(1, .ref 16 0), (16, .dat (.sc (.bool v)))], [(16, some (.box [.dat (Enc.e n.Stops), .dat (Enc.e n.Lines)]))], 48⟩ : X)) v ?_ ?_
  · have hm := hv
    rcases btf (!r) with hb | hb
    · have hm := it hb hm
      obtain rfl := some_inj hm
      refine X_reg ty_ok Γok hL [(2, .n (n.Stops.length : Int)), (3, .c (s_l1In_r r) (s_l1In_n r) (s_l1In_o ((n.Stops.length : Int), 2, 8) r)), (5, .b true)] (.cons (len_m Enc.e n.Stops) (.cons (s_l1In_c h) (.cons hb .nil))) (by kernel_rfl) ?_
      exact thN (Wk_J hL ⟨[(1, []), (16, [])], [(16, 16, [])], [], 48⟩ (by kernel_rfl))
    · have hm := ie hb hm
      obtain ⟨r1, h1, hm⟩ := obind hm
      obtain rfl := some_inj hm
      refine X_reg ty_ok Γok hL [(2, .n (n.Stops.length : Int)), (3, .c (s_l1In_r r) (s_l1In_n r) (s_l1In_o ((n.Stops.length : Int), 2, 8) r)), (5, .b false), (8, .n (n.Lines.length : Int)), (9, .c (s_l1In_r r1) (s_l1In_n r1) (s_l1In_o ((n.Lines.length : Int), 1, 5) r1))] (.cons (len_m Enc.e n.Stops) (.cons (s_l1In_c h) (.cons hb (.cons (len_m Enc.e n.Lines) (.cons (s_l1In_c h1) .nil))))) (by kernel_rfl) ?_
      exact thN (Wk_J hL ⟨[(1, []), (16, [])], [(16, 16, [])], [], 48⟩ (by kernel_rfl))
  have hm := hk
  refine X_cond v (by kernel_rfl) (fun hc => ?_) (fun hc => ?_)
  · have hm := it hc hm
    refine X_reg_seq ty_ok Γok hL [] .nil (by kernel_rfl) ?_
    obtain rfl := some_inj hm
    refine Ok_ret ?_
    repeat (first | refine thR ?_ | refine ibR ?_)
    exact X_fin [] [] (by kernel_rfl) trivial
  · have hm := ie hc hm
    refine X_skip ?_
    refine thN ?_
    refine Ok_seq ?_
    refine X_reg_seq ty_ok Γok hL [] .nil (by kernel_rfl) ?_
    obtain ⟨v5, hv2, hr, hk2⟩ := flb_t hm
    refine X_tailF (n := 72) (fun (_ : Unit) => (⟨[(1, .ref 16 0)], [(16, some (.box [.dat (Enc.e n.Stops), .dat (Enc.e n.Lines)]))], 48⟩ : X)) v5 ?_ ?_
    · have hm := hv2
      refine Ok_block ?_
      refine X_loop (n := 72) (step := s_l2Good_L1 n) (fun (i : Int) => (⟨[(1, .ref 16 0), (3, .dat (.sc (.int .i64 i)))], [(16, some (.box [.dat (Enc.e n.Stops), .dat (Enc.e n.Lines)]))], 48⟩ : X)) hm (Wk_J hL ⟨[(1, []), (3, [])], [(16, 16, [])], [], 48⟩ (by kernel_rfl)) ?_
      rintro i r0 hm hb1
      rw [s_l2Good_L1] at hm
      refine Ok_seq ?_
      refine X_reg_seq ty_ok Γok hL [(3, .n (n.Stops.length : Int))] (.cons (len_m Enc.e n.Stops) .nil) (by kernel_rfl) ?_
      refine X_cond (decide (i < (n.Stops.length : Int))) (by kernel_rfl) (fun hc1 => ?_) (fun hc1 => ?_)
      · have hm := it hc1 hm
        refine X_skip ?_
        refine thN ?_
        refine Ok_seq ?_
        refine Ok_block ?_
        obtain ⟨e2, h6, hm⟩ := obind hm
        obtain ⟨r4, h7, hm⟩ := obind hm
        obtain ⟨v1, hv1, hk1⟩ := obind hm
        refine X_join (n := 72) (fun (v1 : Bool) => (⟨[(1, .ref 16 0), (3, .dat (.sc (.int .i64 i))), (42, .dat (.sc (.bool v1)))], [(16, some (.box [.dat (Enc.e n.Stops), .dat (Enc.e n.Lines)]))], 48⟩ : X)) v1 ?_ ?_
        · have hm := hv1
          rcases btf (!r4) with hb2 | hb2
          · have hm := it hb2 hm
            obtain rfl := some_inj hm
            refine X_draw mixed ty_ok Γok Γlive [] (by kernel_rfl) [(3, .d (Enc.e e2)), (5, .c (s_l2Name_r r4) (s_l2Name_n r4) (s_l2Name_o e2 r4)), (7, .b true)] (.cons (idx_m (f := Enc.e) h6) (.cons (s_l2Name_c h7) (.cons hb2 .nil))) (by kernel_rfl) ?_
            exact thN (Wk_J hL ⟨[(1, []), (3, []), (42, [])], [(16, 16, [])], [], 48⟩ (by kernel_rfl))
          · have hm := ie hb2 hm
            obtain ⟨e3, h8, hm⟩ := obind hm
            obtain ⟨r5, h9, hm⟩ := obind hm
            obtain rfl := some_inj hm
            refine X_draw mixed ty_ok Γok Γlive [] (by kernel_rfl) [(3, .d (Enc.e e2)), (5, .c (s_l2Name_r r4) (s_l2Name_n r4) (s_l2Name_o e2 r4)), (7, .b false), (13, .d (Enc.e e3)), (15, .c (s_l2Find_r r5) (s_l2Find_n r5) (s_l2Find_o (n.Stops, e3) r5))] (.cons (idx_m (f := Enc.e) h6) (.cons (s_l2Name_c h7) (.cons hb2 (.cons (idx_m (f := Enc.e) h8) (.cons (s_l2Find_c h9) .nil))))) (by kernel_rfl) ?_
            exact thN (Wk_J hL ⟨[(1, []), (3, []), (42, [])], [(16, 16, [])], [], 48⟩ (by kernel_rfl))
        have hm := hk1
        refine X_cond v1 (by kernel_rfl) (fun hc2 => ?_) (fun hc2 => ?_)
        · have hm := it hc2 hm
          refine X_reg_seq ty_ok Γok hL [] .nil (by kernel_rfl) ?_
          obtain rfl := some_inj hm
          obtain rfl := hb1 _ rfl
          have hm := congrArg some (hr _ rfl)
          obtain rfl := some_inj hm
          refine Ok_ret ?_
          repeat (first | refine thR ?_ | refine ibR ?_)
          exact X_fin [] [] (by kernel_rfl) trivial
        · have hm := ie hc2 hm
          refine X_skip ?_
          refine ibN ?_
          refine thN ?_
          refine X_reg ty_ok Γok hL [] .nil (by kernel_rfl) ?_
          obtain rfl := some_inj hm
          exact thN ⟨_, rfl, Wk_J hL ⟨[(1, []), (3, [])], [(16, 16, [])], [], 48⟩ (by kernel_rfl)⟩
      · have hm := ie hc1 hm
        obtain rfl := some_inj hm
        obtain rfl := hb1 _ rfl
        refine Ok_exit ?_
        refine thE ?_
        refine thE ?_
        refine ibE ?_
        exact thN ⟨_, rfl, Wk_J hL ⟨[(1, [])], [(16, 16, [])], [], 48⟩ (by kernel_rfl)⟩
    rintro ⟨⟩ hu1 s hw
    have hm := hk2 _ hu1
    refine thN ?_
    refine Ok_weak hw ?_
    refine Ok_seq ?_
    refine X_reg_seq ty_ok Γok hL [] .nil (by kernel_rfl) ?_
    obtain ⟨v4, hv4, hr1, hk4⟩ := flb_t hm
    refine X_tailF (n := 72) (fun (_ : Unit) => (⟨[], [], 32⟩ : X)) v4 ?_ ?_
    · have hm := hv4
      refine Ok_block ?_
      refine X_loop (n := 72) (step := s_l2Good_L2 n) (fun (v2 : Int) => (⟨[(1, .ref 16 0), (4, .dat (.sc (.int .i64 v2)))], [(16, some (.box [.dat (Enc.e n.Stops), .dat (Enc.e n.Lines)]))], 48⟩ : X)) hm (Wk_J hL ⟨[(1, []), (4, [])], [(16, 16, [])], [], 48⟩ (by kernel_rfl)) ?_
      rintro v2 r0 hm hb3
      rw [s_l2Good_L2] at hm
      refine Ok_seq ?_
      refine X_reg_seq ty_ok Γok hL [(3, .n (n.Lines.length : Int))] (.cons (len_m Enc.e n.Lines) .nil) (by kernel_rfl) ?_
      refine X_cond (decide (v2 < (n.Lines.length : Int))) (by kernel_rfl) (fun hc3 => ?_) (fun hc3 => ?_)
      · have hm := it hc3 hm
        refine X_skip ?_
        refine thN ?_
        refine Ok_seq ?_
        refine Ok_block ?_
        obtain ⟨e7, h14, hm⟩ := obind hm
        obtain ⟨r9, h15, hm⟩ := obind hm
        obtain ⟨v3, hv3, hk3⟩ := obind hm
        refine X_join (n := 72) (fun (v3 : Bool) => (⟨[(1, .ref 16 0), (4, .dat (.sc (.int .i64 v2))), (71, .dat (.sc (.bool v3)))], [(16, some (.box [.dat (Enc.e n.Stops), .dat (Enc.e n.Lines)]))], 48⟩ : X)) v3 ?_ ?_
        · have hm := hv3
          rcases btf (!r9) with hb4 | hb4
          · have hm := it hb4 hm
            obtain rfl := some_inj hm
            refine X_draw mixed ty_ok Γok Γlive [] (by kernel_rfl) [(3, .d (Enc.e e7)), (7, .n (n.Stops.length : Int)), (8, .c (s_l2Line_r r9) (s_l2Line_n r9) (s_l2Line_o (e7, (n.Stops.length : Int)) r9)), (10, .b true)] (.cons (idx_m (f := Enc.e) h14) (.cons (len_m Enc.e n.Stops) (.cons (s_l2Line_c h15) (.cons hb4 .nil)))) (by kernel_rfl) ?_
            exact thN (Wk_J hL ⟨[(1, []), (4, []), (71, [])], [(16, 16, [])], [], 48⟩ (by kernel_rfl))
          · have hm := ie hb4 hm
            obtain ⟨e8, h16, hm⟩ := obind hm
            obtain ⟨r10, h17, hm⟩ := obind hm
            obtain rfl := some_inj hm
            refine X_draw mixed ty_ok Γok Γlive [] (by kernel_rfl) [(3, .d (Enc.e e7)), (7, .n (n.Stops.length : Int)), (8, .c (s_l2Line_r r9) (s_l2Line_n r9) (s_l2Line_o (e7, (n.Stops.length : Int)) r9)), (10, .b false), (15, .d (Enc.e e8)), (18, .c (s_l2LineNamed_r r10) (s_l2LineNamed_n r10) (s_l2LineNamed_o (n, e8.Name) r10))] (.cons (idx_m (f := Enc.e) h14) (.cons (len_m Enc.e n.Stops) (.cons (s_l2Line_c h15) (.cons hb4 (.cons (idx_m (f := Enc.e) h16) (.cons (s_l2LineNamed_c h17) .nil)))))) (by kernel_rfl) ?_
            exact thN (Wk_J hL ⟨[(1, []), (4, []), (71, [])], [(16, 16, [])], [], 48⟩ (by kernel_rfl))
        have hm := hk3
        refine X_cond v3 (by kernel_rfl) (fun hc4 => ?_) (fun hc4 => ?_)
        · have hm := it hc4 hm
          refine X_reg_seq ty_ok Γok hL [] .nil (by kernel_rfl) ?_
          obtain rfl := some_inj hm
          obtain rfl := hb3 _ rfl
          have hm := congrArg some (hr1 _ rfl)
          obtain rfl := some_inj hm
          refine Ok_ret ?_
          repeat (first | refine thR ?_ | refine ibR ?_)
          exact X_fin [] [] (by kernel_rfl) trivial
        · have hm := ie hc4 hm
          refine X_skip ?_
          refine ibN ?_
          refine thN ?_
          refine X_reg ty_ok Γok hL [] .nil (by kernel_rfl) ?_
          obtain rfl := some_inj hm
          exact thN ⟨_, rfl, Wk_J hL ⟨[(1, []), (4, [])], [(16, 16, [])], [], 48⟩ (by kernel_rfl)⟩
      · have hm := ie hc3 hm
        obtain rfl := some_inj hm
        obtain rfl := hb3 _ rfl
        refine Ok_exit ?_
        refine thE ?_
        refine thE ?_
        refine ibE ?_
        exact thN ⟨_, rfl, Wk_J hL ⟨[], [], [], 32⟩ (by kernel_rfl)⟩
    rintro ⟨⟩ hu s1 hw1
    have hm := hk4 _ hu
    refine thN ?_
    refine Ok_weak hw1 ?_
    refine X_reg_seq ty_ok Γok hL [] .nil (by kernel_rfl) ?_
    obtain rfl := some_inj hm
    refine Ok_ret ?_
    repeat (first | refine thR ?_ | refine ibR ?_)
    exact X_fin [] [] (by kernel_rfl) trivial
abbrev s_l4Time_r (y : Bool) : AV := .dat (Enc.e y)
abbrev s_l4Time_n (y : Bool) : List Obj' := []
abbrev s_l4Time_o (x : Int) (y : Bool) : List Obj' := []
noncomputable def s_l4Time_S : FnSpec := modS [.rd] (fun x : Int => [Enc.e x]) (fun x : Int => []) (fun x : Int => s_l4Time x) s_l4Time_r s_l4Time_n s_l4Time_o
theorem s_l4Time_c {t : Int} {y : Bool} (h : s_l4Time t = some y) : CallOK s_l4Time_S [Enc.e t] [] (s_l4Time_r y) (s_l4Time_n y) (s_l4Time_o t y) :=
  modS_call (by
    rintro a0 b0 h hO
    have q0 : a0 = b0 := Enc.inj _ _ (congrArg (fun l => List.getD l 0 (.sc undef)) h)
    subst q0; rfl) (x := t) h
theorem s_l4Time_ok : FnOK Try.prog 204 s_l4Time_S := by
  have Γok : ∀ f S, lookF f [(88, s_l1In_S)] = some S → FnOK Try.prog f S := lookF_ok (allF_cons s_l1In_ok allF_nil)
  have Γlive : Live (fun f => lookF f [(88, s_l1In_S)]) := lookF_live (allL_cons modS_live allL_nil)
  refine fnOK_mod ty_ok (fun args w => Try.call204 args w) Try.func204 rfl [.tmp 2] (by rw [Try.results204]) 5 Try.ntmps204 16 rfl (fun _ => by first | exact Nat.zero_le _ | (simp)) ?_
  rintro t y cx hm hL
  have hm : s_l4Time t = some y := hm
  have hL : cx.L = 0 := hL
  unfold s_l4Time at hm
  refine X_reg_seq ty_ok Γok hL [] .nil (by kernel_rfl) ?_
  obtain ⟨r, h, hm⟩ := obind hm
  refine X_reg_seq ty_ok Γok hL [(1, .c (s_l1In_r r) (s_l1In_n r) (s_l1In_o (t, 0, 1799) r))] (.cons (s_l1In_c h) .nil) (by kernel_rfl) ?_
  obtain rfl := some_inj hm
  refine Ok_ret ?_
  repeat (first | refine thR ?_ | refine ibR ?_)
  exact X_fin [] [] (by kernel_rfl) trivial
abbrev s_l5Line_r (y : Line) : AV := .dat (Enc.e y)
abbrev s_l5Line_n (y : Line) : List Obj' := []
abbrev s_l5Line_o (x : Timetable × Int) (y : Line) : List Obj' := []
noncomputable def s_l5Line_S : FnSpec := modS [.rd, .rd] (fun x : Timetable × Int => [Enc.e x.1, Enc.e x.2]) (fun x : Timetable × Int => []) (fun x : Timetable × Int => s_l5Line x.1 x.2) s_l5Line_r s_l5Line_n s_l5Line_o
theorem s_l5Line_c {t : Timetable} {i : Int} {y : Line} (h : s_l5Line t i = some y) : CallOK s_l5Line_S [Enc.e t, Enc.e i] [] (s_l5Line_r y) (s_l5Line_n y) (s_l5Line_o (t, i) y) :=
  modS_call (by
    rintro ⟨a0, a1⟩ ⟨b0, b1⟩ h hO
    have q0 : a0 = b0 := Enc.inj _ _ (congrArg (fun l => List.getD l 0 (.sc undef)) h)
    have q1 : a1 = b1 := Enc.inj _ _ (congrArg (fun l => List.getD l 1 (.sc undef)) h)
    subst q0; subst q1; rfl) (x := (t, i)) h
theorem s_l5Line_ok : FnOK Try.prog 218 s_l5Line_S := by
  have Γok : ∀ f S, lookF f [] = some S → FnOK Try.prog f S := lookF_ok allF_nil
  have Γlive : Live (fun f => lookF f []) := lookF_live allL_nil
  refine fnOK_mod ty_ok (fun args w => Try.call218 args w) Try.func218 rfl [.cell 4 198] (by rw [Try.results218]) 16 Try.ntmps218 16 rfl (fun _ => by first | exact Nat.zero_le _ | (simp)) ?_
  rintro ⟨t, i⟩ y cx hm hL
  have hm : s_l5Line t i = some y := hm
  have hL : cx.L = 0 := hL
  unfold s_l5Line at hm
  refine X_reg_seq ty_ok Γok hL [] .nil (by kernel_rfl) ?_
  obtain ⟨e2, h2, hm⟩ := obind hm
  obtain ⟨e3, h3, hm⟩ := obind hm
  refine X_draw_seq mixed ty_ok Γok Γlive [(11, [32])] (by kernel_rfl) [(6, .d (Enc.e e2)), (9, .d (Enc.e e3))] (.cons (idx_m (f := Enc.e) h2) (.cons (idx_m (f := Enc.e) h3) .nil)) (by kernel_rfl) ?_
  obtain rfl := some_inj hm
  refine Ok_ret ?_
  repeat (first | refine thR ?_ | refine ibR ?_)
  exact X_fin [] [] (by kernel_rfl) trivial
abbrev s_l5Stops_r (y : (List Int)) : AV := .dat (Enc.e y)
abbrev s_l5Stops_n (y : (List Int)) : List Obj' := []
abbrev s_l5Stops_o (x : Timetable × Int) (y : (List Int)) : List Obj' := []
noncomputable def s_l5Stops_S : FnSpec := modS [.rd, .rd] (fun x : Timetable × Int => [Enc.e x.1, Enc.e x.2]) (fun x : Timetable × Int => []) (fun x : Timetable × Int => s_l5Stops x.1 x.2) s_l5Stops_r s_l5Stops_n s_l5Stops_o
theorem s_l5Stops_c {t : Timetable} {i : Int} {y : (List Int)} (h : s_l5Stops t i = some y) : CallOK s_l5Stops_S [Enc.e t, Enc.e i] [] (s_l5Stops_r y) (s_l5Stops_n y) (s_l5Stops_o (t, i) y) :=
  modS_call (by
    rintro ⟨a0, a1⟩ ⟨b0, b1⟩ h hO
    have q0 : a0 = b0 := Enc.inj _ _ (congrArg (fun l => List.getD l 0 (.sc undef)) h)
    have q1 : a1 = b1 := Enc.inj _ _ (congrArg (fun l => List.getD l 1 (.sc undef)) h)
    subst q0; subst q1; rfl) (x := (t, i)) h
theorem s_l5Stops_ok : FnOK Try.prog 155 s_l5Stops_S := by
  have Γok : ∀ f S, lookF f [(218, s_l5Line_S)] = some S → FnOK Try.prog f S := lookF_ok (allF_cons s_l5Line_ok allF_nil)
  have Γlive : Live (fun f => lookF f [(218, s_l5Line_S)]) := lookF_live (allL_cons modS_live allL_nil)
  refine fnOK_mod ty_ok (fun args w => Try.call155 args w) Try.func155 rfl [.tmp 4] (by rw [Try.results155]) 9 Try.ntmps155 16 rfl (fun _ => by first | exact Nat.zero_le _ | (simp)) ?_
  rintro ⟨t, i⟩ y cx hm hL
  have hm : s_l5Stops t i = some y := hm
  have hL : cx.L = 0 := hL
  unfold s_l5Stops at hm
  refine X_reg_seq ty_ok Γok hL [] .nil (by kernel_rfl) ?_
  obtain ⟨r, h, hm⟩ := obind hm
  refine X_reg_seq ty_ok Γok hL [(2, .c (s_l5Line_r r) (s_l5Line_n r) (s_l5Line_o (t, i) r))] (.cons (s_l5Line_c h) .nil) (by kernel_rfl) ?_
  obtain rfl := some_inj hm
  refine Ok_ret ?_
  repeat (first | refine thR ?_ | refine ibR ?_)
  exact X_fin [] [] (by kernel_rfl) trivial
end Go.Proofs.Ytepdapiceklppaa
