/- Each function computes what its model says. Made by program (dec.py). -/
import Derived.Test.YtmpgpfekekobfaaTy
import Derived.Test.YtmpgpfekekobfaaAbEx5
import Derived.Test.YtmpgpfekekobfaaLnM
namespace Go.Proofs.Ytmpgpfekekobfaa
open Go Go.Ab
set_option maxRecDepth 100000
set_option maxHeartbeats 4000000
set_option linter.unusedVariables false
set_option linter.unusedSimpArgs false
theorem mixed : Try.prog.follows .mixedOrders = true := by kernel_rfl
abbrev v_vBig_r (y : Bool) : AV := .dat (Enc.e y)
abbrev v_vBig_n (y : Bool) : List Obj' := []
abbrev v_vBig_o (x : (List UInt8)) (y : Bool) : List Obj' := []
noncomputable def v_vBig_S : FnSpec := modS [none] (fun x : (List UInt8) => [Enc.e x]) (fun x : (List UInt8) => []) (fun x : (List UInt8) => v_vBig x) v_vBig_r v_vBig_n v_vBig_o
theorem v_vBig_c {code : List UInt8} {y : Bool} (h : v_vBig code = some y) : CallOK v_vBig_S [Enc.e code] [] (v_vBig_r y) (v_vBig_n y) (v_vBig_o code y) :=
  modS_call (by
    rintro a0 b0 h hO
    simp only [List.cons.injEq, and_true] at h
    try simp only [List.cons.injEq, and_true, Obj'.box.injEq, Obj'.arr.injEq, true_and, AV.dat.injEq] at hO
    have h0 := h
    have q0 := Enc.inj _ _ h0
    subst q0; rfl) (x := code) h
theorem v_vBig_ok : FnOK Try.prog 30 v_vBig_S := by
  have Γok : ∀ f S, lookF f [] = some S → FnOK Try.prog f S := lookF_ok allF_nil
  have Γlive : Live (fun f => lookF f []) := lookF_live allL_nil
  refine fnOK_mod ty_ok (fun args w => Try.call30 args w) Try.func30 rfl [.tmp 2] (by rw [Try.results30]) 6 Try.ntmps30 16 rfl (fun _ => by first | exact Nat.zero_le _ | (simp)) (fun _ => rfl) ?_
  rintro code y cx hm hL
  have hm : v_vBig code = some y := hm
  have hL : cx.L = 0 := hL
  unfold v_vBig at hm
  refine X_reg_seq ty_ok Γok hL [] .nil (by kernel_rfl) ?_
  refine X_reg_seq ty_ok Γok hL [(1, .n (code.length : Int))] (.cons (len_m Enc.e code) .nil) (by kernel_rfl) ?_
  obtain rfl := some_inj hm
  refine Ok_ret ?_
  repeat (first | refine thR ?_ | refine ibR ?_)
  exact X_fin [] [] (by kernel_rfl) trivial
abbrev s_l1Cur_next_r (y : Int × l1Cur) : AV := .dat (Enc.e y.1)
abbrev s_l1Cur_next_n (y : Int × l1Cur) : List Obj' := []
abbrev s_l1Cur_next_o (x : l1Cur) (y : Int × l1Cur) : List Obj' := [.box [.dat (Enc.e y.2.code_), .dat (.sc (.int .i64 y.2.at_)), .dat (.sc (.int .u64 y.2.seed_.v))]]
noncomputable def s_l1Cur_next_S : FnSpec := modS [some false] (fun x : l1Cur => [.sc undef]) (fun x : l1Cur => [.box [.dat (Enc.e x.code_), .dat (.sc (.int .i64 x.at_)), .dat (.sc (.int .u64 x.seed_.v))]]) (fun x : l1Cur => s_l1Cur_next x) s_l1Cur_next_r s_l1Cur_next_n s_l1Cur_next_o
theorem s_l1Cur_next_c {c : l1Cur} {y : Int × l1Cur} (h : s_l1Cur_next c = some y) : CallOK s_l1Cur_next_S [.sc undef] [.box [.dat (Enc.e c.code_), .dat (.sc (.int .i64 c.at_)), .dat (.sc (.int .u64 c.seed_.v))]] (s_l1Cur_next_r y) (s_l1Cur_next_n y) (s_l1Cur_next_o c y) :=
  modS_call (by
    rintro a0 b0 h hO
    simp only [List.cons.injEq, and_true] at h
    try simp only [List.cons.injEq, and_true, Obj'.box.injEq, Obj'.arr.injEq, true_and, AV.dat.injEq] at hO
    have h0 := h
    have g0 := hO
    have q0 : a0 = b0 := Enc.inj _ _ (by show D.agg _ = D.agg _; simp only [D.agg.injEq, List.cons.injEq, and_true]; exact g0)
    subst q0; rfl) (x := c) h
theorem s_l1Cur_next_ok : FnOK Try.prog 106 s_l1Cur_next_S := by
  have Γok : ∀ f S, lookF f [] = some S → FnOK Try.prog f S := lookF_ok allF_nil
  have Γlive : Live (fun f => lookF f []) := lookF_live allL_nil
  refine fnOK_mod ty_ok (fun args w => Try.call106 args w) Try.func106 rfl [.tmp 2] (by rw [Try.results106]) 62 Try.ntmps106 16 rfl (fun _ => by first | exact Nat.zero_le _ | (simp)) (fun _ => rfl) ?_
  rintro c y cx hm hL
  have hm : s_l1Cur_next c = some y := hm
  have hL : cx.L = 1 := hL
  unfold s_l1Cur_next at hm
  refine X_reg_seq ty_ok Γok hL [] .nil (by kernel_rfl) ?_
  refine X_reg_seq ty_ok Γok hL [] .nil (by kernel_rfl) ?_
  obtain ⟨v, hv, hk⟩ := obind hm
  refine X_join (n := 62) (fun (v : Int) => (⟨[(0, .ref 0 0), (3, .dat (.sc (.int .i64 v)))], [(0, some (.box [.dat (Enc.e c.code_), .dat (.sc (.int .i64 c.at_)), .dat (.sc (.int .u64 c.seed_.v))]))], 48⟩ : X)) v ?_ ?_
  · have hm := hv
    refine X_draw_seq mixed ty_ok Γok Γlive [] (by kernel_rfl) [(8, .n (c.code_.length : Int))] (.cons (len_m Enc.e c.code_) .nil) (by kernel_rfl) ?_
    refine X_cond (decide (c.at_ < (c.code_.length : Int))) (by kernel_rfl) (fun hc => ?_) (fun hc => ?_)
    · have hm := it hc hm
      obtain ⟨e1, h1, hm⟩ := obind hm
      refine X_draw mixed ty_ok Γok Γlive [] (by kernel_rfl) [(8, .d (Enc.e e1))] (.cons (idx_m (f := Enc.e) h1) .nil) (by kernel_rfl) ?_
      obtain rfl := some_inj hm
      exact thN (Wk_J hL ⟨[(0, []), (3, [])], [(0, 0, [])], [], 48⟩ (by kernel_rfl))
    · have hm := ie hc hm
      refine X_skip ?_
      obtain rfl := some_inj hm
      exact thN (Wk_J hL ⟨[(0, []), (3, [])], [(0, 0, [])], [], 48⟩ (by kernel_rfl))
  have hm := hk
  refine X_reg_seq ty_ok Γok hL [] .nil (by kernel_rfl) ?_
  refine X_reg_seq ty_ok Γok hL [] .nil (by kernel_rfl) ?_
  refine Ok_seq ?_
  refine X_draw_seq mixed ty_ok Γok Γlive [] (by kernel_rfl) [(8, .n (c.code_.length : Int))] (.cons (len_m Enc.e c.code_) .nil) (by kernel_rfl) ?_
  refine X_cond (decide ((w64 (c.at_ + 1)) ≤ (c.code_.length : Int))) (by kernel_rfl) (fun hc1 => ?_) (fun hc1 => ?_)
  · have hm := it hc1 hm
    refine X_reg_seq ty_ok Γok hL [] .nil (by kernel_rfl) ?_
    obtain rfl := some_inj hm
    refine Ok_ret ?_
    repeat (first | refine thR ?_ | refine ibR ?_)
    exact X_fin [] [] (by kernel_rfl) trivial
  · have hm := ie hc1 hm
    refine X_skip ?_
    refine thN ?_
    obtain ⟨u, h2, hm⟩ := obind hm
    refine X_reg_seq ty_ok Γok hL [] (.cons (chk_t h2) .nil) (by kernel_rfl) ?_
    obtain rfl := some_inj hm
    refine Ok_ret ?_
    repeat (first | refine thR ?_ | refine ibR ?_)
    exact X_fin [] [] (by kernel_rfl) trivial
abbrev s_l1Cur_pick_r (y : Int × l1Cur) : AV := .dat (Enc.e y.1)
abbrev s_l1Cur_pick_n (y : Int × l1Cur) : List Obj' := []
abbrev s_l1Cur_pick_o (x : l1Cur × Int) (y : Int × l1Cur) : List Obj' := [.box [.dat (Enc.e y.2.code_), .dat (.sc (.int .i64 y.2.at_)), .dat (.sc (.int .u64 y.2.seed_.v))]]
noncomputable def s_l1Cur_pick_S : FnSpec := modS [some false, none] (fun x : l1Cur × Int => [.sc undef, Enc.e x.2]) (fun x : l1Cur × Int => [.box [.dat (Enc.e x.1.code_), .dat (.sc (.int .i64 x.1.at_)), .dat (.sc (.int .u64 x.1.seed_.v))]]) (fun x : l1Cur × Int => s_l1Cur_pick x.1 x.2) s_l1Cur_pick_r s_l1Cur_pick_n s_l1Cur_pick_o
theorem s_l1Cur_pick_c {c : l1Cur} {n : Int} {y : Int × l1Cur} (h : s_l1Cur_pick c n = some y) : CallOK s_l1Cur_pick_S [.sc undef, Enc.e n] [.box [.dat (Enc.e c.code_), .dat (.sc (.int .i64 c.at_)), .dat (.sc (.int .u64 c.seed_.v))]] (s_l1Cur_pick_r y) (s_l1Cur_pick_n y) (s_l1Cur_pick_o (c, n) y) :=
  modS_call (by
    rintro ⟨a0, a1⟩ ⟨b0, b1⟩ h hO
    simp only [List.cons.injEq, and_true] at h
    try simp only [List.cons.injEq, and_true, Obj'.box.injEq, Obj'.arr.injEq, true_and, AV.dat.injEq] at hO
    obtain ⟨h0, h1⟩ := h
    have q1 := Enc.inj _ _ h1
    have g0 := hO
    have q0 : a0 = b0 := Enc.inj _ _ (by show D.agg _ = D.agg _; simp only [D.agg.injEq, List.cons.injEq, and_true]; exact g0)
    subst q0; subst q1; rfl) (x := (c, n)) h
theorem s_l1Cur_pick_ok : FnOK Try.prog 55 s_l1Cur_pick_S := by
  have Γok : ∀ f S, lookF f [(106, s_l1Cur_next_S)] = some S → FnOK Try.prog f S := lookF_ok (allF_cons s_l1Cur_next_ok allF_nil)
  have Γlive : Live (fun f => lookF f [(106, s_l1Cur_next_S)]) := lookF_live (allL_cons modS_live allL_nil)
  refine fnOK_mod ty_ok (fun args w => Try.call55 args w) Try.func55 rfl [.tmp 4] (by rw [Try.results55]) 20 Try.ntmps55 16 rfl (fun _ => by first | exact Nat.zero_le _ | (simp)) (fun _ => rfl) ?_
  rintro ⟨c, n⟩ y cx hm hL
  have hm : s_l1Cur_pick c n = some y := hm
  have hL : cx.L = 1 := hL
  unfold s_l1Cur_pick at hm
  refine X_reg_seq ty_ok Γok hL [] .nil (by kernel_rfl) ?_
  refine Ok_seq ?_
  refine X_reg_seq ty_ok Γok hL [] .nil (by kernel_rfl) ?_
  refine X_cond (decide (n ≤ 1)) (by kernel_rfl) (fun hc => ?_) (fun hc => ?_)
  · have hm := it hc hm
    refine X_reg_seq ty_ok Γok hL [] .nil (by kernel_rfl) ?_
    obtain rfl := some_inj hm
    refine Ok_ret ?_
    repeat (first | refine thR ?_ | refine ibR ?_)
    exact X_fin [] [] (by kernel_rfl) trivial
  · have hm := ie hc hm
    refine X_skip ?_
    refine thN ?_
    obtain ⟨r, h, hm⟩ := obind hm
    refine X_reg_seq ty_ok Γok hL [(1, .c (s_l1Cur_next_r r) (s_l1Cur_next_n r) (s_l1Cur_next_o c r))] (.cons (s_l1Cur_next_c h) .nil) (by kernel_rfl) ?_
    obtain ⟨vv, hv, hk⟩ := obind hm
    refine X_join (n := 20) (fun ((v, v1, v2, v3) : Int × (List UInt8) × Int × Int) => (⟨[(0, .ref 0 0), (1, .dat (.sc (.int .i64 n))), (5, .dat (.sc (.int .i64 v)))], [(0, some (.box [.dat (Enc.e v1), .dat (.sc (.int .i64 v2)), .dat (.sc (.int .u64 v3))]))], 48⟩ : X)) vv ?_ ?_
    · have hm := hv
      refine X_reg_seq ty_ok Γok hL [] .nil (by kernel_rfl) ?_
      refine X_cond (decide (200 < n)) (by kernel_rfl) (fun hc1 => ?_) (fun hc1 => ?_)
      · have hm := it hc1 hm
        obtain ⟨r1, h1, hm⟩ := obind hm
        refine X_reg ty_ok Γok hL [(3, .c (s_l1Cur_next_r r1) (s_l1Cur_next_n r1) (s_l1Cur_next_o r.2 r1))] (.cons (s_l1Cur_next_c h1) .nil) (by kernel_rfl) ?_
        obtain rfl := some_inj hm
        exact thN (Wk_J hL ⟨[(0, []), (1, []), (5, [])], [(0, 0, [])], [], 48⟩ (by kernel_rfl))
      · have hm := ie hc1 hm
        refine X_skip ?_
        obtain rfl := some_inj hm
        exact thN (Wk_J hL ⟨[(0, []), (1, []), (5, [])], [(0, 0, [])], [], 48⟩ (by kernel_rfl))
    obtain ⟨v, v1, v2, v3⟩ := vv
    have hm := hk
    obtain ⟨u, h2, hm⟩ := obind hm
    refine X_reg_seq ty_ok Γok hL [] (.cons (chk_t h2) .nil) (by kernel_rfl) ?_
    obtain rfl := some_inj hm
    refine Ok_ret ?_
    repeat (first | refine thR ?_ | refine ibR ?_)
    exact X_fin [] [] (by kernel_rfl) trivial
abbrev s_l1Num_r (y : ByteArray) : AV := .dat (Enc.e y)
abbrev s_l1Num_n (y : ByteArray) : List Obj' := []
abbrev s_l1Num_o (x : Int) (y : ByteArray) : List Obj' := []
noncomputable def s_l1Num_SR (rec_ : Int → Option (ByteArray)) : FnSpec := modS [none] (fun x : Int => [Enc.e x]) (fun x : Int => []) (fun x : Int => rec_ x) s_l1Num_r s_l1Num_n s_l1Num_o
noncomputable def s_l1Num_S : FnSpec := modS [none] (fun x : Int => [Enc.e x]) (fun x : Int => []) (fun x : Int => s_l1Num x) s_l1Num_r s_l1Num_n s_l1Num_o
theorem s_l1Num_c {n : Int} {y : ByteArray} (h : s_l1Num n = some y) : CallOK s_l1Num_S [Enc.e n] [] (s_l1Num_r y) (s_l1Num_n y) (s_l1Num_o n y) :=
  modS_call (by
    rintro a0 b0 h hO
    simp only [List.cons.injEq, and_true] at h
    try simp only [List.cons.injEq, and_true, Obj'.box.injEq, Obj'.arr.injEq, true_and, AV.dat.injEq] at hO
    have h0 := h
    have q0 := Enc.inj _ _ h0
    subst q0; rfl) (x := n) h
theorem s_l1Num_cR {rec_ : Int → Option (ByteArray)} {n : Int} {y : ByteArray} (h : rec_ n = some y) : CallOK (s_l1Num_SR rec_) [Enc.e n] [] (s_l1Num_r y) (s_l1Num_n y) (s_l1Num_o n y) :=
  modS_call (by
    rintro a0 b0 h hO
    simp only [List.cons.injEq, and_true] at h
    try simp only [List.cons.injEq, and_true, Obj'.box.injEq, Obj'.arr.injEq, true_and, AV.dat.injEq] at hO
    have h0 := h
    have q0 := Enc.inj _ _ h0
    subst q0; rfl) (x := n) h
theorem s_l1Num_okF {rec_ : Int → Option (ByteArray)} (hrec : FnOK Try.prog 114 (s_l1Num_SR rec_)) : FnOK Try.prog 114 (s_l1Num_SR (s_l1Num_F rec_)) := by
  have Γok : ∀ f S, lookF f [(114, s_l1Num_SR rec_)] = some S → FnOK Try.prog f S := lookF_ok (allF_cons hrec allF_nil)
  have Γlive : Live (fun f => lookF f [(114, s_l1Num_SR rec_)]) := lookF_live (allL_cons modS_live allL_nil)
  refine fnOK_mod ty_ok (fun args w => Try.call114 args w) Try.func114 rfl [.tmp 2] (by rw [Try.results114]) 25 Try.ntmps114 16 rfl (fun _ => by first | exact Nat.zero_le _ | (simp)) (fun _ => rfl) ?_
  rintro n y cx hm hL
  have hm : s_l1Num_F rec_ n = some y := hm
  have hL : cx.L = 0 := hL
  unfold s_l1Num_F at hm
  refine X_reg_seq ty_ok Γok hL [] .nil (by kernel_rfl) ?_
  refine Ok_seq ?_
  refine X_reg_seq ty_ok Γok hL [] .nil (by kernel_rfl) ?_
  refine X_cond (decide (n < 0)) (by kernel_rfl) (fun hc => ?_) (fun hc => ?_)
  · have hm := it hc hm
    obtain ⟨r, h, hm⟩ := obind hm
    obtain ⟨u, h1, hm⟩ := obind hm
    refine X_reg_seq ty_ok Γok hL [(2, .c (s_l1Num_r r) (s_l1Num_n r) (s_l1Num_o (w64 (0 - n)) r))] (.cons (s_l1Num_cR h) (.cons (cat_p (chk_t h1)) .nil)) (by kernel_rfl) ?_
    obtain rfl := some_inj hm
    refine Ok_ret ?_
    repeat (first | refine thR ?_ | refine ibR ?_)
    exact X_fin [] [] (by kernel_rfl) trivial
  · have hm := ie hc hm
    refine X_skip ?_
    refine thN ?_
    refine Ok_seq ?_
    refine X_reg_seq ty_ok Γok hL [] .nil (by kernel_rfl) ?_
    refine X_cond (decide (n < 10)) (by kernel_rfl) (fun hc1 => ?_) (fun hc1 => ?_)
    · have hm := it hc1 hm
      obtain ⟨u1, h2, hm⟩ := obind hm
      refine X_reg_seq ty_ok Γok hL [] (.cons (chk_t h2) .nil) (by kernel_rfl) ?_
      obtain rfl := some_inj hm
      refine Ok_ret ?_
      repeat (first | refine thR ?_ | refine ibR ?_)
      exact X_fin [] [] (by kernel_rfl) trivial
    · have hm := ie hc1 hm
      refine X_skip ?_
      refine thN ?_
      obtain ⟨u7, h9, hm⟩ := obind hm
      obtain ⟨r2, h10, hm⟩ := obind hm
      obtain ⟨u8, h11, hm⟩ := obind hm
      obtain ⟨u9, h12, hm⟩ := obind hm
      obtain ⟨u10, h13, hm⟩ := obind hm
      obtain ⟨u11, h14, hm⟩ := obind hm
      refine X_draw_seq mixed ty_ok Γok Γlive [] (by kernel_rfl) [(2, .c (s_l1Num_r r2) (s_l1Num_n r2) (s_l1Num_o (w64 (n.tdiv 10)) r2))] (.cons (chk_t h9) (.cons (s_l1Num_cR h10) (.cons (chk_t h11) (.cons (chk_t h12) (.cons (chk_t h13) (.cons (cat_p (chk_t h14)) .nil)))))) (by kernel_rfl) ?_
      obtain rfl := some_inj hm
      refine Ok_ret ?_
      repeat (first | refine thR ?_ | refine ibR ?_)
      exact X_fin [] [] (by kernel_rfl) trivial
theorem s_l1Num_okn : ∀ k, FnOK Try.prog 114 (s_l1Num_SR (s_l1Num_k k))
  | 0 => ⟨fun args w => Try.call114 args w, fun vs w F ds obs κ hp => by obtain ⟨x, y, _, _, h⟩ := hp; cases h⟩
  | k + 1 => s_l1Num_okF (s_l1Num_okn k)
theorem s_l1Num_ok : FnOK Try.prog 114 s_l1Num_S := s_l1Num_okn 4294967296
abbrev s_l2Place_r (y : Int) : AV := .dat (Enc.e y)
abbrev s_l2Place_n (y : Int) : List Obj' := []
abbrev s_l2Place_o (x : Line × Int) (y : Int) : List Obj' := []
noncomputable def s_l2Place_S : FnSpec := modS [none, none] (fun x : Line × Int => [Enc.e x.1, Enc.e x.2]) (fun x : Line × Int => []) (fun x : Line × Int => s_l2Place x.1 x.2) s_l2Place_r s_l2Place_n s_l2Place_o
theorem s_l2Place_c {x : Line} {stop : Int} {y : Int} (h : s_l2Place x stop = some y) : CallOK s_l2Place_S [Enc.e x, Enc.e stop] [] (s_l2Place_r y) (s_l2Place_n y) (s_l2Place_o (x, stop) y) :=
  modS_call (by
    rintro ⟨a0, a1⟩ ⟨b0, b1⟩ h hO
    simp only [List.cons.injEq, and_true] at h
    try simp only [List.cons.injEq, and_true, Obj'.box.injEq, Obj'.arr.injEq, true_and, AV.dat.injEq] at hO
    obtain ⟨h0, h1⟩ := h
    have q0 := Enc.inj _ _ h0
    have q1 := Enc.inj _ _ h1
    subst q0; subst q1; rfl) (x := (x, stop)) h
theorem s_l2Place_ok : FnOK Try.prog 125 s_l2Place_S := by
  have Γok : ∀ f S, lookF f [] = some S → FnOK Try.prog f S := lookF_ok allF_nil
  have Γlive : Live (fun f => lookF f []) := lookF_live allL_nil
  refine fnOK_mod ty_ok (fun args w => Try.call125 args w) Try.func125 rfl [.tmp 4] (by rw [Try.results125]) 21 Try.ntmps125 16 rfl (fun _ => by first | exact Nat.zero_le _ | (simp)) (fun _ => rfl) ?_
  rintro ⟨x, stop⟩ y cx hm hL
  have hm : s_l2Place x stop = some y := hm
  have hL : cx.L = 0 := hL
  unfold s_l2Place at hm
  refine X_reg_seq ty_ok Γok hL [] .nil (by kernel_rfl) ?_
  refine Ok_seq ?_
  refine X_reg_seq ty_ok Γok hL [] .nil (by kernel_rfl) ?_
  obtain ⟨v1, hv, hr, hk⟩ := flb_t hm
  refine X_tailF (n := 21) (fun (_ : Unit) => (⟨[], [], 32⟩ : X)) v1 ?_ ?_
  · have hm := hv
    refine Ok_block ?_
    refine X_loop (n := 21) (step := s_l2Place_L1 x stop) (fun (v : Int) => (⟨[(1, .dat (.sc (.int .i64 stop))), (2, .ref 16 0), (5, .dat (.sc (.int .i64 v)))], [(16, some (.box [.dat (.sc (.string x.Name)), .dat (Enc.e x.Stops), .dat (Enc.e x.Runs)]))], 48⟩ : X)) hm (Wk_J hL ⟨[(1, []), (2, []), (5, [])], [(16, 16, [])], [], 48⟩ (by kernel_rfl)) ?_
    rintro v r0 hm hb
    rw [s_l2Place_L1] at hm
    refine Ok_seq ?_
    refine X_reg_seq ty_ok Γok hL [(3, .n (x.Stops.length : Int))] (.cons (len_m Enc.e x.Stops) .nil) (by kernel_rfl) ?_
    refine X_cond (decide (v < (x.Stops.length : Int))) (by kernel_rfl) (fun hc => ?_) (fun hc => ?_)
    · have hm := it hc hm
      refine X_skip ?_
      refine thN ?_
      refine Ok_seq ?_
      refine Ok_block ?_
      obtain ⟨e, h, hm⟩ := obind hm
      refine X_reg_seq ty_ok Γok hL [(3, .d (Enc.e e))] (.cons (idx_m (f := Enc.e) h) .nil) (by kernel_rfl) ?_
      refine X_cond (e == stop) (by kernel_rfl) (fun hc1 => ?_) (fun hc1 => ?_)
      · have hm := it hc1 hm
        refine X_reg_seq ty_ok Γok hL [] .nil (by kernel_rfl) ?_
        obtain rfl := some_inj hm
        obtain rfl := hb _ rfl
        have hm := congrArg some (hr _ rfl)
        obtain rfl := some_inj hm
        refine Ok_ret ?_
        repeat (first | refine thR ?_ | refine ibR ?_)
        exact X_fin [] [] (by kernel_rfl) trivial
      · have hm := ie hc1 hm
        refine X_skip ?_
        refine ibN ?_
        refine thN ?_
        refine X_reg ty_ok Γok hL [] .nil (by kernel_rfl) ?_
        obtain rfl := some_inj hm
        exact thN ⟨_, rfl, Wk_J hL ⟨[(1, []), (2, []), (5, [])], [(16, 16, [])], [], 48⟩ (by kernel_rfl)⟩
    · have hm := ie hc hm
      obtain rfl := some_inj hm
      obtain rfl := hb _ rfl
      refine Ok_exit ?_
      refine thE ?_
      refine thE ?_
      refine ibE ?_
      exact thN ⟨_, rfl, Wk_J hL ⟨[], [], [], 32⟩ (by kernel_rfl)⟩
  rintro ⟨⟩ hu s hw
  have hm := hk _ hu
  refine thN ?_
  refine Ok_weak hw ?_
  refine X_reg_seq ty_ok Γok hL [] .nil (by kernel_rfl) ?_
  obtain rfl := some_inj hm
  refine Ok_ret ?_
  repeat (first | refine thR ?_ | refine ibR ?_)
  exact X_fin [] [] (by kernel_rfl) trivial
abbrev s_l1Cur_line_r (y : Line × l1Cur) : AV := .aggv [.dat (.sc (.string y.1.Name)), .own 0, .own 1]
abbrev s_l1Cur_line_n (y : Line × l1Cur) : List Obj' := [.arr 3 1 (List.map Enc.e y.1.Stops), .arr 3 1 (List.map Enc.e y.1.Runs)]
abbrev s_l1Cur_line_o (x : l1Cur × ByteArray × Int) (y : Line × l1Cur) : List Obj' := [.box [.dat (Enc.e y.2.code_), .dat (.sc (.int .i64 y.2.at_)), .dat (.sc (.int .u64 y.2.seed_.v))]]
noncomputable def s_l1Cur_line_S : FnSpec := modS [some false, none, none] (fun x : l1Cur × ByteArray × Int => [.sc undef, Enc.e x.2.1, Enc.e x.2.2]) (fun x : l1Cur × ByteArray × Int => [.box [.dat (Enc.e x.1.code_), .dat (.sc (.int .i64 x.1.at_)), .dat (.sc (.int .u64 x.1.seed_.v))]]) (fun x : l1Cur × ByteArray × Int => s_l1Cur_line x.1 x.2.1 x.2.2) s_l1Cur_line_r s_l1Cur_line_n s_l1Cur_line_o
theorem s_l1Cur_line_c {c : l1Cur} {name : ByteArray} {stops : Int} {y : Line × l1Cur} (h : s_l1Cur_line c name stops = some y) : CallOK s_l1Cur_line_S [.sc undef, Enc.e name, Enc.e stops] [.box [.dat (Enc.e c.code_), .dat (.sc (.int .i64 c.at_)), .dat (.sc (.int .u64 c.seed_.v))]] (s_l1Cur_line_r y) (s_l1Cur_line_n y) (s_l1Cur_line_o (c, name, stops) y) :=
  modS_call (by
    rintro ⟨a0, a1, a2⟩ ⟨b0, b1, b2⟩ h hO
    simp only [List.cons.injEq, and_true] at h
    try simp only [List.cons.injEq, and_true, Obj'.box.injEq, Obj'.arr.injEq, true_and, AV.dat.injEq] at hO
    obtain ⟨h0, h1, h2⟩ := h
    have q1 := Enc.inj _ _ h1
    have q2 := Enc.inj _ _ h2
    have g0 := hO
    have q0 : a0 = b0 := Enc.inj _ _ (by show D.agg _ = D.agg _; simp only [D.agg.injEq, List.cons.injEq, and_true]; exact g0)
    subst q0; subst q1; subst q2; rfl) (x := (c, name, stops)) h
theorem s_l1Cur_line_ok : FnOK Try.prog 113 s_l1Cur_line_S := by
  have Γok : ∀ f S, lookF f [(55, s_l1Cur_pick_S), (125, s_l2Place_S)] = some S → FnOK Try.prog f S := lookF_ok (allF_cons s_l1Cur_pick_ok (allF_cons s_l2Place_ok allF_nil))
  have Γlive : Live (fun f => lookF f [(55, s_l1Cur_pick_S), (125, s_l2Place_S)]) := lookF_live (allL_cons modS_live (allL_cons modS_live allL_nil))
  refine fnOK_mod ty_ok (fun args w => Try.call113 args w) Try.func113 rfl [.cell 6 74] (by rw [Try.results113]) 72 Try.ntmps113 16 rfl (fun _ => by first | exact Nat.zero_le _ | (simp)) (fun _ => rfl) ?_
  rintro ⟨c, name, stops⟩ y cx hm hL
  have hm : s_l1Cur_line c name stops = some y := hm
  have hL : cx.L = 1 := hL
  unfold s_l1Cur_line at hm
  refine X_reg_seq ty_ok Γok hL [] .nil (by kernel_rfl) ?_
  refine X_reg_seq ty_ok Γok hL [] .nil (by kernel_rfl) ?_
  obtain ⟨r, h, hm⟩ := obind hm
  refine X_reg_seq ty_ok Γok hL [(2, .c (s_l1Cur_pick_r r) (s_l1Cur_pick_n r) (s_l1Cur_pick_o (c, stops) r))] (.cons (s_l1Cur_pick_c h) .nil) (by kernel_rfl) ?_
  refine Ok_seq ?_
  obtain ⟨r1, h1, hm⟩ := obind hm
  refine X_reg_seq ty_ok Γok hL [(1, .c (s_l1Cur_pick_r r1) (s_l1Cur_pick_n r1) (s_l1Cur_pick_o (r.2, 3) r1))] (.cons (s_l1Cur_pick_c h1) .nil) (by kernel_rfl) ?_
  obtain ⟨vv1, hv1, hk1⟩ := obind hm
  refine X_tail (n := 72) (fun ((v7, v8, v9, v10) : (List UInt8) × Int × Int × (List Int)) => (⟨[(0, .ref 0 0), (2, .dat (.sc (.int .i64 stops))), (6, .ref 32 0), (7, .ref 48 0)], [(0, some (.box [.dat (Enc.e v7), .dat (.sc (.int .i64 v8)), .dat (.sc (.int .u64 v9))])), (32, some (.box [.dat (.sc (.string ByteArray.empty)), .dat (.sc (.slice none 0 0)), .dat (.sc (.slice none 0 0))])), (48, some (.box [.dat (.sc (.string name)), .own 64, .dat (.sc (.slice none 0 0))])), (64, some (.arr 3 1 (List.map Enc.e v10)))], 96⟩ : X)) vv1 ?_ ?_
  · have hm := hv1
    refine Ok_block ?_
    refine X_loop (n := 72) (step := s_l1Cur_line_L1 name stops) (fun ((v, v1, v2, v3, v4, v5) : Int × Int × (List UInt8) × Int × Int × (List Int)) => (⟨[(0, .ref 0 0), (2, .dat (.sc (.int .i64 stops))), (6, .ref 32 0), (7, .ref 48 0), (8, .dat (.sc (.int .i64 v))), (9, .dat (.sc (.int .i64 v1)))], [(0, some (.box [.dat (Enc.e v2), .dat (.sc (.int .i64 v3)), .dat (.sc (.int .u64 v4))])), (32, some (.box [.dat (.sc (.string ByteArray.empty)), .dat (.sc (.slice none 0 0)), .dat (.sc (.slice none 0 0))])), (48, some (.box [.dat (.sc (.string name)), .own 64, .dat (.sc (.slice none 0 0))])), (64, some (.arr 3 1 (List.map Enc.e v5)))], 96⟩ : X)) hm (Wk_J hL ⟨[(0, []), (2, []), (6, []), (7, []), (8, []), (9, [])], [(0, 0, []), (32, 16, []), (48, 64, [.k, .o 64])], [(64, 3, 1, [])], 96⟩ (by kernel_rfl)) ?_
    rintro ⟨v, v1, v2, v3, v4, v5⟩ r0 hm hb
    rw [s_l1Cur_line_L1] at hm
    refine Ok_seq ?_
    refine X_reg_seq ty_ok Γok hL [] .nil (by kernel_rfl) ?_
    refine X_cond (decide (0 < v1)) (by kernel_rfl) (fun hc => ?_) (fun hc => ?_)
    · have hm := it hc hm
      refine X_skip ?_
      refine thN ?_
      refine Ok_seq ?_
      refine Ok_block ?_
      obtain ⟨v6, hv, hk⟩ := obind hm
      refine X_join (n := 72) (fun (v6 : List Int) => (⟨[(0, .ref 0 0), (2, .dat (.sc (.int .i64 stops))), (6, .ref 32 0), (7, .ref 48 0), (8, .dat (.sc (.int .i64 v))), (9, .dat (.sc (.int .i64 v1)))], [(0, some (.box [.dat (Enc.e v2), .dat (.sc (.int .i64 v3)), .dat (.sc (.int .u64 v4))])), (32, some (.box [.dat (.sc (.string ByteArray.empty)), .dat (.sc (.slice none 0 0)), .dat (.sc (.slice none 0 0))])), (48, some (.box [.dat (.sc (.string name)), .own 64, .dat (.sc (.slice none 0 0))])), (64, some (.arr 3 1 (List.map Enc.e v6)))], 96⟩ : X)) v6 ?_ ?_
      · have hm := hv
        obtain ⟨r2, h2, hm⟩ := obind hm
        refine X_reg_seq ty_ok Γok hL [(2, .c (s_l2Place_r r2) (s_l2Place_n r2) (s_l2Place_o ((⟨name, v5, ([] : List Int)⟩ : Line), v) r2))] (.cons (s_l2Place_c h2) .nil) (by kernel_rfl) ?_
        refine X_cond (decide (r2 < 0)) (by kernel_rfl) (fun hc1 => ?_) (fun hc1 => ?_)
        · have hm := it hc1 hm
          obtain ⟨u, h3, hm⟩ := obind hm
          refine X_reg ty_ok Γok hL [(4, .l (List.map Enc.e (v5 ++ ([v] : List Int))))] (.cons (app_p (f := Enc.e) (g := Enc.e) (l := v5) (r := ([v] : List Int)) (b := 8) (chk_t h3) rfl) (.cons (app_m Enc.e v5 ([v] : List Int)) .nil)) (by kernel_rfl) ?_
          obtain rfl := some_inj hm
          exact thN (Wk_J hL ⟨[(0, []), (2, []), (6, []), (7, []), (8, []), (9, [])], [(0, 0, []), (32, 32, []), (48, 48, []), (64, 256, [])], [], 96⟩ (by kernel_rfl))
        · have hm := ie hc1 hm
          refine X_skip ?_
          obtain rfl := some_inj hm
          exact thN (Wk_J hL ⟨[(0, []), (2, []), (6, []), (7, []), (8, []), (9, [])], [(0, 0, []), (32, 32, []), (48, 48, []), (64, 64, [])], [], 96⟩ (by kernel_rfl))
      have hm := hk
      obtain ⟨r3, h4, hm⟩ := obind hm
      obtain ⟨u1, h5, hm⟩ := obind hm
      refine X_reg ty_ok Γok hL [(3, .c (s_l1Cur_pick_r r3) (s_l1Cur_pick_n r3) (s_l1Cur_pick_o ((⟨v2, v3, (⟨v4⟩ : IK .u64)⟩ : l1Cur), 2) r3))] (.cons (s_l1Cur_pick_c h4) (.cons (chk_t h5) .nil)) (by kernel_rfl) ?_
      refine ibN ?_
      refine thN ?_
      refine X_reg ty_ok Γok hL [] .nil (by kernel_rfl) ?_
      obtain rfl := some_inj hm
      exact thN ⟨_, rfl, Wk_J hL ⟨[(0, []), (2, []), (6, []), (7, []), (8, []), (9, [])], [(0, 0, []), (32, 32, []), (48, 48, []), (64, 64, [])], [], 96⟩ (by kernel_rfl)⟩
    · have hm := ie hc hm
      obtain rfl := some_inj hm
      obtain rfl := hb _ rfl
      refine Ok_exit ?_
      refine thE ?_
      refine thE ?_
      refine ibE ?_
      exact thN (Wk_J hL ⟨[(0, []), (2, []), (6, []), (7, [])], [(0, 0, []), (32, 32, []), (48, 48, []), (64, 64, [])], [], 96⟩ (by kernel_rfl))
  obtain ⟨v7, v8, v9, v10⟩ := vv1
  intro s hw
  have hm := hk1
  refine thN ?_
  refine Ok_weak hw ?_
  obtain ⟨v11, hv2, hk2⟩ := obind hm
  refine X_join (n := 72) (fun (v11 : List Int) => (⟨[(0, .ref 0 0), (6, .ref 32 0), (7, .ref 48 0)], [(0, some (.box [.dat (Enc.e v7), .dat (.sc (.int .i64 v8)), .dat (.sc (.int .u64 v9))])), (32, some (.box [.dat (.sc (.string ByteArray.empty)), .dat (.sc (.slice none 0 0)), .dat (.sc (.slice none 0 0))])), (48, some (.box [.dat (.sc (.string name)), .own 64, .dat (.sc (.slice none 0 0))])), (64, some (.arr 3 1 (List.map Enc.e v11)))], 96⟩ : X)) v11 ?_ ?_
  · have hm := hv2
    refine X_reg_seq ty_ok Γok hL [(2, .n (v10.length : Int))] (.cons (len_m Enc.e v10) .nil) (by kernel_rfl) ?_
    refine X_cond (decide ((v10.length : Int) < 2)) (by kernel_rfl) (fun hc2 => ?_) (fun hc2 => ?_)
    · have hm := it hc2 hm
      obtain ⟨e1, h9, hm⟩ := obind hm
      obtain ⟨u4, h10, hm⟩ := obind hm
      obtain ⟨u5, h11, hm⟩ := obind hm
      refine X_draw mixed ty_ok Γok Γlive [(10, [64, 304]), (12, [48, 320])] (by kernel_rfl) [(4, .d (Enc.e e1)), (5, .d (Enc.e e1)), (10, .l (List.map Enc.e (v10 ++ ([((w64 (e1 + 1)).tmod stops)] : List Int))))] (.cons (idx_m (f := Enc.e) h9) (.cons (idx_m2 (f := Enc.e) h9) (.cons (chk_t h10) (.cons (app_p (f := Enc.e) (g := Enc.e) (l := v10) (r := ([((w64 (e1 + 1)).tmod stops)] : List Int)) (b := 8) (chk_t h11) rfl) (.cons (app_m Enc.e v10 ([((w64 (e1 + 1)).tmod stops)] : List Int)) .nil))))) (by kernel_rfl) ?_
      obtain rfl := some_inj hm
      exact thN (Wk_J hL ⟨[(0, []), (6, []), (7, [])], [(0, 0, []), (32, 32, []), (48, 48, []), (64, 320, [])], [], 96⟩ (by kernel_rfl))
    · have hm := ie hc2 hm
      refine X_skip ?_
      obtain rfl := some_inj hm
      exact thN (Wk_J hL ⟨[(0, []), (6, []), (7, [])], [(0, 0, []), (32, 32, []), (48, 48, []), (64, 64, [])], [], 96⟩ (by kernel_rfl))
  have hm := hk2
  refine Ok_seq ?_
  refine X_reg_seq ty_ok Γok hL [] .nil (by kernel_rfl) ?_
  obtain ⟨vv, hv3, hk3⟩ := obind hm
  refine X_tail (n := 72) (fun ((v17, v18, v19, v20) : (List UInt8) × Int × Int × (List Int)) => (⟨[(0, .ref 0 0), (6, .ref 32 0), (7, .ref 48 0)], [(0, some (.box [.dat (Enc.e v17), .dat (.sc (.int .i64 v18)), .dat (.sc (.int .u64 v19))])), (32, some (.box [.dat (.sc (.string ByteArray.empty)), .dat (.sc (.slice none 0 0)), .dat (.sc (.slice none 0 0))])), (48, some (.box [.dat (.sc (.string name)), .own 64, .own 80])), (64, some (.arr 3 1 (List.map Enc.e v11))), (80, some (.arr 3 1 (List.map Enc.e v20)))], 112⟩ : X)) vv ?_ ?_
  · have hm := hv3
    refine Ok_block ?_
    refine X_loop (n := 72) (step := s_l1Cur_line_L2 v11) (fun ((v12, v13, v14, v15, v16) : Int × (List UInt8) × Int × Int × (List Int)) => (⟨[(0, .ref 0 0), (6, .ref 32 0), (7, .ref 48 0), (10, .dat (.sc (.int .i64 v12)))], [(0, some (.box [.dat (Enc.e v13), .dat (.sc (.int .i64 v14)), .dat (.sc (.int .u64 v15))])), (32, some (.box [.dat (.sc (.string ByteArray.empty)), .dat (.sc (.slice none 0 0)), .dat (.sc (.slice none 0 0))])), (48, some (.box [.dat (.sc (.string name)), .own 64, .own 80])), (64, some (.arr 3 1 (List.map Enc.e v11))), (80, some (.arr 3 1 (List.map Enc.e v16)))], 112⟩ : X)) hm (Wk_J hL ⟨[(0, []), (6, []), (7, []), (10, [])], [(0, 0, []), (32, 32, []), (48, 48, [.k, .k, .o 80]), (64, 64, [])], [(80, 3, 1, [])], 112⟩ (by kernel_rfl)) ?_
    rintro ⟨v12, v13, v14, v15, v16⟩ r0 hm hb1
    rw [s_l1Cur_line_L2] at hm
    refine Ok_seq ?_
    refine X_reg_seq ty_ok Γok hL [(3, .n (v11.length : Int))] (.cons (len_m Enc.e v11) .nil) (by kernel_rfl) ?_
    refine X_cond (decide (v12 < (v11.length : Int))) (by kernel_rfl) (fun hc3 => ?_) (fun hc3 => ?_)
    · have hm := it hc3 hm
      refine X_skip ?_
      refine thN ?_
      refine Ok_seq ?_
      refine Ok_block ?_
      obtain ⟨r5, h14, hm⟩ := obind hm
      obtain ⟨u7, h15, hm⟩ := obind hm
      refine X_draw mixed ty_ok Γok Γlive [(3, [0]), (6, [80, 272]), (8, [48, 288])] (by kernel_rfl) [(3, .c (s_l1Cur_pick_r r5) (s_l1Cur_pick_n r5) (s_l1Cur_pick_o ((⟨v13, v14, (⟨v15⟩ : IK .u64)⟩ : l1Cur), 12) r5)), (6, .l (List.map Enc.e (v16 ++ ([(w64 (3 + r5.1))] : List Int))))] (.cons (s_l1Cur_pick_c h14) (.cons (app_p (f := Enc.e) (g := Enc.e) (l := v16) (r := ([(w64 (3 + r5.1))] : List Int)) (b := 8) (chk_t h15) rfl) (.cons (app_m Enc.e v16 ([(w64 (3 + r5.1))] : List Int)) .nil))) (by kernel_rfl) ?_
      refine ibN ?_
      refine thN ?_
      refine X_reg ty_ok Γok hL [] .nil (by kernel_rfl) ?_
      obtain rfl := some_inj hm
      exact thN ⟨_, rfl, Wk_J hL ⟨[(0, []), (6, []), (7, []), (10, [])], [(0, 0, []), (32, 32, []), (48, 48, []), (64, 64, []), (80, 288, [])], [], 112⟩ (by kernel_rfl)⟩
    · have hm := ie hc3 hm
      obtain rfl := some_inj hm
      obtain rfl := hb1 _ rfl
      refine Ok_exit ?_
      refine thE ?_
      refine thE ?_
      refine ibE ?_
      exact thN (Wk_J hL ⟨[(0, []), (6, []), (7, [])], [(0, 0, []), (32, 32, []), (48, 48, []), (64, 64, []), (80, 80, [])], [], 112⟩ (by kernel_rfl))
  obtain ⟨v17, v18, v19, v20⟩ := vv
  intro s1 hw1
  have hm := hk3
  refine thN ?_
  refine Ok_weak hw1 ?_
  refine X_reg_seq ty_ok Γok hL [] .nil (by kernel_rfl) ?_
  obtain rfl := some_inj hm
  refine Ok_ret ?_
  repeat (first | refine thR ?_ | refine ibR ?_)
  exact X_fin [64, 80] [] (by kernel_rfl) trivial
abbrev s_l1Cur_line_f_r (y : Line × l1Cur) : AV := .dat (Enc.e y.1)
abbrev s_l1Cur_line_f_n (y : Line × l1Cur) : List Obj' := []
abbrev s_l1Cur_line_f_o (x : l1Cur × ByteArray × Int) (y : Line × l1Cur) : List Obj' := [.box [.dat (Enc.e y.2.code_), .dat (.sc (.int .i64 y.2.at_)), .dat (.sc (.int .u64 y.2.seed_.v))]]
noncomputable def s_l1Cur_line_f_S : FnSpec := modS [some false, none, none] (fun x : l1Cur × ByteArray × Int => [.sc undef, Enc.e x.2.1, Enc.e x.2.2]) (fun x : l1Cur × ByteArray × Int => [.box [.dat (Enc.e x.1.code_), .dat (.sc (.int .i64 x.1.at_)), .dat (.sc (.int .u64 x.1.seed_.v))]]) (fun x : l1Cur × ByteArray × Int => s_l1Cur_line_f x.1 x.2.1 x.2.2) s_l1Cur_line_f_r s_l1Cur_line_f_n s_l1Cur_line_f_o
theorem s_l1Cur_line_f_c {c : l1Cur} {name : ByteArray} {stops : Int} {y : Line × l1Cur} (h : s_l1Cur_line_f c name stops = some y) : CallOK s_l1Cur_line_f_S [.sc undef, Enc.e name, Enc.e stops] [.box [.dat (Enc.e c.code_), .dat (.sc (.int .i64 c.at_)), .dat (.sc (.int .u64 c.seed_.v))]] (s_l1Cur_line_f_r y) (s_l1Cur_line_f_n y) (s_l1Cur_line_f_o (c, name, stops) y) :=
  modS_call (by
    rintro ⟨a0, a1, a2⟩ ⟨b0, b1, b2⟩ h hO
    simp only [List.cons.injEq, and_true] at h
    try simp only [List.cons.injEq, and_true, Obj'.box.injEq, Obj'.arr.injEq, true_and, AV.dat.injEq] at hO
    obtain ⟨h0, h1, h2⟩ := h
    have q1 := Enc.inj _ _ h1
    have q2 := Enc.inj _ _ h2
    have g0 := hO
    have q0 : a0 = b0 := Enc.inj _ _ (by show D.agg _ = D.agg _; simp only [D.agg.injEq, List.cons.injEq, and_true]; exact g0)
    subst q0; subst q1; subst q2; rfl) (x := (c, name, stops)) h
theorem s_l1Cur_line_f_ok : FnOK Try.prog 113 s_l1Cur_line_f_S := by
  have Γok : ∀ f S, lookF f [(55, s_l1Cur_pick_S), (125, s_l2Place_S)] = some S → FnOK Try.prog f S := lookF_ok (allF_cons s_l1Cur_pick_ok (allF_cons s_l2Place_ok allF_nil))
  have Γlive : Live (fun f => lookF f [(55, s_l1Cur_pick_S), (125, s_l2Place_S)]) := lookF_live (allL_cons modS_live (allL_cons modS_live allL_nil))
  refine fnOK_mod ty_ok (fun args w => Try.call113 args w) Try.func113 rfl [.cell 6 74] (by rw [Try.results113]) 72 Try.ntmps113 16 rfl (fun _ => by first | exact Nat.zero_le _ | (simp)) (fun _ => rfl) ?_
  rintro ⟨c, name, stops⟩ y cx hm hL
  have hm : s_l1Cur_line_f c name stops = some y := hm
  have hL : cx.L = 1 := hL
  unfold s_l1Cur_line_f at hm
  refine X_reg_seq ty_ok Γok hL [] .nil (by kernel_rfl) ?_
  refine X_reg_seq ty_ok Γok hL [] .nil (by kernel_rfl) ?_
  obtain ⟨r, h, hm⟩ := obind hm
  refine X_reg_seq ty_ok Γok hL [(2, .c (s_l1Cur_pick_r r) (s_l1Cur_pick_n r) (s_l1Cur_pick_o (c, stops) r))] (.cons (s_l1Cur_pick_c h) .nil) (by kernel_rfl) ?_
  refine Ok_seq ?_
  obtain ⟨r1, h1, hm⟩ := obind hm
  refine X_reg_seq ty_ok Γok hL [(1, .c (s_l1Cur_pick_r r1) (s_l1Cur_pick_n r1) (s_l1Cur_pick_o (r.2, 3) r1))] (.cons (s_l1Cur_pick_c h1) .nil) (by kernel_rfl) ?_
  obtain ⟨vv1, hv1, hk1⟩ := obind hm
  refine X_tail (n := 72) (fun ((v7, v8, v9, v10) : (List UInt8) × Int × Int × (List Int)) => (⟨[(0, .ref 0 0), (2, .dat (.sc (.int .i64 stops))), (6, .ref 32 0), (7, .ref 48 0)], [(0, some (.box [.dat (Enc.e v7), .dat (.sc (.int .i64 v8)), .dat (.sc (.int .u64 v9))])), (32, some (.box [.dat (.sc (.string ByteArray.empty)), .dat (.sc (.slice none 0 0)), .dat (.sc (.slice none 0 0))])), (48, some (.box [.dat (.sc (.string name)), .own 64, .dat (.sc (.slice none 0 0))])), (64, some (.arr 3 1 (List.map Enc.e v10)))], 96⟩ : X)) vv1 ?_ ?_
  · have hm := hv1
    refine Ok_block ?_
    refine X_loop (n := 72) (step := s_l1Cur_line_f_L1 name stops) (fun ((v, v1, v2, v3, v4, v5) : Int × Int × (List UInt8) × Int × Int × (List Int)) => (⟨[(0, .ref 0 0), (2, .dat (.sc (.int .i64 stops))), (6, .ref 32 0), (7, .ref 48 0), (8, .dat (.sc (.int .i64 v))), (9, .dat (.sc (.int .i64 v1)))], [(0, some (.box [.dat (Enc.e v2), .dat (.sc (.int .i64 v3)), .dat (.sc (.int .u64 v4))])), (32, some (.box [.dat (.sc (.string ByteArray.empty)), .dat (.sc (.slice none 0 0)), .dat (.sc (.slice none 0 0))])), (48, some (.box [.dat (.sc (.string name)), .own 64, .dat (.sc (.slice none 0 0))])), (64, some (.arr 3 1 (List.map Enc.e v5)))], 96⟩ : X)) hm (Wk_J hL ⟨[(0, []), (2, []), (6, []), (7, []), (8, []), (9, [])], [(0, 0, []), (32, 16, []), (48, 64, [.k, .o 64])], [(64, 3, 1, [])], 96⟩ (by kernel_rfl)) ?_
    rintro ⟨v, v1, v2, v3, v4, v5⟩ r0 hm hb
    rw [s_l1Cur_line_f_L1] at hm
    refine Ok_seq ?_
    refine X_reg_seq ty_ok Γok hL [] .nil (by kernel_rfl) ?_
    refine X_cond (decide (0 < v1)) (by kernel_rfl) (fun hc => ?_) (fun hc => ?_)
    · have hm := it hc hm
      refine X_skip ?_
      refine thN ?_
      refine Ok_seq ?_
      refine Ok_block ?_
      obtain ⟨v6, hv, hk⟩ := obind hm
      refine X_join (n := 72) (fun (v6 : List Int) => (⟨[(0, .ref 0 0), (2, .dat (.sc (.int .i64 stops))), (6, .ref 32 0), (7, .ref 48 0), (8, .dat (.sc (.int .i64 v))), (9, .dat (.sc (.int .i64 v1)))], [(0, some (.box [.dat (Enc.e v2), .dat (.sc (.int .i64 v3)), .dat (.sc (.int .u64 v4))])), (32, some (.box [.dat (.sc (.string ByteArray.empty)), .dat (.sc (.slice none 0 0)), .dat (.sc (.slice none 0 0))])), (48, some (.box [.dat (.sc (.string name)), .own 64, .dat (.sc (.slice none 0 0))])), (64, some (.arr 3 1 (List.map Enc.e v6)))], 96⟩ : X)) v6 ?_ ?_
      · have hm := hv
        obtain ⟨r2, h2, hm⟩ := obind hm
        refine X_reg_seq ty_ok Γok hL [(2, .c (s_l2Place_r r2) (s_l2Place_n r2) (s_l2Place_o ((⟨name, v5, ([] : List Int)⟩ : Line), v) r2))] (.cons (s_l2Place_c h2) .nil) (by kernel_rfl) ?_
        refine X_cond (decide (r2 < 0)) (by kernel_rfl) (fun hc1 => ?_) (fun hc1 => ?_)
        · have hm := it hc1 hm
          obtain ⟨u, h3, hm⟩ := obind hm
          refine X_reg ty_ok Γok hL [(4, .l (List.map Enc.e (v5 ++ ([v] : List Int))))] (.cons (app_p (f := Enc.e) (g := Enc.e) (l := v5) (r := ([v] : List Int)) (b := 8) (chk_t h3) rfl) (.cons (app_m Enc.e v5 ([v] : List Int)) .nil)) (by kernel_rfl) ?_
          obtain rfl := some_inj hm
          exact thN (Wk_J hL ⟨[(0, []), (2, []), (6, []), (7, []), (8, []), (9, [])], [(0, 0, []), (32, 32, []), (48, 48, []), (64, 256, [])], [], 96⟩ (by kernel_rfl))
        · have hm := ie hc1 hm
          refine X_skip ?_
          obtain rfl := some_inj hm
          exact thN (Wk_J hL ⟨[(0, []), (2, []), (6, []), (7, []), (8, []), (9, [])], [(0, 0, []), (32, 32, []), (48, 48, []), (64, 64, [])], [], 96⟩ (by kernel_rfl))
      have hm := hk
      obtain ⟨r3, h4, hm⟩ := obind hm
      obtain ⟨u1, h5, hm⟩ := obind hm
      refine X_reg ty_ok Γok hL [(3, .c (s_l1Cur_pick_r r3) (s_l1Cur_pick_n r3) (s_l1Cur_pick_o ((⟨v2, v3, (⟨v4⟩ : IK .u64)⟩ : l1Cur), 2) r3))] (.cons (s_l1Cur_pick_c h4) (.cons (chk_t h5) .nil)) (by kernel_rfl) ?_
      refine ibN ?_
      refine thN ?_
      refine X_reg ty_ok Γok hL [] .nil (by kernel_rfl) ?_
      obtain rfl := some_inj hm
      exact thN ⟨_, rfl, Wk_J hL ⟨[(0, []), (2, []), (6, []), (7, []), (8, []), (9, [])], [(0, 0, []), (32, 32, []), (48, 48, []), (64, 64, [])], [], 96⟩ (by kernel_rfl)⟩
    · have hm := ie hc hm
      obtain rfl := some_inj hm
      obtain rfl := hb _ rfl
      refine Ok_exit ?_
      refine thE ?_
      refine thE ?_
      refine ibE ?_
      exact thN (Wk_J hL ⟨[(0, []), (2, []), (6, []), (7, [])], [(0, 0, []), (32, 32, []), (48, 48, []), (64, 64, [])], [], 96⟩ (by kernel_rfl))
  obtain ⟨v7, v8, v9, v10⟩ := vv1
  intro s hw
  have hm := hk1
  refine thN ?_
  refine Ok_weak hw ?_
  obtain ⟨v11, hv2, hk2⟩ := obind hm
  refine X_join (n := 72) (fun (v11 : List Int) => (⟨[(0, .ref 0 0), (6, .ref 32 0), (7, .ref 48 0)], [(0, some (.box [.dat (Enc.e v7), .dat (.sc (.int .i64 v8)), .dat (.sc (.int .u64 v9))])), (32, some (.box [.dat (.sc (.string ByteArray.empty)), .dat (.sc (.slice none 0 0)), .dat (.sc (.slice none 0 0))])), (48, some (.box [.dat (.sc (.string name)), .own 64, .dat (.sc (.slice none 0 0))])), (64, some (.arr 3 1 (List.map Enc.e v11)))], 96⟩ : X)) v11 ?_ ?_
  · have hm := hv2
    refine X_reg_seq ty_ok Γok hL [(2, .n (v10.length : Int))] (.cons (len_m Enc.e v10) .nil) (by kernel_rfl) ?_
    refine X_cond (decide ((v10.length : Int) < 2)) (by kernel_rfl) (fun hc2 => ?_) (fun hc2 => ?_)
    · have hm := it hc2 hm
      obtain ⟨e1, h9, hm⟩ := obind hm
      obtain ⟨u4, h10, hm⟩ := obind hm
      obtain ⟨u5, h11, hm⟩ := obind hm
      refine X_draw mixed ty_ok Γok Γlive [(10, [64, 304]), (12, [48, 320])] (by kernel_rfl) [(4, .d (Enc.e e1)), (5, .d (Enc.e e1)), (10, .l (List.map Enc.e (v10 ++ ([((w64 (e1 + 1)).tmod stops)] : List Int))))] (.cons (idx_m (f := Enc.e) h9) (.cons (idx_m2 (f := Enc.e) h9) (.cons (chk_t h10) (.cons (app_p (f := Enc.e) (g := Enc.e) (l := v10) (r := ([((w64 (e1 + 1)).tmod stops)] : List Int)) (b := 8) (chk_t h11) rfl) (.cons (app_m Enc.e v10 ([((w64 (e1 + 1)).tmod stops)] : List Int)) .nil))))) (by kernel_rfl) ?_
      obtain rfl := some_inj hm
      exact thN (Wk_J hL ⟨[(0, []), (6, []), (7, [])], [(0, 0, []), (32, 32, []), (48, 48, []), (64, 320, [])], [], 96⟩ (by kernel_rfl))
    · have hm := ie hc2 hm
      refine X_skip ?_
      obtain rfl := some_inj hm
      exact thN (Wk_J hL ⟨[(0, []), (6, []), (7, [])], [(0, 0, []), (32, 32, []), (48, 48, []), (64, 64, [])], [], 96⟩ (by kernel_rfl))
  have hm := hk2
  refine Ok_seq ?_
  refine X_reg_seq ty_ok Γok hL [] .nil (by kernel_rfl) ?_
  obtain ⟨vv, hv3, hk3⟩ := obind hm
  refine X_tail (n := 72) (fun ((v17, v18, v19, v20) : (List UInt8) × Int × Int × (List Int)) => (⟨[(0, .ref 0 0), (6, .ref 32 0), (7, .ref 48 0)], [(0, some (.box [.dat (Enc.e v17), .dat (.sc (.int .i64 v18)), .dat (.sc (.int .u64 v19))])), (32, some (.box [.dat (.sc (.string ByteArray.empty)), .dat (.sc (.slice none 0 0)), .dat (.sc (.slice none 0 0))])), (48, some (.box [.dat (.sc (.string name)), .own 64, .own 80])), (64, some (.arr 3 1 (List.map Enc.e v11))), (80, some (.arr 3 1 (List.map Enc.e v20)))], 112⟩ : X)) vv ?_ ?_
  · have hm := hv3
    refine Ok_block ?_
    refine X_loop (n := 72) (step := s_l1Cur_line_f_L2 v11) (fun ((v12, v13, v14, v15, v16) : Int × (List UInt8) × Int × Int × (List Int)) => (⟨[(0, .ref 0 0), (6, .ref 32 0), (7, .ref 48 0), (10, .dat (.sc (.int .i64 v12)))], [(0, some (.box [.dat (Enc.e v13), .dat (.sc (.int .i64 v14)), .dat (.sc (.int .u64 v15))])), (32, some (.box [.dat (.sc (.string ByteArray.empty)), .dat (.sc (.slice none 0 0)), .dat (.sc (.slice none 0 0))])), (48, some (.box [.dat (.sc (.string name)), .own 64, .own 80])), (64, some (.arr 3 1 (List.map Enc.e v11))), (80, some (.arr 3 1 (List.map Enc.e v16)))], 112⟩ : X)) hm (Wk_J hL ⟨[(0, []), (6, []), (7, []), (10, [])], [(0, 0, []), (32, 32, []), (48, 48, [.k, .k, .o 80]), (64, 64, [])], [(80, 3, 1, [])], 112⟩ (by kernel_rfl)) ?_
    rintro ⟨v12, v13, v14, v15, v16⟩ r0 hm hb1
    rw [s_l1Cur_line_f_L2] at hm
    refine Ok_seq ?_
    refine X_reg_seq ty_ok Γok hL [(3, .n (v11.length : Int))] (.cons (len_m Enc.e v11) .nil) (by kernel_rfl) ?_
    refine X_cond (decide (v12 < (v11.length : Int))) (by kernel_rfl) (fun hc3 => ?_) (fun hc3 => ?_)
    · have hm := it hc3 hm
      refine X_skip ?_
      refine thN ?_
      refine Ok_seq ?_
      refine Ok_block ?_
      obtain ⟨r5, h14, hm⟩ := obind hm
      obtain ⟨u7, h15, hm⟩ := obind hm
      refine X_draw mixed ty_ok Γok Γlive [(3, [0]), (6, [80, 272]), (8, [48, 288])] (by kernel_rfl) [(3, .c (s_l1Cur_pick_r r5) (s_l1Cur_pick_n r5) (s_l1Cur_pick_o ((⟨v13, v14, (⟨v15⟩ : IK .u64)⟩ : l1Cur), 12) r5)), (6, .l (List.map Enc.e (v16 ++ ([(w64 (3 + r5.1))] : List Int))))] (.cons (s_l1Cur_pick_c h14) (.cons (app_p (f := Enc.e) (g := Enc.e) (l := v16) (r := ([(w64 (3 + r5.1))] : List Int)) (b := 8) (chk_t h15) rfl) (.cons (app_m Enc.e v16 ([(w64 (3 + r5.1))] : List Int)) .nil))) (by kernel_rfl) ?_
      refine ibN ?_
      refine thN ?_
      refine X_reg ty_ok Γok hL [] .nil (by kernel_rfl) ?_
      obtain rfl := some_inj hm
      exact thN ⟨_, rfl, Wk_J hL ⟨[(0, []), (6, []), (7, []), (10, [])], [(0, 0, []), (32, 32, []), (48, 48, []), (64, 64, []), (80, 288, [])], [], 112⟩ (by kernel_rfl)⟩
    · have hm := ie hc3 hm
      obtain rfl := some_inj hm
      obtain rfl := hb1 _ rfl
      refine Ok_exit ?_
      refine thE ?_
      refine thE ?_
      refine ibE ?_
      exact thN (Wk_J hL ⟨[(0, []), (6, []), (7, [])], [(0, 0, []), (32, 32, []), (48, 48, []), (64, 64, []), (80, 80, [])], [], 112⟩ (by kernel_rfl))
  obtain ⟨v17, v18, v19, v20⟩ := vv
  intro s1 hw1
  have hm := hk3
  refine thN ?_
  refine Ok_weak hw1 ?_
  refine X_reg_seq ty_ok Γok hL [] .nil (by kernel_rfl) ?_
  obtain rfl := some_inj hm
  refine Ok_ret ?_
  repeat (first | refine thR ?_ | refine ibR ?_)
  exact X_fin [] [] (by kernel_rfl) trivial
abbrev s_l1Cur_one_r (y : Bool × l1Cur) : AV := .dat (Enc.e y.1)
abbrev s_l1Cur_one_n (y : Bool × l1Cur) : List Obj' := []
abbrev s_l1Cur_one_o (x : l1Cur × Int) (y : Bool × l1Cur) : List Obj' := [.box [.dat (Enc.e y.2.code_), .dat (.sc (.int .i64 y.2.at_)), .dat (.sc (.int .u64 y.2.seed_.v))]]
noncomputable def s_l1Cur_one_S : FnSpec := modS [some false, none] (fun x : l1Cur × Int => [.sc undef, Enc.e x.2]) (fun x : l1Cur × Int => [.box [.dat (Enc.e x.1.code_), .dat (.sc (.int .i64 x.1.at_)), .dat (.sc (.int .u64 x.1.seed_.v))]]) (fun x : l1Cur × Int => s_l1Cur_one x.1 x.2) s_l1Cur_one_r s_l1Cur_one_n s_l1Cur_one_o
theorem s_l1Cur_one_c {c : l1Cur} {n : Int} {y : Bool × l1Cur} (h : s_l1Cur_one c n = some y) : CallOK s_l1Cur_one_S [.sc undef, Enc.e n] [.box [.dat (Enc.e c.code_), .dat (.sc (.int .i64 c.at_)), .dat (.sc (.int .u64 c.seed_.v))]] (s_l1Cur_one_r y) (s_l1Cur_one_n y) (s_l1Cur_one_o (c, n) y) :=
  modS_call (by
    rintro ⟨a0, a1⟩ ⟨b0, b1⟩ h hO
    simp only [List.cons.injEq, and_true] at h
    try simp only [List.cons.injEq, and_true, Obj'.box.injEq, Obj'.arr.injEq, true_and, AV.dat.injEq] at hO
    obtain ⟨h0, h1⟩ := h
    have q1 := Enc.inj _ _ h1
    have g0 := hO
    have q0 : a0 = b0 := Enc.inj _ _ (by show D.agg _ = D.agg _; simp only [D.agg.injEq, List.cons.injEq, and_true]; exact g0)
    subst q0; subst q1; rfl) (x := (c, n)) h
theorem s_l1Cur_one_ok : FnOK Try.prog 105 s_l1Cur_one_S := by
  have Γok : ∀ f S, lookF f [(55, s_l1Cur_pick_S)] = some S → FnOK Try.prog f S := lookF_ok (allF_cons s_l1Cur_pick_ok allF_nil)
  have Γlive : Live (fun f => lookF f [(55, s_l1Cur_pick_S)]) := lookF_live (allL_cons modS_live allL_nil)
  refine fnOK_mod ty_ok (fun args w => Try.call105 args w) Try.func105 rfl [.tmp 4] (by rw [Try.results105]) 9 Try.ntmps105 16 rfl (fun _ => by first | exact Nat.zero_le _ | (simp)) (fun _ => rfl) ?_
  rintro ⟨c, n⟩ y cx hm hL
  have hm : s_l1Cur_one c n = some y := hm
  have hL : cx.L = 1 := hL
  unfold s_l1Cur_one at hm
  refine X_reg_seq ty_ok Γok hL [] .nil (by kernel_rfl) ?_
  obtain ⟨r, h, hm⟩ := obind hm
  refine X_reg_seq ty_ok Γok hL [(2, .c (s_l1Cur_pick_r r) (s_l1Cur_pick_n r) (s_l1Cur_pick_o (c, n) r))] (.cons (s_l1Cur_pick_c h) .nil) (by kernel_rfl) ?_
  obtain rfl := some_inj hm
  refine Ok_ret ?_
  repeat (first | refine thR ?_ | refine ibR ?_)
  exact X_fin [] [] (by kernel_rfl) trivial
abbrev s_l2Back_r (y : (List Int)) : AV := .own 0
abbrev s_l2Back_n (y : (List Int)) : List Obj' := [.arr 3 1 (List.map Enc.e y)]
abbrev s_l2Back_o (x : (List Int)) (y : (List Int)) : List Obj' := []
noncomputable def s_l2Back_S : FnSpec := modS [none] (fun x : (List Int) => [Enc.e x]) (fun x : (List Int) => []) (fun x : (List Int) => s_l2Back x) s_l2Back_r s_l2Back_n s_l2Back_o
theorem s_l2Back_c {list : List Int} {y : (List Int)} (h : s_l2Back list = some y) : CallOK s_l2Back_S [Enc.e list] [] (s_l2Back_r y) (s_l2Back_n y) (s_l2Back_o list y) :=
  modS_call (by
    rintro a0 b0 h hO
    simp only [List.cons.injEq, and_true] at h
    try simp only [List.cons.injEq, and_true, Obj'.box.injEq, Obj'.arr.injEq, true_and, AV.dat.injEq] at hO
    have h0 := h
    have q0 := Enc.inj _ _ h0
    subst q0; rfl) (x := list) h
theorem s_l2Back_ok : FnOK Try.prog 86 s_l2Back_S := by
  have Γok : ∀ f S, lookF f [] = some S → FnOK Try.prog f S := lookF_ok allF_nil
  have Γlive : Live (fun f => lookF f []) := lookF_live allL_nil
  refine fnOK_mod ty_ok (fun args w => Try.call86 args w) Try.func86 rfl [.tmp 2] (by rw [Try.results86]) 21 Try.ntmps86 16 rfl (fun _ => by first | exact Nat.zero_le _ | (simp)) (fun _ => rfl) ?_
  rintro list y cx hm hL
  have hm : s_l2Back list = some y := hm
  have hL : cx.L = 0 := hL
  unfold s_l2Back at hm
  refine X_reg_seq ty_ok Γok hL [] .nil (by kernel_rfl) ?_
  refine X_reg_seq ty_ok Γok hL [] .nil (by kernel_rfl) ?_
  refine Ok_seq ?_
  refine X_reg_seq ty_ok Γok hL [(1, .n (list.length : Int))] (.cons (len_m Enc.e list) .nil) (by kernel_rfl) ?_
  obtain ⟨i1, hv, hk⟩ := obind hm
  refine X_tail (n := 21) (fun (i1 : List Int) => (⟨[(3, .own 16)], [(16, some (.arr 3 1 (List.map Enc.e i1)))], 48⟩ : X)) i1 ?_ ?_
  · have hm := hv
    refine Ok_block ?_
    refine X_loop (n := 21) (step := s_l2Back_L1 list) (fun ((v, i) : Int × (List Int)) => (⟨[(0, .dat (Enc.e list)), (3, .own 16), (4, .dat (.sc (.int .i64 v)))], [(16, some (.arr 3 1 (List.map Enc.e i)))], 48⟩ : X)) hm (Wk_J hL ⟨[(0, []), (3, []), (4, [])], [(16, 32, [])], [], 48⟩ (by kernel_rfl)) ?_
    rintro ⟨v, i⟩ r0 hm hb
    rw [s_l2Back_L1] at hm
    refine Ok_seq ?_
    refine X_reg_seq ty_ok Γok hL [] .nil (by kernel_rfl) ?_
    refine X_cond (decide (0 ≤ v)) (by kernel_rfl) (fun hc => ?_) (fun hc => ?_)
    · have hm := it hc hm
      refine X_skip ?_
      refine thN ?_
      refine Ok_seq ?_
      refine Ok_block ?_
      obtain ⟨e, h, hm⟩ := obind hm
      obtain ⟨u, h1, hm⟩ := obind hm
      refine X_reg ty_ok Γok hL [(3, .d (Enc.e e)), (6, .l (List.map Enc.e (i ++ ([e] : List Int))))] (.cons (idx_m (f := Enc.e) h) (.cons (app_p (f := Enc.e) (g := Enc.e) (l := i) (r := ([e] : List Int)) (b := 8) (chk_t h1) rfl) (.cons (app_m Enc.e i ([e] : List Int)) .nil))) (by kernel_rfl) ?_
      refine ibN ?_
      refine thN ?_
      refine X_reg ty_ok Γok hL [] .nil (by kernel_rfl) ?_
      obtain rfl := some_inj hm
      exact thN ⟨_, rfl, Wk_J hL ⟨[(0, []), (3, []), (4, [])], [(16, 176, [])], [], 48⟩ (by kernel_rfl)⟩
    · have hm := ie hc hm
      obtain rfl := some_inj hm
      obtain rfl := hb _ rfl
      refine Ok_exit ?_
      refine thE ?_
      refine thE ?_
      refine ibE ?_
      exact thN (Wk_J hL ⟨[(3, [])], [(16, 16, [])], [], 48⟩ (by kernel_rfl))
  intro s hw
  have hm := hk
  refine thN ?_
  refine Ok_weak hw ?_
  refine X_reg_seq ty_ok Γok hL [] .nil (by kernel_rfl) ?_
  obtain rfl := some_inj hm
  refine Ok_ret ?_
  repeat (first | refine thR ?_ | refine ibR ?_)
  exact X_fin [16] [] (by kernel_rfl) trivial
abbrev s_l2Back_f_r (y : (List Int)) : AV := .dat (Enc.e y)
abbrev s_l2Back_f_n (y : (List Int)) : List Obj' := []
abbrev s_l2Back_f_o (x : (List Int)) (y : (List Int)) : List Obj' := []
noncomputable def s_l2Back_f_S : FnSpec := modS [none] (fun x : (List Int) => [Enc.e x]) (fun x : (List Int) => []) (fun x : (List Int) => s_l2Back_f x) s_l2Back_f_r s_l2Back_f_n s_l2Back_f_o
theorem s_l2Back_f_c {list : List Int} {y : (List Int)} (h : s_l2Back_f list = some y) : CallOK s_l2Back_f_S [Enc.e list] [] (s_l2Back_f_r y) (s_l2Back_f_n y) (s_l2Back_f_o list y) :=
  modS_call (by
    rintro a0 b0 h hO
    simp only [List.cons.injEq, and_true] at h
    try simp only [List.cons.injEq, and_true, Obj'.box.injEq, Obj'.arr.injEq, true_and, AV.dat.injEq] at hO
    have h0 := h
    have q0 := Enc.inj _ _ h0
    subst q0; rfl) (x := list) h
theorem s_l2Back_f_ok : FnOK Try.prog 86 s_l2Back_f_S := by
  have Γok : ∀ f S, lookF f [] = some S → FnOK Try.prog f S := lookF_ok allF_nil
  have Γlive : Live (fun f => lookF f []) := lookF_live allL_nil
  refine fnOK_mod ty_ok (fun args w => Try.call86 args w) Try.func86 rfl [.tmp 2] (by rw [Try.results86]) 21 Try.ntmps86 16 rfl (fun _ => by first | exact Nat.zero_le _ | (simp)) (fun _ => rfl) ?_
  rintro list y cx hm hL
  have hm : s_l2Back_f list = some y := hm
  have hL : cx.L = 0 := hL
  unfold s_l2Back_f at hm
  refine X_reg_seq ty_ok Γok hL [] .nil (by kernel_rfl) ?_
  refine X_reg_seq ty_ok Γok hL [] .nil (by kernel_rfl) ?_
  refine Ok_seq ?_
  refine X_reg_seq ty_ok Γok hL [(1, .n (list.length : Int))] (.cons (len_m Enc.e list) .nil) (by kernel_rfl) ?_
  obtain ⟨i1, hv, hk⟩ := obind hm
  refine X_tail (n := 21) (fun (i1 : List Int) => (⟨[(3, .own 16)], [(16, some (.arr 3 1 (List.map Enc.e i1)))], 48⟩ : X)) i1 ?_ ?_
  · have hm := hv
    refine Ok_block ?_
    refine X_loop (n := 21) (step := s_l2Back_f_L1 list) (fun ((v, i) : Int × (List Int)) => (⟨[(0, .dat (Enc.e list)), (3, .own 16), (4, .dat (.sc (.int .i64 v)))], [(16, some (.arr 3 1 (List.map Enc.e i)))], 48⟩ : X)) hm (Wk_J hL ⟨[(0, []), (3, []), (4, [])], [(16, 32, [])], [], 48⟩ (by kernel_rfl)) ?_
    rintro ⟨v, i⟩ r0 hm hb
    rw [s_l2Back_f_L1] at hm
    refine Ok_seq ?_
    refine X_reg_seq ty_ok Γok hL [] .nil (by kernel_rfl) ?_
    refine X_cond (decide (0 ≤ v)) (by kernel_rfl) (fun hc => ?_) (fun hc => ?_)
    · have hm := it hc hm
      refine X_skip ?_
      refine thN ?_
      refine Ok_seq ?_
      refine Ok_block ?_
      obtain ⟨e, h, hm⟩ := obind hm
      obtain ⟨u, h1, hm⟩ := obind hm
      refine X_reg ty_ok Γok hL [(3, .d (Enc.e e)), (6, .l (List.map Enc.e (i ++ ([e] : List Int))))] (.cons (idx_m (f := Enc.e) h) (.cons (app_p (f := Enc.e) (g := Enc.e) (l := i) (r := ([e] : List Int)) (b := 8) (chk_t h1) rfl) (.cons (app_m Enc.e i ([e] : List Int)) .nil))) (by kernel_rfl) ?_
      refine ibN ?_
      refine thN ?_
      refine X_reg ty_ok Γok hL [] .nil (by kernel_rfl) ?_
      obtain rfl := some_inj hm
      exact thN ⟨_, rfl, Wk_J hL ⟨[(0, []), (3, []), (4, [])], [(16, 176, [])], [], 48⟩ (by kernel_rfl)⟩
    · have hm := ie hc hm
      obtain rfl := some_inj hm
      obtain rfl := hb _ rfl
      refine Ok_exit ?_
      refine thE ?_
      refine thE ?_
      refine ibE ?_
      exact thN (Wk_J hL ⟨[(3, [])], [(16, 16, [])], [], 48⟩ (by kernel_rfl))
  intro s hw
  have hm := hk
  refine thN ?_
  refine Ok_weak hw ?_
  refine X_reg_seq ty_ok Γok hL [] .nil (by kernel_rfl) ?_
  obtain rfl := some_inj hm
  refine Ok_ret ?_
  repeat (first | refine thR ?_ | refine ibR ?_)
  exact X_fin [] [] (by kernel_rfl) trivial
abbrev s_l1Own_r (y : (List Int)) : AV := .own 0
abbrev s_l1Own_n (y : (List Int)) : List Obj' := [.arr 3 1 (List.map Enc.e y)]
abbrev s_l1Own_o (x : (List Int)) (y : (List Int)) : List Obj' := []
noncomputable def s_l1Own_S : FnSpec := modS [none] (fun x : (List Int) => [Enc.e x]) (fun x : (List Int) => []) (fun x : (List Int) => s_l1Own x) s_l1Own_r s_l1Own_n s_l1Own_o
theorem s_l1Own_c {l : List Int} {y : (List Int)} (h : s_l1Own l = some y) : CallOK s_l1Own_S [Enc.e l] [] (s_l1Own_r y) (s_l1Own_n y) (s_l1Own_o l y) :=
  modS_call (by
    rintro a0 b0 h hO
    simp only [List.cons.injEq, and_true] at h
    try simp only [List.cons.injEq, and_true, Obj'.box.injEq, Obj'.arr.injEq, true_and, AV.dat.injEq] at hO
    have h0 := h
    have q0 := Enc.inj _ _ h0
    subst q0; rfl) (x := l) h
theorem s_l1Own_ok : FnOK Try.prog 57 s_l1Own_S := by
  have Γok : ∀ f S, lookF f [] = some S → FnOK Try.prog f S := lookF_ok allF_nil
  have Γlive : Live (fun f => lookF f []) := lookF_live allL_nil
  refine fnOK_mod ty_ok (fun args w => Try.call57 args w) Try.func57 rfl [.tmp 2] (by rw [Try.results57]) 6 Try.ntmps57 16 rfl (fun _ => by first | exact Nat.zero_le _ | (simp)) (fun _ => rfl) ?_
  rintro l y cx hm hL
  have hm : s_l1Own l = some y := hm
  have hL : cx.L = 0 := hL
  unfold s_l1Own at hm
  refine X_reg_seq ty_ok Γok hL [] .nil (by kernel_rfl) ?_
  obtain ⟨u, h, hm⟩ := obind hm
  refine X_reg_seq ty_ok Γok hL [(2, .l (List.map Enc.e (([] : List Int) ++ l)))] (.cons (app_p (f := Enc.e) (g := Enc.e) (l := ([] : List Int)) (r := l) (b := 8) (chk_t h) rfl) (.cons (app_m Enc.e ([] : List Int) l) .nil)) (by kernel_rfl) ?_
  obtain rfl := some_inj hm
  refine Ok_ret ?_
  repeat (first | refine thR ?_ | refine ibR ?_)
  exact X_fin [64] [] (by kernel_rfl) trivial
abbrev s_l1Own_f_r (y : (List Int)) : AV := .dat (Enc.e y)
abbrev s_l1Own_f_n (y : (List Int)) : List Obj' := []
abbrev s_l1Own_f_o (x : (List Int)) (y : (List Int)) : List Obj' := []
noncomputable def s_l1Own_f_S : FnSpec := modS [none] (fun x : (List Int) => [Enc.e x]) (fun x : (List Int) => []) (fun x : (List Int) => s_l1Own_f x) s_l1Own_f_r s_l1Own_f_n s_l1Own_f_o
theorem s_l1Own_f_c {l : List Int} {y : (List Int)} (h : s_l1Own_f l = some y) : CallOK s_l1Own_f_S [Enc.e l] [] (s_l1Own_f_r y) (s_l1Own_f_n y) (s_l1Own_f_o l y) :=
  modS_call (by
    rintro a0 b0 h hO
    simp only [List.cons.injEq, and_true] at h
    try simp only [List.cons.injEq, and_true, Obj'.box.injEq, Obj'.arr.injEq, true_and, AV.dat.injEq] at hO
    have h0 := h
    have q0 := Enc.inj _ _ h0
    subst q0; rfl) (x := l) h
theorem s_l1Own_f_ok : FnOK Try.prog 57 s_l1Own_f_S := by
  have Γok : ∀ f S, lookF f [] = some S → FnOK Try.prog f S := lookF_ok allF_nil
  have Γlive : Live (fun f => lookF f []) := lookF_live allL_nil
  refine fnOK_mod ty_ok (fun args w => Try.call57 args w) Try.func57 rfl [.tmp 2] (by rw [Try.results57]) 6 Try.ntmps57 16 rfl (fun _ => by first | exact Nat.zero_le _ | (simp)) (fun _ => rfl) ?_
  rintro l y cx hm hL
  have hm : s_l1Own_f l = some y := hm
  have hL : cx.L = 0 := hL
  unfold s_l1Own_f at hm
  refine X_reg_seq ty_ok Γok hL [] .nil (by kernel_rfl) ?_
  obtain ⟨u, h, hm⟩ := obind hm
  refine X_reg_seq ty_ok Γok hL [(2, .l (List.map Enc.e (([] : List Int) ++ l)))] (.cons (app_p (f := Enc.e) (g := Enc.e) (l := ([] : List Int)) (r := l) (b := 8) (chk_t h) rfl) (.cons (app_m Enc.e ([] : List Int) l) .nil)) (by kernel_rfl) ?_
  obtain rfl := some_inj hm
  refine Ok_ret ?_
  repeat (first | refine thR ?_ | refine ibR ?_)
  exact X_fin [] [] (by kernel_rfl) trivial
abbrev s_l2Own_r (y : Network) : AV := .aggv [.own 0, .own 1]
abbrev s_l2Own_n (y : Network) : List Obj' := [.arr 9 1 (List.map Enc.e y.Stops), .arr 74 3 (List.map Enc.e y.Lines)]
abbrev s_l2Own_o (x : Network) (y : Network) : List Obj' := []
noncomputable def s_l2Own_S : FnSpec := modS [none] (fun x : Network => [Enc.e x]) (fun x : Network => []) (fun x : Network => s_l2Own x) s_l2Own_r s_l2Own_n s_l2Own_o
theorem s_l2Own_c {n : Network} {y : Network} (h : s_l2Own n = some y) : CallOK s_l2Own_S [Enc.e n] [] (s_l2Own_r y) (s_l2Own_n y) (s_l2Own_o n y) :=
  modS_call (by
    rintro a0 b0 h hO
    simp only [List.cons.injEq, and_true] at h
    try simp only [List.cons.injEq, and_true, Obj'.box.injEq, Obj'.arr.injEq, true_and, AV.dat.injEq] at hO
    have h0 := h
    have q0 := Enc.inj _ _ h0
    subst q0; rfl) (x := n) h
theorem s_l2Own_ok : FnOK Try.prog 85 s_l2Own_S := by
  have Γok : ∀ f S, lookF f [(57, s_l1Own_f_S)] = some S → FnOK Try.prog f S := lookF_ok (allF_cons s_l1Own_f_ok allF_nil)
  have Γlive : Live (fun f => lookF f [(57, s_l1Own_f_S)]) := lookF_live (allL_cons modS_live allL_nil)
  refine fnOK_mod ty_ok (fun args w => Try.call85 args w) Try.func85 rfl [.cell 2 66] (by rw [Try.results85]) 44 Try.ntmps85 16 rfl (fun _ => by first | exact Nat.zero_le _ | (simp)) (fun _ => rfl) ?_
  rintro n y cx hm hL
  have hm : s_l2Own n = some y := hm
  have hL : cx.L = 0 := hL
  unfold s_l2Own at hm
  refine X_reg_seq ty_ok Γok hL [] .nil (by kernel_rfl) ?_
  obtain ⟨u, h, hm⟩ := obind hm
  refine X_reg_seq ty_ok Γok hL [(3, .l (List.map Enc.e (([] : List ByteArray) ++ n.Stops)))] (.cons (app_p (f := Enc.e) (g := Enc.e) (l := ([] : List ByteArray)) (r := n.Stops) (b := 16) (chk_t h) rfl) (.cons (app_m Enc.e ([] : List ByteArray) n.Stops) .nil)) (by kernel_rfl) ?_
  refine Ok_seq ?_
  refine X_reg_seq ty_ok Γok hL [] .nil (by kernel_rfl) ?_
  obtain ⟨v2, hv, hk⟩ := obind hm
  refine X_tail (n := 44) (fun (v2 : List Line) => (⟨[(2, .ref 16 0), (3, .ref 32 0)], [(16, some (.box [.dat (.sc (.slice none 0 0)), .dat (.sc (.slice none 0 0))])), (32, some (.box [.own 48, .own 64])), (48, some (.arr 9 1 (List.map Enc.e (([] : List ByteArray) ++ n.Stops)))), (64, some (.arr 74 3 (List.map Enc.e v2)))], 96⟩ : X)) v2 ?_ ?_
  · have hm := hv
    refine Ok_block ?_
    refine X_loop (n := 44) (step := s_l2Own_L1 n) (fun ((v, v1) : Int × (List Line)) => (⟨[(1, .ref 16 0), (2, .ref 32 0), (3, .ref 48 0), (4, .dat (.sc (.int .i64 v)))], [(16, some (.box [.dat (Enc.e n.Stops), .dat (Enc.e n.Lines)])), (32, some (.box [.dat (.sc (.slice none 0 0)), .dat (.sc (.slice none 0 0))])), (48, some (.box [.own 64, .own 80])), (64, some (.arr 9 1 (List.map Enc.e (([] : List ByteArray) ++ n.Stops)))), (80, some (.arr 74 3 (List.map Enc.e v1)))], 112⟩ : X)) hm (Wk_J hL ⟨[(1, []), (2, []), (3, []), (4, [])], [(16, 16, []), (32, 32, []), (48, 128, [.k, .o 80]), (64, 96, [])], [(80, 74, 3, [])], 112⟩ (by kernel_rfl)) ?_
    rintro ⟨v, v1⟩ r0 hm hb
    rw [s_l2Own_L1] at hm
    refine Ok_seq ?_
    refine X_reg_seq ty_ok Γok hL [(3, .n (n.Lines.length : Int))] (.cons (len_m Enc.e n.Lines) .nil) (by kernel_rfl) ?_
    refine X_cond (decide (v < (n.Lines.length : Int))) (by kernel_rfl) (fun hc => ?_) (fun hc => ?_)
    · have hm := it hc hm
      refine X_skip ?_
      refine thN ?_
      refine Ok_seq ?_
      refine Ok_block ?_
      obtain ⟨e3, h7, hm⟩ := obind hm
      obtain ⟨e4, h8, hm⟩ := obind hm
      obtain ⟨r2, h9, hm⟩ := obind hm
      obtain ⟨e5, h10, hm⟩ := obind hm
      obtain ⟨r3, h11, hm⟩ := obind hm
      obtain ⟨u2, h12, hm⟩ := obind hm
      refine X_draw mixed ty_ok Γok Γlive [(23, []), (24, [80, 560]), (26, [48, 576])] (by kernel_rfl) [(5, .d (Enc.e e3)), (11, .d (Enc.e e4)), (14, .c (s_l1Own_f_r r2) (s_l1Own_f_n r2) (s_l1Own_f_o e4.Stops r2)), (18, .d (Enc.e e5)), (21, .c (s_l1Own_f_r r3) (s_l1Own_f_n r3) (s_l1Own_f_o e5.Runs r3)), (24, .l (List.map Enc.e (v1 ++ ([(⟨e3.Name, r2, r3⟩ : Line)] : List Line))))] (.cons (idx_m (f := Enc.e) h7) (.cons (idx_m (f := Enc.e) h8) (.cons (s_l1Own_f_c h9) (.cons (idx_m (f := Enc.e) h10) (.cons (s_l1Own_f_c h11) (.cons (app_p (f := Enc.e) (g := Enc.e) (l := v1) (r := ([(⟨e3.Name, r2, r3⟩ : Line)] : List Line)) (b := 64) (chk_t h12) rfl) (.cons (app_m Enc.e v1 ([(⟨e3.Name, r2, r3⟩ : Line)] : List Line)) .nil))))))) (by kernel_rfl) ?_
      refine ibN ?_
      refine thN ?_
      refine X_reg ty_ok Γok hL [] .nil (by kernel_rfl) ?_
      obtain rfl := some_inj hm
      exact thN ⟨_, rfl, Wk_J hL ⟨[(1, []), (2, []), (3, []), (4, [])], [(16, 16, []), (32, 32, []), (48, 48, []), (64, 64, []), (80, 576, [])], [], 112⟩ (by kernel_rfl)⟩
    · have hm := ie hc hm
      obtain rfl := some_inj hm
      obtain rfl := hb _ rfl
      refine Ok_exit ?_
      refine thE ?_
      refine thE ?_
      refine ibE ?_
      exact thN (Wk_J hL ⟨[(2, []), (3, [])], [(16, 32, []), (32, 48, []), (48, 64, []), (64, 80, [])], [], 96⟩ (by kernel_rfl))
  intro s hw
  have hm := hk
  refine thN ?_
  refine Ok_weak hw ?_
  refine X_reg_seq ty_ok Γok hL [] .nil (by kernel_rfl) ?_
  obtain rfl := some_inj hm
  refine Ok_ret ?_
  repeat (first | refine thR ?_ | refine ibR ?_)
  exact X_fin [48, 64] [] (by kernel_rfl) trivial
abbrev s_l1Cur_network_r (y : Network × l1Cur) : AV := .aggv [.own 0, .own 1]
abbrev s_l1Cur_network_n (y : Network × l1Cur) : List Obj' := [.arr 9 1 (List.map Enc.e y.1.Stops), .arr 74 3 (List.map Enc.e y.1.Lines)]
abbrev s_l1Cur_network_o (x : l1Cur) (y : Network × l1Cur) : List Obj' := [.box [.dat (Enc.e y.2.code_), .dat (.sc (.int .i64 y.2.at_)), .dat (.sc (.int .u64 y.2.seed_.v))]]
noncomputable def s_l1Cur_network_S : FnSpec := modS [some false] (fun x : l1Cur => [.sc undef]) (fun x : l1Cur => [.box [.dat (Enc.e x.code_), .dat (.sc (.int .i64 x.at_)), .dat (.sc (.int .u64 x.seed_.v))]]) (fun x : l1Cur => s_l1Cur_network x) s_l1Cur_network_r s_l1Cur_network_n s_l1Cur_network_o
theorem s_l1Cur_network_c {c : l1Cur} {y : Network × l1Cur} (h : s_l1Cur_network c = some y) : CallOK s_l1Cur_network_S [.sc undef] [.box [.dat (Enc.e c.code_), .dat (.sc (.int .i64 c.at_)), .dat (.sc (.int .u64 c.seed_.v))]] (s_l1Cur_network_r y) (s_l1Cur_network_n y) (s_l1Cur_network_o c y) :=
  modS_call (by
    rintro a0 b0 h hO
    simp only [List.cons.injEq, and_true] at h
    try simp only [List.cons.injEq, and_true, Obj'.box.injEq, Obj'.arr.injEq, true_and, AV.dat.injEq] at hO
    have h0 := h
    have g0 := hO
    have q0 : a0 = b0 := Enc.inj _ _ (by show D.agg _ = D.agg _; simp only [D.agg.injEq, List.cons.injEq, and_true]; exact g0)
    subst q0; rfl) (x := c) h
theorem s_l1Cur_network_ok : FnOK Try.prog 112 s_l1Cur_network_S := by
  have Γok : ∀ f S, lookF f [(55, s_l1Cur_pick_S), (114, s_l1Num_S), (113, s_l1Cur_line_f_S), (105, s_l1Cur_one_S), (86, s_l2Back_f_S), (85, s_l2Own_S)] = some S → FnOK Try.prog f S := lookF_ok (allF_cons s_l1Cur_pick_ok (allF_cons s_l1Num_ok (allF_cons s_l1Cur_line_f_ok (allF_cons s_l1Cur_one_ok (allF_cons s_l2Back_f_ok (allF_cons s_l2Own_ok allF_nil))))))
  have Γlive : Live (fun f => lookF f [(55, s_l1Cur_pick_S), (114, s_l1Num_S), (113, s_l1Cur_line_f_S), (105, s_l1Cur_one_S), (86, s_l2Back_f_S), (85, s_l2Own_S)]) := lookF_live (allL_cons modS_live (allL_cons modS_live (allL_cons modS_live (allL_cons modS_live (allL_cons modS_live (allL_cons modS_live allL_nil))))))
  refine fnOK_mod ty_ok (fun args w => Try.call112 args w) Try.func112 rfl [.cell 2 66] (by rw [Try.results112]) 52 Try.ntmps112 16 rfl (fun _ => by first | exact Nat.zero_le _ | (simp)) (fun _ => rfl) ?_
  rintro c y cx hm hL
  have hm : s_l1Cur_network c = some y := hm
  have hL : cx.L = 1 := hL
  unfold s_l1Cur_network at hm
  refine X_reg_seq ty_ok Γok hL [] .nil (by kernel_rfl) ?_
  obtain ⟨r, h, hm⟩ := obind hm
  refine X_reg_seq ty_ok Γok hL [(1, .c (s_l1Cur_pick_r r) (s_l1Cur_pick_n r) (s_l1Cur_pick_o (c, 5) r))] (.cons (s_l1Cur_pick_c h) .nil) (by kernel_rfl) ?_
  obtain ⟨u, h1, hm⟩ := obind hm
  refine X_reg_seq ty_ok Γok hL [(2, .fz [96] [] []), (2, .l (List.map Enc.e ((([(str [112, 111, 114, 116]), (str [109, 105, 108, 108]), (str [112, 97, 114, 107]), (str [104, 97, 108, 108]), (str [100, 111, 99, 107]), (str [102, 97, 105, 114])] : List ByteArray).take (w64 (2 + r.1)).toNat).drop (0 : Int).toNat)))] (.cons (cut_p (f := Enc.e) (l := ([(str [112, 111, 114, 116]), (str [109, 105, 108, 108]), (str [112, 97, 114, 107]), (str [104, 97, 108, 108]), (str [100, 111, 99, 107]), (str [102, 97, 105, 114])] : List ByteArray)) (lo := 0) (hi := (w64 (2 + r.1))) (chk_t h1)) (.cons (cut_m Enc.e ([(str [112, 111, 114, 116]), (str [109, 105, 108, 108]), (str [112, 97, 114, 107]), (str [104, 97, 108, 108]), (str [100, 111, 99, 107]), (str [102, 97, 105, 114])] : List ByteArray) (0 : Int).toNat (w64 (2 + r.1)).toNat) .nil)) (by kernel_rfl) ?_
  refine Ok_seq ?_
  obtain ⟨r1, h2, hm⟩ := obind hm
  refine X_reg_seq ty_ok Γok hL [(1, .c (s_l1Cur_pick_r r1) (s_l1Cur_pick_n r1) (s_l1Cur_pick_o (r.2, 3) r1))] (.cons (s_l1Cur_pick_c h2) .nil) (by kernel_rfl) ?_
  obtain ⟨vv1, hv, hk⟩ := obind hm
  refine X_tail (n := 52) (fun ((v4, v5, v6, v7) : (List UInt8) × Int × Int × (List Line)) => (⟨[(0, .ref 0 0), (2, .ref 32 0), (4, .ref 48 0)], [(0, some (.box [.dat (Enc.e v4), .dat (.sc (.int .i64 v5)), .dat (.sc (.int .u64 v6))])), (32, some (.box [.dat (.sc (.slice none 0 0)), .dat (.sc (.slice none 0 0))])), (48, some (.box [.dat (Enc.e ((([(str [112, 111, 114, 116]), (str [109, 105, 108, 108]), (str [112, 97, 114, 107]), (str [104, 97, 108, 108]), (str [100, 111, 99, 107]), (str [102, 97, 105, 114])] : List ByteArray).take (w64 (2 + r.1)).toNat).drop (0 : Int).toNat)), .own 64])), (64, some (.arr 74 3 (List.map Enc.e v7)))], 96⟩ : X)) vv1 ?_ ?_
  · have hm := hv
    refine Ok_block ?_
    refine X_loop (n := 52) (step := s_l1Cur_network_L1 r) (fun ((x, v, v1, v2, v3) : Int × (List UInt8) × Int × Int × (List Line)) => (⟨[(0, .ref 0 0), (2, .ref 32 0), (3, .dat (.sc (.int .i64 (w64 (2 + r.1))))), (4, .ref 48 0), (5, .dat (.sc (.int .i64 x)))], [(0, some (.box [.dat (Enc.e v), .dat (.sc (.int .i64 v1)), .dat (.sc (.int .u64 v2))])), (32, some (.box [.dat (.sc (.slice none 0 0)), .dat (.sc (.slice none 0 0))])), (48, some (.box [.dat (Enc.e ((([(str [112, 111, 114, 116]), (str [109, 105, 108, 108]), (str [112, 97, 114, 107]), (str [104, 97, 108, 108]), (str [100, 111, 99, 107]), (str [102, 97, 105, 114])] : List ByteArray).take (w64 (2 + r.1)).toNat).drop (0 : Int).toNat)), .own 64])), (64, some (.arr 74 3 (List.map Enc.e v3)))], 96⟩ : X)) hm (Wk_J hL ⟨[(0, []), (2, []), (3, []), (4, []), (5, [])], [(0, 0, []), (32, 16, []), (48, 160, [.k, .o 64])], [(64, 74, 3, [])], 96⟩ (by kernel_rfl)) ?_
    rintro ⟨x, v, v1, v2, v3⟩ r0 hm hb
    rw [s_l1Cur_network_L1] at hm
    refine Ok_seq ?_
    refine X_reg_seq ty_ok Γok hL [] .nil (by kernel_rfl) ?_
    refine X_cond (decide (0 < x)) (by kernel_rfl) (fun hc => ?_) (fun hc => ?_)
    · have hm := it hc hm
      refine X_skip ?_
      refine thN ?_
      refine Ok_seq ?_
      refine Ok_block ?_
      obtain ⟨r4, h7, hm⟩ := obind hm
      obtain ⟨u3, h8, hm⟩ := obind hm
      obtain ⟨r5, h9, hm⟩ := obind hm
      obtain ⟨u4, h10, hm⟩ := obind hm
      refine X_draw mixed ty_ok Γok Γlive [(7, [0]), (8, []), (9, [64, 256]), (11, [48, 272])] (by kernel_rfl) [(4, .c (s_l1Num_r r4) (s_l1Num_n r4) (s_l1Num_o x r4)), (7, .c (s_l1Cur_line_f_r r5) (s_l1Cur_line_f_n r5) (s_l1Cur_line_f_o ((⟨v, v1, (⟨v2⟩ : IK .u64)⟩ : l1Cur), ((str [108]) ++ r4), (w64 (2 + r.1))) r5)), (9, .l (List.map Enc.e (v3 ++ ([r5.1] : List Line))))] (.cons (s_l1Num_c h7) (.cons (cat_p (chk_t h8)) (.cons (s_l1Cur_line_f_c h9) (.cons (app_p (f := Enc.e) (g := Enc.e) (l := v3) (r := ([r5.1] : List Line)) (b := 64) (chk_t h10) rfl) (.cons (app_m Enc.e v3 ([r5.1] : List Line)) .nil))))) (by kernel_rfl) ?_
      refine ibN ?_
      refine thN ?_
      refine X_reg ty_ok Γok hL [] .nil (by kernel_rfl) ?_
      obtain rfl := some_inj hm
      exact thN ⟨_, rfl, Wk_J hL ⟨[(0, []), (2, []), (3, []), (4, []), (5, [])], [(0, 0, []), (32, 32, []), (48, 48, []), (64, 272, [])], [], 96⟩ (by kernel_rfl)⟩
    · have hm := ie hc hm
      obtain rfl := some_inj hm
      obtain rfl := hb _ rfl
      refine Ok_exit ?_
      refine thE ?_
      refine thE ?_
      refine ibE ?_
      exact thN (Wk_J hL ⟨[(0, []), (2, []), (4, [])], [(0, 0, []), (32, 32, []), (48, 48, []), (64, 64, [])], [], 96⟩ (by kernel_rfl))
  obtain ⟨v4, v5, v6, v7⟩ := vv1
  intro s hw
  have hm := hk
  refine thN ?_
  refine Ok_weak hw ?_
  obtain ⟨vv, hv1, hk1⟩ := obind hm
  refine X_join (n := 52) (fun ((v8, v9, v10, v11) : (List UInt8) × Int × Int × (List Line)) => (⟨[(0, .ref 0 0), (2, .ref 32 0), (4, .ref 48 0)], [(0, some (.box [.dat (Enc.e v8), .dat (.sc (.int .i64 v9)), .dat (.sc (.int .u64 v10))])), (32, some (.box [.dat (.sc (.slice none 0 0)), .dat (.sc (.slice none 0 0))])), (48, some (.box [.dat (Enc.e ((([(str [112, 111, 114, 116]), (str [109, 105, 108, 108]), (str [112, 97, 114, 107]), (str [104, 97, 108, 108]), (str [100, 111, 99, 107]), (str [102, 97, 105, 114])] : List ByteArray).take (w64 (2 + r.1)).toNat).drop (0 : Int).toNat)), .own 64])), (64, some (.arr 74 3 (List.map Enc.e v11)))], 96⟩ : X)) vv ?_ ?_
  · have hm := hv1
    obtain ⟨r6, h11, hm⟩ := obind hm
    refine X_reg_seq ty_ok Γok hL [(1, .c (s_l1Cur_one_r r6) (s_l1Cur_one_n r6) (s_l1Cur_one_o ((⟨v4, v5, (⟨v6⟩ : IK .u64)⟩ : l1Cur), 2) r6))] (.cons (s_l1Cur_one_c h11) .nil) (by kernel_rfl) ?_
    refine X_cond r6.1 (by kernel_rfl) (fun hc1 => ?_) (fun hc1 => ?_)
    · have hm := it hc1 hm
      obtain ⟨e, h12, hm⟩ := obind hm
      refine X_reg_seq ty_ok Γok hL [(2, .d (Enc.e e)), (3, .d (Enc.e e))] (.cons (idx_m (f := Enc.e) h12) (.cons (idx_m2 (f := Enc.e) h12) .nil)) (by kernel_rfl) ?_
      obtain ⟨r9, h16, hm⟩ := obind hm
      obtain ⟨r10, h17, hm⟩ := obind hm
      obtain ⟨u6, h18, hm⟩ := obind hm
      refine X_draw mixed ty_ok Γok Γlive [(9, []), (10, [64, 368]), (12, [48, 384])] (by kernel_rfl) [(4, .c (s_l2Back_f_r r9) (s_l2Back_f_n r9) (s_l2Back_f_o e.Stops r9)), (7, .c (s_l2Back_f_r r10) (s_l2Back_f_n r10) (s_l2Back_f_o e.Runs r10)), (10, .l (List.map Enc.e (v7 ++ ([(⟨(str [114, 49]), r9, r10⟩ : Line)] : List Line))))] (.cons (s_l2Back_f_c h16) (.cons (s_l2Back_f_c h17) (.cons (app_p (f := Enc.e) (g := Enc.e) (l := v7) (r := ([(⟨(str [114, 49]), r9, r10⟩ : Line)] : List Line)) (b := 64) (chk_t h18) rfl) (.cons (app_m Enc.e v7 ([(⟨(str [114, 49]), r9, r10⟩ : Line)] : List Line)) .nil)))) (by kernel_rfl) ?_
      obtain rfl := some_inj hm
      exact thN (Wk_J hL ⟨[(0, []), (2, []), (4, [])], [(0, 0, []), (32, 32, []), (48, 48, []), (64, 384, [])], [], 96⟩ (by kernel_rfl))
    · have hm := ie hc1 hm
      refine X_skip ?_
      obtain rfl := some_inj hm
      exact thN (Wk_J hL ⟨[(0, []), (2, []), (4, [])], [(0, 0, []), (32, 32, []), (48, 48, []), (64, 64, [])], [], 96⟩ (by kernel_rfl))
  obtain ⟨v8, v9, v10, v11⟩ := vv
  have hm := hk1
  obtain ⟨r11, h19, hm⟩ := obind hm
  refine X_reg_seq ty_ok Γok hL [(1, .fz [64] [] []), (1, .c (s_l2Own_r r11) (s_l2Own_n r11) (s_l2Own_o (⟨((([(str [112, 111, 114, 116]), (str [109, 105, 108, 108]), (str [112, 97, 114, 107]), (str [104, 97, 108, 108]), (str [100, 111, 99, 107]), (str [102, 97, 105, 114])] : List ByteArray).take (w64 (2 + r.1)).toNat).drop (0 : Int).toNat), v11⟩ : Network) r11))] (.cons (s_l2Own_c h19) .nil) (by kernel_rfl) ?_
  obtain rfl := some_inj hm
  refine Ok_ret ?_
  repeat (first | refine thR ?_ | refine ibR ?_)
  exact X_fin [112, 113] [] (by kernel_rfl) trivial
abbrev s_l1Cur_of_r (y : ByteArray × l1Cur) : AV := .dat (Enc.e y.1)
abbrev s_l1Cur_of_n (y : ByteArray × l1Cur) : List Obj' := []
abbrev s_l1Cur_of_o (x : l1Cur × (List ByteArray)) (y : ByteArray × l1Cur) : List Obj' := [.box [.dat (Enc.e y.2.code_), .dat (.sc (.int .i64 y.2.at_)), .dat (.sc (.int .u64 y.2.seed_.v))]]
noncomputable def s_l1Cur_of_S : FnSpec := modS [some false, none] (fun x : l1Cur × (List ByteArray) => [.sc undef, Enc.e x.2]) (fun x : l1Cur × (List ByteArray) => [.box [.dat (Enc.e x.1.code_), .dat (.sc (.int .i64 x.1.at_)), .dat (.sc (.int .u64 x.1.seed_.v))]]) (fun x : l1Cur × (List ByteArray) => s_l1Cur_of x.1 x.2) s_l1Cur_of_r s_l1Cur_of_n s_l1Cur_of_o
theorem s_l1Cur_of_c {c : l1Cur} {list : List ByteArray} {y : ByteArray × l1Cur} (h : s_l1Cur_of c list = some y) : CallOK s_l1Cur_of_S [.sc undef, Enc.e list] [.box [.dat (Enc.e c.code_), .dat (.sc (.int .i64 c.at_)), .dat (.sc (.int .u64 c.seed_.v))]] (s_l1Cur_of_r y) (s_l1Cur_of_n y) (s_l1Cur_of_o (c, list) y) :=
  modS_call (by
    rintro ⟨a0, a1⟩ ⟨b0, b1⟩ h hO
    simp only [List.cons.injEq, and_true] at h
    try simp only [List.cons.injEq, and_true, Obj'.box.injEq, Obj'.arr.injEq, true_and, AV.dat.injEq] at hO
    obtain ⟨h0, h1⟩ := h
    have q1 := Enc.inj _ _ h1
    have g0 := hO
    have q0 : a0 = b0 := Enc.inj _ _ (by show D.agg _ = D.agg _; simp only [D.agg.injEq, List.cons.injEq, and_true]; exact g0)
    subst q0; subst q1; rfl) (x := (c, list)) h
theorem s_l1Cur_of_ok : FnOK Try.prog 79 s_l1Cur_of_S := by
  have Γok : ∀ f S, lookF f [(55, s_l1Cur_pick_S)] = some S → FnOK Try.prog f S := lookF_ok (allF_cons s_l1Cur_pick_ok allF_nil)
  have Γlive : Live (fun f => lookF f [(55, s_l1Cur_pick_S)]) := lookF_live (allL_cons modS_live allL_nil)
  refine fnOK_mod ty_ok (fun args w => Try.call79 args w) Try.func79 rfl [.tmp 4] (by rw [Try.results79]) 12 Try.ntmps79 16 rfl (fun _ => by first | exact Nat.zero_le _ | (simp)) (fun _ => rfl) ?_
  rintro ⟨c, list⟩ y cx hm hL
  have hm : s_l1Cur_of c list = some y := hm
  have hL : cx.L = 1 := hL
  unfold s_l1Cur_of at hm
  refine X_reg_seq ty_ok Γok hL [] .nil (by kernel_rfl) ?_
  obtain ⟨r, h, hm⟩ := obind hm
  obtain ⟨e, h1, hm⟩ := obind hm
  refine X_reg_seq ty_ok Γok hL [(3, .n (list.length : Int)), (4, .c (s_l1Cur_pick_r r) (s_l1Cur_pick_n r) (s_l1Cur_pick_o (c, (list.length : Int)) r)), (5, .d (Enc.e e))] (.cons (len_m Enc.e list) (.cons (s_l1Cur_pick_c h) (.cons (idx_m (f := Enc.e) h1) .nil))) (by kernel_rfl) ?_
  obtain rfl := some_inj hm
  refine Ok_ret ?_
  repeat (first | refine thR ?_ | refine ibR ?_)
  exact X_fin [] [] (by kernel_rfl) trivial
abbrev s_l1Cur_of_w_r (y : ByteArray × l1Cur) : AV := .dat (Enc.e y.1)
abbrev s_l1Cur_of_w_n (y : ByteArray × l1Cur) : List Obj' := []
abbrev s_l1Cur_of_w_o (x : l1Cur × (List ByteArray)) (y : ByteArray × l1Cur) : List Obj' := [.box [.dat (Enc.e y.2.code_), .dat (.sc (.int .i64 y.2.at_)), .dat (.sc (.int .u64 y.2.seed_.v))], .arr 9 1 (List.map Enc.e x.2)]
noncomputable def s_l1Cur_of_w_S : FnSpec := modS [some false, some true] (fun x : l1Cur × (List ByteArray) => [.sc undef, .sc undef]) (fun x : l1Cur × (List ByteArray) => [.box [.dat (Enc.e x.1.code_), .dat (.sc (.int .i64 x.1.at_)), .dat (.sc (.int .u64 x.1.seed_.v))], .arr 9 1 (List.map Enc.e x.2)]) (fun x : l1Cur × (List ByteArray) => s_l1Cur_of_w x.1 x.2) s_l1Cur_of_w_r s_l1Cur_of_w_n s_l1Cur_of_w_o
theorem s_l1Cur_of_w_c {c : l1Cur} {list : List ByteArray} {y : ByteArray × l1Cur} (h : s_l1Cur_of_w c list = some y) : CallOK s_l1Cur_of_w_S [.sc undef, .sc undef] [.box [.dat (Enc.e c.code_), .dat (.sc (.int .i64 c.at_)), .dat (.sc (.int .u64 c.seed_.v))], .arr 9 1 (List.map Enc.e list)] (s_l1Cur_of_w_r y) (s_l1Cur_of_w_n y) (s_l1Cur_of_w_o (c, list) y) :=
  modS_call (by
    rintro ⟨a0, a1⟩ ⟨b0, b1⟩ h hO
    simp only [List.cons.injEq, and_true] at h
    try simp only [List.cons.injEq, and_true, Obj'.box.injEq, Obj'.arr.injEq, true_and, AV.dat.injEq] at hO
    obtain ⟨h0, h1⟩ := h
    obtain ⟨g0, g1⟩ := hO
    have q0 : a0 = b0 := Enc.inj _ _ (by show D.agg _ = D.agg _; simp only [D.agg.injEq, List.cons.injEq, and_true]; exact g0)
    have q1 := (List.map_inj_right (fun x y => Enc.inj x y)).1 g1
    subst q0; subst q1; rfl) (x := (c, list)) h
theorem s_l1Cur_of_w_ok : FnOK Try.prog 79 s_l1Cur_of_w_S := by
  have Γok : ∀ f S, lookF f [(55, s_l1Cur_pick_S)] = some S → FnOK Try.prog f S := lookF_ok (allF_cons s_l1Cur_pick_ok allF_nil)
  have Γlive : Live (fun f => lookF f [(55, s_l1Cur_pick_S)]) := lookF_live (allL_cons modS_live allL_nil)
  refine fnOK_mod ty_ok (fun args w => Try.call79 args w) Try.func79 rfl [.tmp 4] (by rw [Try.results79]) 12 Try.ntmps79 16 rfl (fun _ => by first | exact Nat.zero_le _ | (simp)) (fun _ => rfl) ?_
  rintro ⟨c, list⟩ y cx hm hL
  have hm : s_l1Cur_of_w c list = some y := hm
  have hL : cx.L = 2 := hL
  unfold s_l1Cur_of_w at hm
  refine X_reg_seq ty_ok Γok hL [] .nil (by kernel_rfl) ?_
  obtain ⟨r, h, hm⟩ := obind hm
  obtain ⟨e, h1, hm⟩ := obind hm
  refine X_reg_seq ty_ok Γok hL [(3, .n (list.length : Int)), (4, .c (s_l1Cur_pick_r r) (s_l1Cur_pick_n r) (s_l1Cur_pick_o (c, (list.length : Int)) r)), (5, .d (Enc.e e)), (6, .d (Enc.e e))] (.cons (len_m Enc.e list) (.cons (s_l1Cur_pick_c h) (.cons (idx_m (f := Enc.e) h1) (.cons (idx_m2 (f := Enc.e) h1) .nil)))) (by kernel_rfl) ?_
  obtain rfl := some_inj hm
  refine Ok_ret ?_
  repeat (first | refine thR ?_ | refine ibR ?_)
  exact X_fin [] [] (by kernel_rfl) trivial
abbrev s_l2Own_t_r (y : Network) : AV := .aggv [.own 0, .own 1]
abbrev s_l2Own_t_n (y : Network) : List Obj' := [.arr 9 1 (List.map Enc.e y.Stops), .tab 74 3 [none, some 3, some 3] (List.map Enc.e y.Lines) 0 none]
abbrev s_l2Own_t_o (x : Network) (y : Network) : List Obj' := []
noncomputable def s_l2Own_t_S : FnSpec := modS [none] (fun x : Network => [Enc.e x]) (fun x : Network => []) (fun x : Network => s_l2Own_t x) s_l2Own_t_r s_l2Own_t_n s_l2Own_t_o
theorem s_l2Own_t_c {n : Network} {y : Network} (h : s_l2Own_t n = some y) : CallOK s_l2Own_t_S [Enc.e n] [] (s_l2Own_t_r y) (s_l2Own_t_n y) (s_l2Own_t_o n y) :=
  modS_call (by
    rintro a0 b0 h hO
    simp only [List.cons.injEq, and_true] at h
    try simp only [List.cons.injEq, and_true, Obj'.box.injEq, Obj'.arr.injEq, true_and, AV.dat.injEq] at hO
    have h0 := h
    have q0 := Enc.inj _ _ h0
    subst q0; rfl) (x := n) h
theorem s_l2Own_t_ok : FnOK Try.prog 85 s_l2Own_t_S := by
  have Γok : ∀ f S, lookF f [(57, s_l1Own_S)] = some S → FnOK Try.prog f S := lookF_ok (allF_cons s_l1Own_ok allF_nil)
  have Γlive : Live (fun f => lookF f [(57, s_l1Own_S)]) := lookF_live (allL_cons modS_live allL_nil)
  refine fnOK_mod ty_ok (fun args w => Try.call85 args w) Try.func85 rfl [.cell 2 66] (by rw [Try.results85]) 44 Try.ntmps85 16 rfl (fun _ => by first | exact Nat.zero_le _ | (simp)) (fun _ => rfl) ?_
  rintro n y cx hm hL
  have hm : s_l2Own_t n = some y := hm
  have hL : cx.L = 0 := hL
  unfold s_l2Own_t at hm
  refine X_reg_seq ty_ok Γok hL [] .nil (by kernel_rfl) ?_
  obtain ⟨u, h, hm⟩ := obind hm
  refine X_reg_seq ty_ok Γok hL [(3, .l (List.map Enc.e (([] : List ByteArray) ++ n.Stops)))] (.cons (app_p (f := Enc.e) (g := Enc.e) (l := ([] : List ByteArray)) (r := n.Stops) (b := 16) (chk_t h) rfl) (.cons (app_m Enc.e ([] : List ByteArray) n.Stops) .nil)) (by kernel_rfl) ?_
  refine Ok_seq ?_
  refine X_reg_seq ty_ok Γok hL [] .nil (by kernel_rfl) ?_
  obtain ⟨v2, hv, hk⟩ := obind hm
  refine X_tail (n := 44) (fun (v2 : List Line) => (⟨[(2, .ref 16 0), (3, .ref 32 0)], [(16, some (.box [.dat (.sc (.slice none 0 0)), .dat (.sc (.slice none 0 0))])), (32, some (.box [.own 48, .own 64])), (48, some (.arr 9 1 (List.map Enc.e (([] : List ByteArray) ++ n.Stops)))), (64, some (.tab 74 3 [none, some 3, some 3] (List.map Enc.e v2) 64 none))], 96⟩ : X)) v2 ?_ ?_
  · have hm := hv
    refine Ok_block ?_
    refine X_loop (n := 44) (step := s_l2Own_t_L1 n) (fun ((v, v1) : Int × (List Line)) => (⟨[(1, .ref 16 0), (2, .ref 32 0), (3, .ref 48 0), (4, .dat (.sc (.int .i64 v)))], [(16, some (.box [.dat (Enc.e n.Stops), .dat (Enc.e n.Lines)])), (32, some (.box [.dat (.sc (.slice none 0 0)), .dat (.sc (.slice none 0 0))])), (48, some (.box [.own 64, .own 80])), (64, some (.arr 9 1 (List.map Enc.e (([] : List ByteArray) ++ n.Stops)))), (80, some (.tab 74 3 [none, some 3, some 3] (List.map Enc.e v1) 80 none))], 112⟩ : X)) hm (Wk_J hL ⟨[(1, []), (2, []), (3, []), (4, [])], [(16, 16, []), (32, 32, []), (48, 128, [.k, .o 80]), (64, 96, [])], [(80, 74, 3, [none, some 3, some 3])], 112⟩ (by kernel_rfl)) ?_
    rintro ⟨v, v1⟩ r0 hm hb
    rw [s_l2Own_t_L1] at hm
    refine Ok_seq ?_
    refine X_reg_seq ty_ok Γok hL [(3, .n (n.Lines.length : Int))] (.cons (len_m Enc.e n.Lines) .nil) (by kernel_rfl) ?_
    refine X_cond (decide (v < (n.Lines.length : Int))) (by kernel_rfl) (fun hc => ?_) (fun hc => ?_)
    · have hm := it hc hm
      refine X_skip ?_
      refine thN ?_
      refine Ok_seq ?_
      refine Ok_block ?_
      obtain ⟨e3, h7, hm⟩ := obind hm
      obtain ⟨e4, h8, hm⟩ := obind hm
      obtain ⟨r2, h9, hm⟩ := obind hm
      obtain ⟨e5, h10, hm⟩ := obind hm
      obtain ⟨r3, h11, hm⟩ := obind hm
      obtain ⟨u2, h12, hm⟩ := obind hm
      refine X_draw mixed ty_ok Γok Γlive [(23, [416, 528]), (24, [80, 560]), (26, [48, 576])] (by kernel_rfl) [(5, .d (Enc.e e3)), (11, .d (Enc.e e4)), (14, .c (s_l1Own_r r2) (s_l1Own_n r2) (s_l1Own_o e4.Stops r2)), (18, .d (Enc.e e5)), (21, .c (s_l1Own_r r3) (s_l1Own_n r3) (s_l1Own_o e5.Runs r3)), (24, .l (List.map Enc.e (v1 ++ ([(⟨e3.Name, r2, r3⟩ : Line)] : List Line))))] (.cons (idx_m (f := Enc.e) h7) (.cons (idx_m (f := Enc.e) h8) (.cons (s_l1Own_c h9) (.cons (idx_m (f := Enc.e) h10) (.cons (s_l1Own_c h11) (.cons (nodupB_ok (l := [416, 528]) rfl) (.cons (app_p (f := Enc.e) (g := Enc.e) (l := v1) (r := ([(⟨e3.Name, r2, r3⟩ : Line)] : List Line)) (b := 64) (chk_t h12) rfl) (.cons (app_m Enc.e v1 ([(⟨e3.Name, r2, r3⟩ : Line)] : List Line)) .nil)))))))) (by kernel_rfl) ?_
      refine ibN ?_
      refine thN ?_
      refine X_reg ty_ok Γok hL [] .nil (by kernel_rfl) ?_
      obtain rfl := some_inj hm
      exact thN ⟨_, rfl, Wk_J hL ⟨[(1, []), (2, []), (3, []), (4, [])], [(16, 16, []), (32, 32, []), (48, 48, []), (64, 64, []), (80, 576, [])], [], 112⟩ (by kernel_rfl)⟩
    · have hm := ie hc hm
      obtain rfl := some_inj hm
      obtain rfl := hb _ rfl
      refine Ok_exit ?_
      refine thE ?_
      refine thE ?_
      refine ibE ?_
      exact thN (Wk_J hL ⟨[(2, []), (3, [])], [(16, 32, []), (32, 48, []), (48, 64, []), (64, 80, [])], [], 96⟩ (by kernel_rfl))
  intro s hw
  have hm := hk
  refine thN ?_
  refine Ok_weak hw ?_
  refine X_reg_seq ty_ok Γok hL [] .nil (by kernel_rfl) ?_
  obtain rfl := some_inj hm
  refine Ok_ret ?_
  repeat (first | refine thR ?_ | refine ibR ?_)
  exact X_fin [48, 64] [] (by kernel_rfl) trivial
abbrev s_l1Cur_network_t_r (y : Network × l1Cur) : AV := .aggv [.own 0, .own 1]
abbrev s_l1Cur_network_t_n (y : Network × l1Cur) : List Obj' := [.arr 9 1 (List.map Enc.e y.1.Stops), .tab 74 3 [none, some 3, some 3] (List.map Enc.e y.1.Lines) 0 none]
abbrev s_l1Cur_network_t_o (x : l1Cur) (y : Network × l1Cur) : List Obj' := [.box [.dat (Enc.e y.2.code_), .dat (.sc (.int .i64 y.2.at_)), .dat (.sc (.int .u64 y.2.seed_.v))]]
noncomputable def s_l1Cur_network_t_S : FnSpec := modS [some false] (fun x : l1Cur => [.sc undef]) (fun x : l1Cur => [.box [.dat (Enc.e x.code_), .dat (.sc (.int .i64 x.at_)), .dat (.sc (.int .u64 x.seed_.v))]]) (fun x : l1Cur => s_l1Cur_network_t x) s_l1Cur_network_t_r s_l1Cur_network_t_n s_l1Cur_network_t_o
theorem s_l1Cur_network_t_c {c : l1Cur} {y : Network × l1Cur} (h : s_l1Cur_network_t c = some y) : CallOK s_l1Cur_network_t_S [.sc undef] [.box [.dat (Enc.e c.code_), .dat (.sc (.int .i64 c.at_)), .dat (.sc (.int .u64 c.seed_.v))]] (s_l1Cur_network_t_r y) (s_l1Cur_network_t_n y) (s_l1Cur_network_t_o c y) :=
  modS_call (by
    rintro a0 b0 h hO
    simp only [List.cons.injEq, and_true] at h
    try simp only [List.cons.injEq, and_true, Obj'.box.injEq, Obj'.arr.injEq, true_and, AV.dat.injEq] at hO
    have h0 := h
    have g0 := hO
    have q0 : a0 = b0 := Enc.inj _ _ (by show D.agg _ = D.agg _; simp only [D.agg.injEq, List.cons.injEq, and_true]; exact g0)
    subst q0; rfl) (x := c) h
theorem s_l1Cur_network_t_ok : FnOK Try.prog 112 s_l1Cur_network_t_S := by
  have Γok : ∀ f S, lookF f [(55, s_l1Cur_pick_S), (114, s_l1Num_S), (113, s_l1Cur_line_f_S), (105, s_l1Cur_one_S), (86, s_l2Back_f_S), (85, s_l2Own_t_S)] = some S → FnOK Try.prog f S := lookF_ok (allF_cons s_l1Cur_pick_ok (allF_cons s_l1Num_ok (allF_cons s_l1Cur_line_f_ok (allF_cons s_l1Cur_one_ok (allF_cons s_l2Back_f_ok (allF_cons s_l2Own_t_ok allF_nil))))))
  have Γlive : Live (fun f => lookF f [(55, s_l1Cur_pick_S), (114, s_l1Num_S), (113, s_l1Cur_line_f_S), (105, s_l1Cur_one_S), (86, s_l2Back_f_S), (85, s_l2Own_t_S)]) := lookF_live (allL_cons modS_live (allL_cons modS_live (allL_cons modS_live (allL_cons modS_live (allL_cons modS_live (allL_cons modS_live allL_nil))))))
  refine fnOK_mod ty_ok (fun args w => Try.call112 args w) Try.func112 rfl [.cell 2 66] (by rw [Try.results112]) 52 Try.ntmps112 16 rfl (fun _ => by first | exact Nat.zero_le _ | (simp)) (fun _ => rfl) ?_
  rintro c y cx hm hL
  have hm : s_l1Cur_network_t c = some y := hm
  have hL : cx.L = 1 := hL
  unfold s_l1Cur_network_t at hm
  refine X_reg_seq ty_ok Γok hL [] .nil (by kernel_rfl) ?_
  obtain ⟨r, h, hm⟩ := obind hm
  refine X_reg_seq ty_ok Γok hL [(1, .c (s_l1Cur_pick_r r) (s_l1Cur_pick_n r) (s_l1Cur_pick_o (c, 5) r))] (.cons (s_l1Cur_pick_c h) .nil) (by kernel_rfl) ?_
  obtain ⟨u, h1, hm⟩ := obind hm
  refine X_reg_seq ty_ok Γok hL [(2, .fz [96] [] []), (2, .l (List.map Enc.e ((([(str [112, 111, 114, 116]), (str [109, 105, 108, 108]), (str [112, 97, 114, 107]), (str [104, 97, 108, 108]), (str [100, 111, 99, 107]), (str [102, 97, 105, 114])] : List ByteArray).take (w64 (2 + r.1)).toNat).drop (0 : Int).toNat)))] (.cons (cut_p (f := Enc.e) (l := ([(str [112, 111, 114, 116]), (str [109, 105, 108, 108]), (str [112, 97, 114, 107]), (str [104, 97, 108, 108]), (str [100, 111, 99, 107]), (str [102, 97, 105, 114])] : List ByteArray)) (lo := 0) (hi := (w64 (2 + r.1))) (chk_t h1)) (.cons (cut_m Enc.e ([(str [112, 111, 114, 116]), (str [109, 105, 108, 108]), (str [112, 97, 114, 107]), (str [104, 97, 108, 108]), (str [100, 111, 99, 107]), (str [102, 97, 105, 114])] : List ByteArray) (0 : Int).toNat (w64 (2 + r.1)).toNat) .nil)) (by kernel_rfl) ?_
  refine Ok_seq ?_
  obtain ⟨r1, h2, hm⟩ := obind hm
  refine X_reg_seq ty_ok Γok hL [(1, .c (s_l1Cur_pick_r r1) (s_l1Cur_pick_n r1) (s_l1Cur_pick_o (r.2, 3) r1))] (.cons (s_l1Cur_pick_c h2) .nil) (by kernel_rfl) ?_
  obtain ⟨vv1, hv, hk⟩ := obind hm
  refine X_tail (n := 52) (fun ((v4, v5, v6, v7) : (List UInt8) × Int × Int × (List Line)) => (⟨[(0, .ref 0 0), (2, .ref 32 0), (4, .ref 48 0)], [(0, some (.box [.dat (Enc.e v4), .dat (.sc (.int .i64 v5)), .dat (.sc (.int .u64 v6))])), (32, some (.box [.dat (.sc (.slice none 0 0)), .dat (.sc (.slice none 0 0))])), (48, some (.box [.dat (Enc.e ((([(str [112, 111, 114, 116]), (str [109, 105, 108, 108]), (str [112, 97, 114, 107]), (str [104, 97, 108, 108]), (str [100, 111, 99, 107]), (str [102, 97, 105, 114])] : List ByteArray).take (w64 (2 + r.1)).toNat).drop (0 : Int).toNat)), .own 64])), (64, some (.arr 74 3 (List.map Enc.e v7)))], 96⟩ : X)) vv1 ?_ ?_
  · have hm := hv
    refine Ok_block ?_
    refine X_loop (n := 52) (step := s_l1Cur_network_t_L1 r) (fun ((x, v, v1, v2, v3) : Int × (List UInt8) × Int × Int × (List Line)) => (⟨[(0, .ref 0 0), (2, .ref 32 0), (3, .dat (.sc (.int .i64 (w64 (2 + r.1))))), (4, .ref 48 0), (5, .dat (.sc (.int .i64 x)))], [(0, some (.box [.dat (Enc.e v), .dat (.sc (.int .i64 v1)), .dat (.sc (.int .u64 v2))])), (32, some (.box [.dat (.sc (.slice none 0 0)), .dat (.sc (.slice none 0 0))])), (48, some (.box [.dat (Enc.e ((([(str [112, 111, 114, 116]), (str [109, 105, 108, 108]), (str [112, 97, 114, 107]), (str [104, 97, 108, 108]), (str [100, 111, 99, 107]), (str [102, 97, 105, 114])] : List ByteArray).take (w64 (2 + r.1)).toNat).drop (0 : Int).toNat)), .own 64])), (64, some (.arr 74 3 (List.map Enc.e v3)))], 96⟩ : X)) hm (Wk_J hL ⟨[(0, []), (2, []), (3, []), (4, []), (5, [])], [(0, 0, []), (32, 16, []), (48, 160, [.k, .o 64])], [(64, 74, 3, [])], 96⟩ (by kernel_rfl)) ?_
    rintro ⟨x, v, v1, v2, v3⟩ r0 hm hb
    rw [s_l1Cur_network_t_L1] at hm
    refine Ok_seq ?_
    refine X_reg_seq ty_ok Γok hL [] .nil (by kernel_rfl) ?_
    refine X_cond (decide (0 < x)) (by kernel_rfl) (fun hc => ?_) (fun hc => ?_)
    · have hm := it hc hm
      refine X_skip ?_
      refine thN ?_
      refine Ok_seq ?_
      refine Ok_block ?_
      obtain ⟨r4, h7, hm⟩ := obind hm
      obtain ⟨u3, h8, hm⟩ := obind hm
      obtain ⟨r5, h9, hm⟩ := obind hm
      obtain ⟨u4, h10, hm⟩ := obind hm
      refine X_draw mixed ty_ok Γok Γlive [(7, [0]), (8, []), (9, [64, 256]), (11, [48, 272])] (by kernel_rfl) [(4, .c (s_l1Num_r r4) (s_l1Num_n r4) (s_l1Num_o x r4)), (7, .c (s_l1Cur_line_f_r r5) (s_l1Cur_line_f_n r5) (s_l1Cur_line_f_o ((⟨v, v1, (⟨v2⟩ : IK .u64)⟩ : l1Cur), ((str [108]) ++ r4), (w64 (2 + r.1))) r5)), (9, .l (List.map Enc.e (v3 ++ ([r5.1] : List Line))))] (.cons (s_l1Num_c h7) (.cons (cat_p (chk_t h8)) (.cons (s_l1Cur_line_f_c h9) (.cons (app_p (f := Enc.e) (g := Enc.e) (l := v3) (r := ([r5.1] : List Line)) (b := 64) (chk_t h10) rfl) (.cons (app_m Enc.e v3 ([r5.1] : List Line)) .nil))))) (by kernel_rfl) ?_
      refine ibN ?_
      refine thN ?_
      refine X_reg ty_ok Γok hL [] .nil (by kernel_rfl) ?_
      obtain rfl := some_inj hm
      exact thN ⟨_, rfl, Wk_J hL ⟨[(0, []), (2, []), (3, []), (4, []), (5, [])], [(0, 0, []), (32, 32, []), (48, 48, []), (64, 272, [])], [], 96⟩ (by kernel_rfl)⟩
    · have hm := ie hc hm
      obtain rfl := some_inj hm
      obtain rfl := hb _ rfl
      refine Ok_exit ?_
      refine thE ?_
      refine thE ?_
      refine ibE ?_
      exact thN (Wk_J hL ⟨[(0, []), (2, []), (4, [])], [(0, 0, []), (32, 32, []), (48, 48, []), (64, 64, [])], [], 96⟩ (by kernel_rfl))
  obtain ⟨v4, v5, v6, v7⟩ := vv1
  intro s hw
  have hm := hk
  refine thN ?_
  refine Ok_weak hw ?_
  obtain ⟨vv, hv1, hk1⟩ := obind hm
  refine X_join (n := 52) (fun ((v8, v9, v10, v11) : (List UInt8) × Int × Int × (List Line)) => (⟨[(0, .ref 0 0), (2, .ref 32 0), (4, .ref 48 0)], [(0, some (.box [.dat (Enc.e v8), .dat (.sc (.int .i64 v9)), .dat (.sc (.int .u64 v10))])), (32, some (.box [.dat (.sc (.slice none 0 0)), .dat (.sc (.slice none 0 0))])), (48, some (.box [.dat (Enc.e ((([(str [112, 111, 114, 116]), (str [109, 105, 108, 108]), (str [112, 97, 114, 107]), (str [104, 97, 108, 108]), (str [100, 111, 99, 107]), (str [102, 97, 105, 114])] : List ByteArray).take (w64 (2 + r.1)).toNat).drop (0 : Int).toNat)), .own 64])), (64, some (.arr 74 3 (List.map Enc.e v11)))], 96⟩ : X)) vv ?_ ?_
  · have hm := hv1
    obtain ⟨r6, h11, hm⟩ := obind hm
    refine X_reg_seq ty_ok Γok hL [(1, .c (s_l1Cur_one_r r6) (s_l1Cur_one_n r6) (s_l1Cur_one_o ((⟨v4, v5, (⟨v6⟩ : IK .u64)⟩ : l1Cur), 2) r6))] (.cons (s_l1Cur_one_c h11) .nil) (by kernel_rfl) ?_
    refine X_cond r6.1 (by kernel_rfl) (fun hc1 => ?_) (fun hc1 => ?_)
    · have hm := it hc1 hm
      obtain ⟨e, h12, hm⟩ := obind hm
      refine X_reg_seq ty_ok Γok hL [(2, .d (Enc.e e)), (3, .d (Enc.e e))] (.cons (idx_m (f := Enc.e) h12) (.cons (idx_m2 (f := Enc.e) h12) .nil)) (by kernel_rfl) ?_
      obtain ⟨r9, h16, hm⟩ := obind hm
      obtain ⟨r10, h17, hm⟩ := obind hm
      obtain ⟨u6, h18, hm⟩ := obind hm
      refine X_draw mixed ty_ok Γok Γlive [(9, []), (10, [64, 368]), (12, [48, 384])] (by kernel_rfl) [(4, .c (s_l2Back_f_r r9) (s_l2Back_f_n r9) (s_l2Back_f_o e.Stops r9)), (7, .c (s_l2Back_f_r r10) (s_l2Back_f_n r10) (s_l2Back_f_o e.Runs r10)), (10, .l (List.map Enc.e (v7 ++ ([(⟨(str [114, 49]), r9, r10⟩ : Line)] : List Line))))] (.cons (s_l2Back_f_c h16) (.cons (s_l2Back_f_c h17) (.cons (app_p (f := Enc.e) (g := Enc.e) (l := v7) (r := ([(⟨(str [114, 49]), r9, r10⟩ : Line)] : List Line)) (b := 64) (chk_t h18) rfl) (.cons (app_m Enc.e v7 ([(⟨(str [114, 49]), r9, r10⟩ : Line)] : List Line)) .nil)))) (by kernel_rfl) ?_
      obtain rfl := some_inj hm
      exact thN (Wk_J hL ⟨[(0, []), (2, []), (4, [])], [(0, 0, []), (32, 32, []), (48, 48, []), (64, 384, [])], [], 96⟩ (by kernel_rfl))
    · have hm := ie hc1 hm
      refine X_skip ?_
      obtain rfl := some_inj hm
      exact thN (Wk_J hL ⟨[(0, []), (2, []), (4, [])], [(0, 0, []), (32, 32, []), (48, 48, []), (64, 64, [])], [], 96⟩ (by kernel_rfl))
  obtain ⟨v8, v9, v10, v11⟩ := vv
  have hm := hk1
  obtain ⟨r11, h19, hm⟩ := obind hm
  refine X_reg_seq ty_ok Γok hL [(1, .fz [64] [] []), (1, .c (s_l2Own_t_r r11) (s_l2Own_t_n r11) (s_l2Own_t_o (⟨((([(str [112, 111, 114, 116]), (str [109, 105, 108, 108]), (str [112, 97, 114, 107]), (str [104, 97, 108, 108]), (str [100, 111, 99, 107]), (str [102, 97, 105, 114])] : List ByteArray).take (w64 (2 + r.1)).toNat).drop (0 : Int).toNat), v11⟩ : Network) r11))] (.cons (s_l2Own_t_c h19) .nil) (by kernel_rfl) ?_
  obtain rfl := some_inj hm
  refine Ok_ret ?_
  repeat (first | refine thR ?_ | refine ibR ?_)
  exact X_fin [112, 113] [] (by kernel_rfl) trivial
abbrev s_l1Cur_among_r (y : Int × l1Cur) : AV := .dat (Enc.e y.1)
abbrev s_l1Cur_among_n (y : Int × l1Cur) : List Obj' := []
abbrev s_l1Cur_among_o (x : l1Cur × (List Int)) (y : Int × l1Cur) : List Obj' := [.box [.dat (Enc.e y.2.code_), .dat (.sc (.int .i64 y.2.at_)), .dat (.sc (.int .u64 y.2.seed_.v))]]
noncomputable def s_l1Cur_among_S : FnSpec := modS [some false, none] (fun x : l1Cur × (List Int) => [.sc undef, Enc.e x.2]) (fun x : l1Cur × (List Int) => [.box [.dat (Enc.e x.1.code_), .dat (.sc (.int .i64 x.1.at_)), .dat (.sc (.int .u64 x.1.seed_.v))]]) (fun x : l1Cur × (List Int) => s_l1Cur_among x.1 x.2) s_l1Cur_among_r s_l1Cur_among_n s_l1Cur_among_o
theorem s_l1Cur_among_c {c : l1Cur} {list : List Int} {y : Int × l1Cur} (h : s_l1Cur_among c list = some y) : CallOK s_l1Cur_among_S [.sc undef, Enc.e list] [.box [.dat (Enc.e c.code_), .dat (.sc (.int .i64 c.at_)), .dat (.sc (.int .u64 c.seed_.v))]] (s_l1Cur_among_r y) (s_l1Cur_among_n y) (s_l1Cur_among_o (c, list) y) :=
  modS_call (by
    rintro ⟨a0, a1⟩ ⟨b0, b1⟩ h hO
    simp only [List.cons.injEq, and_true] at h
    try simp only [List.cons.injEq, and_true, Obj'.box.injEq, Obj'.arr.injEq, true_and, AV.dat.injEq] at hO
    obtain ⟨h0, h1⟩ := h
    have q1 := Enc.inj _ _ h1
    have g0 := hO
    have q0 : a0 = b0 := Enc.inj _ _ (by show D.agg _ = D.agg _; simp only [D.agg.injEq, List.cons.injEq, and_true]; exact g0)
    subst q0; subst q1; rfl) (x := (c, list)) h
theorem s_l1Cur_among_ok : FnOK Try.prog 54 s_l1Cur_among_S := by
  have Γok : ∀ f S, lookF f [(55, s_l1Cur_pick_S)] = some S → FnOK Try.prog f S := lookF_ok (allF_cons s_l1Cur_pick_ok allF_nil)
  have Γlive : Live (fun f => lookF f [(55, s_l1Cur_pick_S)]) := lookF_live (allL_cons modS_live allL_nil)
  refine fnOK_mod ty_ok (fun args w => Try.call54 args w) Try.func54 rfl [.tmp 4] (by rw [Try.results54]) 12 Try.ntmps54 16 rfl (fun _ => by first | exact Nat.zero_le _ | (simp)) (fun _ => rfl) ?_
  rintro ⟨c, list⟩ y cx hm hL
  have hm : s_l1Cur_among c list = some y := hm
  have hL : cx.L = 1 := hL
  unfold s_l1Cur_among at hm
  refine X_reg_seq ty_ok Γok hL [] .nil (by kernel_rfl) ?_
  obtain ⟨r, h, hm⟩ := obind hm
  obtain ⟨e, h1, hm⟩ := obind hm
  refine X_reg_seq ty_ok Γok hL [(3, .n (list.length : Int)), (4, .c (s_l1Cur_pick_r r) (s_l1Cur_pick_n r) (s_l1Cur_pick_o (c, (list.length : Int)) r)), (5, .d (Enc.e e))] (.cons (len_m Enc.e list) (.cons (s_l1Cur_pick_c h) (.cons (idx_m (f := Enc.e) h1) .nil))) (by kernel_rfl) ?_
  obtain rfl := some_inj hm
  refine Ok_ret ?_
  repeat (first | refine thR ?_ | refine ibR ?_)
  exact X_fin [] [] (by kernel_rfl) trivial
abbrev s_l1Cur_among_w_r (y : Int × l1Cur) : AV := .dat (Enc.e y.1)
abbrev s_l1Cur_among_w_n (y : Int × l1Cur) : List Obj' := []
abbrev s_l1Cur_among_w_o (x : l1Cur × (List Int)) (y : Int × l1Cur) : List Obj' := [.box [.dat (Enc.e y.2.code_), .dat (.sc (.int .i64 y.2.at_)), .dat (.sc (.int .u64 y.2.seed_.v))], .arr 3 1 (List.map Enc.e x.2)]
noncomputable def s_l1Cur_among_w_S : FnSpec := modS [some false, some true] (fun x : l1Cur × (List Int) => [.sc undef, .sc undef]) (fun x : l1Cur × (List Int) => [.box [.dat (Enc.e x.1.code_), .dat (.sc (.int .i64 x.1.at_)), .dat (.sc (.int .u64 x.1.seed_.v))], .arr 3 1 (List.map Enc.e x.2)]) (fun x : l1Cur × (List Int) => s_l1Cur_among_w x.1 x.2) s_l1Cur_among_w_r s_l1Cur_among_w_n s_l1Cur_among_w_o
theorem s_l1Cur_among_w_c {c : l1Cur} {list : List Int} {y : Int × l1Cur} (h : s_l1Cur_among_w c list = some y) : CallOK s_l1Cur_among_w_S [.sc undef, .sc undef] [.box [.dat (Enc.e c.code_), .dat (.sc (.int .i64 c.at_)), .dat (.sc (.int .u64 c.seed_.v))], .arr 3 1 (List.map Enc.e list)] (s_l1Cur_among_w_r y) (s_l1Cur_among_w_n y) (s_l1Cur_among_w_o (c, list) y) :=
  modS_call (by
    rintro ⟨a0, a1⟩ ⟨b0, b1⟩ h hO
    simp only [List.cons.injEq, and_true] at h
    try simp only [List.cons.injEq, and_true, Obj'.box.injEq, Obj'.arr.injEq, true_and, AV.dat.injEq] at hO
    obtain ⟨h0, h1⟩ := h
    obtain ⟨g0, g1⟩ := hO
    have q0 : a0 = b0 := Enc.inj _ _ (by show D.agg _ = D.agg _; simp only [D.agg.injEq, List.cons.injEq, and_true]; exact g0)
    have q1 := (List.map_inj_right (fun x y => Enc.inj x y)).1 g1
    subst q0; subst q1; rfl) (x := (c, list)) h
theorem s_l1Cur_among_w_ok : FnOK Try.prog 54 s_l1Cur_among_w_S := by
  have Γok : ∀ f S, lookF f [(55, s_l1Cur_pick_S)] = some S → FnOK Try.prog f S := lookF_ok (allF_cons s_l1Cur_pick_ok allF_nil)
  have Γlive : Live (fun f => lookF f [(55, s_l1Cur_pick_S)]) := lookF_live (allL_cons modS_live allL_nil)
  refine fnOK_mod ty_ok (fun args w => Try.call54 args w) Try.func54 rfl [.tmp 4] (by rw [Try.results54]) 12 Try.ntmps54 16 rfl (fun _ => by first | exact Nat.zero_le _ | (simp)) (fun _ => rfl) ?_
  rintro ⟨c, list⟩ y cx hm hL
  have hm : s_l1Cur_among_w c list = some y := hm
  have hL : cx.L = 2 := hL
  unfold s_l1Cur_among_w at hm
  refine X_reg_seq ty_ok Γok hL [] .nil (by kernel_rfl) ?_
  obtain ⟨r, h, hm⟩ := obind hm
  obtain ⟨e, h1, hm⟩ := obind hm
  refine X_reg_seq ty_ok Γok hL [(3, .n (list.length : Int)), (4, .c (s_l1Cur_pick_r r) (s_l1Cur_pick_n r) (s_l1Cur_pick_o (c, (list.length : Int)) r)), (5, .d (Enc.e e)), (6, .d (Enc.e e))] (.cons (len_m Enc.e list) (.cons (s_l1Cur_pick_c h) (.cons (idx_m (f := Enc.e) h1) (.cons (idx_m2 (f := Enc.e) h1) .nil)))) (by kernel_rfl) ?_
  obtain rfl := some_inj hm
  refine Ok_ret ?_
  repeat (first | refine thR ?_ | refine ibR ?_)
  exact X_fin [] [] (by kernel_rfl) trivial
abbrev s_l1Cur_anyNetwork_r (y : Network × l1Cur) : AV := .aggv [.own 0, .dat (Enc.e y.1.Lines)]
abbrev s_l1Cur_anyNetwork_n (y : Network × l1Cur) : List Obj' := [.arr 9 1 (List.map Enc.e y.1.Stops)]
abbrev s_l1Cur_anyNetwork_o (x : l1Cur) (y : Network × l1Cur) : List Obj' := [.box [.dat (Enc.e y.2.code_), .dat (.sc (.int .i64 y.2.at_)), .dat (.sc (.int .u64 y.2.seed_.v))]]
noncomputable def s_l1Cur_anyNetwork_S : FnSpec := modS [some false] (fun x : l1Cur => [.sc undef]) (fun x : l1Cur => [.box [.dat (Enc.e x.code_), .dat (.sc (.int .i64 x.at_)), .dat (.sc (.int .u64 x.seed_.v))]]) (fun x : l1Cur => s_l1Cur_anyNetwork x) s_l1Cur_anyNetwork_r s_l1Cur_anyNetwork_n s_l1Cur_anyNetwork_o
theorem s_l1Cur_anyNetwork_c {c : l1Cur} {y : Network × l1Cur} (h : s_l1Cur_anyNetwork c = some y) : CallOK s_l1Cur_anyNetwork_S [.sc undef] [.box [.dat (Enc.e c.code_), .dat (.sc (.int .i64 c.at_)), .dat (.sc (.int .u64 c.seed_.v))]] (s_l1Cur_anyNetwork_r y) (s_l1Cur_anyNetwork_n y) (s_l1Cur_anyNetwork_o c y) :=
  modS_call (by
    rintro a0 b0 h hO
    simp only [List.cons.injEq, and_true] at h
    try simp only [List.cons.injEq, and_true, Obj'.box.injEq, Obj'.arr.injEq, true_and, AV.dat.injEq] at hO
    have h0 := h
    have g0 := hO
    have q0 : a0 = b0 := Enc.inj _ _ (by show D.agg _ = D.agg _; simp only [D.agg.injEq, List.cons.injEq, and_true]; exact g0)
    subst q0; rfl) (x := c) h
theorem s_l1Cur_anyNetwork_ok : FnOK Try.prog 78 s_l1Cur_anyNetwork_S := by
  have Γok : ∀ f S, lookF f [(112, s_l1Cur_network_t_S), (55, s_l1Cur_pick_S), (79, s_l1Cur_of_w_S), (54, s_l1Cur_among_w_S), (114, s_l1Num_S), (113, s_l1Cur_line_S)] = some S → FnOK Try.prog f S := lookF_ok (allF_cons s_l1Cur_network_t_ok (allF_cons s_l1Cur_pick_ok (allF_cons s_l1Cur_of_w_ok (allF_cons s_l1Cur_among_w_ok (allF_cons s_l1Num_ok (allF_cons s_l1Cur_line_ok allF_nil))))))
  have Γlive : Live (fun f => lookF f [(112, s_l1Cur_network_t_S), (55, s_l1Cur_pick_S), (79, s_l1Cur_of_w_S), (54, s_l1Cur_among_w_S), (114, s_l1Num_S), (113, s_l1Cur_line_S)]) := lookF_live (allL_cons modS_live (allL_cons modS_live (allL_cons modS_live (allL_cons modS_live (allL_cons modS_live (allL_cons modS_live allL_nil))))))
  refine fnOK_mod ty_ok (fun args w => Try.call78 args w) Try.func78 rfl [.cell 2 66] (by rw [Try.results78]) 108 Try.ntmps78 16 rfl (fun _ => by first | exact Nat.zero_le _ | (simp)) (fun _ => rfl) ?_
  rintro c y cx hm hL
  have hm : s_l1Cur_anyNetwork c = some y := hm
  have hL : cx.L = 1 := hL
  unfold s_l1Cur_anyNetwork at hm
  refine X_reg_seq ty_ok Γok hL [] .nil (by kernel_rfl) ?_
  obtain ⟨r, h, hm⟩ := obind hm
  refine X_reg_seq ty_ok Γok hL [(1, .c (s_l1Cur_network_t_r r) (s_l1Cur_network_t_n r) (s_l1Cur_network_t_o c r))] (.cons (s_l1Cur_network_t_c h) .nil) (by kernel_rfl) ?_
  obtain ⟨r1, h1, hm⟩ := obind hm
  refine X_reg_seq ty_ok Γok hL [(3, .n (r.1.Lines.length : Int)), (4, .c (s_l1Cur_pick_r r1) (s_l1Cur_pick_n r1) (s_l1Cur_pick_o (r.2, (r.1.Lines.length : Int)) r1))] (.cons (len_m Enc.e r.1.Lines) (.cons (s_l1Cur_pick_c h1) .nil)) (by kernel_rfl) ?_
  obtain ⟨e, h2, hm⟩ := obind hm
  refine X_reg_seq ty_ok Γok hL [(3, .d (Enc.e e)), (4, .d (Enc.e e))] (.cons (idx_m (f := Enc.e) h2) (.cons (idx_m2 (f := Enc.e) h2) .nil)) (by kernel_rfl) ?_
  obtain ⟨v17, hv, hr, hk⟩ := flb_t hm
  refine X_joinF (n := 108) (fun ((v, v1, v2, v3, v4, v5, v6) : (List UInt8) × Int × Int × ByteArray × (List ByteArray) × (List Line) × (List Int)) => (⟨[(0, .ref 0 0), (2, .ref 32 0), (3, .ref 48 0), (4, .dat (.sc (.int .i64 r1.1))), (5, .ref 64 0)], [(0, some (.box [.dat (Enc.e v), .dat (.sc (.int .i64 v1)), .dat (.sc (.int .u64 v2))])), (32, some (.box [.dat (.sc (.slice none 0 0)), .dat (.sc (.slice none 0 0))])), (48, some (.box [.own 80, .own 96])), (64, some (.box [.dat (.sc (.string v3)), .row 96 96 r1.1.toNat 1, .own 112])), (80, some (.arr 9 1 (List.map Enc.e v4))), (96, some (.tab 74 3 [none, some 3, some 3] (List.map Enc.e v5) 96 (some (r1.1.toNat, 2)))), (112, some (.arr 3 1 (List.map Enc.e v6)))], 144⟩ : X)) v17 ?_ ?_
  · have hm := hv
    obtain ⟨r2, h3, hm⟩ := obind hm
    refine X_reg_seq ty_ok Γok hL [(1, .c (s_l1Cur_pick_r r2) (s_l1Cur_pick_n r2) (s_l1Cur_pick_o (r1.2, 24) r2))] (.cons (s_l1Cur_pick_c h3) .nil) (by kernel_rfl) ?_
    refine Ok_block ?_
    refine X_reg_seq ty_ok Γok hL [] .nil (by kernel_rfl) ?_
    refine X_cond (r2.1 == 0) (by kernel_rfl) (fun hc => ?_) (fun hc => ?_)
    · have hm := it hc hm
      obtain ⟨r4, h6, hm⟩ := obind hm
      obtain ⟨e2, h7, hm⟩ := obind hm
      refine X_draw mixed ty_ok Γok Γlive [(4, [0, 416]), (6, [48])] (by kernel_rfl) [(4, .c (s_l1Cur_of_w_r r4) (s_l1Cur_of_w_n r4) (s_l1Cur_of_w_o (r2.2, ([(str [109, 105, 108, 108]), (str []), (str [65]), (str [97, 98, 99, 100, 101, 102, 103, 104]), (str [97, 98, 99, 100, 101, 102, 103, 104, 105])] : List ByteArray)) r4)), (5, .d (Enc.e e2)), (6, .sd (Enc.e e2) (List.map Enc.e (r.1.Stops.set (0 : Int).toNat r4.1)))] (.cons (s_l1Cur_of_w_c h6) (.cons (idx_m (f := Enc.e) h7) (.cons (idx_m2 (f := Enc.e) h7) (.cons (set_m Enc.e r.1.Stops (0 : Int).toNat r4.1) .nil)))) (by kernel_rfl) ?_
      refine ibN ?_
      obtain rfl := some_inj hm
      exact thN ⟨_, rfl, Wk.trans (Wk_S (.c 272 2) (Enc.e e) (.cons (idx_m2 (f := Enc.e) (l := r.1.Lines) (i := r1.1) h2) .nil) (by kernel_rfl)) (Wk_J hL ⟨[(0, []), (2, []), (3, []), (4, []), (5, [])], [(0, 0, []), (32, 16, []), (48, 64, []), (64, 272, []), (80, 48, []), (96, 49, []), (112, 480, [])], [], 144⟩ (by kernel_rfl))⟩
    · have hm := ie hc hm
      refine X_reg_seq ty_ok Γok hL [] .nil (by kernel_rfl) ?_
      refine X_cond (r2.1 == 1) (by kernel_rfl) (fun hc1 => ?_) (fun hc1 => ?_)
      · have hm := it hc1 hm
        obtain ⟨r5, h8, hm⟩ := obind hm
        refine X_reg ty_ok Γok hL [(2, .c (s_l1Cur_of_w_r r5) (s_l1Cur_of_w_n r5) (s_l1Cur_of_w_o (r2.2, ([(str [114, 49]), (str [108, 49]), (str []), (str [88])] : List ByteArray)) r5))] (.cons (s_l1Cur_of_w_c h8) .nil) (by kernel_rfl) ?_
        refine ibN ?_
        obtain rfl := some_inj hm
        exact thN ⟨_, rfl, Wk.trans (Wk_S (.c 272 2) (Enc.e e) (.cons (idx_m2 (f := Enc.e) (l := r.1.Lines) (i := r1.1) h2) .nil) (by kernel_rfl)) (Wk_J hL ⟨[(0, []), (2, []), (3, []), (4, []), (5, [])], [(0, 0, []), (32, 16, []), (48, 64, []), (64, 272, []), (80, 48, []), (96, 49, []), (112, 480, [])], [], 144⟩ (by kernel_rfl))⟩
      · have hm := ie hc1 hm
        refine X_reg_seq ty_ok Γok hL [] .nil (by kernel_rfl) ?_
        refine X_cond (r2.1 == 2) (by kernel_rfl) (fun hc2 => ?_) (fun hc2 => ?_)
        · have hm := it hc2 hm
          obtain ⟨r8, h12, hm⟩ := obind hm
          obtain ⟨r9, h13, hm⟩ := obind hm
          obtain ⟨e4, h14, hm⟩ := obind hm
          refine X_draw mixed ty_ok Γok Γlive [(6, [0]), (8, [0]), (11, [49])] (by kernel_rfl) [(5, .dn (Enc.e e) (e.Stops.length : Int)), (6, .c (s_l1Cur_pick_r r8) (s_l1Cur_pick_n r8) (s_l1Cur_pick_o (r2.2, (e.Stops.length : Int)) r8)), (8, .c (s_l1Cur_pick_r r9) (s_l1Cur_pick_n r9) (s_l1Cur_pick_o (r8.2, 10) r9)), (10, .d (Enc.e e)), (11, .sd2 (Enc.e e) (Enc.e e4) (List.map Enc.e (e.Stops.set r8.1.toNat (w64 (r9.1 - 1)))) (List.map Enc.e (r.1.Lines.set r1.1.toNat (⟨e.Name, (e.Stops.set r8.1.toNat (w64 (r9.1 - 1))), e.Runs⟩ : Line))))] (.cons (idx_m2 (f := Enc.e) h2) (.cons (len_m Enc.e e.Stops) (.cons (s_l1Cur_pick_c h12) (.cons (s_l1Cur_pick_c h13) (.cons (idx_m2 (f := Enc.e) h2) (.cons (idx_b (f := Enc.e) h14) (.cons (idx_m2 (f := Enc.e) h2) (.cons (idx_m2 (f := Enc.e) h14) (.cons (set_m Enc.e e.Stops r8.1.toNat (w64 (r9.1 - 1))) (.cons (set_m Enc.e r.1.Lines r1.1.toNat (⟨e.Name, (e.Stops.set r8.1.toNat (w64 (r9.1 - 1))), e.Runs⟩ : Line)) .nil)))))))))) (by kernel_rfl) ?_
          refine ibN ?_
          obtain rfl := some_inj hm
          exact thN ⟨_, rfl, Wk.trans (Wk_S (.c 272 2) (Enc.e (⟨e.Name, (e.Stops.set r8.1.toNat (w64 (r9.1 - 1))), e.Runs⟩ : Line)) (.cons (idx_m2 (f := Enc.e) (l := (r.1.Lines.set r1.1.toNat (⟨e.Name, (e.Stops.set r8.1.toNat (w64 (r9.1 - 1))), e.Runs⟩ : Line))) (i := r1.1) (idx_set (y := (⟨e.Name, (e.Stops.set r8.1.toNat (w64 (r9.1 - 1))), e.Runs⟩ : Line)) h2)) .nil) (by kernel_rfl)) (Wk_J hL ⟨[(0, []), (2, []), (3, []), (4, []), (5, [])], [(0, 0, []), (32, 16, []), (48, 64, []), (64, 272, []), (80, 48, []), (96, 49, []), (112, 624, [])], [], 144⟩ (by kernel_rfl))⟩
        · have hm := ie hc2 hm
          refine X_reg_seq ty_ok Γok hL [] .nil (by kernel_rfl) ?_
          refine X_cond (r2.1 == 3) (by kernel_rfl) (fun hc3 => ?_) (fun hc3 => ?_)
          · have hm := it hc3 hm
            obtain ⟨r12, h18, hm⟩ := obind hm
            obtain ⟨r13, h19, hm⟩ := obind hm
            obtain ⟨e6, h20, hm⟩ := obind hm
            refine X_draw mixed ty_ok Γok Γlive [(6, [0]), (9, [0, 592]), (11, [49])] (by kernel_rfl) [(5, .dn (Enc.e e) (e.Runs.length : Int)), (6, .c (s_l1Cur_pick_r r12) (s_l1Cur_pick_n r12) (s_l1Cur_pick_o (r2.2, (e.Runs.length : Int)) r12)), (9, .c (s_l1Cur_among_w_r r13) (s_l1Cur_among_w_n r13) (s_l1Cur_among_w_o (r12.2, ([0, 60, 61, (-1)] : List Int)) r13)), (10, .d (Enc.e e)), (11, .sd2 (Enc.e e) (Enc.e e6) (List.map Enc.e (e.Runs.set r12.1.toNat r13.1)) (List.map Enc.e (r.1.Lines.set r1.1.toNat (⟨e.Name, e.Stops, (e.Runs.set r12.1.toNat r13.1)⟩ : Line))))] (.cons (idx_m2 (f := Enc.e) h2) (.cons (len_m Enc.e e.Runs) (.cons (s_l1Cur_pick_c h18) (.cons (s_l1Cur_among_w_c h19) (.cons (idx_m2 (f := Enc.e) h2) (.cons (idx_b (f := Enc.e) h20) (.cons (idx_m2 (f := Enc.e) h2) (.cons (idx_m2 (f := Enc.e) h20) (.cons (set_m Enc.e e.Runs r12.1.toNat r13.1) (.cons (set_m Enc.e r.1.Lines r1.1.toNat (⟨e.Name, e.Stops, (e.Runs.set r12.1.toNat r13.1)⟩ : Line)) .nil)))))))))) (by kernel_rfl) ?_
            refine ibN ?_
            obtain rfl := some_inj hm
            exact thN ⟨_, rfl, Wk.trans (Wk_S (.c 272 2) (Enc.e (⟨e.Name, e.Stops, (e.Runs.set r12.1.toNat r13.1)⟩ : Line)) (.cons (idx_m2 (f := Enc.e) (l := (r.1.Lines.set r1.1.toNat (⟨e.Name, e.Stops, (e.Runs.set r12.1.toNat r13.1)⟩ : Line))) (i := r1.1) (idx_set (y := (⟨e.Name, e.Stops, (e.Runs.set r12.1.toNat r13.1)⟩ : Line)) h2)) .nil) (by kernel_rfl)) (Wk_J hL ⟨[(0, []), (2, []), (3, []), (4, []), (5, [])], [(0, 0, []), (32, 16, []), (48, 64, []), (64, 272, []), (80, 48, []), (96, 49, []), (112, 656, [])], [], 144⟩ (by kernel_rfl))⟩
          · have hm := ie hc3 hm
            refine X_reg_seq ty_ok Γok hL [] .nil (by kernel_rfl) ?_
            refine X_cond (r2.1 == 4) (by kernel_rfl) (fun hc4 => ?_) (fun hc4 => ?_)
            · have hm := it hc4 hm
              obtain ⟨u, h21, hm⟩ := obind hm
              refine X_reg ty_ok Γok hL [(3, .sd (Enc.e e) (List.map Enc.e (e.Runs ++ ([3] : List Int))))] (.cons (idx_m2 (f := Enc.e) h2) (.cons (app_p (f := Enc.e) (g := Enc.e) (l := e.Runs) (r := ([3] : List Int)) (b := 8) (chk_t h21) rfl) (.cons (app_m Enc.e e.Runs ([3] : List Int)) .nil))) (by kernel_rfl) ?_
              refine ibN ?_
              obtain rfl := some_inj hm
              exact thN ⟨_, rfl, Wk_J hL ⟨[(0, []), (2, []), (3, []), (4, []), (5, [])], [(0, 0, []), (32, 16, []), (48, 64, []), (64, 272, []), (80, 48, []), (96, 49, []), (112, 544, [])], [], 144⟩ (by kernel_rfl)⟩
            · have hm := ie hc4 hm
              refine X_reg_seq ty_ok Γok hL [] .nil (by kernel_rfl) ?_
              refine X_cond (r2.1 == 5) (by kernel_rfl) (fun hc5 => ?_) (fun hc5 => ?_)
              · have hm := it hc5 hm
                refine X_reg_seq ty_ok Γok hL [] .nil (by kernel_rfl) ?_
                refine X_reg_seq ty_ok Γok hL [] .nil (by kernel_rfl) ?_
                obtain rfl := some_inj hm
                have hm := congrArg some (hr _ rfl)
                obtain rfl := some_inj hm
                refine Ok_ret ?_
                repeat (first | refine thR ?_ | refine ibR ?_)
                exact X_fin [48] [] (by kernel_rfl) trivial
              · have hm := ie hc5 hm
                refine X_reg_seq ty_ok Γok hL [] .nil (by kernel_rfl) ?_
                refine X_cond (r2.1 == 6) (by kernel_rfl) (fun hc6 => ?_) (fun hc6 => ?_)
                · have hm := it hc6 hm
                  refine Ok_seq ?_
                  refine X_reg_seq ty_ok Γok hL [] .nil (by kernel_rfl) ?_
                  obtain ⟨vv, hv2, hk2⟩ := obind hm
                  refine X_tail (n := 108) (fun ((v13, v14, v15, v16) : (List UInt8) × Int × Int × (List Line)) => (⟨[(0, .ref 0 0), (2, .ref 32 0), (3, .ref 48 0)], [(0, some (.box [.dat (Enc.e v13), .dat (.sc (.int .i64 v14)), .dat (.sc (.int .u64 v15))])), (32, some (.box [.dat (.sc (.slice none 0 0)), .dat (.sc (.slice none 0 0))])), (48, some (.box [.own 64, .own 80])), (64, some (.arr 9 1 (List.map Enc.e r.1.Stops))), (80, some (.tab 74 3 [none, some 3, some 3] (List.map Enc.e v16) 80 none))], 112⟩ : X)) vv ?_ ?_
                  · have hm := hv2
                    refine Ok_block ?_
                    refine X_loop (n := 108) (step := s_l1Cur_anyNetwork_L1 r) (fun ((v7, v8, v9, v10, v11) : Int × (List UInt8) × Int × Int × (List Line)) => (⟨[(0, .ref 0 0), (2, .ref 32 0), (3, .ref 48 0), (6, .dat (.sc (.int .i64 v7)))], [(0, some (.box [.dat (Enc.e v8), .dat (.sc (.int .i64 v9)), .dat (.sc (.int .u64 v10))])), (32, some (.box [.dat (.sc (.slice none 0 0)), .dat (.sc (.slice none 0 0))])), (48, some (.box [.own 64, .own 80])), (64, some (.arr 9 1 (List.map Enc.e r.1.Stops))), (80, some (.tab 74 3 [none, some 3, some 3] (List.map Enc.e v11) 80 none))], 112⟩ : X)) hm (Wk_J hL ⟨[(0, []), (2, []), (3, []), (6, [])], [(0, 0, []), (32, 16, []), (48, 64, []), (64, 48, []), (80, 49, [])], [], 112⟩ (by kernel_rfl)) ?_
                    rintro ⟨v7, v8, v9, v10, v11⟩ r0 hm hb
                    rw [s_l1Cur_anyNetwork_L1] at hm
                    refine Ok_seq ?_
                    obtain ⟨r16, h23, hm⟩ := obind hm
                    obtain ⟨v12, hv1, hk1⟩ := obind hm
                    refine X_join (n := 108) (fun (v12 : Bool) => (⟨[(0, .ref 0 0), (2, .ref 32 0), (3, .ref 48 0), (6, .dat (.sc (.int .i64 v7))), (85, .dat (.sc (.bool v12)))], [(0, some (.box [.dat (Enc.e r16.2.code_), .dat (.sc (.int .i64 r16.2.at_)), .dat (.sc (.int .u64 r16.2.seed_.v))])), (32, some (.box [.dat (.sc (.slice none 0 0)), .dat (.sc (.slice none 0 0))])), (48, some (.box [.own 64, .own 80])), (64, some (.arr 9 1 (List.map Enc.e r.1.Stops))), (80, some (.tab 74 3 [none, some 3, some 3] (List.map Enc.e v11) 80 none))], 112⟩ : X)) v12 ?_ ?_
                    · have hm := hv1
                      rcases btf (decide ((v11.length : Int) < (w64 (5 + r16.1)))) with hb1 | hb1
                      · have hm := it hb1 hm
                        obtain rfl := some_inj hm
                        refine X_draw mixed ty_ok Γok Γlive [(4, [0])] (by kernel_rfl) [(2, .n (v11.length : Int)), (4, .c (s_l1Cur_pick_r r16) (s_l1Cur_pick_n r16) (s_l1Cur_pick_o ((⟨v8, v9, (⟨v10⟩ : IK .u64)⟩ : l1Cur), 2) r16)), (7, .b true)] (.cons (len_m Enc.e v11) (.cons (s_l1Cur_pick_c h23) (.cons hb1 .nil))) (by kernel_rfl) ?_
                        exact thN (Wk_J hL ⟨[(0, []), (2, []), (3, []), (6, []), (85, [])], [(0, 0, []), (32, 32, []), (48, 48, []), (64, 64, []), (80, 80, [])], [], 112⟩ (by kernel_rfl))
                      · have hm := ie hb1 hm
                        obtain rfl := some_inj hm
                        refine X_draw mixed ty_ok Γok Γlive [(4, [0])] (by kernel_rfl) [(2, .n (v11.length : Int)), (4, .c (s_l1Cur_pick_r r16) (s_l1Cur_pick_n r16) (s_l1Cur_pick_o ((⟨v8, v9, (⟨v10⟩ : IK .u64)⟩ : l1Cur), 2) r16)), (7, .b false)] (.cons (len_m Enc.e v11) (.cons (s_l1Cur_pick_c h23) (.cons hb1 .nil))) (by kernel_rfl) ?_
                        exact thN (Wk_J hL ⟨[(0, []), (2, []), (3, []), (6, []), (85, [])], [(0, 0, []), (32, 32, []), (48, 48, []), (64, 64, []), (80, 80, [])], [], 112⟩ (by kernel_rfl))
                    have hm := hk1
                    refine X_cond v12 (by kernel_rfl) (fun hc7 => ?_) (fun hc7 => ?_)
                    · have hm := it hc7 hm
                      refine X_skip ?_
                      refine thN ?_
                      refine Ok_seq ?_
                      refine Ok_block ?_
                      obtain ⟨r19, h28, hm⟩ := obind hm
                      obtain ⟨u3, h29, hm⟩ := obind hm
                      obtain ⟨r20, h30, hm⟩ := obind hm
                      obtain ⟨u4, h31, hm⟩ := obind hm
                      refine X_draw mixed ty_ok Γok Γlive [(9, [0]), (10, [256, 257]), (11, [80, 272]), (13, [48, 288])] (by kernel_rfl) [(4, .c (s_l1Num_r r19) (s_l1Num_n r19) (s_l1Num_o v7 r19)), (8, .n (r.1.Stops.length : Int)), (9, .c (s_l1Cur_line_r r20) (s_l1Cur_line_n r20) (s_l1Cur_line_o (r16.2, ((str [120]) ++ r19), (r.1.Stops.length : Int)) r20)), (11, .l (List.map Enc.e (v11 ++ ([(⟨r20.1.Name, r20.1.Stops, r20.1.Runs⟩ : Line)] : List Line))))] (.cons (s_l1Num_c h28) (.cons (cat_p (chk_t h29)) (.cons (len_m Enc.e r.1.Stops) (.cons (s_l1Cur_line_c h30) (.cons (nodupB_ok (l := [256, 257]) rfl) (.cons (app_p (f := Enc.e) (g := Enc.e) (l := v11) (r := ([(⟨r20.1.Name, r20.1.Stops, r20.1.Runs⟩ : Line)] : List Line)) (b := 64) (chk_t h31) rfl) (.cons (app_m Enc.e v11 ([(⟨r20.1.Name, r20.1.Stops, r20.1.Runs⟩ : Line)] : List Line)) .nil))))))) (by kernel_rfl) ?_
                      refine ibN ?_
                      refine thN ?_
                      refine X_reg ty_ok Γok hL [] .nil (by kernel_rfl) ?_
                      obtain rfl := some_inj hm
                      exact thN ⟨_, rfl, Wk_J hL ⟨[(0, []), (2, []), (3, []), (6, [])], [(0, 0, []), (32, 32, []), (48, 48, []), (64, 64, []), (80, 288, [])], [], 112⟩ (by kernel_rfl)⟩
                    · have hm := ie hc7 hm
                      obtain rfl := some_inj hm
                      obtain rfl := hb _ rfl
                      refine Ok_exit ?_
                      refine thE ?_
                      refine thE ?_
                      refine ibE ?_
                      exact thN (Wk_J hL ⟨[(0, []), (2, []), (3, [])], [(0, 0, []), (32, 32, []), (48, 48, []), (64, 64, []), (80, 80, [])], [], 112⟩ (by kernel_rfl))
                  obtain ⟨v13, v14, v15, v16⟩ := vv
                  intro s hw
                  have hm := hk2
                  refine thN ?_
                  refine Ok_weak hw ?_
                  refine X_reg_seq ty_ok Γok hL [] .nil (by kernel_rfl) ?_
                  obtain rfl := some_inj hm
                  have hm := congrArg some (hr _ rfl)
                  obtain rfl := some_inj hm
                  refine Ok_ret ?_
                  repeat (first | refine thR ?_ | refine ibR ?_)
                  exact X_fin [64] [] (by kernel_rfl) trivial
                · have hm := ie hc6 hm
                  refine X_skip ?_
                  refine ibN ?_
                  obtain rfl := some_inj hm
                  exact thN ⟨_, rfl, Wk.trans (Wk_S (.c 272 2) (Enc.e e) (.cons (idx_m2 (f := Enc.e) (l := r.1.Lines) (i := r1.1) h2) .nil) (by kernel_rfl)) (Wk_J hL ⟨[(0, []), (2, []), (3, []), (4, []), (5, [])], [(0, 0, []), (32, 16, []), (48, 64, []), (64, 272, []), (80, 48, []), (96, 49, []), (112, 560, [])], [], 144⟩ (by kernel_rfl))⟩
  rintro ⟨v, v1, v2, v3, v4, v5, v6⟩ hu
  have hm := hk _ hu
  obtain ⟨e9, h32, hm⟩ := obind hm
  refine X_reg_seq ty_ok Γok hL [(4, .d (Enc.e e9)), (5, .sd (Enc.e e9) (List.map Enc.e (v5.set r1.1.toNat (⟨v3, e9.Stops, v6⟩ : Line))))] (.cons (idx_m (f := Enc.e) h32) (.cons (idx_m2 (f := Enc.e) h32) (.cons (set_m Enc.e v5 r1.1.toNat (⟨v3, e9.Stops, v6⟩ : Line)) (.cons (Eq.refl r1.1.toNat) (.cons (Eq.refl r1.1.toNat) .nil))))) (by kernel_rfl) ?_
  refine X_reg_seq ty_ok Γok hL [] .nil (by kernel_rfl) ?_
  obtain rfl := some_inj hm
  refine Ok_ret ?_
  repeat (first | refine thR ?_ | refine ibR ?_)
  exact X_fin [80] [] (by kernel_rfl) trivial
abbrev s_DrawReverseLine_r (y : Network × Int × ByteArray) : AV := .tup [.aggv [.own 0, .dat (Enc.e y.1.Lines)], .dat (Enc.e y.2.1), .dat (Enc.e y.2.2)]
abbrev s_DrawReverseLine_n (y : Network × Int × ByteArray) : List Obj' := [.arr 9 1 (List.map Enc.e y.1.Stops)]
abbrev s_DrawReverseLine_o (x : (List UInt8)) (y : Network × Int × ByteArray) : List Obj' := []
noncomputable def s_DrawReverseLine_S : FnSpec := modS [none] (fun x : (List UInt8) => [Enc.e x]) (fun x : (List UInt8) => []) (fun x : (List UInt8) => s_DrawReverseLine x) s_DrawReverseLine_r s_DrawReverseLine_n s_DrawReverseLine_o
theorem s_DrawReverseLine_c {code : List UInt8} {y : Network × Int × ByteArray} (h : s_DrawReverseLine code = some y) : CallOK s_DrawReverseLine_S [Enc.e code] [] (s_DrawReverseLine_r y) (s_DrawReverseLine_n y) (s_DrawReverseLine_o code y) :=
  modS_call (by
    rintro a0 b0 h hO
    simp only [List.cons.injEq, and_true] at h
    try simp only [List.cons.injEq, and_true, Obj'.box.injEq, Obj'.arr.injEq, true_and, AV.dat.injEq] at hO
    have h0 := h
    have q0 := Enc.inj _ _ h0
    subst q0; rfl) (x := code) h
theorem s_DrawReverseLine_ok : FnOK Try.prog 31 s_DrawReverseLine_S := by
  have Γok : ∀ f S, lookF f [(78, s_l1Cur_anyNetwork_S), (55, s_l1Cur_pick_S), (79, s_l1Cur_of_S)] = some S → FnOK Try.prog f S := lookF_ok (allF_cons s_l1Cur_anyNetwork_ok (allF_cons s_l1Cur_pick_ok (allF_cons s_l1Cur_of_ok allF_nil)))
  have Γlive : Live (fun f => lookF f [(78, s_l1Cur_anyNetwork_S), (55, s_l1Cur_pick_S), (79, s_l1Cur_of_S)]) := lookF_live (allL_cons modS_live (allL_cons modS_live (allL_cons modS_live allL_nil)))
  refine fnOK_mod ty_ok (fun args w => Try.call31 args w) Try.func31 rfl [.cell 2 66, .tmp 3, .tmp 4] (by rw [Try.results31]) 20 Try.ntmps31 16 rfl (fun _ => by first | exact Nat.zero_le _ | (simp)) (fun _ => rfl) ?_
  rintro code y cx hm hL
  have hm : s_DrawReverseLine code = some y := hm
  have hL : cx.L = 0 := hL
  unfold s_DrawReverseLine at hm
  refine X_reg_seq ty_ok Γok hL [] .nil (by kernel_rfl) ?_
  refine X_reg_seq ty_ok Γok hL [] .nil (by kernel_rfl) ?_
  obtain ⟨r, h, hm⟩ := obind hm
  obtain ⟨r1, h1, hm⟩ := obind hm
  obtain ⟨r2, h2, hm⟩ := obind hm
  obtain ⟨u, h3, hm⟩ := obind hm
  obtain ⟨r3, h4, hm⟩ := obind hm
  refine X_reg_seq ty_ok Γok hL [(1, .c (s_l1Cur_anyNetwork_r r) (s_l1Cur_anyNetwork_n r) (s_l1Cur_anyNetwork_o (⟨code, 0, (⟨0⟩ : IK .u64)⟩ : l1Cur) r)), (3, .c (s_l1Cur_pick_r r1) (s_l1Cur_pick_n r1) (s_l1Cur_pick_o (r.2, 4) r1)), (5, .c (s_l1Cur_pick_r r2) (s_l1Cur_pick_n r2) (s_l1Cur_pick_o (r1.2, 9) r2)), (10, .fz [272] [] []), (10, .c (s_l1Cur_of_r r3) (s_l1Cur_of_n r3) (s_l1Cur_of_o (r2.2, ([(str [98, 97, 99, 107]), (str [122, 57]), (str [108, 49]), (str [114, 49]), (str [])] : List ByteArray)) r3))] (.cons (s_l1Cur_anyNetwork_c h) (.cons (s_l1Cur_pick_c h1) (.cons (s_l1Cur_pick_c h2) (.cons (chk_t h3) (.cons (s_l1Cur_of_c h4) .nil))))) (by kernel_rfl) ?_
  obtain rfl := some_inj hm
  refine Ok_ret ?_
  repeat (first | refine thR ?_ | refine ibR ?_)
  exact X_fin [144] [] (by kernel_rfl) trivial
abbrev i_within_r (y : Bool) : AV := .dat (Enc.e y)
abbrev i_within_n (y : Bool) : List Obj' := []
abbrev i_within_o (x : Int × Int × Int) (y : Bool) : List Obj' := []
noncomputable def i_within_S : FnSpec := modS [none, none, none] (fun x : Int × Int × Int => [Enc.e x.1, Enc.e x.2.1, Enc.e x.2.2]) (fun x : Int × Int × Int => []) (fun x : Int × Int × Int => i_within x.1 x.2.1 x.2.2) i_within_r i_within_n i_within_o
theorem i_within_c {n : Int} {lo : Int} {hi : Int} {y : Bool} (h : i_within n lo hi = some y) : CallOK i_within_S [Enc.e n, Enc.e lo, Enc.e hi] [] (i_within_r y) (i_within_n y) (i_within_o (n, lo, hi) y) :=
  modS_call (by
    rintro ⟨a0, a1, a2⟩ ⟨b0, b1, b2⟩ h hO
    simp only [List.cons.injEq, and_true] at h
    try simp only [List.cons.injEq, and_true, Obj'.box.injEq, Obj'.arr.injEq, true_and, AV.dat.injEq] at hO
    obtain ⟨h0, h1, h2⟩ := h
    have q0 := Enc.inj _ _ h0
    have q1 := Enc.inj _ _ h1
    have q2 := Enc.inj _ _ h2
    subst q0; subst q1; subst q2; rfl) (x := (n, lo, hi)) h
theorem i_within_ok : FnOK Try.prog 50 i_within_S := by
  have Γok : ∀ f S, lookF f [] = some S → FnOK Try.prog f S := lookF_ok allF_nil
  have Γlive : Live (fun f => lookF f []) := lookF_live allL_nil
  refine fnOK_mod ty_ok (fun args w => Try.call50 args w) Try.func50 rfl [.tmp 6] (by rw [Try.results50]) 15 Try.ntmps50 16 rfl (fun _ => by first | exact Nat.zero_le _ | (simp)) (fun _ => rfl) ?_
  rintro ⟨n, lo, hi⟩ y cx hm hL
  have hm : i_within n lo hi = some y := hm
  have hL : cx.L = 0 := hL
  unfold i_within at hm
  refine X_reg_seq ty_ok Γok hL [] .nil (by kernel_rfl) ?_
  obtain ⟨v, hv, hk⟩ := obind hm
  refine X_join (n := 15) (fun (v : Bool) => (⟨[(6, .dat (.sc (.bool v)))], [], 32⟩ : X)) v ?_ ?_
  · have hm := hv
    rcases btf (decide (lo ≤ n)) with hb | hb
    · have hm := it hb hm
      obtain rfl := some_inj hm
      refine X_reg ty_ok Γok hL [(3, .b true)] (.cons hb .nil) (by kernel_rfl) ?_
      exact thN (Wk_J hL ⟨[(6, [])], [], [], 32⟩ (by kernel_rfl))
    · have hm := ie hb hm
      obtain rfl := some_inj hm
      refine X_reg ty_ok Γok hL [(3, .b false)] (.cons hb .nil) (by kernel_rfl) ?_
      exact thN (Wk_J hL ⟨[(6, [])], [], [], 32⟩ (by kernel_rfl))
  have hm := hk
  obtain rfl := some_inj hm
  refine Ok_ret ?_
  repeat (first | refine thR ?_ | refine ibR ?_)
  exact X_fin [] [] (by kernel_rfl) trivial
abbrev i_isName_r (y : Bool) : AV := .dat (Enc.e y)
abbrev i_isName_n (y : Bool) : List Obj' := []
abbrev i_isName_o (x : ByteArray) (y : Bool) : List Obj' := []
noncomputable def i_isName_S : FnSpec := modS [none] (fun x : ByteArray => [Enc.e x]) (fun x : ByteArray => []) (fun x : ByteArray => i_isName x) i_isName_r i_isName_n i_isName_o
theorem i_isName_c {s : ByteArray} {y : Bool} (h : i_isName s = some y) : CallOK i_isName_S [Enc.e s] [] (i_isName_r y) (i_isName_n y) (i_isName_o s y) :=
  modS_call (by
    rintro a0 b0 h hO
    simp only [List.cons.injEq, and_true] at h
    try simp only [List.cons.injEq, and_true, Obj'.box.injEq, Obj'.arr.injEq, true_and, AV.dat.injEq] at hO
    have h0 := h
    have q0 := Enc.inj _ _ h0
    subst q0; rfl) (x := s) h
theorem i_isName_ok : FnOK Try.prog 120 i_isName_S := by
  have Γok : ∀ f S, lookF f [] = some S → FnOK Try.prog f S := lookF_ok allF_nil
  have Γlive : Live (fun f => lookF f []) := lookF_live allL_nil
  refine fnOK_mod ty_ok (fun args w => Try.call120 args w) Try.func120 rfl [.tmp 2] (by rw [Try.results120]) 47 Try.ntmps120 16 rfl (fun _ => by first | exact Nat.zero_le _ | (simp)) (fun _ => rfl) ?_
  rintro s y cx hm hL
  have hm : i_isName s = some y := hm
  have hL : cx.L = 0 := hL
  unfold i_isName at hm
  refine X_reg_seq ty_ok Γok hL [] .nil (by kernel_rfl) ?_
  refine Ok_seq ?_
  obtain ⟨v, hv, hk⟩ := obind hm
  refine X_join (n := 47) (fun (v : Bool) => (⟨[(0, .dat (.sc (.string s))), (12, .dat (.sc (.bool v)))], [], 32⟩ : X)) v ?_ ?_
  · have hm := hv
    rcases btf (decide ((s.size : Int) < 1)) with hb | hb
    · have hm := it hb hm
      obtain rfl := some_inj hm
      refine X_reg ty_ok Γok hL [(3, .b true)] (.cons hb .nil) (by kernel_rfl) ?_
      exact thN (Wk_J hL ⟨[(0, []), (12, [])], [], [], 32⟩ (by kernel_rfl))
    · have hm := ie hb hm
      obtain rfl := some_inj hm
      refine X_reg ty_ok Γok hL [(3, .b false)] (.cons hb .nil) (by kernel_rfl) ?_
      exact thN (Wk_J hL ⟨[(0, []), (12, [])], [], [], 32⟩ (by kernel_rfl))
  have hm := hk
  refine X_cond v (by kernel_rfl) (fun hc => ?_) (fun hc => ?_)
  · have hm := it hc hm
    refine X_reg_seq ty_ok Γok hL [] .nil (by kernel_rfl) ?_
    obtain rfl := some_inj hm
    refine Ok_ret ?_
    repeat (first | refine thR ?_ | refine ibR ?_)
    exact X_fin [] [] (by kernel_rfl) trivial
  · have hm := ie hc hm
    refine X_skip ?_
    refine thN ?_
    refine Ok_seq ?_
    refine X_reg_seq ty_ok Γok hL [] .nil (by kernel_rfl) ?_
    obtain ⟨v4, hv3, hr, hk3⟩ := flb_t hm
    refine X_tailF (n := 47) (fun (_ : Unit) => (⟨[], [], 32⟩ : X)) v4 ?_ ?_
    · have hm := hv3
      refine Ok_block ?_
      refine X_loop (n := 47) (step := i_isName_L1 s) (fun (v1 : Int) => (⟨[(0, .dat (.sc (.string s))), (14, .dat (.sc (.int .i64 (s.size : Int)))), (15, .dat (.sc (.int .i64 v1)))], [], 32⟩ : X)) hm (Wk_J hL ⟨[(0, []), (14, []), (15, [])], [], [], 32⟩ (by kernel_rfl)) ?_
      rintro v1 r0 hm hb1
      rw [i_isName_L1] at hm
      refine X_reg_seq ty_ok Γok hL [] .nil (by kernel_rfl) ?_
      refine Ok_seq ?_
      refine X_cond (decide (v1 < (s.size : Int))) (by kernel_rfl) (fun hc1 => ?_) (fun hc1 => ?_)
      · have hm := it hc1 hm
        refine X_skip ?_
        refine thN ?_
        refine Ok_seq ?_
        refine Ok_block ?_
        refine X_reg_seq ty_ok Γok hL [] .nil (by kernel_rfl) ?_
        obtain ⟨u, h, hm⟩ := obind hm
        obtain ⟨v2, hv1, hk1⟩ := obind hm
        refine X_join (n := 47) (fun (v2 : Bool) => (⟨[(0, .dat (.sc (.string s))), (3, .dat (.sc (.int .i64 v1))), (4, .dat (.sc (.bool v2))), (14, .dat (.sc (.int .i64 (s.size : Int)))), (15, .dat (.sc (.int .i64 v1)))], [], 32⟩ : X)) v2 ?_ ?_
        · have hm := hv1
          rcases btf (decide (97 ≤ ((s.data.toList.getD v1.toNat 0).toNat : Int))) with hb2 | hb2
          · have hm := it hb2 hm
            obtain ⟨u1, h1, hm⟩ := obind hm
            obtain rfl := some_inj hm
            refine X_reg ty_ok Γok hL [(4, .b true)] (.cons (chk_t h) (.cons hb2 (.cons (chk_t h1) .nil))) (by kernel_rfl) ?_
            exact thN (Wk_J hL ⟨[(0, []), (3, []), (4, []), (14, []), (15, [])], [], [], 32⟩ (by kernel_rfl))
          · have hm := ie hb2 hm
            obtain rfl := some_inj hm
            refine X_reg ty_ok Γok hL [(4, .b false)] (.cons (chk_t h) (.cons hb2 .nil)) (by kernel_rfl) ?_
            exact thN (Wk_J hL ⟨[(0, []), (3, []), (4, []), (14, []), (15, [])], [], [], 32⟩ (by kernel_rfl))
        have hm := hk1
        obtain ⟨v3, hv2, hk2⟩ := obind hm
        refine X_join (n := 47) (fun (v3 : Bool) => (⟨[(0, .dat (.sc (.string s))), (14, .dat (.sc (.int .i64 (s.size : Int)))), (15, .dat (.sc (.int .i64 v1))), (45, .dat (.sc (.bool v3)))], [], 32⟩ : X)) v3 ?_ ?_
        · have hm := hv2
          rcases btf (!v2) with hb3 | hb3
          · have hm := it hb3 hm
            rcases btf (v1 == 0) with hb4 | hb4
            · have hm := it hb4 hm
              obtain rfl := some_inj hm
              refine X_reg ty_ok Γok hL [(2, .b true), (5, .b true)] (.cons hb3 (.cons hb4 .nil)) (by kernel_rfl) ?_
              exact thN (Wk_J hL ⟨[(0, []), (14, []), (15, []), (45, [])], [], [], 32⟩ (by kernel_rfl))
            · have hm := ie hb4 hm
              obtain ⟨u2, h2, hm⟩ := obind hm
              rcases btf (decide (((s.data.toList.getD v1.toNat 0).toNat : Int) < 48)) with hb5 | hb5
              · have hm := it hb5 hm
                obtain rfl := some_inj hm
                refine X_reg ty_ok Γok hL [(2, .b true), (5, .b false), (11, .b true)] (.cons hb3 (.cons hb4 (.cons (chk_t h2) (.cons hb5 .nil)))) (by kernel_rfl) ?_
                exact thN (Wk_J hL ⟨[(0, []), (14, []), (15, []), (45, [])], [], [], 32⟩ (by kernel_rfl))
              · have hm := ie hb5 hm
                obtain ⟨u3, h3, hm⟩ := obind hm
                obtain rfl := some_inj hm
                refine X_reg ty_ok Γok hL [(2, .b true), (5, .b false), (11, .b false)] (.cons hb3 (.cons hb4 (.cons (chk_t h2) (.cons hb5 (.cons (chk_t h3) .nil))))) (by kernel_rfl) ?_
                exact thN (Wk_J hL ⟨[(0, []), (14, []), (15, []), (45, [])], [], [], 32⟩ (by kernel_rfl))
          · have hm := ie hb3 hm
            obtain rfl := some_inj hm
            refine X_reg ty_ok Γok hL [(2, .b false)] (.cons hb3 .nil) (by kernel_rfl) ?_
            exact thN (Wk_J hL ⟨[(0, []), (14, []), (15, []), (45, [])], [], [], 32⟩ (by kernel_rfl))
        have hm := hk2
        refine X_cond v3 (by kernel_rfl) (fun hc2 => ?_) (fun hc2 => ?_)
        · have hm := it hc2 hm
          refine X_reg_seq ty_ok Γok hL [] .nil (by kernel_rfl) ?_
          obtain rfl := some_inj hm
          obtain rfl := hb1 _ rfl
          have hm := congrArg some (hr _ rfl)
          obtain rfl := some_inj hm
          refine Ok_ret ?_
          repeat (first | refine thR ?_ | refine ibR ?_)
          exact X_fin [] [] (by kernel_rfl) trivial
        · have hm := ie hc2 hm
          refine X_skip ?_
          refine ibN ?_
          refine thN ?_
          refine X_reg ty_ok Γok hL [] .nil (by kernel_rfl) ?_
          obtain rfl := some_inj hm
          exact thN ⟨_, rfl, Wk_J hL ⟨[(0, []), (14, []), (15, [])], [], [], 32⟩ (by kernel_rfl)⟩
      · have hm := ie hc1 hm
        obtain rfl := some_inj hm
        obtain rfl := hb1 _ rfl
        refine Ok_exit ?_
        refine thE ?_
        refine thE ?_
        refine ibE ?_
        exact thN ⟨_, rfl, Wk_J hL ⟨[], [], [], 32⟩ (by kernel_rfl)⟩
    rintro ⟨⟩ hu s1 hw
    have hm := hk3 _ hu
    refine thN ?_
    refine Ok_weak hw ?_
    refine X_reg_seq ty_ok Γok hL [] .nil (by kernel_rfl) ?_
    obtain rfl := some_inj hm
    refine Ok_ret ?_
    repeat (first | refine thR ?_ | refine ibR ?_)
    exact X_fin [] [] (by kernel_rfl) trivial
abbrev slices_Index_string_r (y : Int) : AV := .dat (Enc.e y)
abbrev slices_Index_string_n (y : Int) : List Obj' := []
abbrev slices_Index_string_o (x : (List ByteArray) × ByteArray) (y : Int) : List Obj' := []
noncomputable def slices_Index_string_S : FnSpec := modS [none, none] (fun x : (List ByteArray) × ByteArray => [Enc.e x.1, Enc.e x.2]) (fun x : (List ByteArray) × ByteArray => []) (fun x : (List ByteArray) × ByteArray => slices_Index_string x.1 x.2) slices_Index_string_r slices_Index_string_n slices_Index_string_o
theorem slices_Index_string_c {s : List ByteArray} {v : ByteArray} {y : Int} (h : slices_Index_string s v = some y) : CallOK slices_Index_string_S [Enc.e s, Enc.e v] [] (slices_Index_string_r y) (slices_Index_string_n y) (slices_Index_string_o (s, v) y) :=
  modS_call (by
    rintro ⟨a0, a1⟩ ⟨b0, b1⟩ h hO
    simp only [List.cons.injEq, and_true] at h
    try simp only [List.cons.injEq, and_true, Obj'.box.injEq, Obj'.arr.injEq, true_and, AV.dat.injEq] at hO
    obtain ⟨h0, h1⟩ := h
    have q0 := Enc.inj _ _ h0
    have q1 := Enc.inj _ _ h1
    subst q0; subst q1; rfl) (x := (s, v)) h
theorem slices_Index_string_ok : FnOK Try.prog 95 slices_Index_string_S := by
  have Γok : ∀ f S, lookF f [] = some S → FnOK Try.prog f S := lookF_ok allF_nil
  have Γlive : Live (fun f => lookF f []) := lookF_live allL_nil
  refine fnOK_mod ty_ok (fun args w => Try.call95 args w) Try.func95 rfl [.tmp 4] (by rw [Try.results95]) 19 Try.ntmps95 16 rfl (fun _ => by first | exact Nat.zero_le _ | (simp)) (fun _ => rfl) ?_
  rintro ⟨s, v⟩ y cx hm hL
  have hm : slices_Index_string s v = some y := hm
  have hL : cx.L = 0 := hL
  unfold slices_Index_string at hm
  refine X_reg_seq ty_ok Γok hL [] .nil (by kernel_rfl) ?_
  refine Ok_seq ?_
  refine X_reg_seq ty_ok Γok hL [(1, .n (s.length : Int))] (.cons (len_m Enc.e s) .nil) (by kernel_rfl) ?_
  obtain ⟨v2, hv, hr, hk⟩ := flb_t hm
  refine X_tailF (n := 19) (fun (_ : Unit) => (⟨[], [], 32⟩ : X)) v2 ?_ ?_
  · have hm := hv
    refine Ok_block ?_
    refine X_loop (n := 19) (step := slices_Index_string_L1 s v) (fun (v1 : Int) => (⟨[(0, .dat (Enc.e s)), (1, .dat (.sc (.string v))), (7, .dat (.sc (.int .i64 (s.length : Int)))), (8, .dat (.sc (.int .i64 v1)))], [], 32⟩ : X)) hm (Wk_J hL ⟨[(0, []), (1, []), (7, []), (8, [])], [], [], 32⟩ (by kernel_rfl)) ?_
    rintro v1 r0 hm hb
    rw [slices_Index_string_L1] at hm
    refine X_reg_seq ty_ok Γok hL [] .nil (by kernel_rfl) ?_
    refine Ok_seq ?_
    refine X_cond (decide (v1 < (s.length : Int))) (by kernel_rfl) (fun hc => ?_) (fun hc => ?_)
    · have hm := it hc hm
      refine X_skip ?_
      refine thN ?_
      refine Ok_seq ?_
      refine Ok_block ?_
      refine X_reg_seq ty_ok Γok hL [] .nil (by kernel_rfl) ?_
      obtain ⟨e, h, hm⟩ := obind hm
      refine X_reg_seq ty_ok Γok hL [(3, .d (Enc.e e))] (.cons (idx_m (f := Enc.e) h) .nil) (by kernel_rfl) ?_
      refine X_cond (v.toList == e.toList) (by kernel_rfl) (fun hc1 => ?_) (fun hc1 => ?_)
      · have hm := it hc1 hm
        refine X_reg_seq ty_ok Γok hL [] .nil (by kernel_rfl) ?_
        obtain rfl := some_inj hm
        obtain rfl := hb _ rfl
        have hm := congrArg some (hr _ rfl)
        obtain rfl := some_inj hm
        refine Ok_ret ?_
        repeat (first | refine thR ?_ | refine ibR ?_)
        exact X_fin [] [] (by kernel_rfl) trivial
      · have hm := ie hc1 hm
        refine X_skip ?_
        refine ibN ?_
        refine thN ?_
        refine X_reg ty_ok Γok hL [] .nil (by kernel_rfl) ?_
        obtain rfl := some_inj hm
        exact thN ⟨_, rfl, Wk_J hL ⟨[(0, []), (1, []), (7, []), (8, [])], [], [], 32⟩ (by kernel_rfl)⟩
    · have hm := ie hc hm
      obtain rfl := some_inj hm
      obtain rfl := hb _ rfl
      refine Ok_exit ?_
      refine thE ?_
      refine thE ?_
      refine ibE ?_
      exact thN ⟨_, rfl, Wk_J hL ⟨[], [], [], 32⟩ (by kernel_rfl)⟩
  rintro ⟨⟩ hu s1 hw
  have hm := hk _ hu
  refine thN ?_
  refine Ok_weak hw ?_
  refine X_reg_seq ty_ok Γok hL [] .nil (by kernel_rfl) ?_
  obtain rfl := some_inj hm
  refine Ok_ret ?_
  repeat (first | refine thR ?_ | refine ibR ?_)
  exact X_fin [] [] (by kernel_rfl) trivial
abbrev i_areNames_r (y : Bool) : AV := .dat (Enc.e y)
abbrev i_areNames_n (y : Bool) : List Obj' := []
abbrev i_areNames_o (x : (List ByteArray)) (y : Bool) : List Obj' := []
noncomputable def i_areNames_S : FnSpec := modS [none] (fun x : (List ByteArray) => [Enc.e x]) (fun x : (List ByteArray) => []) (fun x : (List ByteArray) => i_areNames x) i_areNames_r i_areNames_n i_areNames_o
theorem i_areNames_c {names : List ByteArray} {y : Bool} (h : i_areNames names = some y) : CallOK i_areNames_S [Enc.e names] [] (i_areNames_r y) (i_areNames_n y) (i_areNames_o names y) :=
  modS_call (by
    rintro a0 b0 h hO
    simp only [List.cons.injEq, and_true] at h
    try simp only [List.cons.injEq, and_true, Obj'.box.injEq, Obj'.arr.injEq, true_and, AV.dat.injEq] at hO
    have h0 := h
    have q0 := Enc.inj _ _ h0
    subst q0; rfl) (x := names) h
theorem i_areNames_ok : FnOK Try.prog 89 i_areNames_S := by
  have Γok : ∀ f S, lookF f [(120, i_isName_S), (95, slices_Index_string_S)] = some S → FnOK Try.prog f S := lookF_ok (allF_cons i_isName_ok (allF_cons slices_Index_string_ok allF_nil))
  have Γlive : Live (fun f => lookF f [(120, i_isName_S), (95, slices_Index_string_S)]) := lookF_live (allL_cons modS_live (allL_cons modS_live allL_nil))
  refine fnOK_mod ty_ok (fun args w => Try.call89 args w) Try.func89 rfl [.tmp 2] (by rw [Try.results89]) 23 Try.ntmps89 16 rfl (fun _ => by first | exact Nat.zero_le _ | (simp)) (fun _ => rfl) ?_
  rintro names y cx hm hL
  have hm : i_areNames names = some y := hm
  have hL : cx.L = 0 := hL
  unfold i_areNames at hm
  refine X_reg_seq ty_ok Γok hL [] .nil (by kernel_rfl) ?_
  refine Ok_seq ?_
  refine X_reg_seq ty_ok Γok hL [(1, .n (names.length : Int))] (.cons (len_m Enc.e names) .nil) (by kernel_rfl) ?_
  obtain ⟨v2, hv1, hr, hk1⟩ := flb_t hm
  refine X_tailF (n := 23) (fun (_ : Unit) => (⟨[], [], 32⟩ : X)) v2 ?_ ?_
  · have hm := hv1
    refine Ok_block ?_
    refine X_loop (n := 23) (step := i_areNames_L1 names) (fun (v : Int) => (⟨[(0, .dat (Enc.e names)), (5, .dat (Enc.e names)), (6, .dat (.sc (.int .i64 (names.length : Int)))), (7, .dat (.sc (.int .i64 v)))], [], 32⟩ : X)) hm (Wk_J hL ⟨[(0, []), (5, []), (6, []), (7, [])], [], [], 32⟩ (by kernel_rfl)) ?_
    rintro v r0 hm hb
    rw [i_areNames_L1] at hm
    refine X_reg_seq ty_ok Γok hL [] .nil (by kernel_rfl) ?_
    refine Ok_seq ?_
    refine X_cond (decide (v < (names.length : Int))) (by kernel_rfl) (fun hc => ?_) (fun hc => ?_)
    · have hm := it hc hm
      refine X_skip ?_
      refine thN ?_
      refine Ok_seq ?_
      refine Ok_block ?_
      obtain ⟨e, h, hm⟩ := obind hm
      refine X_reg_seq ty_ok Γok hL [(1, .d (Enc.e e))] (.cons (idx_m (f := Enc.e) h) .nil) (by kernel_rfl) ?_
      obtain ⟨r, h1, hm⟩ := obind hm
      obtain ⟨v1, hv, hk⟩ := obind hm
      refine X_join (n := 23) (fun (v1 : Bool) => (⟨[(0, .dat (Enc.e names)), (5, .dat (Enc.e names)), (6, .dat (.sc (.int .i64 (names.length : Int)))), (7, .dat (.sc (.int .i64 v))), (21, .dat (.sc (.bool v1)))], [], 32⟩ : X)) v1 ?_ ?_
      · have hm := hv
        rcases btf (!r) with hb1 | hb1
        · have hm := it hb1 hm
          obtain rfl := some_inj hm
          refine X_reg ty_ok Γok hL [(1, .c (i_isName_r r) (i_isName_n r) (i_isName_o e r)), (3, .b true)] (.cons (i_isName_c h1) (.cons hb1 .nil)) (by kernel_rfl) ?_
          exact thN (Wk_J hL ⟨[(0, []), (5, []), (6, []), (7, []), (21, [])], [], [], 32⟩ (by kernel_rfl))
        · have hm := ie hb1 hm
          obtain ⟨r1, h2, hm⟩ := obind hm
          obtain rfl := some_inj hm
          refine X_reg ty_ok Γok hL [(1, .c (i_isName_r r) (i_isName_n r) (i_isName_o e r)), (3, .b false), (6, .c (slices_Index_string_r r1) (slices_Index_string_n r1) (slices_Index_string_o (names, e) r1))] (.cons (i_isName_c h1) (.cons hb1 (.cons (slices_Index_string_c h2) .nil))) (by kernel_rfl) ?_
          exact thN (Wk_J hL ⟨[(0, []), (5, []), (6, []), (7, []), (21, [])], [], [], 32⟩ (by kernel_rfl))
      have hm := hk
      refine X_cond v1 (by kernel_rfl) (fun hc1 => ?_) (fun hc1 => ?_)
      · have hm := it hc1 hm
        refine X_reg_seq ty_ok Γok hL [] .nil (by kernel_rfl) ?_
        obtain rfl := some_inj hm
        obtain rfl := hb _ rfl
        have hm := congrArg some (hr _ rfl)
        obtain rfl := some_inj hm
        refine Ok_ret ?_
        repeat (first | refine thR ?_ | refine ibR ?_)
        exact X_fin [] [] (by kernel_rfl) trivial
      · have hm := ie hc1 hm
        refine X_skip ?_
        refine ibN ?_
        refine thN ?_
        refine X_reg ty_ok Γok hL [] .nil (by kernel_rfl) ?_
        obtain rfl := some_inj hm
        exact thN ⟨_, rfl, Wk_J hL ⟨[(0, []), (5, []), (6, []), (7, [])], [], [], 32⟩ (by kernel_rfl)⟩
    · have hm := ie hc hm
      obtain rfl := some_inj hm
      obtain rfl := hb _ rfl
      refine Ok_exit ?_
      refine thE ?_
      refine thE ?_
      refine ibE ?_
      exact thN ⟨_, rfl, Wk_J hL ⟨[], [], [], 32⟩ (by kernel_rfl)⟩
  rintro ⟨⟩ hu s hw
  have hm := hk1 _ hu
  refine thN ?_
  refine Ok_weak hw ?_
  refine X_reg_seq ty_ok Γok hL [] .nil (by kernel_rfl) ?_
  obtain rfl := some_inj hm
  refine Ok_ret ?_
  repeat (first | refine thR ?_ | refine ibR ?_)
  exact X_fin [] [] (by kernel_rfl) trivial
abbrev i_lineNames_r (y : (List ByteArray)) : AV := .own 0
abbrev i_lineNames_n (y : (List ByteArray)) : List Obj' := [.arr 9 1 (List.map Enc.e y)]
abbrev i_lineNames_o (x : Network) (y : (List ByteArray)) : List Obj' := []
noncomputable def i_lineNames_S : FnSpec := modS [none] (fun x : Network => [Enc.e x]) (fun x : Network => []) (fun x : Network => i_lineNames x) i_lineNames_r i_lineNames_n i_lineNames_o
theorem i_lineNames_c {n : Network} {y : (List ByteArray)} (h : i_lineNames n = some y) : CallOK i_lineNames_S [Enc.e n] [] (i_lineNames_r y) (i_lineNames_n y) (i_lineNames_o n y) :=
  modS_call (by
    rintro a0 b0 h hO
    simp only [List.cons.injEq, and_true] at h
    try simp only [List.cons.injEq, and_true, Obj'.box.injEq, Obj'.arr.injEq, true_and, AV.dat.injEq] at hO
    have h0 := h
    have q0 := Enc.inj _ _ h0
    subst q0; rfl) (x := n) h
theorem i_lineNames_ok : FnOK Try.prog 90 i_lineNames_S := by
  have Γok : ∀ f S, lookF f [] = some S → FnOK Try.prog f S := lookF_ok allF_nil
  have Γlive : Live (fun f => lookF f []) := lookF_live allL_nil
  refine fnOK_mod ty_ok (fun args w => Try.call90 args w) Try.func90 rfl [.tmp 2] (by rw [Try.results90]) 25 Try.ntmps90 16 rfl (fun _ => by first | exact Nat.zero_le _ | (simp)) (fun _ => rfl) ?_
  rintro n y cx hm hL
  have hm : i_lineNames n = some y := hm
  have hL : cx.L = 0 := hL
  unfold i_lineNames at hm
  refine X_reg_seq ty_ok Γok hL [] .nil (by kernel_rfl) ?_
  obtain ⟨u, h, hm⟩ := obind hm
  refine X_reg_seq ty_ok Γok hL [(2, .n (n.Lines.length : Int)), (3, .l (List.map Enc.e (List.replicate (n.Lines.length : Int).toNat (ByteArray.empty : ByteArray))))] (.cons (len_m Enc.e n.Lines) (.cons (mk_p (b := 16) (chk_t h) rfl) (.cons (rep_m Enc.e (n.Lines.length : Int).toNat (ByteArray.empty : ByteArray)) .nil))) (by kernel_rfl) ?_
  refine Ok_seq ?_
  refine X_reg_seq ty_ok Γok hL [(2, .n (n.Lines.length : Int))] (.cons (len_m Enc.e n.Lines) .nil) (by kernel_rfl) ?_
  obtain ⟨i1, hv, hk⟩ := obind hm
  refine X_tail (n := 25) (fun (i1 : List ByteArray) => (⟨[(3, .own 16)], [(16, some (.arr 9 1 (List.map Enc.e i1)))], 48⟩ : X)) i1 ?_ ?_
  · have hm := hv
    refine Ok_block ?_
    refine X_loop (n := 25) (step := i_lineNames_L1 n) (fun ((v, i) : Int × (List ByteArray)) => (⟨[(3, .own 16), (11, .dat (Enc.e n.Lines)), (12, .dat (.sc (.int .i64 (n.Lines.length : Int)))), (13, .dat (.sc (.int .i64 v)))], [(16, some (.arr 9 1 (List.map Enc.e i)))], 48⟩ : X)) hm (Wk_J hL ⟨[(3, []), (11, []), (12, []), (13, [])], [(16, 96, [])], [], 48⟩ (by kernel_rfl)) ?_
    rintro ⟨v, i⟩ r0 hm hb
    rw [i_lineNames_L1] at hm
    refine X_reg_seq ty_ok Γok hL [] .nil (by kernel_rfl) ?_
    refine Ok_seq ?_
    refine X_cond (decide (v < (n.Lines.length : Int))) (by kernel_rfl) (fun hc => ?_) (fun hc => ?_)
    · have hm := it hc hm
      refine X_skip ?_
      refine thN ?_
      refine Ok_seq ?_
      refine Ok_block ?_
      obtain ⟨e, h1, hm⟩ := obind hm
      refine X_reg_seq ty_ok Γok hL [(1, .d (Enc.e e))] (.cons (idx_m (f := Enc.e) h1) .nil) (by kernel_rfl) ?_
      obtain ⟨e1, h2, hm⟩ := obind hm
      refine X_reg ty_ok Γok hL [(4, .d (Enc.e e1)), (5, .sd (Enc.e e1) (List.map Enc.e (i.set v.toNat e.Name)))] (.cons (idx_m (f := Enc.e) h2) (.cons (idx_m2 (f := Enc.e) h2) (.cons (set_m Enc.e i v.toNat e.Name) .nil))) (by kernel_rfl) ?_
      refine ibN ?_
      refine thN ?_
      refine X_reg ty_ok Γok hL [] .nil (by kernel_rfl) ?_
      obtain rfl := some_inj hm
      exact thN ⟨_, rfl, Wk_J hL ⟨[(3, []), (11, []), (12, []), (13, [])], [(16, 16, [])], [], 48⟩ (by kernel_rfl)⟩
    · have hm := ie hc hm
      obtain rfl := some_inj hm
      obtain rfl := hb _ rfl
      refine Ok_exit ?_
      refine thE ?_
      refine thE ?_
      refine ibE ?_
      exact thN (Wk_J hL ⟨[(3, [])], [(16, 16, [])], [], 48⟩ (by kernel_rfl))
  intro s hw
  have hm := hk
  refine thN ?_
  refine Ok_weak hw ?_
  refine X_reg_seq ty_ok Γok hL [] .nil (by kernel_rfl) ?_
  obtain rfl := some_inj hm
  refine Ok_ret ?_
  repeat (first | refine thR ?_ | refine ibR ?_)
  exact X_fin [16] [] (by kernel_rfl) trivial
abbrev i_isStop_r (y : Bool) : AV := .dat (Enc.e y)
abbrev i_isStop_n (y : Bool) : List Obj' := []
abbrev i_isStop_o (x : Network × Int) (y : Bool) : List Obj' := []
noncomputable def i_isStop_S : FnSpec := modS [none, none] (fun x : Network × Int => [Enc.e x.1, Enc.e x.2]) (fun x : Network × Int => []) (fun x : Network × Int => i_isStop x.1 x.2) i_isStop_r i_isStop_n i_isStop_o
theorem i_isStop_c {n : Network} {stop : Int} {y : Bool} (h : i_isStop n stop = some y) : CallOK i_isStop_S [Enc.e n, Enc.e stop] [] (i_isStop_r y) (i_isStop_n y) (i_isStop_o (n, stop) y) :=
  modS_call (by
    rintro ⟨a0, a1⟩ ⟨b0, b1⟩ h hO
    simp only [List.cons.injEq, and_true] at h
    try simp only [List.cons.injEq, and_true, Obj'.box.injEq, Obj'.arr.injEq, true_and, AV.dat.injEq] at hO
    obtain ⟨h0, h1⟩ := h
    have q0 := Enc.inj _ _ h0
    have q1 := Enc.inj _ _ h1
    subst q0; subst q1; rfl) (x := (n, stop)) h
theorem i_isStop_ok : FnOK Try.prog 92 i_isStop_S := by
  have Γok : ∀ f S, lookF f [] = some S → FnOK Try.prog f S := lookF_ok allF_nil
  have Γlive : Live (fun f => lookF f []) := lookF_live allL_nil
  refine fnOK_mod ty_ok (fun args w => Try.call92 args w) Try.func92 rfl [.tmp 4] (by rw [Try.results92]) 14 Try.ntmps92 16 rfl (fun _ => by first | exact Nat.zero_le _ | (simp)) (fun _ => rfl) ?_
  rintro ⟨n, stop⟩ y cx hm hL
  have hm : i_isStop n stop = some y := hm
  have hL : cx.L = 0 := hL
  unfold i_isStop at hm
  refine X_reg_seq ty_ok Γok hL [] .nil (by kernel_rfl) ?_
  obtain ⟨v, hv, hk⟩ := obind hm
  refine X_join (n := 14) (fun (v : Bool) => (⟨[(4, .dat (.sc (.bool v)))], [], 32⟩ : X)) v ?_ ?_
  · have hm := hv
    rcases btf (decide (0 ≤ stop)) with hb | hb
    · have hm := it hb hm
      obtain rfl := some_inj hm
      refine X_reg ty_ok Γok hL [(2, .b true), (6, .n (n.Stops.length : Int))] (.cons hb (.cons (len_m Enc.e n.Stops) .nil)) (by kernel_rfl) ?_
      exact thN (Wk_J hL ⟨[(4, [])], [], [], 32⟩ (by kernel_rfl))
    · have hm := ie hb hm
      obtain rfl := some_inj hm
      refine X_reg ty_ok Γok hL [(2, .b false)] (.cons hb .nil) (by kernel_rfl) ?_
      exact thN (Wk_J hL ⟨[(4, [])], [], [], 32⟩ (by kernel_rfl))
  have hm := hk
  obtain rfl := some_inj hm
  refine Ok_ret ?_
  repeat (first | refine thR ?_ | refine ibR ?_)
  exact X_fin [] [] (by kernel_rfl) trivial
abbrev slices_Index_int_r (y : Int) : AV := .dat (Enc.e y)
abbrev slices_Index_int_n (y : Int) : List Obj' := []
abbrev slices_Index_int_o (x : (List Int) × Int) (y : Int) : List Obj' := []
noncomputable def slices_Index_int_S : FnSpec := modS [none, none] (fun x : (List Int) × Int => [Enc.e x.1, Enc.e x.2]) (fun x : (List Int) × Int => []) (fun x : (List Int) × Int => slices_Index_int x.1 x.2) slices_Index_int_r slices_Index_int_n slices_Index_int_o
theorem slices_Index_int_c {s : List Int} {v : Int} {y : Int} (h : slices_Index_int s v = some y) : CallOK slices_Index_int_S [Enc.e s, Enc.e v] [] (slices_Index_int_r y) (slices_Index_int_n y) (slices_Index_int_o (s, v) y) :=
  modS_call (by
    rintro ⟨a0, a1⟩ ⟨b0, b1⟩ h hO
    simp only [List.cons.injEq, and_true] at h
    try simp only [List.cons.injEq, and_true, Obj'.box.injEq, Obj'.arr.injEq, true_and, AV.dat.injEq] at hO
    obtain ⟨h0, h1⟩ := h
    have q0 := Enc.inj _ _ h0
    have q1 := Enc.inj _ _ h1
    subst q0; subst q1; rfl) (x := (s, v)) h
theorem slices_Index_int_ok : FnOK Try.prog 121 slices_Index_int_S := by
  have Γok : ∀ f S, lookF f [] = some S → FnOK Try.prog f S := lookF_ok allF_nil
  have Γlive : Live (fun f => lookF f []) := lookF_live allL_nil
  refine fnOK_mod ty_ok (fun args w => Try.call121 args w) Try.func121 rfl [.tmp 4] (by rw [Try.results121]) 19 Try.ntmps121 16 rfl (fun _ => by first | exact Nat.zero_le _ | (simp)) (fun _ => rfl) ?_
  rintro ⟨s, v⟩ y cx hm hL
  have hm : slices_Index_int s v = some y := hm
  have hL : cx.L = 0 := hL
  unfold slices_Index_int at hm
  refine X_reg_seq ty_ok Γok hL [] .nil (by kernel_rfl) ?_
  refine Ok_seq ?_
  refine X_reg_seq ty_ok Γok hL [(1, .n (s.length : Int))] (.cons (len_m Enc.e s) .nil) (by kernel_rfl) ?_
  obtain ⟨v2, hv, hr, hk⟩ := flb_t hm
  refine X_tailF (n := 19) (fun (_ : Unit) => (⟨[], [], 32⟩ : X)) v2 ?_ ?_
  · have hm := hv
    refine Ok_block ?_
    refine X_loop (n := 19) (step := slices_Index_int_L1 s v) (fun (v1 : Int) => (⟨[(0, .dat (Enc.e s)), (1, .dat (.sc (.int .i64 v))), (7, .dat (.sc (.int .i64 (s.length : Int)))), (8, .dat (.sc (.int .i64 v1)))], [], 32⟩ : X)) hm (Wk_J hL ⟨[(0, []), (1, []), (7, []), (8, [])], [], [], 32⟩ (by kernel_rfl)) ?_
    rintro v1 r0 hm hb
    rw [slices_Index_int_L1] at hm
    refine X_reg_seq ty_ok Γok hL [] .nil (by kernel_rfl) ?_
    refine Ok_seq ?_
    refine X_cond (decide (v1 < (s.length : Int))) (by kernel_rfl) (fun hc => ?_) (fun hc => ?_)
    · have hm := it hc hm
      refine X_skip ?_
      refine thN ?_
      refine Ok_seq ?_
      refine Ok_block ?_
      refine X_reg_seq ty_ok Γok hL [] .nil (by kernel_rfl) ?_
      obtain ⟨e, h, hm⟩ := obind hm
      refine X_reg_seq ty_ok Γok hL [(3, .d (Enc.e e))] (.cons (idx_m (f := Enc.e) h) .nil) (by kernel_rfl) ?_
      refine X_cond (v == e) (by kernel_rfl) (fun hc1 => ?_) (fun hc1 => ?_)
      · have hm := it hc1 hm
        refine X_reg_seq ty_ok Γok hL [] .nil (by kernel_rfl) ?_
        obtain rfl := some_inj hm
        obtain rfl := hb _ rfl
        have hm := congrArg some (hr _ rfl)
        obtain rfl := some_inj hm
        refine Ok_ret ?_
        repeat (first | refine thR ?_ | refine ibR ?_)
        exact X_fin [] [] (by kernel_rfl) trivial
      · have hm := ie hc1 hm
        refine X_skip ?_
        refine ibN ?_
        refine thN ?_
        refine X_reg ty_ok Γok hL [] .nil (by kernel_rfl) ?_
        obtain rfl := some_inj hm
        exact thN ⟨_, rfl, Wk_J hL ⟨[(0, []), (1, []), (7, []), (8, [])], [], [], 32⟩ (by kernel_rfl)⟩
    · have hm := ie hc hm
      obtain rfl := some_inj hm
      obtain rfl := hb _ rfl
      refine Ok_exit ?_
      refine thE ?_
      refine thE ?_
      refine ibE ?_
      exact thN ⟨_, rfl, Wk_J hL ⟨[], [], [], 32⟩ (by kernel_rfl)⟩
  rintro ⟨⟩ hu s1 hw
  have hm := hk _ hu
  refine thN ?_
  refine Ok_weak hw ?_
  refine X_reg_seq ty_ok Γok hL [] .nil (by kernel_rfl) ?_
  obtain rfl := some_inj hm
  refine Ok_ret ?_
  repeat (first | refine thR ?_ | refine ibR ?_)
  exact X_fin [] [] (by kernel_rfl) trivial
abbrev i_isValidLine_r (y : Bool) : AV := .dat (Enc.e y)
abbrev i_isValidLine_n (y : Bool) : List Obj' := []
abbrev i_isValidLine_o (x : Network × Line) (y : Bool) : List Obj' := []
noncomputable def i_isValidLine_S : FnSpec := modS [none, none] (fun x : Network × Line => [Enc.e x.1, Enc.e x.2]) (fun x : Network × Line => []) (fun x : Network × Line => i_isValidLine x.1 x.2) i_isValidLine_r i_isValidLine_n i_isValidLine_o
theorem i_isValidLine_c {n : Network} {l : Line} {y : Bool} (h : i_isValidLine n l = some y) : CallOK i_isValidLine_S [Enc.e n, Enc.e l] [] (i_isValidLine_r y) (i_isValidLine_n y) (i_isValidLine_o (n, l) y) :=
  modS_call (by
    rintro ⟨a0, a1⟩ ⟨b0, b1⟩ h hO
    simp only [List.cons.injEq, and_true] at h
    try simp only [List.cons.injEq, and_true, Obj'.box.injEq, Obj'.arr.injEq, true_and, AV.dat.injEq] at hO
    obtain ⟨h0, h1⟩ := h
    have q0 := Enc.inj _ _ h0
    have q1 := Enc.inj _ _ h1
    subst q0; subst q1; rfl) (x := (n, l)) h
theorem i_isValidLine_ok : FnOK Try.prog 91 i_isValidLine_S := by
  have Γok : ∀ f S, lookF f [(50, i_within_S), (92, i_isStop_S), (121, slices_Index_int_S)] = some S → FnOK Try.prog f S := lookF_ok (allF_cons i_within_ok (allF_cons i_isStop_ok (allF_cons slices_Index_int_ok allF_nil)))
  have Γlive : Live (fun f => lookF f [(50, i_within_S), (92, i_isStop_S), (121, slices_Index_int_S)]) := lookF_live (allL_cons modS_live (allL_cons modS_live (allL_cons modS_live allL_nil)))
  refine fnOK_mod ty_ok (fun args w => Try.call91 args w) Try.func91 rfl [.tmp 4] (by rw [Try.results91]) 56 Try.ntmps91 16 rfl (fun _ => by first | exact Nat.zero_le _ | (simp)) (fun _ => rfl) ?_
  rintro ⟨n, l⟩ y cx hm hL
  have hm : i_isValidLine n l = some y := hm
  have hL : cx.L = 0 := hL
  unfold i_isValidLine at hm
  refine X_reg_seq ty_ok Γok hL [] .nil (by kernel_rfl) ?_
  refine Ok_seq ?_
  obtain ⟨r, h, hm⟩ := obind hm
  obtain ⟨v, hv, hk⟩ := obind hm
  refine X_join (n := 56) (fun (v : Bool) => (⟨[(2, .ref 16 0), (3, .ref 32 0), (23, .dat (.sc (.bool v)))], [(16, some (.box [.dat (Enc.e n.Stops), .dat (Enc.e n.Lines)])), (32, some (.box [.dat (.sc (.string l.Name)), .dat (Enc.e l.Stops), .dat (Enc.e l.Runs)]))], 64⟩ : X)) v ?_ ?_
  · have hm := hv
    rcases btf (!r) with hb | hb
    · have hm := it hb hm
      obtain rfl := some_inj hm
      refine X_reg ty_ok Γok hL [(2, .n (l.Stops.length : Int)), (3, .c (i_within_r r) (i_within_n r) (i_within_o ((l.Stops.length : Int), 2, 6) r)), (5, .b true)] (.cons (len_m Enc.e l.Stops) (.cons (i_within_c h) (.cons hb .nil))) (by kernel_rfl) ?_
      exact thN (Wk_J hL ⟨[(2, []), (3, []), (23, [])], [(16, 16, []), (32, 32, [])], [], 64⟩ (by kernel_rfl))
    · have hm := ie hb hm
      obtain rfl := some_inj hm
      refine X_reg ty_ok Γok hL [(2, .n (l.Stops.length : Int)), (3, .c (i_within_r r) (i_within_n r) (i_within_o ((l.Stops.length : Int), 2, 6) r)), (5, .b false), (8, .n (l.Runs.length : Int)), (11, .n (l.Stops.length : Int))] (.cons (len_m Enc.e l.Stops) (.cons (i_within_c h) (.cons hb (.cons (len_m Enc.e l.Runs) (.cons (len_m Enc.e l.Stops) .nil))))) (by kernel_rfl) ?_
      exact thN (Wk_J hL ⟨[(2, []), (3, []), (23, [])], [(16, 16, []), (32, 32, [])], [], 64⟩ (by kernel_rfl))
  have hm := hk
  refine X_cond v (by kernel_rfl) (fun hc => ?_) (fun hc => ?_)
  · have hm := it hc hm
    refine X_reg_seq ty_ok Γok hL [] .nil (by kernel_rfl) ?_
    obtain rfl := some_inj hm
    refine Ok_ret ?_
    repeat (first | refine thR ?_ | refine ibR ?_)
    exact X_fin [] [] (by kernel_rfl) trivial
  · have hm := ie hc hm
    refine X_skip ?_
    refine thN ?_
    refine Ok_seq ?_
    refine X_reg_seq ty_ok Γok hL [(2, .n (l.Stops.length : Int))] (.cons (len_m Enc.e l.Stops) .nil) (by kernel_rfl) ?_
    obtain ⟨v5, hv2, hr, hk2⟩ := flb_t hm
    refine X_tailF (n := 56) (fun (_ : Unit) => (⟨[(3, .ref 16 0)], [(16, some (.box [.dat (.sc (.string l.Name)), .dat (Enc.e l.Stops), .dat (Enc.e l.Runs)]))], 48⟩ : X)) v5 ?_ ?_
    · have hm := hv2
      refine Ok_block ?_
      refine X_loop (n := 56) (step := i_isValidLine_L1 n l) (fun (v1 : Int) => (⟨[(2, .ref 16 0), (3, .ref 32 0), (25, .dat (Enc.e l.Stops)), (26, .dat (.sc (.int .i64 (l.Stops.length : Int)))), (27, .dat (.sc (.int .i64 v1)))], [(16, some (.box [.dat (Enc.e n.Stops), .dat (Enc.e n.Lines)])), (32, some (.box [.dat (.sc (.string l.Name)), .dat (Enc.e l.Stops), .dat (Enc.e l.Runs)]))], 64⟩ : X)) hm (Wk_J hL ⟨[(2, []), (3, []), (25, []), (26, []), (27, [])], [(16, 16, []), (32, 32, [])], [], 64⟩ (by kernel_rfl)) ?_
      rintro v1 r0 hm hb1
      rw [i_isValidLine_L1] at hm
      refine X_reg_seq ty_ok Γok hL [] .nil (by kernel_rfl) ?_
      refine Ok_seq ?_
      refine X_cond (decide (v1 < (l.Stops.length : Int))) (by kernel_rfl) (fun hc1 => ?_) (fun hc1 => ?_)
      · have hm := it hc1 hm
        refine X_skip ?_
        refine thN ?_
        refine Ok_seq ?_
        refine Ok_block ?_
        obtain ⟨e, h1, hm⟩ := obind hm
        refine X_reg_seq ty_ok Γok hL [(1, .d (Enc.e e))] (.cons (idx_m (f := Enc.e) h1) .nil) (by kernel_rfl) ?_
        obtain ⟨r1, h2, hm⟩ := obind hm
        obtain ⟨v2, hv1, hk1⟩ := obind hm
        refine X_join (n := 56) (fun (v2 : Bool) => (⟨[(2, .ref 16 0), (3, .ref 32 0), (25, .dat (Enc.e l.Stops)), (26, .dat (.sc (.int .i64 (l.Stops.length : Int)))), (27, .dat (.sc (.int .i64 v1))), (43, .dat (.sc (.bool v2)))], [(16, some (.box [.dat (Enc.e n.Stops), .dat (Enc.e n.Lines)])), (32, some (.box [.dat (.sc (.string l.Name)), .dat (Enc.e l.Stops), .dat (Enc.e l.Runs)]))], 64⟩ : X)) v2 ?_ ?_
        · have hm := hv1
          rcases btf (!r1) with hb2 | hb2
          · have hm := it hb2 hm
            obtain rfl := some_inj hm
            refine X_reg ty_ok Γok hL [(2, .c (i_isStop_r r1) (i_isStop_n r1) (i_isStop_o (n, e) r1)), (4, .b true)] (.cons (i_isStop_c h2) (.cons hb2 .nil)) (by kernel_rfl) ?_
            exact thN (Wk_J hL ⟨[(2, []), (3, []), (25, []), (26, []), (27, []), (43, [])], [(16, 16, []), (32, 32, [])], [], 64⟩ (by kernel_rfl))
          · have hm := ie hb2 hm
            obtain ⟨r2, h3, hm⟩ := obind hm
            obtain rfl := some_inj hm
            refine X_reg ty_ok Γok hL [(2, .c (i_isStop_r r1) (i_isStop_n r1) (i_isStop_o (n, e) r1)), (4, .b false), (8, .c (slices_Index_int_r r2) (slices_Index_int_n r2) (slices_Index_int_o (l.Stops, e) r2))] (.cons (i_isStop_c h2) (.cons hb2 (.cons (slices_Index_int_c h3) .nil))) (by kernel_rfl) ?_
            exact thN (Wk_J hL ⟨[(2, []), (3, []), (25, []), (26, []), (27, []), (43, [])], [(16, 16, []), (32, 32, [])], [], 64⟩ (by kernel_rfl))
        have hm := hk1
        refine X_cond v2 (by kernel_rfl) (fun hc2 => ?_) (fun hc2 => ?_)
        · have hm := it hc2 hm
          refine X_reg_seq ty_ok Γok hL [] .nil (by kernel_rfl) ?_
          obtain rfl := some_inj hm
          obtain rfl := hb1 _ rfl
          have hm := congrArg some (hr _ rfl)
          obtain rfl := some_inj hm
          refine Ok_ret ?_
          repeat (first | refine thR ?_ | refine ibR ?_)
          exact X_fin [] [] (by kernel_rfl) trivial
        · have hm := ie hc2 hm
          refine X_skip ?_
          refine ibN ?_
          refine thN ?_
          refine X_reg ty_ok Γok hL [] .nil (by kernel_rfl) ?_
          obtain rfl := some_inj hm
          exact thN ⟨_, rfl, Wk_J hL ⟨[(2, []), (3, []), (25, []), (26, []), (27, [])], [(16, 16, []), (32, 32, [])], [], 64⟩ (by kernel_rfl)⟩
      · have hm := ie hc1 hm
        obtain rfl := some_inj hm
        obtain rfl := hb1 _ rfl
        refine Ok_exit ?_
        refine thE ?_
        refine thE ?_
        refine ibE ?_
        exact thN ⟨_, rfl, Wk_J hL ⟨[(3, [])], [(16, 32, [])], [], 48⟩ (by kernel_rfl)⟩
    rintro ⟨⟩ hu1 s hw
    have hm := hk2 _ hu1
    refine thN ?_
    refine Ok_weak hw ?_
    refine Ok_seq ?_
    refine X_reg_seq ty_ok Γok hL [(2, .n (l.Runs.length : Int))] (.cons (len_m Enc.e l.Runs) .nil) (by kernel_rfl) ?_
    obtain ⟨v4, hv3, hr1, hk3⟩ := flb_t hm
    refine X_tailF (n := 56) (fun (_ : Unit) => (⟨[], [], 32⟩ : X)) v4 ?_ ?_
    · have hm := hv3
      refine Ok_block ?_
      refine X_loop (n := 56) (step := i_isValidLine_L2 l) (fun (v3 : Int) => (⟨[(46, .dat (Enc.e l.Runs)), (47, .dat (.sc (.int .i64 (l.Runs.length : Int)))), (48, .dat (.sc (.int .i64 v3)))], [], 32⟩ : X)) hm (Wk_J hL ⟨[(46, []), (47, []), (48, [])], [], [], 32⟩ (by kernel_rfl)) ?_
      rintro v3 r0 hm hb3
      rw [i_isValidLine_L2] at hm
      refine X_reg_seq ty_ok Γok hL [] .nil (by kernel_rfl) ?_
      refine Ok_seq ?_
      refine X_cond (decide (v3 < (l.Runs.length : Int))) (by kernel_rfl) (fun hc3 => ?_) (fun hc3 => ?_)
      · have hm := it hc3 hm
        refine X_skip ?_
        refine thN ?_
        refine Ok_seq ?_
        refine Ok_block ?_
        obtain ⟨e2, h4, hm⟩ := obind hm
        refine X_reg_seq ty_ok Γok hL [(0, .d (Enc.e e2))] (.cons (idx_m (f := Enc.e) h4) .nil) (by kernel_rfl) ?_
        obtain ⟨r4, h5, hm⟩ := obind hm
        refine X_reg_seq ty_ok Γok hL [(1, .c (i_within_r r4) (i_within_n r4) (i_within_o (e2, 1, 60) r4))] (.cons (i_within_c h5) .nil) (by kernel_rfl) ?_
        refine X_cond (!r4) (by kernel_rfl) (fun hc4 => ?_) (fun hc4 => ?_)
        · have hm := it hc4 hm
          refine X_reg_seq ty_ok Γok hL [] .nil (by kernel_rfl) ?_
          obtain rfl := some_inj hm
          obtain rfl := hb3 _ rfl
          have hm := congrArg some (hr1 _ rfl)
          obtain rfl := some_inj hm
          refine Ok_ret ?_
          repeat (first | refine thR ?_ | refine ibR ?_)
          exact X_fin [] [] (by kernel_rfl) trivial
        · have hm := ie hc4 hm
          refine X_skip ?_
          refine ibN ?_
          refine thN ?_
          refine X_reg ty_ok Γok hL [] .nil (by kernel_rfl) ?_
          obtain rfl := some_inj hm
          exact thN ⟨_, rfl, Wk_J hL ⟨[(46, []), (47, []), (48, [])], [], [], 32⟩ (by kernel_rfl)⟩
      · have hm := ie hc3 hm
        obtain rfl := some_inj hm
        obtain rfl := hb3 _ rfl
        refine Ok_exit ?_
        refine thE ?_
        refine thE ?_
        refine ibE ?_
        exact thN ⟨_, rfl, Wk_J hL ⟨[], [], [], 32⟩ (by kernel_rfl)⟩
    rintro ⟨⟩ hu s1 hw1
    have hm := hk3 _ hu
    refine thN ?_
    refine Ok_weak hw1 ?_
    refine X_reg_seq ty_ok Γok hL [] .nil (by kernel_rfl) ?_
    obtain rfl := some_inj hm
    refine Ok_ret ?_
    repeat (first | refine thR ?_ | refine ibR ?_)
    exact X_fin [] [] (by kernel_rfl) trivial
abbrev i_IsValidNetwork_r (y : Bool) : AV := .dat (Enc.e y)
abbrev i_IsValidNetwork_n (y : Bool) : List Obj' := []
abbrev i_IsValidNetwork_o (x : Network) (y : Bool) : List Obj' := []
noncomputable def i_IsValidNetwork_S : FnSpec := modS [none] (fun x : Network => [Enc.e x]) (fun x : Network => []) (fun x : Network => i_IsValidNetwork x) i_IsValidNetwork_r i_IsValidNetwork_n i_IsValidNetwork_o
theorem i_IsValidNetwork_c {n : Network} {y : Bool} (h : i_IsValidNetwork n = some y) : CallOK i_IsValidNetwork_S [Enc.e n] [] (i_IsValidNetwork_r y) (i_IsValidNetwork_n y) (i_IsValidNetwork_o n y) :=
  modS_call (by
    rintro a0 b0 h hO
    simp only [List.cons.injEq, and_true] at h
    try simp only [List.cons.injEq, and_true, Obj'.box.injEq, Obj'.arr.injEq, true_and, AV.dat.injEq] at hO
    have h0 := h
    have q0 := Enc.inj _ _ h0
    subst q0; rfl) (x := n) h
theorem i_IsValidNetwork_ok : FnOK Try.prog 35 i_IsValidNetwork_S := by
  have Γok : ∀ f S, lookF f [(50, i_within_S), (89, i_areNames_S), (90, i_lineNames_S), (91, i_isValidLine_S)] = some S → FnOK Try.prog f S := lookF_ok (allF_cons i_within_ok (allF_cons i_areNames_ok (allF_cons i_lineNames_ok (allF_cons i_isValidLine_ok allF_nil))))
  have Γlive : Live (fun f => lookF f [(50, i_within_S), (89, i_areNames_S), (90, i_lineNames_S), (91, i_isValidLine_S)]) := lookF_live (allL_cons modS_live (allL_cons modS_live (allL_cons modS_live (allL_cons modS_live allL_nil))))
  refine fnOK_mod ty_ok (fun args w => Try.call35 args w) Try.func35 rfl [.tmp 2] (by rw [Try.results35]) 41 Try.ntmps35 16 rfl (fun _ => by first | exact Nat.zero_le _ | (simp)) (fun _ => rfl) ?_
  rintro n y cx hm hL
  have hm : i_IsValidNetwork n = some y := hm
  have hL : cx.L = 0 := hL
  unfold i_IsValidNetwork at hm
  refine X_reg_seq ty_ok Γok hL [] .nil (by kernel_rfl) ?_
  refine Ok_seq ?_
  obtain ⟨r, h, hm⟩ := obind hm
  obtain ⟨v, hv, hk⟩ := obind hm
  refine X_join (n := 41) (fun (v : Bool) => (⟨[(1, .ref 16 0), (28, .dat (.sc (.bool v)))], [(16, some (.box [.dat (Enc.e n.Stops), .dat (Enc.e n.Lines)]))], 48⟩ : X)) v ?_ ?_
  · have hm := hv
    rcases btf (!r) with hb | hb
    · have hm := it hb hm
      obtain rfl := some_inj hm
      refine X_reg ty_ok Γok hL [(2, .n (n.Stops.length : Int)), (3, .c (i_within_r r) (i_within_n r) (i_within_o ((n.Stops.length : Int), 2, 8) r)), (5, .b true)] (.cons (len_m Enc.e n.Stops) (.cons (i_within_c h) (.cons hb .nil))) (by kernel_rfl) ?_
      exact thN (Wk_J hL ⟨[(1, []), (28, [])], [(16, 16, [])], [], 48⟩ (by kernel_rfl))
    · have hm := ie hb hm
      obtain ⟨r1, h1, hm⟩ := obind hm
      rcases btf (!r1) with hb1 | hb1
      · have hm := it hb1 hm
        obtain rfl := some_inj hm
        refine X_reg ty_ok Γok hL [(2, .n (n.Stops.length : Int)), (3, .c (i_within_r r) (i_within_n r) (i_within_o ((n.Stops.length : Int), 2, 8) r)), (5, .b false), (8, .n (n.Lines.length : Int)), (9, .c (i_within_r r1) (i_within_n r1) (i_within_o ((n.Lines.length : Int), 1, 5) r1)), (12, .b true)] (.cons (len_m Enc.e n.Stops) (.cons (i_within_c h) (.cons hb (.cons (len_m Enc.e n.Lines) (.cons (i_within_c h1) (.cons hb1 .nil)))))) (by kernel_rfl) ?_
        exact thN (Wk_J hL ⟨[(1, []), (28, [])], [(16, 16, [])], [], 48⟩ (by kernel_rfl))
      · have hm := ie hb1 hm
        obtain ⟨r2, h2, hm⟩ := obind hm
        rcases btf (!r2) with hb2 | hb2
        · have hm := it hb2 hm
          obtain rfl := some_inj hm
          refine X_reg ty_ok Γok hL [(2, .n (n.Stops.length : Int)), (3, .c (i_within_r r) (i_within_n r) (i_within_o ((n.Stops.length : Int), 2, 8) r)), (5, .b false), (8, .n (n.Lines.length : Int)), (9, .c (i_within_r r1) (i_within_n r1) (i_within_o ((n.Lines.length : Int), 1, 5) r1)), (12, .b false), (15, .c (i_areNames_r r2) (i_areNames_n r2) (i_areNames_o n.Stops r2)), (18, .b true)] (.cons (len_m Enc.e n.Stops) (.cons (i_within_c h) (.cons hb (.cons (len_m Enc.e n.Lines) (.cons (i_within_c h1) (.cons hb1 (.cons (i_areNames_c h2) (.cons hb2 .nil)))))))) (by kernel_rfl) ?_
          exact thN (Wk_J hL ⟨[(1, []), (28, [])], [(16, 16, [])], [], 48⟩ (by kernel_rfl))
        · have hm := ie hb2 hm
          obtain ⟨r3, h3, hm⟩ := obind hm
          obtain ⟨r4, h4, hm⟩ := obind hm
          obtain rfl := some_inj hm
          refine X_reg ty_ok Γok hL [(2, .n (n.Stops.length : Int)), (3, .c (i_within_r r) (i_within_n r) (i_within_o ((n.Stops.length : Int), 2, 8) r)), (5, .b false), (8, .n (n.Lines.length : Int)), (9, .c (i_within_r r1) (i_within_n r1) (i_within_o ((n.Lines.length : Int), 1, 5) r1)), (12, .b false), (15, .c (i_areNames_r r2) (i_areNames_n r2) (i_areNames_o n.Stops r2)), (18, .b false), (20, .c (i_lineNames_r r3) (i_lineNames_n r3) (i_lineNames_o n r3)), (21, .c (i_areNames_r r4) (i_areNames_n r4) (i_areNames_o r3 r4))] (.cons (len_m Enc.e n.Stops) (.cons (i_within_c h) (.cons hb (.cons (len_m Enc.e n.Lines) (.cons (i_within_c h1) (.cons hb1 (.cons (i_areNames_c h2) (.cons hb2 (.cons (i_lineNames_c h3) (.cons (i_areNames_c h4) .nil)))))))))) (by kernel_rfl) ?_
          exact thN (Wk_J hL ⟨[(1, []), (28, [])], [(16, 16, [])], [], 48⟩ (by kernel_rfl))
  have hm := hk
  refine X_cond v (by kernel_rfl) (fun hc => ?_) (fun hc => ?_)
  · have hm := it hc hm
    refine X_reg_seq ty_ok Γok hL [] .nil (by kernel_rfl) ?_
    obtain rfl := some_inj hm
    refine Ok_ret ?_
    repeat (first | refine thR ?_ | refine ibR ?_)
    exact X_fin [] [] (by kernel_rfl) trivial
  · have hm := ie hc hm
    refine X_skip ?_
    refine thN ?_
    refine Ok_seq ?_
    refine X_reg_seq ty_ok Γok hL [(2, .n (n.Lines.length : Int))] (.cons (len_m Enc.e n.Lines) .nil) (by kernel_rfl) ?_
    obtain ⟨v2, hv1, hr, hk1⟩ := flb_t hm
    refine X_tailF (n := 41) (fun (_ : Unit) => (⟨[], [], 32⟩ : X)) v2 ?_ ?_
    · have hm := hv1
      refine Ok_block ?_
      refine X_loop (n := 41) (step := i_IsValidNetwork_L1 n) (fun (v1 : Int) => (⟨[(1, .ref 16 0), (30, .dat (Enc.e n.Lines)), (31, .dat (.sc (.int .i64 (n.Lines.length : Int)))), (32, .dat (.sc (.int .i64 v1)))], [(16, some (.box [.dat (Enc.e n.Stops), .dat (Enc.e n.Lines)]))], 48⟩ : X)) hm (Wk_J hL ⟨[(1, []), (30, []), (31, []), (32, [])], [(16, 16, [])], [], 48⟩ (by kernel_rfl)) ?_
      rintro v1 r0 hm hb3
      rw [i_IsValidNetwork_L1] at hm
      refine X_reg_seq ty_ok Γok hL [] .nil (by kernel_rfl) ?_
      refine Ok_seq ?_
      refine X_cond (decide (v1 < (n.Lines.length : Int))) (by kernel_rfl) (fun hc1 => ?_) (fun hc1 => ?_)
      · have hm := it hc1 hm
        refine X_skip ?_
        refine thN ?_
        refine Ok_seq ?_
        refine Ok_block ?_
        obtain ⟨e, h5, hm⟩ := obind hm
        refine X_reg_seq ty_ok Γok hL [(0, .d (Enc.e e))] (.cons (idx_m (f := Enc.e) h5) .nil) (by kernel_rfl) ?_
        obtain ⟨r5, h6, hm⟩ := obind hm
        refine X_reg_seq ty_ok Γok hL [(2, .c (i_isValidLine_r r5) (i_isValidLine_n r5) (i_isValidLine_o (n, e) r5))] (.cons (i_isValidLine_c h6) .nil) (by kernel_rfl) ?_
        refine X_cond (!r5) (by kernel_rfl) (fun hc2 => ?_) (fun hc2 => ?_)
        · have hm := it hc2 hm
          refine X_reg_seq ty_ok Γok hL [] .nil (by kernel_rfl) ?_
          obtain rfl := some_inj hm
          obtain rfl := hb3 _ rfl
          have hm := congrArg some (hr _ rfl)
          obtain rfl := some_inj hm
          refine Ok_ret ?_
          repeat (first | refine thR ?_ | refine ibR ?_)
          exact X_fin [] [] (by kernel_rfl) trivial
        · have hm := ie hc2 hm
          refine X_skip ?_
          refine ibN ?_
          refine thN ?_
          refine X_reg ty_ok Γok hL [] .nil (by kernel_rfl) ?_
          obtain rfl := some_inj hm
          exact thN ⟨_, rfl, Wk_J hL ⟨[(1, []), (30, []), (31, []), (32, [])], [(16, 16, [])], [], 48⟩ (by kernel_rfl)⟩
      · have hm := ie hc1 hm
        obtain rfl := some_inj hm
        obtain rfl := hb3 _ rfl
        refine Ok_exit ?_
        refine thE ?_
        refine thE ?_
        refine ibE ?_
        exact thN ⟨_, rfl, Wk_J hL ⟨[], [], [], 32⟩ (by kernel_rfl)⟩
    rintro ⟨⟩ hu s hw
    have hm := hk1 _ hu
    refine thN ?_
    refine Ok_weak hw ?_
    refine X_reg_seq ty_ok Γok hL [] .nil (by kernel_rfl) ?_
    obtain rfl := some_inj hm
    refine Ok_ret ?_
    repeat (first | refine thR ?_ | refine ibR ?_)
    exact X_fin [] [] (by kernel_rfl) trivial
abbrev i_isLine_r (y : Bool) : AV := .dat (Enc.e y)
abbrev i_isLine_n (y : Bool) : List Obj' := []
abbrev i_isLine_o (x : Network × Int) (y : Bool) : List Obj' := []
noncomputable def i_isLine_S : FnSpec := modS [none, none] (fun x : Network × Int => [Enc.e x.1, Enc.e x.2]) (fun x : Network × Int => []) (fun x : Network × Int => i_isLine x.1 x.2) i_isLine_r i_isLine_n i_isLine_o
theorem i_isLine_c {n : Network} {line : Int} {y : Bool} (h : i_isLine n line = some y) : CallOK i_isLine_S [Enc.e n, Enc.e line] [] (i_isLine_r y) (i_isLine_n y) (i_isLine_o (n, line) y) :=
  modS_call (by
    rintro ⟨a0, a1⟩ ⟨b0, b1⟩ h hO
    simp only [List.cons.injEq, and_true] at h
    try simp only [List.cons.injEq, and_true, Obj'.box.injEq, Obj'.arr.injEq, true_and, AV.dat.injEq] at hO
    obtain ⟨h0, h1⟩ := h
    have q0 := Enc.inj _ _ h0
    have q1 := Enc.inj _ _ h1
    subst q0; subst q1; rfl) (x := (n, line)) h
theorem i_isLine_ok : FnOK Try.prog 80 i_isLine_S := by
  have Γok : ∀ f S, lookF f [] = some S → FnOK Try.prog f S := lookF_ok allF_nil
  have Γlive : Live (fun f => lookF f []) := lookF_live allL_nil
  refine fnOK_mod ty_ok (fun args w => Try.call80 args w) Try.func80 rfl [.tmp 4] (by rw [Try.results80]) 14 Try.ntmps80 16 rfl (fun _ => by first | exact Nat.zero_le _ | (simp)) (fun _ => rfl) ?_
  rintro ⟨n, line⟩ y cx hm hL
  have hm : i_isLine n line = some y := hm
  have hL : cx.L = 0 := hL
  unfold i_isLine at hm
  refine X_reg_seq ty_ok Γok hL [] .nil (by kernel_rfl) ?_
  obtain ⟨v, hv, hk⟩ := obind hm
  refine X_join (n := 14) (fun (v : Bool) => (⟨[(4, .dat (.sc (.bool v)))], [], 32⟩ : X)) v ?_ ?_
  · have hm := hv
    rcases btf (decide (0 ≤ line)) with hb | hb
    · have hm := it hb hm
      obtain rfl := some_inj hm
      refine X_reg ty_ok Γok hL [(2, .b true), (6, .n (n.Lines.length : Int))] (.cons hb (.cons (len_m Enc.e n.Lines) .nil)) (by kernel_rfl) ?_
      exact thN (Wk_J hL ⟨[(4, [])], [], [], 32⟩ (by kernel_rfl))
    · have hm := ie hb hm
      obtain rfl := some_inj hm
      refine X_reg ty_ok Γok hL [(2, .b false)] (.cons hb .nil) (by kernel_rfl) ?_
      exact thN (Wk_J hL ⟨[(4, [])], [], [], 32⟩ (by kernel_rfl))
  have hm := hk
  obtain rfl := some_inj hm
  refine Ok_ret ?_
  repeat (first | refine thR ?_ | refine ibR ?_)
  exact X_fin [] [] (by kernel_rfl) trivial
abbrev slices_Clone_int_r (y : (List Int)) : AV := .own 0
abbrev slices_Clone_int_n (y : (List Int)) : List Obj' := [.arr 3 1 (List.map Enc.e y)]
abbrev slices_Clone_int_o (x : (List Int)) (y : (List Int)) : List Obj' := []
noncomputable def slices_Clone_int_S : FnSpec := modS [none] (fun x : (List Int) => [Enc.e x]) (fun x : (List Int) => []) (fun x : (List Int) => slices_Clone_int x) slices_Clone_int_r slices_Clone_int_n slices_Clone_int_o
theorem slices_Clone_int_c {s : List Int} {y : (List Int)} (h : slices_Clone_int s = some y) : CallOK slices_Clone_int_S [Enc.e s] [] (slices_Clone_int_r y) (slices_Clone_int_n y) (slices_Clone_int_o s y) :=
  modS_call (by
    rintro a0 b0 h hO
    simp only [List.cons.injEq, and_true] at h
    try simp only [List.cons.injEq, and_true, Obj'.box.injEq, Obj'.arr.injEq, true_and, AV.dat.injEq] at hO
    have h0 := h
    have q0 := Enc.inj _ _ h0
    subst q0; rfl) (x := s) h
theorem slices_Clone_int_ok : FnOK Try.prog 52 slices_Clone_int_S := by
  have Γok : ∀ f S, lookF f [] = some S → FnOK Try.prog f S := lookF_ok allF_nil
  have Γlive : Live (fun f => lookF f []) := lookF_live allL_nil
  refine fnOK_mod ty_ok (fun args w => Try.call52 args w) Try.func52 rfl [.tmp 2] (by rw [Try.results52]) 8 Try.ntmps52 16 rfl (fun _ => by first | exact Nat.zero_le _ | (simp)) (fun _ => rfl) ?_
  rintro s y cx hm hL
  have hm : slices_Clone_int s = some y := hm
  have hL : cx.L = 0 := hL
  unfold slices_Clone_int at hm
  obtain ⟨u, h, hm⟩ := obind hm
  obtain rfl := some_inj hm
  refine X_reg_seq ty_ok Γok hL [] .nil (by kernel_rfl) ?_
  refine Ok_seq ?_
  refine X_nil_seq ty_ok Γok 1 (ds := List.map Enc.e s) (es := 1) [] .nil (by kernel_rfl) (by rfl) (by rfl) (by kernel_rfl) ?_
  intro b hb
  refine X_cond b (by kernel_rfl) (fun hc => ?_) (fun hc => ?_)
  · have hl : s = [] := by
      cases s with
      | nil => rfl
      | cons a r => have := hb (by simp); rw [hc] at this; cases this
    subst hl
    refine X_reg_seq ty_ok Γok hL [] .nil (by kernel_rfl) ?_
    refine Ok_weak (Wk_J (x' := ⟨[(2, .own 16)], [(16, some (.arr 3 1 []))], 32⟩) hL ⟨[(2, [.o 16])], [], [(16, 3, 1, [])], 32⟩ (by kernel_rfl)) ?_
    refine Ok_ret ?_
    repeat (first | refine thR ?_ | refine ibR ?_)
    exact X_fin [16] [] (by kernel_rfl) trivial
  · refine X_skip ?_
    refine thN ?_
    refine X_reg_seq ty_ok Γok hL [(2, .l (List.map Enc.e (([] : List Int) ++ s)))] (.cons (app_p (f := Enc.e) (g := Enc.e) (l := ([] : List Int)) (r := s) (b := 8) (chk_t h) rfl) (.cons (app_m Enc.e ([] : List Int) s) .nil)) (by kernel_rfl) ?_
    refine Ok_ret ?_
    repeat (first | refine thR ?_ | refine ibR ?_)
    exact X_fin [96] [] (by kernel_rfl) trivial
abbrev i_copyLine_r (y : Line) : AV := .aggv [.dat (.sc (.string y.Name)), .own 0, .own 1]
abbrev i_copyLine_n (y : Line) : List Obj' := [.arr 3 1 (List.map Enc.e y.Stops), .arr 3 1 (List.map Enc.e y.Runs)]
abbrev i_copyLine_o (x : Line) (y : Line) : List Obj' := []
noncomputable def i_copyLine_S : FnSpec := modS [none] (fun x : Line => [Enc.e x]) (fun x : Line => []) (fun x : Line => i_copyLine x) i_copyLine_r i_copyLine_n i_copyLine_o
theorem i_copyLine_c {l : Line} {y : Line} (h : i_copyLine l = some y) : CallOK i_copyLine_S [Enc.e l] [] (i_copyLine_r y) (i_copyLine_n y) (i_copyLine_o l y) :=
  modS_call (by
    rintro a0 b0 h hO
    simp only [List.cons.injEq, and_true] at h
    try simp only [List.cons.injEq, and_true, Obj'.box.injEq, Obj'.arr.injEq, true_and, AV.dat.injEq] at hO
    have h0 := h
    have q0 := Enc.inj _ _ h0
    subst q0; rfl) (x := l) h
theorem i_copyLine_ok : FnOK Try.prog 81 i_copyLine_S := by
  have Γok : ∀ f S, lookF f [(52, slices_Clone_int_S)] = some S → FnOK Try.prog f S := lookF_ok (allF_cons slices_Clone_int_ok allF_nil)
  have Γlive : Live (fun f => lookF f [(52, slices_Clone_int_S)]) := lookF_live (allL_cons modS_live allL_nil)
  refine fnOK_mod ty_ok (fun args w => Try.call81 args w) Try.func81 rfl [.cell 2 74] (by rw [Try.results81]) 12 Try.ntmps81 16 rfl (fun _ => by first | exact Nat.zero_le _ | (simp)) (fun _ => rfl) ?_
  rintro l y cx hm hL
  have hm : i_copyLine l = some y := hm
  have hL : cx.L = 0 := hL
  unfold i_copyLine at hm
  refine X_reg_seq ty_ok Γok hL [] .nil (by kernel_rfl) ?_
  obtain ⟨r2, h2, hm⟩ := obind hm
  obtain ⟨r3, h3, hm⟩ := obind hm
  refine X_draw_seq mixed ty_ok Γok Γlive [(9, [32, 112, 160])] (by kernel_rfl) [(4, .c (slices_Clone_int_r r2) (slices_Clone_int_n r2) (slices_Clone_int_o l.Stops r2)), (7, .c (slices_Clone_int_r r3) (slices_Clone_int_n r3) (slices_Clone_int_o l.Runs r3))] (.cons (slices_Clone_int_c h2) (.cons (slices_Clone_int_c h3) .nil)) (by kernel_rfl) ?_
  obtain rfl := some_inj hm
  refine Ok_ret ?_
  repeat (first | refine thR ?_ | refine ibR ?_)
  exact X_fin [112, 160] [] (by kernel_rfl) trivial
abbrev slices_Reverse_int_w_r (y : (List Int)) : AV := .tup []
abbrev slices_Reverse_int_w_n (y : (List Int)) : List Obj' := []
abbrev slices_Reverse_int_w_o (x : (List Int)) (y : (List Int)) : List Obj' := [.arr 3 1 (List.map Enc.e y)]
noncomputable def slices_Reverse_int_w_S : FnSpec := modS [some true] (fun x : (List Int) => [.sc undef]) (fun x : (List Int) => [.arr 3 1 (List.map Enc.e x)]) (fun x : (List Int) => slices_Reverse_int_w x) slices_Reverse_int_w_r slices_Reverse_int_w_n slices_Reverse_int_w_o
theorem slices_Reverse_int_w_c {s : List Int} {y : (List Int)} (h : slices_Reverse_int_w s = some y) : CallOK slices_Reverse_int_w_S [.sc undef] [.arr 3 1 (List.map Enc.e s)] (slices_Reverse_int_w_r y) (slices_Reverse_int_w_n y) (slices_Reverse_int_w_o s y) :=
  modS_call (by
    rintro a0 b0 h hO
    simp only [List.cons.injEq, and_true] at h
    try simp only [List.cons.injEq, and_true, Obj'.box.injEq, Obj'.arr.injEq, true_and, AV.dat.injEq] at hO
    have h0 := h
    have g0 := hO
    have q0 := (List.map_inj_right (fun x y => Enc.inj x y)).1 g0
    subst q0; rfl) (x := s) h
theorem slices_Reverse_int_w_ok : FnOK Try.prog 82 slices_Reverse_int_w_S := by
  have Γok : ∀ f S, lookF f [] = some S → FnOK Try.prog f S := lookF_ok allF_nil
  have Γlive : Live (fun f => lookF f []) := lookF_live allL_nil
  refine fnOK_mod ty_ok (fun args w => Try.call82 args w) Try.func82 rfl [] (by rw [Try.results82]) 28 Try.ntmps82 16 rfl (fun _ => by first | exact Nat.zero_le _ | (simp)) (fun _ => rfl) ?_
  rintro s y cx hm hL
  have hm : slices_Reverse_int_w s = some y := hm
  have hL : cx.L = 1 := hL
  unfold slices_Reverse_int_w at hm
  refine X_reg_seq ty_ok Γok hL [(1, .n (s.length : Int))] (.cons (len_m Enc.e s) .nil) (by kernel_rfl) ?_
  refine Ok_block ?_
  refine X_loop (n := 28) (step := slices_Reverse_int_w_L1) (fun ((j, v, s1) : Int × Int × (List Int)) => (⟨[(0, .own 0), (2, .dat (.sc (.int .i64 j))), (3, .dat (.sc (.int .i64 v)))], [(0, some (.arr 3 1 (List.map Enc.e s1)))], 48⟩ : X)) hm (Wk_J hL ⟨[(0, []), (2, []), (3, [])], [(0, 0, [])], [], 48⟩ (by kernel_rfl)) ?_
  rintro ⟨j, v, s1⟩ r0 hm hb
  rw [slices_Reverse_int_w_L1] at hm
  refine Ok_seq ?_
  refine X_reg_seq ty_ok Γok hL [] .nil (by kernel_rfl) ?_
  refine X_cond (decide (j < v)) (by kernel_rfl) (fun hc => ?_) (fun hc => ?_)
  · have hm := it hc hm
    refine X_skip ?_
    refine thN ?_
    refine Ok_seq ?_
    refine Ok_block ?_
    obtain ⟨e4, h4, hm⟩ := obind hm
    obtain ⟨e5, h5, hm⟩ := obind hm
    obtain ⟨e6, h6, hm⟩ := obind hm
    obtain ⟨e7, h7, hm⟩ := obind hm
    refine X_draw mixed ty_ok Γok Γlive [(13, [0]), (15, [0])] (by kernel_rfl) [(6, .d (Enc.e e4)), (7, .d (Enc.e e4)), (10, .d (Enc.e e5)), (11, .d (Enc.e e5)), (12, .d (Enc.e e6)), (13, .sd (Enc.e e6) (List.map Enc.e (s1.set j.toNat e4))), (14, .d (Enc.e e7)), (15, .sd (Enc.e e7) (List.map Enc.e ((s1.set j.toNat e4).set v.toNat e5)))] (.cons (idx_m (f := Enc.e) h4) (.cons (idx_m2 (f := Enc.e) h4) (.cons (idx_m (f := Enc.e) h5) (.cons (idx_m2 (f := Enc.e) h5) (.cons (idx_m (f := Enc.e) h6) (.cons (idx_m2 (f := Enc.e) h6) (.cons (set_m Enc.e s1 j.toNat e4) (.cons (idx_m (f := Enc.e) h7) (.cons (idx_m2 (f := Enc.e) h7) (.cons (set_m Enc.e (s1.set j.toNat e4) v.toNat e5) .nil)))))))))) (by kernel_rfl) ?_
    refine ibN ?_
    refine thN ?_
    refine X_reg ty_ok Γok hL [] .nil (by kernel_rfl) ?_
    obtain rfl := some_inj hm
    exact thN ⟨_, rfl, Wk_J hL ⟨[(0, []), (2, []), (3, [])], [(0, 0, [])], [], 48⟩ (by kernel_rfl)⟩
  · have hm := ie hc hm
    obtain rfl := some_inj hm
    have hm := congrArg some (hb _ rfl)
    refine Ok_exit ?_
    refine thE ?_
    refine thE ?_
    refine ibE ?_
    obtain rfl := some_inj hm
    exact X_fin [] [] (by kernel_rfl) trivial
abbrev slices_Clone_string_r (y : (List ByteArray)) : AV := .own 0
abbrev slices_Clone_string_n (y : (List ByteArray)) : List Obj' := [.arr 9 1 (List.map Enc.e y)]
abbrev slices_Clone_string_o (x : (List ByteArray)) (y : (List ByteArray)) : List Obj' := []
noncomputable def slices_Clone_string_S : FnSpec := modS [none] (fun x : (List ByteArray) => [Enc.e x]) (fun x : (List ByteArray) => []) (fun x : (List ByteArray) => slices_Clone_string x) slices_Clone_string_r slices_Clone_string_n slices_Clone_string_o
theorem slices_Clone_string_c {s : List ByteArray} {y : (List ByteArray)} (h : slices_Clone_string s = some y) : CallOK slices_Clone_string_S [Enc.e s] [] (slices_Clone_string_r y) (slices_Clone_string_n y) (slices_Clone_string_o s y) :=
  modS_call (by
    rintro a0 b0 h hO
    simp only [List.cons.injEq, and_true] at h
    try simp only [List.cons.injEq, and_true, Obj'.box.injEq, Obj'.arr.injEq, true_and, AV.dat.injEq] at hO
    have h0 := h
    have q0 := Enc.inj _ _ h0
    subst q0; rfl) (x := s) h
theorem slices_Clone_string_ok : FnOK Try.prog 115 slices_Clone_string_S := by
  have Γok : ∀ f S, lookF f [] = some S → FnOK Try.prog f S := lookF_ok allF_nil
  have Γlive : Live (fun f => lookF f []) := lookF_live allL_nil
  refine fnOK_mod ty_ok (fun args w => Try.call115 args w) Try.func115 rfl [.tmp 2] (by rw [Try.results115]) 8 Try.ntmps115 16 rfl (fun _ => by first | exact Nat.zero_le _ | (simp)) (fun _ => rfl) ?_
  rintro s y cx hm hL
  have hm : slices_Clone_string s = some y := hm
  have hL : cx.L = 0 := hL
  unfold slices_Clone_string at hm
  obtain ⟨u, h, hm⟩ := obind hm
  obtain rfl := some_inj hm
  refine X_reg_seq ty_ok Γok hL [] .nil (by kernel_rfl) ?_
  refine Ok_seq ?_
  refine X_nil_seq ty_ok Γok 1 (ds := List.map Enc.e s) (es := 1) [] .nil (by kernel_rfl) (by rfl) (by rfl) (by kernel_rfl) ?_
  intro b hb
  refine X_cond b (by kernel_rfl) (fun hc => ?_) (fun hc => ?_)
  · have hl : s = [] := by
      cases s with
      | nil => rfl
      | cons a r => have := hb (by simp); rw [hc] at this; cases this
    subst hl
    refine X_reg_seq ty_ok Γok hL [] .nil (by kernel_rfl) ?_
    refine Ok_weak (Wk_J (x' := ⟨[(2, .own 16)], [(16, some (.arr 9 1 []))], 32⟩) hL ⟨[(2, [.o 16])], [], [(16, 9, 1, [])], 32⟩ (by kernel_rfl)) ?_
    refine Ok_ret ?_
    repeat (first | refine thR ?_ | refine ibR ?_)
    exact X_fin [16] [] (by kernel_rfl) trivial
  · refine X_skip ?_
    refine thN ?_
    refine X_reg_seq ty_ok Γok hL [(2, .l (List.map Enc.e (([] : List ByteArray) ++ s)))] (.cons (app_p (f := Enc.e) (g := Enc.e) (l := ([] : List ByteArray)) (r := s) (b := 16) (chk_t h) rfl) (.cons (app_m Enc.e ([] : List ByteArray) s) .nil)) (by kernel_rfl) ?_
    refine Ok_ret ?_
    repeat (first | refine thR ?_ | refine ibR ?_)
    exact X_fin [96] [] (by kernel_rfl) trivial
abbrev i_copyLine_f_r (y : Line) : AV := .dat (Enc.e y)
abbrev i_copyLine_f_n (y : Line) : List Obj' := []
abbrev i_copyLine_f_o (x : Line) (y : Line) : List Obj' := []
noncomputable def i_copyLine_f_S : FnSpec := modS [none] (fun x : Line => [Enc.e x]) (fun x : Line => []) (fun x : Line => i_copyLine_f x) i_copyLine_f_r i_copyLine_f_n i_copyLine_f_o
theorem i_copyLine_f_c {l : Line} {y : Line} (h : i_copyLine_f l = some y) : CallOK i_copyLine_f_S [Enc.e l] [] (i_copyLine_f_r y) (i_copyLine_f_n y) (i_copyLine_f_o l y) :=
  modS_call (by
    rintro a0 b0 h hO
    simp only [List.cons.injEq, and_true] at h
    try simp only [List.cons.injEq, and_true, Obj'.box.injEq, Obj'.arr.injEq, true_and, AV.dat.injEq] at hO
    have h0 := h
    have q0 := Enc.inj _ _ h0
    subst q0; rfl) (x := l) h
theorem i_copyLine_f_ok : FnOK Try.prog 81 i_copyLine_f_S := by
  have Γok : ∀ f S, lookF f [(52, slices_Clone_int_S)] = some S → FnOK Try.prog f S := lookF_ok (allF_cons slices_Clone_int_ok allF_nil)
  have Γlive : Live (fun f => lookF f [(52, slices_Clone_int_S)]) := lookF_live (allL_cons modS_live allL_nil)
  refine fnOK_mod ty_ok (fun args w => Try.call81 args w) Try.func81 rfl [.cell 2 74] (by rw [Try.results81]) 12 Try.ntmps81 16 rfl (fun _ => by first | exact Nat.zero_le _ | (simp)) (fun _ => rfl) ?_
  rintro l y cx hm hL
  have hm : i_copyLine_f l = some y := hm
  have hL : cx.L = 0 := hL
  unfold i_copyLine_f at hm
  refine X_reg_seq ty_ok Γok hL [] .nil (by kernel_rfl) ?_
  obtain ⟨r2, h2, hm⟩ := obind hm
  obtain ⟨r3, h3, hm⟩ := obind hm
  refine X_draw_seq mixed ty_ok Γok Γlive [(9, [32, 112, 160])] (by kernel_rfl) [(4, .c (slices_Clone_int_r r2) (slices_Clone_int_n r2) (slices_Clone_int_o l.Stops r2)), (7, .c (slices_Clone_int_r r3) (slices_Clone_int_n r3) (slices_Clone_int_o l.Runs r3))] (.cons (slices_Clone_int_c h2) (.cons (slices_Clone_int_c h3) .nil)) (by kernel_rfl) ?_
  obtain rfl := some_inj hm
  refine Ok_ret ?_
  repeat (first | refine thR ?_ | refine ibR ?_)
  exact X_fin [] [] (by kernel_rfl) trivial
abbrev i_copyNetwork_r (y : Network) : AV := .aggv [.own 0, .own 1]
abbrev i_copyNetwork_n (y : Network) : List Obj' := [.arr 9 1 (List.map Enc.e y.Stops), .arr 74 3 (List.map Enc.e y.Lines)]
abbrev i_copyNetwork_o (x : Network) (y : Network) : List Obj' := []
noncomputable def i_copyNetwork_S : FnSpec := modS [none] (fun x : Network => [Enc.e x]) (fun x : Network => []) (fun x : Network => i_copyNetwork x) i_copyNetwork_r i_copyNetwork_n i_copyNetwork_o
theorem i_copyNetwork_c {n : Network} {y : Network} (h : i_copyNetwork n = some y) : CallOK i_copyNetwork_S [Enc.e n] [] (i_copyNetwork_r y) (i_copyNetwork_n y) (i_copyNetwork_o n y) :=
  modS_call (by
    rintro a0 b0 h hO
    simp only [List.cons.injEq, and_true] at h
    try simp only [List.cons.injEq, and_true, Obj'.box.injEq, Obj'.arr.injEq, true_and, AV.dat.injEq] at hO
    have h0 := h
    have q0 := Enc.inj _ _ h0
    subst q0; rfl) (x := n) h
theorem i_copyNetwork_ok : FnOK Try.prog 83 i_copyNetwork_S := by
  have Γok : ∀ f S, lookF f [(115, slices_Clone_string_S), (81, i_copyLine_f_S)] = some S → FnOK Try.prog f S := lookF_ok (allF_cons slices_Clone_string_ok (allF_cons i_copyLine_f_ok allF_nil))
  have Γlive : Live (fun f => lookF f [(115, slices_Clone_string_S), (81, i_copyLine_f_S)]) := lookF_live (allL_cons modS_live (allL_cons modS_live allL_nil))
  refine fnOK_mod ty_ok (fun args w => Try.call83 args w) Try.func83 rfl [.cell 2 66] (by rw [Try.results83]) 30 Try.ntmps83 16 rfl (fun _ => by first | exact Nat.zero_le _ | (simp)) (fun _ => rfl) ?_
  rintro n y cx hm hL
  have hm : i_copyNetwork n = some y := hm
  have hL : cx.L = 0 := hL
  unfold i_copyNetwork at hm
  refine X_reg_seq ty_ok Γok hL [] .nil (by kernel_rfl) ?_
  obtain ⟨r1, h2, hm⟩ := obind hm
  obtain ⟨u1, h3, hm⟩ := obind hm
  refine X_draw_seq mixed ty_ok Γok Γlive [(9, [80, 144, 176])] (by kernel_rfl) [(2, .c (slices_Clone_string_r r1) (slices_Clone_string_n r1) (slices_Clone_string_o n.Stops r1)), (5, .n (n.Lines.length : Int)), (6, .l (List.map Enc.e (List.replicate (n.Lines.length : Int).toNat ((⟨ByteArray.empty, ([] : List Int), ([] : List Int)⟩ : Line) : Line))))] (.cons (slices_Clone_string_c h2) (.cons (len_m Enc.e n.Lines) (.cons (mk_p (b := 64) (chk_t h3) rfl) (.cons (rep_m Enc.e (n.Lines.length : Int).toNat ((⟨ByteArray.empty, ([] : List Int), ([] : List Int)⟩ : Line) : Line)) .nil)))) (by kernel_rfl) ?_
  refine Ok_seq ?_
  refine X_reg_seq ty_ok Γok hL [(2, .n (n.Lines.length : Int))] (.cons (len_m Enc.e n.Lines) .nil) (by kernel_rfl) ?_
  obtain ⟨v2, hv, hk⟩ := obind hm
  refine X_tail (n := 30) (fun (v2 : List Line) => (⟨[(2, .ref 16 0), (3, .ref 32 0)], [(16, some (.box [.dat (.sc (.slice none 0 0)), .dat (.sc (.slice none 0 0))])), (32, some (.box [.own 48, .own 64])), (48, some (.arr 9 1 (List.map Enc.e r1))), (64, some (.arr 74 3 (List.map Enc.e v2)))], 96⟩ : X)) v2 ?_ ?_
  · have hm := hv
    refine Ok_block ?_
    refine X_loop (n := 30) (step := i_copyNetwork_L1 n) (fun ((v, v1) : Int × (List Line)) => (⟨[(2, .ref 16 0), (3, .ref 32 0), (15, .dat (Enc.e n.Lines)), (16, .dat (.sc (.int .i64 (n.Lines.length : Int)))), (17, .dat (.sc (.int .i64 v)))], [(16, some (.box [.dat (.sc (.slice none 0 0)), .dat (.sc (.slice none 0 0))])), (32, some (.box [.own 48, .own 64])), (48, some (.arr 9 1 (List.map Enc.e r1))), (64, some (.arr 74 3 (List.map Enc.e v1)))], 96⟩ : X)) hm (Wk_J hL ⟨[(2, []), (3, []), (15, []), (16, []), (17, [])], [(16, 32, []), (32, 176, []), (48, 80, []), (64, 144, [])], [], 96⟩ (by kernel_rfl)) ?_
    rintro ⟨v, v1⟩ r0 hm hb
    rw [i_copyNetwork_L1] at hm
    refine X_reg_seq ty_ok Γok hL [] .nil (by kernel_rfl) ?_
    refine Ok_seq ?_
    refine X_cond (decide (v < (n.Lines.length : Int))) (by kernel_rfl) (fun hc => ?_) (fun hc => ?_)
    · have hm := it hc hm
      refine X_skip ?_
      refine thN ?_
      refine Ok_seq ?_
      refine Ok_block ?_
      obtain ⟨e, h4, hm⟩ := obind hm
      refine X_reg_seq ty_ok Γok hL [(1, .d (Enc.e e))] (.cons (idx_m (f := Enc.e) h4) .nil) (by kernel_rfl) ?_
      obtain ⟨r3, h7, hm⟩ := obind hm
      obtain ⟨e2, h8, hm⟩ := obind hm
      refine X_draw mixed ty_ok Γok Γlive [(6, [64])] (by kernel_rfl) [(4, .c (i_copyLine_f_r r3) (i_copyLine_f_n r3) (i_copyLine_f_o e r3)), (5, .d (Enc.e e2)), (6, .sd (Enc.e e2) (List.map Enc.e (v1.set v.toNat r3)))] (.cons (i_copyLine_f_c h7) (.cons (idx_m (f := Enc.e) h8) (.cons (idx_m2 (f := Enc.e) h8) (.cons (set_m Enc.e v1 v.toNat r3) .nil)))) (by kernel_rfl) ?_
      refine ibN ?_
      refine thN ?_
      refine X_reg ty_ok Γok hL [] .nil (by kernel_rfl) ?_
      obtain rfl := some_inj hm
      exact thN ⟨_, rfl, Wk_J hL ⟨[(2, []), (3, []), (15, []), (16, []), (17, [])], [(16, 16, []), (32, 32, []), (48, 48, []), (64, 64, [])], [], 96⟩ (by kernel_rfl)⟩
    · have hm := ie hc hm
      obtain rfl := some_inj hm
      obtain rfl := hb _ rfl
      refine Ok_exit ?_
      refine thE ?_
      refine thE ?_
      refine ibE ?_
      exact thN (Wk_J hL ⟨[(2, []), (3, [])], [(16, 16, []), (32, 32, []), (48, 48, []), (64, 64, [])], [], 96⟩ (by kernel_rfl))
  intro s hw
  have hm := hk
  refine thN ?_
  refine Ok_weak hw ?_
  refine X_reg_seq ty_ok Γok hL [] .nil (by kernel_rfl) ?_
  obtain rfl := some_inj hm
  refine Ok_ret ?_
  repeat (first | refine thR ?_ | refine ibR ?_)
  exact X_fin [48, 64] [] (by kernel_rfl) trivial
end Go.Proofs.Ytmpgpfekekobfaa
