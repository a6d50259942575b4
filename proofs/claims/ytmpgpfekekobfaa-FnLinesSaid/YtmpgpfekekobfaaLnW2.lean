/- Each function computes what its model says. Made by program (dec.py). -/
import Derived.Test.YtmpgpfekekobfaaLnW1
namespace Go.Proofs.Ytmpgpfekekobfaa
open Go Go.Ab
set_option maxRecDepth 100000
set_option maxHeartbeats 4000000
set_option linter.unusedVariables false
set_option linter.unusedSimpArgs false
abbrev i_ReverseLine_r (y : Network × Bool) : AV := .tup [.dat (Enc.e y.1), .dat (Enc.e y.2)]
abbrev i_ReverseLine_n (y : Network × Bool) : List Obj' := []
abbrev i_ReverseLine_o (x : Network × Int × ByteArray) (y : Network × Bool) : List Obj' := []
noncomputable def i_ReverseLine_S : FnSpec := modS [none, none, none] (fun x : Network × Int × ByteArray => [Enc.e x.1, Enc.e x.2.1, Enc.e x.2.2]) (fun x : Network × Int × ByteArray => []) (fun x : Network × Int × ByteArray => i_ReverseLine x.1 x.2.1 x.2.2) i_ReverseLine_r i_ReverseLine_n i_ReverseLine_o
theorem i_ReverseLine_c {n : Network} {line : Int} {name : ByteArray} {y : Network × Bool} (h : i_ReverseLine n line name = some y) : CallOK i_ReverseLine_S [Enc.e n, Enc.e line, Enc.e name] [] (i_ReverseLine_r y) (i_ReverseLine_n y) (i_ReverseLine_o (n, line, name) y) :=
  modS_call (by
    rintro ⟨a0, a1, a2⟩ ⟨b0, b1, b2⟩ h hO
    simp only [List.cons.injEq, and_true] at h
    try simp only [List.cons.injEq, and_true, Obj'.box.injEq, Obj'.arr.injEq, true_and, AV.dat.injEq] at hO
    obtain ⟨h0, h1, h2⟩ := h
    have q0 := Enc.inj _ _ h0
    have q1 := Enc.inj _ _ h1
    have q2 := Enc.inj _ _ h2
    subst q0; subst q1; subst q2; rfl) (x := (n, line, name)) h
theorem i_ReverseLine_ok : FnOK Try.prog 32 i_ReverseLine_S := by
  have Γok : ∀ f S, lookF f [(35, i_IsValidNetwork_S), (80, i_isLine_S), (81, i_copyLine_S), (82, slices_Reverse_int_w_S), (83, i_copyNetwork_S)] = some S → FnOK Try.prog f S := lookF_ok (allF_cons i_IsValidNetwork_ok (allF_cons i_isLine_ok (allF_cons i_copyLine_ok (allF_cons slices_Reverse_int_w_ok (allF_cons i_copyNetwork_ok allF_nil)))))
  have Γlive : Live (fun f => lookF f [(35, i_IsValidNetwork_S), (80, i_isLine_S), (81, i_copyLine_S), (82, slices_Reverse_int_w_S), (83, i_copyNetwork_S)]) := lookF_live (allL_cons modS_live (allL_cons modS_live (allL_cons modS_live (allL_cons modS_live (allL_cons modS_live allL_nil)))))
  refine fnOK_mod ty_ok (fun args w => Try.call32 args w) Try.func32 rfl [.cell 6 66, .tmp 7] (by rw [Try.results32]) 47 Try.ntmps32 16 rfl (fun _ => by first | exact Nat.zero_le _ | (simp)) (fun _ => rfl) ?_
  rintro ⟨n, line, name⟩ y cx hm hL
  have hm : i_ReverseLine n line name = some y := hm
  have hL : cx.L = 0 := hL
  unfold i_ReverseLine at hm
  refine X_reg_seq ty_ok Γok hL [] .nil (by kernel_rfl) ?_
  refine Ok_seq ?_
  obtain ⟨r, h, hm⟩ := obind hm
  obtain ⟨v, hv, hk⟩ := obind hm
  refine X_join (n := 47) (fun (v : Bool) => (⟨[(1, .dat (.sc (.int .i64 line))), (2, .dat (.sc (.string name))), (3, .ref 16 0), (6, .ref 32 0), (18, .dat (.sc (.bool v)))], [(16, some (.box [.dat (Enc.e n.Stops), .dat (Enc.e n.Lines)])), (32, some (.box [.dat (.sc (.slice none 0 0)), .dat (.sc (.slice none 0 0))]))], 64⟩ : X)) v ?_ ?_
  · have hm := hv
    rcases btf (!r) with hb | hb
    · have hm := it hb hm
      obtain rfl := some_inj hm
      refine X_reg ty_ok Γok hL [(1, .c (i_IsValidNetwork_r r) (i_IsValidNetwork_n r) (i_IsValidNetwork_o n r)), (3, .b true)] (.cons (i_IsValidNetwork_c h) (.cons hb .nil)) (by kernel_rfl) ?_
      exact thN (Wk_J hL ⟨[(1, []), (2, []), (3, []), (6, []), (18, [])], [(16, 16, []), (32, 32, [])], [], 64⟩ (by kernel_rfl))
    · have hm := ie hb hm
      obtain ⟨r1, h1, hm⟩ := obind hm
      obtain rfl := some_inj hm
      refine X_reg ty_ok Γok hL [(1, .c (i_IsValidNetwork_r r) (i_IsValidNetwork_n r) (i_IsValidNetwork_o n r)), (3, .b false), (6, .c (i_isLine_r r1) (i_isLine_n r1) (i_isLine_o (n, line) r1))] (.cons (i_IsValidNetwork_c h) (.cons hb (.cons (i_isLine_c h1) .nil))) (by kernel_rfl) ?_
      exact thN (Wk_J hL ⟨[(1, []), (2, []), (3, []), (6, []), (18, [])], [(16, 16, []), (32, 32, [])], [], 64⟩ (by kernel_rfl))
  have hm := hk
  refine X_cond v (by kernel_rfl) (fun hc => ?_) (fun hc => ?_)
  · have hm := it hc hm
    refine X_reg_seq ty_ok Γok hL [] .nil (by kernel_rfl) ?_
    obtain rfl := some_inj hm
    refine Ok_ret ?_
    repeat (first | refine thR ?_ | refine ibR ?_)
    exact X_fin [] [[.z 1, .z 3]] (by kernel_rfl) trivial
  · have hm := ie hc hm
    refine X_skip ?_
    refine thN ?_
    obtain ⟨e, h2, hm⟩ := obind hm
    obtain ⟨r2, h3, hm⟩ := obind hm
    refine X_reg_seq ty_ok Γok hL [(3, .d (Enc.e e)), (5, .c (i_copyLine_r r2) (i_copyLine_n r2) (i_copyLine_o e r2))] (.cons (idx_m (f := Enc.e) h2) (.cons (i_copyLine_c h3) .nil)) (by kernel_rfl) ?_
    refine X_reg_seq ty_ok Γok hL [] .nil (by kernel_rfl) ?_
    obtain ⟨r3, h4, hm⟩ := obind hm
    refine X_reg_seq ty_ok Γok hL [(2, .c (slices_Reverse_int_w_r r3) (slices_Reverse_int_w_n r3) (slices_Reverse_int_w_o r2.Stops r3))] (.cons (slices_Reverse_int_w_c h4) .nil) (by kernel_rfl) ?_
    obtain ⟨r4, h5, hm⟩ := obind hm
    refine X_reg_seq ty_ok Γok hL [(2, .c (slices_Reverse_int_w_r r4) (slices_Reverse_int_w_n r4) (slices_Reverse_int_w_o r2.Runs r4))] (.cons (slices_Reverse_int_w_c h5) .nil) (by kernel_rfl) ?_
    obtain ⟨r5, h6, hm⟩ := obind hm
    refine X_reg_seq ty_ok Γok hL [(1, .c (i_copyNetwork_r r5) (i_copyNetwork_n r5) (i_copyNetwork_o n r5))] (.cons (i_copyNetwork_c h6) .nil) (by kernel_rfl) ?_
    obtain ⟨u, h7, hm⟩ := obind hm
    refine X_reg_seq ty_ok Γok hL [(3, .fz [144, 145] [] []), (4, .l (List.map Enc.e (r5.Lines ++ ([(⟨name, r3, r4⟩ : Line)] : List Line))))] (.cons (app_p (f := Enc.e) (g := Enc.e) (l := r5.Lines) (r := ([(⟨name, r3, r4⟩ : Line)] : List Line)) (b := 64) (chk_t h7) rfl) (.cons (app_m Enc.e r5.Lines ([(⟨name, r3, r4⟩ : Line)] : List Line)) .nil)) (by kernel_rfl) ?_
    refine Ok_seq ?_
    obtain ⟨r6, h8, hm⟩ := obind hm
    refine X_reg_seq ty_ok Γok hL [(1, .c (i_IsValidNetwork_r r6) (i_IsValidNetwork_n r6) (i_IsValidNetwork_o (⟨r5.Stops, (r5.Lines ++ ([(⟨name, r3, r4⟩ : Line)] : List Line))⟩ : Network) r6))] (.cons (i_IsValidNetwork_c h8) .nil) (by kernel_rfl) ?_
    refine X_cond (!r6) (by kernel_rfl) (fun hc1 => ?_) (fun hc1 => ?_)
    · have hm := it hc1 hm
      refine X_reg_seq ty_ok Γok hL [] .nil (by kernel_rfl) ?_
      obtain rfl := some_inj hm
      refine Ok_ret ?_
      repeat (first | refine thR ?_ | refine ibR ?_)
      exact X_fin [] [[.z 1, .z 3]] (by kernel_rfl) trivial
    · have hm := ie hc1 hm
      refine X_skip ?_
      refine thN ?_
      refine X_reg_seq ty_ok Γok hL [] .nil (by kernel_rfl) ?_
      obtain rfl := some_inj hm
      refine Ok_ret ?_
      repeat (first | refine thR ?_ | refine ibR ?_)
      exact X_fin [] [] (by kernel_rfl) trivial
abbrev s_l1In_r (y : Bool) : AV := .dat (Enc.e y)
abbrev s_l1In_n (y : Bool) : List Obj' := []
abbrev s_l1In_o (x : Int × Int × Int) (y : Bool) : List Obj' := []
noncomputable def s_l1In_S : FnSpec := modS [none, none, none] (fun x : Int × Int × Int => [Enc.e x.1, Enc.e x.2.1, Enc.e x.2.2]) (fun x : Int × Int × Int => []) (fun x : Int × Int × Int => s_l1In x.1 x.2.1 x.2.2) s_l1In_r s_l1In_n s_l1In_o
theorem s_l1In_c {x : Int} {a : Int} {b : Int} {y : Bool} (h : s_l1In x a b = some y) : CallOK s_l1In_S [Enc.e x, Enc.e a, Enc.e b] [] (s_l1In_r y) (s_l1In_n y) (s_l1In_o (x, a, b) y) :=
  modS_call (by
    rintro ⟨a0, a1, a2⟩ ⟨b0, b1, b2⟩ h hO
    simp only [List.cons.injEq, and_true] at h
    try simp only [List.cons.injEq, and_true, Obj'.box.injEq, Obj'.arr.injEq, true_and, AV.dat.injEq] at hO
    obtain ⟨h0, h1, h2⟩ := h
    have q0 := Enc.inj _ _ h0
    have q1 := Enc.inj _ _ h1
    have q2 := Enc.inj _ _ h2
    subst q0; subst q1; subst q2; rfl) (x := (x, a, b)) h
theorem s_l1In_ok : FnOK Try.prog 56 s_l1In_S := by
  have Γok : ∀ f S, lookF f [] = some S → FnOK Try.prog f S := lookF_ok allF_nil
  have Γlive : Live (fun f => lookF f []) := lookF_live allL_nil
  refine fnOK_mod ty_ok (fun args w => Try.call56 args w) Try.func56 rfl [.tmp 6] (by rw [Try.results56]) 15 Try.ntmps56 16 rfl (fun _ => by first | exact Nat.zero_le _ | (simp)) (fun _ => rfl) ?_
  rintro ⟨x, a, b⟩ y cx hm hL
  have hm : s_l1In x a b = some y := hm
  have hL : cx.L = 0 := hL
  unfold s_l1In at hm
  refine X_reg_seq ty_ok Γok hL [] .nil (by kernel_rfl) ?_
  obtain ⟨v, hv, hk⟩ := obind hm
  refine X_join (n := 15) (fun (v : Bool) => (⟨[(6, .dat (.sc (.bool v)))], [], 32⟩ : X)) v ?_ ?_
  · have hm := hv
    rcases btf (decide (a ≤ x)) with hb | hb
    · have hm := it hb hm
      obtain rfl := some_inj hm
      refine X_reg ty_ok Γok hL [(3, .b true)] (.cons hb .nil) (by kernel_rfl) ?_
      exact thN (Wk_J hL ⟨[(6, [])], [], [], 32⟩ (by kernel_rfl))
    · have hm := ie hb hm
      obtain rfl := some_inj hm
      refine X_reg ty_ok Γok hL [(3, .b false)] (.cons hb .nil) (by kernel_rfl) ?_
      exact thN (Wk_J hL ⟨[(6, [])], [], [], 32⟩ (by kernel_rfl))
  have hm := hk
  obtain rfl := some_inj hm
  refine Ok_ret ?_
  repeat (first | refine thR ?_ | refine ibR ?_)
  exact X_fin [] [] (by kernel_rfl) trivial
abbrev s_l2Name_r (y : Bool) : AV := .dat (Enc.e y)
abbrev s_l2Name_n (y : Bool) : List Obj' := []
abbrev s_l2Name_o (x : ByteArray) (y : Bool) : List Obj' := []
noncomputable def s_l2Name_S : FnSpec := modS [none] (fun x : ByteArray => [Enc.e x]) (fun x : ByteArray => []) (fun x : ByteArray => s_l2Name x) s_l2Name_r s_l2Name_n s_l2Name_o
theorem s_l2Name_c {s : ByteArray} {y : Bool} (h : s_l2Name s = some y) : CallOK s_l2Name_S [Enc.e s] [] (s_l2Name_r y) (s_l2Name_n y) (s_l2Name_o s y) :=
  modS_call (by
    rintro a0 b0 h hO
    simp only [List.cons.injEq, and_true] at h
    try simp only [List.cons.injEq, and_true, Obj'.box.injEq, Obj'.arr.injEq, true_and, AV.dat.injEq] at hO
    have h0 := h
    have q0 := Enc.inj _ _ h0
    subst q0; rfl) (x := s) h
theorem s_l2Name_ok : FnOK Try.prog 116 s_l2Name_S := by
  have Γok : ∀ f S, lookF f [(56, s_l1In_S)] = some S → FnOK Try.prog f S := lookF_ok (allF_cons s_l1In_ok allF_nil)
  have Γlive : Live (fun f => lookF f [(56, s_l1In_S)]) := lookF_live (allL_cons modS_live allL_nil)
  refine fnOK_mod ty_ok (fun args w => Try.call116 args w) Try.func116 rfl [.tmp 2] (by rw [Try.results116]) 46 Try.ntmps116 16 rfl (fun _ => by first | exact Nat.zero_le _ | (simp)) (fun _ => rfl) ?_
  rintro s y cx hm hL
  have hm : s_l2Name s = some y := hm
  have hL : cx.L = 0 := hL
  unfold s_l2Name at hm
  refine X_reg_seq ty_ok Γok hL [] .nil (by kernel_rfl) ?_
  refine Ok_seq ?_
  obtain ⟨r, h, hm⟩ := obind hm
  obtain ⟨v, hv, hk⟩ := obind hm
  refine X_join (n := 46) (fun (v : Bool) => (⟨[(0, .dat (.sc (.string s))), (17, .dat (.sc (.bool v)))], [], 32⟩ : X)) v ?_ ?_
  · have hm := hv
    rcases btf (!r) with hb | hb
    · have hm := it hb hm
      obtain rfl := some_inj hm
      refine X_reg ty_ok Γok hL [(2, .c (s_l1In_r r) (s_l1In_n r) (s_l1In_o ((s.size : Int), 1, 8) r)), (4, .b true)] (.cons (s_l1In_c h) (.cons hb .nil)) (by kernel_rfl) ?_
      exact thN (Wk_J hL ⟨[(0, []), (17, [])], [], [], 32⟩ (by kernel_rfl))
    · have hm := ie hb hm
      obtain ⟨u, h1, hm⟩ := obind hm
      rcases btf (decide (((s.data.toList.getD (0 : Int).toNat 0).toNat : Int) < 97)) with hb1 | hb1
      · have hm := it hb1 hm
        obtain rfl := some_inj hm
        refine X_reg ty_ok Γok hL [(2, .c (s_l1In_r r) (s_l1In_n r) (s_l1In_o ((s.size : Int), 1, 8) r)), (4, .b false), (9, .b true)] (.cons (s_l1In_c h) (.cons hb (.cons (chk_t h1) (.cons hb1 .nil)))) (by kernel_rfl) ?_
        exact thN (Wk_J hL ⟨[(0, []), (17, [])], [], [], 32⟩ (by kernel_rfl))
      · have hm := ie hb1 hm
        obtain ⟨u1, h2, hm⟩ := obind hm
        obtain rfl := some_inj hm
        refine X_reg ty_ok Γok hL [(2, .c (s_l1In_r r) (s_l1In_n r) (s_l1In_o ((s.size : Int), 1, 8) r)), (4, .b false), (9, .b false)] (.cons (s_l1In_c h) (.cons hb (.cons (chk_t h1) (.cons hb1 (.cons (chk_t h2) .nil))))) (by kernel_rfl) ?_
        exact thN (Wk_J hL ⟨[(0, []), (17, [])], [], [], 32⟩ (by kernel_rfl))
  have hm := hk
  refine X_cond v (by kernel_rfl) (fun hc => ?_) (fun hc => ?_)
  · have hm := it hc hm
    refine X_reg_seq ty_ok Γok hL [] .nil (by kernel_rfl) ?_
    obtain rfl := some_inj hm
    refine Ok_ret ?_
    repeat (first | refine thR ?_ | refine ibR ?_)
    exact X_fin [] [] (by kernel_rfl) trivial
  · have hm := ie hc hm
    refine X_skip ?_
    refine thN ?_
    refine Ok_seq ?_
    refine X_reg_seq ty_ok Γok hL [] .nil (by kernel_rfl) ?_
    obtain ⟨v3, hv2, hr, hk2⟩ := flb_t hm
    refine X_tailF (n := 46) (fun (_ : Unit) => (⟨[], [], 32⟩ : X)) v3 ?_ ?_
    · have hm := hv2
      refine Ok_block ?_
      refine X_loop (n := 46) (step := s_l2Name_L1 s) (fun (v1 : Int) => (⟨[(0, .dat (.sc (.string s))), (3, .dat (.sc (.int .i64 v1)))], [], 32⟩ : X)) hm (Wk_J hL ⟨[(0, []), (3, [])], [], [], 32⟩ (by kernel_rfl)) ?_
      rintro v1 r0 hm hb2
      rw [s_l2Name_L1] at hm
      refine Ok_seq ?_
      refine X_reg_seq ty_ok Γok hL [] .nil (by kernel_rfl) ?_
      refine X_cond (decide (v1 < (s.size : Int))) (by kernel_rfl) (fun hc1 => ?_) (fun hc1 => ?_)
      · have hm := it hc1 hm
        refine X_skip ?_
        refine thN ?_
        refine Ok_seq ?_
        refine Ok_block ?_
        obtain ⟨u2, h3, hm⟩ := obind hm
        obtain ⟨v2, hv1, hk1⟩ := obind hm
        refine X_join (n := 46) (fun (v2 : Bool) => (⟨[(0, .dat (.sc (.string s))), (3, .dat (.sc (.int .i64 v1))), (45, .dat (.sc (.bool v2)))], [], 32⟩ : X)) v2 ?_ ?_
        · have hm := hv1
          rcases btf (decide (((s.data.toList.getD v1.toNat 0).toNat : Int) < 97)) with hb3 | hb3
          · have hm := it hb3 hm
            obtain ⟨u3, h4, hm⟩ := obind hm
            rcases btf (decide (((s.data.toList.getD v1.toNat 0).toNat : Int) < 48)) with hb4 | hb4
            · have hm := it hb4 hm
              obtain rfl := some_inj hm
              refine X_reg ty_ok Γok hL [(4, .b true), (15, .b true)] (.cons (chk_t h3) (.cons hb3 (.cons (chk_t h4) (.cons hb4 .nil)))) (by kernel_rfl) ?_
              exact thN (Wk_J hL ⟨[(0, []), (3, []), (45, [])], [], [], 32⟩ (by kernel_rfl))
            · have hm := ie hb4 hm
              obtain ⟨u4, h5, hm⟩ := obind hm
              obtain rfl := some_inj hm
              refine X_reg ty_ok Γok hL [(4, .b true), (15, .b false)] (.cons (chk_t h3) (.cons hb3 (.cons (chk_t h4) (.cons hb4 (.cons (chk_t h5) .nil))))) (by kernel_rfl) ?_
              exact thN (Wk_J hL ⟨[(0, []), (3, []), (45, [])], [], [], 32⟩ (by kernel_rfl))
          · have hm := ie hb3 hm
            obtain ⟨u5, h6, hm⟩ := obind hm
            rcases btf (decide (122 < ((s.data.toList.getD v1.toNat 0).toNat : Int))) with hb5 | hb5
            · have hm := it hb5 hm
              obtain ⟨u6, h7, hm⟩ := obind hm
              rcases btf (decide (((s.data.toList.getD v1.toNat 0).toNat : Int) < 48)) with hb6 | hb6
              · have hm := it hb6 hm
                obtain rfl := some_inj hm
                refine X_reg ty_ok Γok hL [(4, .b false), (10, .b true), (15, .b true)] (.cons (chk_t h3) (.cons hb3 (.cons (chk_t h6) (.cons hb5 (.cons (chk_t h7) (.cons hb6 .nil)))))) (by kernel_rfl) ?_
                exact thN (Wk_J hL ⟨[(0, []), (3, []), (45, [])], [], [], 32⟩ (by kernel_rfl))
              · have hm := ie hb6 hm
                obtain ⟨u7, h8, hm⟩ := obind hm
                obtain rfl := some_inj hm
                refine X_reg ty_ok Γok hL [(4, .b false), (10, .b true), (15, .b false)] (.cons (chk_t h3) (.cons hb3 (.cons (chk_t h6) (.cons hb5 (.cons (chk_t h7) (.cons hb6 (.cons (chk_t h8) .nil))))))) (by kernel_rfl) ?_
                exact thN (Wk_J hL ⟨[(0, []), (3, []), (45, [])], [], [], 32⟩ (by kernel_rfl))
            · have hm := ie hb5 hm
              obtain rfl := some_inj hm
              refine X_reg ty_ok Γok hL [(4, .b false), (10, .b false)] (.cons (chk_t h3) (.cons hb3 (.cons (chk_t h6) (.cons hb5 .nil)))) (by kernel_rfl) ?_
              exact thN (Wk_J hL ⟨[(0, []), (3, []), (45, [])], [], [], 32⟩ (by kernel_rfl))
        have hm := hk1
        refine X_cond v2 (by kernel_rfl) (fun hc2 => ?_) (fun hc2 => ?_)
        · have hm := it hc2 hm
          refine X_reg_seq ty_ok Γok hL [] .nil (by kernel_rfl) ?_
          obtain rfl := some_inj hm
          obtain rfl := hb2 _ rfl
          have hm := congrArg some (hr _ rfl)
          obtain rfl := some_inj hm
          refine Ok_ret ?_
          repeat (first | refine thR ?_ | refine ibR ?_)
          exact X_fin [] [] (by kernel_rfl) trivial
        · have hm := ie hc2 hm
          refine X_skip ?_
          refine ibN ?_
          refine thN ?_
          refine X_reg ty_ok Γok hL [] .nil (by kernel_rfl) ?_
          obtain rfl := some_inj hm
          exact thN ⟨_, rfl, Wk_J hL ⟨[(0, []), (3, [])], [], [], 32⟩ (by kernel_rfl)⟩
      · have hm := ie hc1 hm
        obtain rfl := some_inj hm
        obtain rfl := hb2 _ rfl
        refine Ok_exit ?_
        refine thE ?_
        refine thE ?_
        refine ibE ?_
        exact thN ⟨_, rfl, Wk_J hL ⟨[], [], [], 32⟩ (by kernel_rfl)⟩
    rintro ⟨⟩ hu s1 hw
    have hm := hk2 _ hu
    refine thN ?_
    refine Ok_weak hw ?_
    refine X_reg_seq ty_ok Γok hL [] .nil (by kernel_rfl) ?_
    obtain rfl := some_inj hm
    refine Ok_ret ?_
    repeat (first | refine thR ?_ | refine ibR ?_)
    exact X_fin [] [] (by kernel_rfl) trivial
abbrev s_l2Find_r (y : Int) : AV := .dat (Enc.e y)
abbrev s_l2Find_n (y : Int) : List Obj' := []
abbrev s_l2Find_o (x : (List ByteArray) × ByteArray) (y : Int) : List Obj' := []
noncomputable def s_l2Find_S : FnSpec := modS [none, none] (fun x : (List ByteArray) × ByteArray => [Enc.e x.1, Enc.e x.2]) (fun x : (List ByteArray) × ByteArray => []) (fun x : (List ByteArray) × ByteArray => s_l2Find x.1 x.2) s_l2Find_r s_l2Find_n s_l2Find_o
theorem s_l2Find_c {list : List ByteArray} {name : ByteArray} {y : Int} (h : s_l2Find list name = some y) : CallOK s_l2Find_S [Enc.e list, Enc.e name] [] (s_l2Find_r y) (s_l2Find_n y) (s_l2Find_o (list, name) y) :=
  modS_call (by
    rintro ⟨a0, a1⟩ ⟨b0, b1⟩ h hO
    simp only [List.cons.injEq, and_true] at h
    try simp only [List.cons.injEq, and_true, Obj'.box.injEq, Obj'.arr.injEq, true_and, AV.dat.injEq] at hO
    obtain ⟨h0, h1⟩ := h
    have q0 := Enc.inj _ _ h0
    have q1 := Enc.inj _ _ h1
    subst q0; subst q1; rfl) (x := (list, name)) h
theorem s_l2Find_ok : FnOK Try.prog 117 s_l2Find_S := by
  have Γok : ∀ f S, lookF f [] = some S → FnOK Try.prog f S := lookF_ok allF_nil
  have Γlive : Live (fun f => lookF f []) := lookF_live allL_nil
  refine fnOK_mod ty_ok (fun args w => Try.call117 args w) Try.func117 rfl [.tmp 4] (by rw [Try.results117]) 19 Try.ntmps117 16 rfl (fun _ => by first | exact Nat.zero_le _ | (simp)) (fun _ => rfl) ?_
  rintro ⟨list, name⟩ y cx hm hL
  have hm : s_l2Find list name = some y := hm
  have hL : cx.L = 0 := hL
  unfold s_l2Find at hm
  refine X_reg_seq ty_ok Γok hL [] .nil (by kernel_rfl) ?_
  refine Ok_seq ?_
  refine X_reg_seq ty_ok Γok hL [] .nil (by kernel_rfl) ?_
  obtain ⟨v1, hv, hr, hk⟩ := flb_t hm
  refine X_tailF (n := 19) (fun (_ : Unit) => (⟨[], [], 32⟩ : X)) v1 ?_ ?_
  · have hm := hv
    refine Ok_block ?_
    refine X_loop (n := 19) (step := s_l2Find_L1 list name) (fun (v : Int) => (⟨[(0, .dat (Enc.e list)), (1, .dat (.sc (.string name))), (5, .dat (.sc (.int .i64 v)))], [], 32⟩ : X)) hm (Wk_J hL ⟨[(0, []), (1, []), (5, [])], [], [], 32⟩ (by kernel_rfl)) ?_
    rintro v r0 hm hb
    rw [s_l2Find_L1] at hm
    refine Ok_seq ?_
    refine X_reg_seq ty_ok Γok hL [(2, .n (list.length : Int))] (.cons (len_m Enc.e list) .nil) (by kernel_rfl) ?_
    refine X_cond (decide (v < (list.length : Int))) (by kernel_rfl) (fun hc => ?_) (fun hc => ?_)
    · have hm := it hc hm
      refine X_skip ?_
      refine thN ?_
      refine Ok_seq ?_
      refine Ok_block ?_
      obtain ⟨e, h, hm⟩ := obind hm
      refine X_reg_seq ty_ok Γok hL [(2, .d (Enc.e e))] (.cons (idx_m (f := Enc.e) h) .nil) (by kernel_rfl) ?_
      refine X_cond (e.toList == name.toList) (by kernel_rfl) (fun hc1 => ?_) (fun hc1 => ?_)
      · have hm := it hc1 hm
        refine X_reg_seq ty_ok Γok hL [] .nil (by kernel_rfl) ?_
        obtain rfl := some_inj hm
        obtain rfl := hb _ rfl
        have hm := congrArg some (hr _ rfl)
        obtain rfl := some_inj hm
        refine Ok_ret ?_
        repeat (first | refine thR ?_ | refine ibR ?_)
        exact X_fin [] [] (by kernel_rfl) trivial
      · have hm := ie hc1 hm
        refine X_skip ?_
        refine ibN ?_
        refine thN ?_
        refine X_reg ty_ok Γok hL [] .nil (by kernel_rfl) ?_
        obtain rfl := some_inj hm
        exact thN ⟨_, rfl, Wk_J hL ⟨[(0, []), (1, []), (5, [])], [], [], 32⟩ (by kernel_rfl)⟩
    · have hm := ie hc hm
      obtain rfl := some_inj hm
      obtain rfl := hb _ rfl
      refine Ok_exit ?_
      refine thE ?_
      refine thE ?_
      refine ibE ?_
      exact thN ⟨_, rfl, Wk_J hL ⟨[], [], [], 32⟩ (by kernel_rfl)⟩
  rintro ⟨⟩ hu s hw
  have hm := hk _ hu
  refine thN ?_
  refine Ok_weak hw ?_
  refine X_reg_seq ty_ok Γok hL [] .nil (by kernel_rfl) ?_
  obtain rfl := some_inj hm
  refine Ok_ret ?_
  repeat (first | refine thR ?_ | refine ibR ?_)
  exact X_fin [] [] (by kernel_rfl) trivial
abbrev s_l2Line_r (y : Bool) : AV := .dat (Enc.e y)
abbrev s_l2Line_n (y : Bool) : List Obj' := []
abbrev s_l2Line_o (x : Line × Int) (y : Bool) : List Obj' := []
noncomputable def s_l2Line_S : FnSpec := modS [none, none] (fun x : Line × Int => [Enc.e x.1, Enc.e x.2]) (fun x : Line × Int => []) (fun x : Line × Int => s_l2Line x.1 x.2) s_l2Line_r s_l2Line_n s_l2Line_o
theorem s_l2Line_c {x : Line} {stops : Int} {y : Bool} (h : s_l2Line x stops = some y) : CallOK s_l2Line_S [Enc.e x, Enc.e stops] [] (s_l2Line_r y) (s_l2Line_n y) (s_l2Line_o (x, stops) y) :=
  modS_call (by
    rintro ⟨a0, a1⟩ ⟨b0, b1⟩ h hO
    simp only [List.cons.injEq, and_true] at h
    try simp only [List.cons.injEq, and_true, Obj'.box.injEq, Obj'.arr.injEq, true_and, AV.dat.injEq] at hO
    obtain ⟨h0, h1⟩ := h
    have q0 := Enc.inj _ _ h0
    have q1 := Enc.inj _ _ h1
    subst q0; subst q1; rfl) (x := (x, stops)) h
theorem s_l2Line_ok : FnOK Try.prog 118 s_l2Line_S := by
  have Γok : ∀ f S, lookF f [(116, s_l2Name_S), (56, s_l1In_S), (125, s_l2Place_S)] = some S → FnOK Try.prog f S := lookF_ok (allF_cons s_l2Name_ok (allF_cons s_l1In_ok (allF_cons s_l2Place_ok allF_nil)))
  have Γlive : Live (fun f => lookF f [(116, s_l2Name_S), (56, s_l1In_S), (125, s_l2Place_S)]) := lookF_live (allL_cons modS_live (allL_cons modS_live (allL_cons modS_live allL_nil)))
  refine fnOK_mod ty_ok (fun args w => Try.call118 args w) Try.func118 rfl [.tmp 4] (by rw [Try.results118]) 69 Try.ntmps118 16 rfl (fun _ => by first | exact Nat.zero_le _ | (simp)) (fun _ => rfl) ?_
  rintro ⟨x, stops⟩ y cx hm hL
  have hm : s_l2Line x stops = some y := hm
  have hL : cx.L = 0 := hL
  unfold s_l2Line at hm
  refine X_reg_seq ty_ok Γok hL [] .nil (by kernel_rfl) ?_
  refine Ok_seq ?_
  obtain ⟨r, h, hm⟩ := obind hm
  obtain ⟨v, hv, hk⟩ := obind hm
  refine X_join (n := 69) (fun (v : Bool) => (⟨[(1, .dat (.sc (.int .i64 stops))), (2, .ref 16 0), (27, .dat (.sc (.bool v)))], [(16, some (.box [.dat (.sc (.string x.Name)), .dat (Enc.e x.Stops), .dat (Enc.e x.Runs)]))], 48⟩ : X)) v ?_ ?_
  · have hm := hv
    rcases btf (!r) with hb | hb
    · have hm := it hb hm
      obtain rfl := some_inj hm
      refine X_reg ty_ok Γok hL [(2, .c (s_l2Name_r r) (s_l2Name_n r) (s_l2Name_o x.Name r)), (4, .b true)] (.cons (s_l2Name_c h) (.cons hb .nil)) (by kernel_rfl) ?_
      exact thN (Wk_J hL ⟨[(1, []), (2, []), (27, [])], [(16, 16, [])], [], 48⟩ (by kernel_rfl))
    · have hm := ie hb hm
      obtain ⟨r1, h1, hm⟩ := obind hm
      rcases btf (!r1) with hb1 | hb1
      · have hm := it hb1 hm
        obtain rfl := some_inj hm
        refine X_reg ty_ok Γok hL [(2, .c (s_l2Name_r r) (s_l2Name_n r) (s_l2Name_o x.Name r)), (4, .b false), (7, .n (x.Stops.length : Int)), (8, .c (s_l1In_r r1) (s_l1In_n r1) (s_l1In_o ((x.Stops.length : Int), 2, 6) r1)), (11, .b true)] (.cons (s_l2Name_c h) (.cons hb (.cons (len_m Enc.e x.Stops) (.cons (s_l1In_c h1) (.cons hb1 .nil))))) (by kernel_rfl) ?_
        exact thN (Wk_J hL ⟨[(1, []), (2, []), (27, [])], [(16, 16, [])], [], 48⟩ (by kernel_rfl))
      · have hm := ie hb1 hm
        obtain rfl := some_inj hm
        refine X_reg ty_ok Γok hL [(2, .c (s_l2Name_r r) (s_l2Name_n r) (s_l2Name_o x.Name r)), (4, .b false), (7, .n (x.Stops.length : Int)), (8, .c (s_l1In_r r1) (s_l1In_n r1) (s_l1In_o ((x.Stops.length : Int), 2, 6) r1)), (11, .b false), (14, .n (x.Runs.length : Int)), (17, .n (x.Stops.length : Int))] (.cons (s_l2Name_c h) (.cons hb (.cons (len_m Enc.e x.Stops) (.cons (s_l1In_c h1) (.cons hb1 (.cons (len_m Enc.e x.Runs) (.cons (len_m Enc.e x.Stops) .nil))))))) (by kernel_rfl) ?_
        exact thN (Wk_J hL ⟨[(1, []), (2, []), (27, [])], [(16, 16, [])], [], 48⟩ (by kernel_rfl))
  have hm := hk
  refine X_cond v (by kernel_rfl) (fun hc => ?_) (fun hc => ?_)
  · have hm := it hc hm
    refine X_reg_seq ty_ok Γok hL [] .nil (by kernel_rfl) ?_
    obtain rfl := some_inj hm
    refine Ok_ret ?_
    repeat (first | refine thR ?_ | refine ibR ?_)
    exact X_fin [] [] (by kernel_rfl) trivial
  · have hm := ie hc hm
    refine X_skip ?_
    refine thN ?_
    refine Ok_seq ?_
    refine X_reg_seq ty_ok Γok hL [] .nil (by kernel_rfl) ?_
    obtain ⟨v5, hv2, hr, hk2⟩ := flb_t hm
    refine X_tailF (n := 69) (fun (_ : Unit) => (⟨[(2, .ref 16 0)], [(16, some (.box [.dat (.sc (.string x.Name)), .dat (Enc.e x.Stops), .dat (Enc.e x.Runs)]))], 48⟩ : X)) v5 ?_ ?_
    · have hm := hv2
      refine Ok_block ?_
      refine X_loop (n := 69) (step := s_l2Line_L1 x stops) (fun (v1 : Int) => (⟨[(1, .dat (.sc (.int .i64 stops))), (2, .ref 16 0), (5, .dat (.sc (.int .i64 v1)))], [(16, some (.box [.dat (.sc (.string x.Name)), .dat (Enc.e x.Stops), .dat (Enc.e x.Runs)]))], 48⟩ : X)) hm (Wk_J hL ⟨[(1, []), (2, []), (5, [])], [(16, 16, [])], [], 48⟩ (by kernel_rfl)) ?_
      rintro v1 r0 hm hb2
      rw [s_l2Line_L1] at hm
      refine Ok_seq ?_
      refine X_reg_seq ty_ok Γok hL [(3, .n (x.Stops.length : Int))] (.cons (len_m Enc.e x.Stops) .nil) (by kernel_rfl) ?_
      refine X_cond (decide (v1 < (x.Stops.length : Int))) (by kernel_rfl) (fun hc1 => ?_) (fun hc1 => ?_)
      · have hm := it hc1 hm
        refine X_skip ?_
        refine thN ?_
        refine Ok_seq ?_
        refine Ok_block ?_
        obtain ⟨e2, h6, hm⟩ := obind hm
        obtain ⟨r4, h7, hm⟩ := obind hm
        obtain ⟨v2, hv1, hk1⟩ := obind hm
        refine X_join (n := 69) (fun (v2 : Bool) => (⟨[(1, .dat (.sc (.int .i64 stops))), (2, .ref 16 0), (5, .dat (.sc (.int .i64 v1))), (54, .dat (.sc (.bool v2)))], [(16, some (.box [.dat (.sc (.string x.Name)), .dat (Enc.e x.Stops), .dat (Enc.e x.Runs)]))], 48⟩ : X)) v2 ?_ ?_
        · have hm := hv1
          rcases btf (!r4) with hb3 | hb3
          · have hm := it hb3 hm
            obtain rfl := some_inj hm
            refine X_draw mixed ty_ok Γok Γlive [] (by kernel_rfl) [(3, .d (Enc.e e2)), (7, .c (s_l1In_r r4) (s_l1In_n r4) (s_l1In_o (e2, 0, (w64 (stops - 1))) r4)), (9, .b true)] (.cons (idx_m (f := Enc.e) h6) (.cons (s_l1In_c h7) (.cons hb3 .nil))) (by kernel_rfl) ?_
            exact thN (Wk_J hL ⟨[(1, []), (2, []), (5, []), (54, [])], [(16, 16, [])], [], 48⟩ (by kernel_rfl))
          · have hm := ie hb3 hm
            obtain ⟨e3, h8, hm⟩ := obind hm
            obtain ⟨r5, h9, hm⟩ := obind hm
            obtain rfl := some_inj hm
            refine X_draw mixed ty_ok Γok Γlive [] (by kernel_rfl) [(3, .d (Enc.e e2)), (7, .c (s_l1In_r r4) (s_l1In_n r4) (s_l1In_o (e2, 0, (w64 (stops - 1))) r4)), (9, .b false), (14, .d (Enc.e e3)), (16, .c (s_l2Place_r r5) (s_l2Place_n r5) (s_l2Place_o (x, e3) r5))] (.cons (idx_m (f := Enc.e) h6) (.cons (s_l1In_c h7) (.cons hb3 (.cons (idx_m (f := Enc.e) h8) (.cons (s_l2Place_c h9) .nil))))) (by kernel_rfl) ?_
            exact thN (Wk_J hL ⟨[(1, []), (2, []), (5, []), (54, [])], [(16, 16, [])], [], 48⟩ (by kernel_rfl))
        have hm := hk1
        refine X_cond v2 (by kernel_rfl) (fun hc2 => ?_) (fun hc2 => ?_)
        · have hm := it hc2 hm
          refine X_reg_seq ty_ok Γok hL [] .nil (by kernel_rfl) ?_
          obtain rfl := some_inj hm
          obtain rfl := hb2 _ rfl
          have hm := congrArg some (hr _ rfl)
          obtain rfl := some_inj hm
          refine Ok_ret ?_
          repeat (first | refine thR ?_ | refine ibR ?_)
          exact X_fin [] [] (by kernel_rfl) trivial
        · have hm := ie hc2 hm
          refine X_skip ?_
          refine ibN ?_
          refine thN ?_
          refine X_reg ty_ok Γok hL [] .nil (by kernel_rfl) ?_
          obtain rfl := some_inj hm
          exact thN ⟨_, rfl, Wk_J hL ⟨[(1, []), (2, []), (5, [])], [(16, 16, [])], [], 48⟩ (by kernel_rfl)⟩
      · have hm := ie hc1 hm
        obtain rfl := some_inj hm
        obtain rfl := hb2 _ rfl
        refine Ok_exit ?_
        refine thE ?_
        refine thE ?_
        refine ibE ?_
        exact thN ⟨_, rfl, Wk_J hL ⟨[(2, [])], [(16, 16, [])], [], 48⟩ (by kernel_rfl)⟩
    rintro ⟨⟩ hu1 s hw
    have hm := hk2 _ hu1
    refine thN ?_
    refine Ok_weak hw ?_
    refine Ok_seq ?_
    refine X_reg_seq ty_ok Γok hL [] .nil (by kernel_rfl) ?_
    obtain ⟨v4, hv3, hr1, hk3⟩ := flb_t hm
    refine X_tailF (n := 69) (fun (_ : Unit) => (⟨[], [], 32⟩ : X)) v4 ?_ ?_
    · have hm := hv3
      refine Ok_block ?_
      refine X_loop (n := 69) (step := s_l2Line_L2 x) (fun (v3 : Int) => (⟨[(2, .ref 16 0), (6, .dat (.sc (.int .i64 v3)))], [(16, some (.box [.dat (.sc (.string x.Name)), .dat (Enc.e x.Stops), .dat (Enc.e x.Runs)]))], 48⟩ : X)) hm (Wk_J hL ⟨[(2, []), (6, [])], [(16, 16, [])], [], 48⟩ (by kernel_rfl)) ?_
      rintro v3 r0 hm hb4
      rw [s_l2Line_L2] at hm
      refine Ok_seq ?_
      refine X_reg_seq ty_ok Γok hL [(3, .n (x.Runs.length : Int))] (.cons (len_m Enc.e x.Runs) .nil) (by kernel_rfl) ?_
      refine X_cond (decide (v3 < (x.Runs.length : Int))) (by kernel_rfl) (fun hc3 => ?_) (fun hc3 => ?_)
      · have hm := it hc3 hm
        refine X_skip ?_
        refine thN ?_
        refine Ok_seq ?_
        refine Ok_block ?_
        obtain ⟨e5, h10, hm⟩ := obind hm
        obtain ⟨r7, h11, hm⟩ := obind hm
        refine X_reg_seq ty_ok Γok hL [(3, .d (Enc.e e5)), (5, .c (s_l1In_r r7) (s_l1In_n r7) (s_l1In_o (e5, 1, 60) r7))] (.cons (idx_m (f := Enc.e) h10) (.cons (s_l1In_c h11) .nil)) (by kernel_rfl) ?_
        refine X_cond (!r7) (by kernel_rfl) (fun hc4 => ?_) (fun hc4 => ?_)
        · have hm := it hc4 hm
          refine X_reg_seq ty_ok Γok hL [] .nil (by kernel_rfl) ?_
          obtain rfl := some_inj hm
          obtain rfl := hb4 _ rfl
          have hm := congrArg some (hr1 _ rfl)
          obtain rfl := some_inj hm
          refine Ok_ret ?_
          repeat (first | refine thR ?_ | refine ibR ?_)
          exact X_fin [] [] (by kernel_rfl) trivial
        · have hm := ie hc4 hm
          refine X_skip ?_
          refine ibN ?_
          refine thN ?_
          refine X_reg ty_ok Γok hL [] .nil (by kernel_rfl) ?_
          obtain rfl := some_inj hm
          exact thN ⟨_, rfl, Wk_J hL ⟨[(2, []), (6, [])], [(16, 16, [])], [], 48⟩ (by kernel_rfl)⟩
      · have hm := ie hc3 hm
        obtain rfl := some_inj hm
        obtain rfl := hb4 _ rfl
        refine Ok_exit ?_
        refine thE ?_
        refine thE ?_
        refine ibE ?_
        exact thN ⟨_, rfl, Wk_J hL ⟨[], [], [], 32⟩ (by kernel_rfl)⟩
    rintro ⟨⟩ hu s1 hw1
    have hm := hk3 _ hu
    refine thN ?_
    refine Ok_weak hw1 ?_
    refine X_reg_seq ty_ok Γok hL [] .nil (by kernel_rfl) ?_
    obtain rfl := some_inj hm
    refine Ok_ret ?_
    repeat (first | refine thR ?_ | refine ibR ?_)
    exact X_fin [] [] (by kernel_rfl) trivial
abbrev s_l2LineNamed_r (y : Int) : AV := .dat (Enc.e y)
abbrev s_l2LineNamed_n (y : Int) : List Obj' := []
abbrev s_l2LineNamed_o (x : Network × ByteArray) (y : Int) : List Obj' := []
noncomputable def s_l2LineNamed_S : FnSpec := modS [none, none] (fun x : Network × ByteArray => [Enc.e x.1, Enc.e x.2]) (fun x : Network × ByteArray => []) (fun x : Network × ByteArray => s_l2LineNamed x.1 x.2) s_l2LineNamed_r s_l2LineNamed_n s_l2LineNamed_o
theorem s_l2LineNamed_c {n : Network} {name : ByteArray} {y : Int} (h : s_l2LineNamed n name = some y) : CallOK s_l2LineNamed_S [Enc.e n, Enc.e name] [] (s_l2LineNamed_r y) (s_l2LineNamed_n y) (s_l2LineNamed_o (n, name) y) :=
  modS_call (by
    rintro ⟨a0, a1⟩ ⟨b0, b1⟩ h hO
    simp only [List.cons.injEq, and_true] at h
    try simp only [List.cons.injEq, and_true, Obj'.box.injEq, Obj'.arr.injEq, true_and, AV.dat.injEq] at hO
    obtain ⟨h0, h1⟩ := h
    have q0 := Enc.inj _ _ h0
    have q1 := Enc.inj _ _ h1
    subst q0; subst q1; rfl) (x := (n, name)) h
theorem s_l2LineNamed_ok : FnOK Try.prog 119 s_l2LineNamed_S := by
  have Γok : ∀ f S, lookF f [] = some S → FnOK Try.prog f S := lookF_ok allF_nil
  have Γlive : Live (fun f => lookF f []) := lookF_live allL_nil
  refine fnOK_mod ty_ok (fun args w => Try.call119 args w) Try.func119 rfl [.tmp 4] (by rw [Try.results119]) 22 Try.ntmps119 16 rfl (fun _ => by first | exact Nat.zero_le _ | (simp)) (fun _ => rfl) ?_
  rintro ⟨n, name⟩ y cx hm hL
  have hm : s_l2LineNamed n name = some y := hm
  have hL : cx.L = 0 := hL
  unfold s_l2LineNamed at hm
  refine X_reg_seq ty_ok Γok hL [] .nil (by kernel_rfl) ?_
  refine Ok_seq ?_
  refine X_reg_seq ty_ok Γok hL [] .nil (by kernel_rfl) ?_
  obtain ⟨v1, hv, hr, hk⟩ := flb_t hm
  refine X_tailF (n := 22) (fun (_ : Unit) => (⟨[], [], 32⟩ : X)) v1 ?_ ?_
  · have hm := hv
    refine Ok_block ?_
    refine X_loop (n := 22) (step := s_l2LineNamed_L1 n name) (fun (v : Int) => (⟨[(1, .dat (.sc (.string name))), (2, .ref 16 0), (5, .dat (.sc (.int .i64 v)))], [(16, some (.box [.dat (Enc.e n.Stops), .dat (Enc.e n.Lines)]))], 48⟩ : X)) hm (Wk_J hL ⟨[(1, []), (2, []), (5, [])], [(16, 16, [])], [], 48⟩ (by kernel_rfl)) ?_
    rintro v r0 hm hb
    rw [s_l2LineNamed_L1] at hm
    refine Ok_seq ?_
    refine X_reg_seq ty_ok Γok hL [(3, .n (n.Lines.length : Int))] (.cons (len_m Enc.e n.Lines) .nil) (by kernel_rfl) ?_
    refine X_cond (decide (v < (n.Lines.length : Int))) (by kernel_rfl) (fun hc => ?_) (fun hc => ?_)
    · have hm := it hc hm
      refine X_skip ?_
      refine thN ?_
      refine Ok_seq ?_
      refine Ok_block ?_
      obtain ⟨e, h, hm⟩ := obind hm
      refine X_reg_seq ty_ok Γok hL [(3, .d (Enc.e e))] (.cons (idx_m (f := Enc.e) h) .nil) (by kernel_rfl) ?_
      refine X_cond (e.Name.toList == name.toList) (by kernel_rfl) (fun hc1 => ?_) (fun hc1 => ?_)
      · have hm := it hc1 hm
        refine X_reg_seq ty_ok Γok hL [] .nil (by kernel_rfl) ?_
        obtain rfl := some_inj hm
        obtain rfl := hb _ rfl
        have hm := congrArg some (hr _ rfl)
        obtain rfl := some_inj hm
        refine Ok_ret ?_
        repeat (first | refine thR ?_ | refine ibR ?_)
        exact X_fin [] [] (by kernel_rfl) trivial
      · have hm := ie hc1 hm
        refine X_skip ?_
        refine ibN ?_
        refine thN ?_
        refine X_reg ty_ok Γok hL [] .nil (by kernel_rfl) ?_
        obtain rfl := some_inj hm
        exact thN ⟨_, rfl, Wk_J hL ⟨[(1, []), (2, []), (5, [])], [(16, 16, [])], [], 48⟩ (by kernel_rfl)⟩
    · have hm := ie hc hm
      obtain rfl := some_inj hm
      obtain rfl := hb _ rfl
      refine Ok_exit ?_
      refine thE ?_
      refine thE ?_
      refine ibE ?_
      exact thN ⟨_, rfl, Wk_J hL ⟨[], [], [], 32⟩ (by kernel_rfl)⟩
  rintro ⟨⟩ hu s hw
  have hm := hk _ hu
  refine thN ?_
  refine Ok_weak hw ?_
  refine X_reg_seq ty_ok Γok hL [] .nil (by kernel_rfl) ?_
  obtain rfl := some_inj hm
  refine Ok_ret ?_
  repeat (first | refine thR ?_ | refine ibR ?_)
  exact X_fin [] [] (by kernel_rfl) trivial
abbrev s_l2Good_r (y : Bool) : AV := .dat (Enc.e y)
abbrev s_l2Good_n (y : Bool) : List Obj' := []
abbrev s_l2Good_o (x : Network) (y : Bool) : List Obj' := []
noncomputable def s_l2Good_S : FnSpec := modS [none] (fun x : Network => [Enc.e x]) (fun x : Network => []) (fun x : Network => s_l2Good x) s_l2Good_r s_l2Good_n s_l2Good_o
theorem s_l2Good_c {n : Network} {y : Bool} (h : s_l2Good n = some y) : CallOK s_l2Good_S [Enc.e n] [] (s_l2Good_r y) (s_l2Good_n y) (s_l2Good_o n y) :=
  modS_call (by
    rintro a0 b0 h hO
    simp only [List.cons.injEq, and_true] at h
    try simp only [List.cons.injEq, and_true, Obj'.box.injEq, Obj'.arr.injEq, true_and, AV.dat.injEq] at hO
    have h0 := h
    have q0 := Enc.inj _ _ h0
    subst q0; rfl) (x := n) h
theorem s_l2Good_ok : FnOK Try.prog 84 s_l2Good_S := by
  have Γok : ∀ f S, lookF f [(56, s_l1In_S), (116, s_l2Name_S), (117, s_l2Find_S), (118, s_l2Line_S), (119, s_l2LineNamed_S)] = some S → FnOK Try.prog f S := lookF_ok (allF_cons s_l1In_ok (allF_cons s_l2Name_ok (allF_cons s_l2Find_ok (allF_cons s_l2Line_ok (allF_cons s_l2LineNamed_ok allF_nil)))))
  have Γlive : Live (fun f => lookF f [(56, s_l1In_S), (116, s_l2Name_S), (117, s_l2Find_S), (118, s_l2Line_S), (119, s_l2LineNamed_S)]) := lookF_live (allL_cons modS_live (allL_cons modS_live (allL_cons modS_live (allL_cons modS_live (allL_cons modS_live allL_nil)))))
  refine fnOK_mod ty_ok (fun args w => Try.call84 args w) Try.func84 rfl [.tmp 2] (by rw [Try.results84]) 72 Try.ntmps84 16 rfl (fun _ => by first | exact Nat.zero_le _ | (simp)) (fun _ => rfl) ?_
  rintro n y cx hm hL
  have hm : s_l2Good n = some y := hm
  have hL : cx.L = 0 := hL
  unfold s_l2Good at hm
  refine X_reg_seq ty_ok Γok hL [] .nil (by kernel_rfl) ?_
  refine Ok_seq ?_
  obtain ⟨r, h, hm⟩ := obind hm
  obtain ⟨v, hv, hk⟩ := obind hm
  refine X_join (n := 72) (fun (v : Bool) => (⟨[(1, .ref 16 0), (16, .dat (.sc (.bool v)))], [(16, some (.box [.dat (Enc.e n.Stops), .dat (Enc.e n.Lines)]))], 48⟩ : X)) v ?_ ?_
  · have hm := hv
    rcases btf (!r) with hb | hb
    · have hm := it hb hm
      obtain rfl := some_inj hm
      refine X_reg ty_ok Γok hL [(2, .n (n.Stops.length : Int)), (3, .c (s_l1In_r r) (s_l1In_n r) (s_l1In_o ((n.Stops.length : Int), 2, 8) r)), (5, .b true)] (.cons (len_m Enc.e n.Stops) (.cons (s_l1In_c h) (.cons hb .nil))) (by kernel_rfl) ?_
      exact thN (Wk_J hL ⟨[(1, []), (16, [])], [(16, 16, [])], [], 48⟩ (by kernel_rfl))
    · have hm := ie hb hm
      obtain ⟨r1, h1, hm⟩ := obind hm
      obtain rfl := some_inj hm
      refine X_reg ty_ok Γok hL [(2, .n (n.Stops.length : Int)), (3, .c (s_l1In_r r) (s_l1In_n r) (s_l1In_o ((n.Stops.length : Int), 2, 8) r)), (5, .b false), (8, .n (n.Lines.length : Int)), (9, .c (s_l1In_r r1) (s_l1In_n r1) (s_l1In_o ((n.Lines.length : Int), 1, 5) r1))] (.cons (len_m Enc.e n.Stops) (.cons (s_l1In_c h) (.cons hb (.cons (len_m Enc.e n.Lines) (.cons (s_l1In_c h1) .nil))))) (by kernel_rfl) ?_
      exact thN (Wk_J hL ⟨[(1, []), (16, [])], [(16, 16, [])], [], 48⟩ (by kernel_rfl))
  have hm := hk
  refine X_cond v (by kernel_rfl) (fun hc => ?_) (fun hc => ?_)
  · have hm := it hc hm
    refine X_reg_seq ty_ok Γok hL [] .nil (by kernel_rfl) ?_
    obtain rfl := some_inj hm
    refine Ok_ret ?_
    repeat (first | refine thR ?_ | refine ibR ?_)
    exact X_fin [] [] (by kernel_rfl) trivial
  · have hm := ie hc hm
    refine X_skip ?_
    refine thN ?_
    refine Ok_seq ?_
    refine X_reg_seq ty_ok Γok hL [] .nil (by kernel_rfl) ?_
    obtain ⟨v5, hv2, hr, hk2⟩ := flb_t hm
    refine X_tailF (n := 72) (fun (_ : Unit) => (⟨[(1, .ref 16 0)], [(16, some (.box [.dat (Enc.e n.Stops), .dat (Enc.e n.Lines)]))], 48⟩ : X)) v5 ?_ ?_
    · have hm := hv2
      refine Ok_block ?_
      refine X_loop (n := 72) (step := s_l2Good_L1 n) (fun (i : Int) => (⟨[(1, .ref 16 0), (3, .dat (.sc (.int .i64 i)))], [(16, some (.box [.dat (Enc.e n.Stops), .dat (Enc.e n.Lines)]))], 48⟩ : X)) hm (Wk_J hL ⟨[(1, []), (3, [])], [(16, 16, [])], [], 48⟩ (by kernel_rfl)) ?_
      rintro i r0 hm hb1
      rw [s_l2Good_L1] at hm
      refine Ok_seq ?_
      refine X_reg_seq ty_ok Γok hL [(3, .n (n.Stops.length : Int))] (.cons (len_m Enc.e n.Stops) .nil) (by kernel_rfl) ?_
      refine X_cond (decide (i < (n.Stops.length : Int))) (by kernel_rfl) (fun hc1 => ?_) (fun hc1 => ?_)
      · have hm := it hc1 hm
        refine X_skip ?_
        refine thN ?_
        refine Ok_seq ?_
        refine Ok_block ?_
        obtain ⟨e2, h6, hm⟩ := obind hm
        obtain ⟨r4, h7, hm⟩ := obind hm
        obtain ⟨v1, hv1, hk1⟩ := obind hm
        refine X_join (n := 72) (fun (v1 : Bool) => (⟨[(1, .ref 16 0), (3, .dat (.sc (.int .i64 i))), (42, .dat (.sc (.bool v1)))], [(16, some (.box [.dat (Enc.e n.Stops), .dat (Enc.e n.Lines)]))], 48⟩ : X)) v1 ?_ ?_
        · have hm := hv1
          rcases btf (!r4) with hb2 | hb2
          · have hm := it hb2 hm
            obtain rfl := some_inj hm
            refine X_draw mixed ty_ok Γok Γlive [] (by kernel_rfl) [(3, .d (Enc.e e2)), (5, .c (s_l2Name_r r4) (s_l2Name_n r4) (s_l2Name_o e2 r4)), (7, .b true)] (.cons (idx_m (f := Enc.e) h6) (.cons (s_l2Name_c h7) (.cons hb2 .nil))) (by kernel_rfl) ?_
            exact thN (Wk_J hL ⟨[(1, []), (3, []), (42, [])], [(16, 16, [])], [], 48⟩ (by kernel_rfl))
          · have hm := ie hb2 hm
            obtain ⟨e3, h8, hm⟩ := obind hm
            obtain ⟨r5, h9, hm⟩ := obind hm
            obtain rfl := some_inj hm
            refine X_draw mixed ty_ok Γok Γlive [] (by kernel_rfl) [(3, .d (Enc.e e2)), (5, .c (s_l2Name_r r4) (s_l2Name_n r4) (s_l2Name_o e2 r4)), (7, .b false), (13, .d (Enc.e e3)), (15, .c (s_l2Find_r r5) (s_l2Find_n r5) (s_l2Find_o (n.Stops, e3) r5))] (.cons (idx_m (f := Enc.e) h6) (.cons (s_l2Name_c h7) (.cons hb2 (.cons (idx_m (f := Enc.e) h8) (.cons (s_l2Find_c h9) .nil))))) (by kernel_rfl) ?_
            exact thN (Wk_J hL ⟨[(1, []), (3, []), (42, [])], [(16, 16, [])], [], 48⟩ (by kernel_rfl))
        have hm := hk1
        refine X_cond v1 (by kernel_rfl) (fun hc2 => ?_) (fun hc2 => ?_)
        · have hm := it hc2 hm
          refine X_reg_seq ty_ok Γok hL [] .nil (by kernel_rfl) ?_
          obtain rfl := some_inj hm
          obtain rfl := hb1 _ rfl
          have hm := congrArg some (hr _ rfl)
          obtain rfl := some_inj hm
          refine Ok_ret ?_
          repeat (first | refine thR ?_ | refine ibR ?_)
          exact X_fin [] [] (by kernel_rfl) trivial
        · have hm := ie hc2 hm
          refine X_skip ?_
          refine ibN ?_
          refine thN ?_
          refine X_reg ty_ok Γok hL [] .nil (by kernel_rfl) ?_
          obtain rfl := some_inj hm
          exact thN ⟨_, rfl, Wk_J hL ⟨[(1, []), (3, [])], [(16, 16, [])], [], 48⟩ (by kernel_rfl)⟩
      · have hm := ie hc1 hm
        obtain rfl := some_inj hm
        obtain rfl := hb1 _ rfl
        refine Ok_exit ?_
        refine thE ?_
        refine thE ?_
        refine ibE ?_
        exact thN ⟨_, rfl, Wk_J hL ⟨[(1, [])], [(16, 16, [])], [], 48⟩ (by kernel_rfl)⟩
    rintro ⟨⟩ hu1 s hw
    have hm := hk2 _ hu1
    refine thN ?_
    refine Ok_weak hw ?_
    refine Ok_seq ?_
    refine X_reg_seq ty_ok Γok hL [] .nil (by kernel_rfl) ?_
    obtain ⟨v4, hv4, hr1, hk4⟩ := flb_t hm
    refine X_tailF (n := 72) (fun (_ : Unit) => (⟨[], [], 32⟩ : X)) v4 ?_ ?_
    · have hm := hv4
      refine Ok_block ?_
      refine X_loop (n := 72) (step := s_l2Good_L2 n) (fun (v2 : Int) => (⟨[(1, .ref 16 0), (4, .dat (.sc (.int .i64 v2)))], [(16, some (.box [.dat (Enc.e n.Stops), .dat (Enc.e n.Lines)]))], 48⟩ : X)) hm (Wk_J hL ⟨[(1, []), (4, [])], [(16, 16, [])], [], 48⟩ (by kernel_rfl)) ?_
      rintro v2 r0 hm hb3
      rw [s_l2Good_L2] at hm
      refine Ok_seq ?_
      refine X_reg_seq ty_ok Γok hL [(3, .n (n.Lines.length : Int))] (.cons (len_m Enc.e n.Lines) .nil) (by kernel_rfl) ?_
      refine X_cond (decide (v2 < (n.Lines.length : Int))) (by kernel_rfl) (fun hc3 => ?_) (fun hc3 => ?_)
      · have hm := it hc3 hm
        refine X_skip ?_
        refine thN ?_
        refine Ok_seq ?_
        refine Ok_block ?_
        obtain ⟨e7, h14, hm⟩ := obind hm
        obtain ⟨r9, h15, hm⟩ := obind hm
        obtain ⟨v3, hv3, hk3⟩ := obind hm
        refine X_join (n := 72) (fun (v3 : Bool) => (⟨[(1, .ref 16 0), (4, .dat (.sc (.int .i64 v2))), (71, .dat (.sc (.bool v3)))], [(16, some (.box [.dat (Enc.e n.Stops), .dat (Enc.e n.Lines)]))], 48⟩ : X)) v3 ?_ ?_
        · have hm := hv3
          rcases btf (!r9) with hb4 | hb4
          · have hm := it hb4 hm
            obtain rfl := some_inj hm
            refine X_draw mixed ty_ok Γok Γlive [] (by kernel_rfl) [(3, .d (Enc.e e7)), (7, .n (n.Stops.length : Int)), (8, .c (s_l2Line_r r9) (s_l2Line_n r9) (s_l2Line_o (e7, (n.Stops.length : Int)) r9)), (10, .b true)] (.cons (idx_m (f := Enc.e) h14) (.cons (len_m Enc.e n.Stops) (.cons (s_l2Line_c h15) (.cons hb4 .nil)))) (by kernel_rfl) ?_
            exact thN (Wk_J hL ⟨[(1, []), (4, []), (71, [])], [(16, 16, [])], [], 48⟩ (by kernel_rfl))
          · have hm := ie hb4 hm
            obtain ⟨e8, h16, hm⟩ := obind hm
            obtain ⟨r10, h17, hm⟩ := obind hm
            obtain rfl := some_inj hm
            refine X_draw mixed ty_ok Γok Γlive [] (by kernel_rfl) [(3, .d (Enc.e e7)), (7, .n (n.Stops.length : Int)), (8, .c (s_l2Line_r r9) (s_l2Line_n r9) (s_l2Line_o (e7, (n.Stops.length : Int)) r9)), (10, .b false), (15, .d (Enc.e e8)), (18, .c (s_l2LineNamed_r r10) (s_l2LineNamed_n r10) (s_l2LineNamed_o (n, e8.Name) r10))] (.cons (idx_m (f := Enc.e) h14) (.cons (len_m Enc.e n.Stops) (.cons (s_l2Line_c h15) (.cons hb4 (.cons (idx_m (f := Enc.e) h16) (.cons (s_l2LineNamed_c h17) .nil)))))) (by kernel_rfl) ?_
            exact thN (Wk_J hL ⟨[(1, []), (4, []), (71, [])], [(16, 16, [])], [], 48⟩ (by kernel_rfl))
        have hm := hk3
        refine X_cond v3 (by kernel_rfl) (fun hc4 => ?_) (fun hc4 => ?_)
        · have hm := it hc4 hm
          refine X_reg_seq ty_ok Γok hL [] .nil (by kernel_rfl) ?_
          obtain rfl := some_inj hm
          obtain rfl := hb3 _ rfl
          have hm := congrArg some (hr1 _ rfl)
          obtain rfl := some_inj hm
          refine Ok_ret ?_
          repeat (first | refine thR ?_ | refine ibR ?_)
          exact X_fin [] [] (by kernel_rfl) trivial
        · have hm := ie hc4 hm
          refine X_skip ?_
          refine ibN ?_
          refine thN ?_
          refine X_reg ty_ok Γok hL [] .nil (by kernel_rfl) ?_
          obtain rfl := some_inj hm
          exact thN ⟨_, rfl, Wk_J hL ⟨[(1, []), (4, [])], [(16, 16, [])], [], 48⟩ (by kernel_rfl)⟩
      · have hm := ie hc3 hm
        obtain rfl := some_inj hm
        obtain rfl := hb3 _ rfl
        refine Ok_exit ?_
        refine thE ?_
        refine thE ?_
        refine ibE ?_
        exact thN ⟨_, rfl, Wk_J hL ⟨[], [], [], 32⟩ (by kernel_rfl)⟩
    rintro ⟨⟩ hu s1 hw1
    have hm := hk4 _ hu
    refine thN ?_
    refine Ok_weak hw1 ?_
    refine X_reg_seq ty_ok Γok hL [] .nil (by kernel_rfl) ?_
    obtain rfl := some_inj hm
    refine Ok_ret ?_
    repeat (first | refine thR ?_ | refine ibR ?_)
    exact X_fin [] [] (by kernel_rfl) trivial
abbrev s_ReverseLine_r (y : Network × Bool) : AV := .tup [.dat (Enc.e y.1), .dat (Enc.e y.2)]
abbrev s_ReverseLine_n (y : Network × Bool) : List Obj' := []
abbrev s_ReverseLine_o (x : Network × Int × ByteArray) (y : Network × Bool) : List Obj' := []
noncomputable def s_ReverseLine_S : FnSpec := modS [none, none, none] (fun x : Network × Int × ByteArray => [Enc.e x.1, Enc.e x.2.1, Enc.e x.2.2]) (fun x : Network × Int × ByteArray => []) (fun x : Network × Int × ByteArray => s_ReverseLine x.1 x.2.1 x.2.2) s_ReverseLine_r s_ReverseLine_n s_ReverseLine_o
theorem s_ReverseLine_c {n : Network} {line : Int} {name : ByteArray} {y : Network × Bool} (h : s_ReverseLine n line name = some y) : CallOK s_ReverseLine_S [Enc.e n, Enc.e line, Enc.e name] [] (s_ReverseLine_r y) (s_ReverseLine_n y) (s_ReverseLine_o (n, line, name) y) :=
  modS_call (by
    rintro ⟨a0, a1, a2⟩ ⟨b0, b1, b2⟩ h hO
    simp only [List.cons.injEq, and_true] at h
    try simp only [List.cons.injEq, and_true, Obj'.box.injEq, Obj'.arr.injEq, true_and, AV.dat.injEq] at hO
    obtain ⟨h0, h1, h2⟩ := h
    have q0 := Enc.inj _ _ h0
    have q1 := Enc.inj _ _ h1
    have q2 := Enc.inj _ _ h2
    subst q0; subst q1; subst q2; rfl) (x := (n, line, name)) h
theorem s_ReverseLine_ok : FnOK Try.prog 33 s_ReverseLine_S := by
  have Γok : ∀ f S, lookF f [(84, s_l2Good_S), (56, s_l1In_S), (85, s_l2Own_S), (86, s_l2Back_f_S)] = some S → FnOK Try.prog f S := lookF_ok (allF_cons s_l2Good_ok (allF_cons s_l1In_ok (allF_cons s_l2Own_ok (allF_cons s_l2Back_f_ok allF_nil))))
  have Γlive : Live (fun f => lookF f [(84, s_l2Good_S), (56, s_l1In_S), (85, s_l2Own_S), (86, s_l2Back_f_S)]) := lookF_live (allL_cons modS_live (allL_cons modS_live (allL_cons modS_live (allL_cons modS_live allL_nil))))
  refine fnOK_mod ty_ok (fun args w => Try.call33 args w) Try.func33 rfl [.cell 6 66, .tmp 7] (by rw [Try.results33]) 48 Try.ntmps33 16 rfl (fun _ => by first | exact Nat.zero_le _ | (simp)) (fun _ => rfl) ?_
  rintro ⟨n, line, name⟩ y cx hm hL
  have hm : s_ReverseLine n line name = some y := hm
  have hL : cx.L = 0 := hL
  unfold s_ReverseLine at hm
  refine X_reg_seq ty_ok Γok hL [] .nil (by kernel_rfl) ?_
  refine Ok_seq ?_
  obtain ⟨r, h, hm⟩ := obind hm
  obtain ⟨v, hv, hk⟩ := obind hm
  refine X_join (n := 48) (fun (v : Bool) => (⟨[(1, .dat (.sc (.int .i64 line))), (2, .dat (.sc (.string name))), (3, .ref 16 0), (6, .ref 32 0), (21, .dat (.sc (.bool v)))], [(16, some (.box [.dat (Enc.e n.Stops), .dat (Enc.e n.Lines)])), (32, some (.box [.dat (.sc (.slice none 0 0)), .dat (.sc (.slice none 0 0))]))], 64⟩ : X)) v ?_ ?_
  · have hm := hv
    rcases btf (!r) with hb | hb
    · have hm := it hb hm
      obtain rfl := some_inj hm
      refine X_reg ty_ok Γok hL [(1, .c (s_l2Good_r r) (s_l2Good_n r) (s_l2Good_o n r)), (3, .b true)] (.cons (s_l2Good_c h) (.cons hb .nil)) (by kernel_rfl) ?_
      exact thN (Wk_J hL ⟨[(1, []), (2, []), (3, []), (6, []), (21, [])], [(16, 16, []), (32, 32, [])], [], 64⟩ (by kernel_rfl))
    · have hm := ie hb hm
      obtain ⟨r1, h1, hm⟩ := obind hm
      obtain rfl := some_inj hm
      refine X_reg ty_ok Γok hL [(1, .c (s_l2Good_r r) (s_l2Good_n r) (s_l2Good_o n r)), (3, .b false), (7, .n (n.Lines.length : Int)), (9, .c (s_l1In_r r1) (s_l1In_n r1) (s_l1In_o (line, 0, (w64 ((n.Lines.length : Int) - 1))) r1))] (.cons (s_l2Good_c h) (.cons hb (.cons (len_m Enc.e n.Lines) (.cons (s_l1In_c h1) .nil)))) (by kernel_rfl) ?_
      exact thN (Wk_J hL ⟨[(1, []), (2, []), (3, []), (6, []), (21, [])], [(16, 16, []), (32, 32, [])], [], 64⟩ (by kernel_rfl))
  have hm := hk
  refine X_cond v (by kernel_rfl) (fun hc => ?_) (fun hc => ?_)
  · have hm := it hc hm
    refine X_reg_seq ty_ok Γok hL [] .nil (by kernel_rfl) ?_
    obtain rfl := some_inj hm
    refine Ok_ret ?_
    repeat (first | refine thR ?_ | refine ibR ?_)
    exact X_fin [] [[.z 1, .z 3]] (by kernel_rfl) trivial
  · have hm := ie hc hm
    refine X_skip ?_
    refine thN ?_
    obtain ⟨r2, h2, hm⟩ := obind hm
    refine X_reg_seq ty_ok Γok hL [(1, .c (s_l2Own_r r2) (s_l2Own_n r2) (s_l2Own_o n r2))] (.cons (s_l2Own_c h2) .nil) (by kernel_rfl) ?_
    obtain ⟨e, h3, hm⟩ := obind hm
    refine X_reg_seq ty_ok Γok hL [(3, .d (Enc.e e))] (.cons (idx_m (f := Enc.e) h3) .nil) (by kernel_rfl) ?_
    obtain ⟨r5, h7, hm⟩ := obind hm
    obtain ⟨r6, h8, hm⟩ := obind hm
    obtain ⟨u1, h9, hm⟩ := obind hm
    refine X_draw_seq mixed ty_ok Γok Γlive [(10, []), (11, [81, 400]), (13, [96, 416])] (by kernel_rfl) [(5, .c (s_l2Back_f_r r5) (s_l2Back_f_n r5) (s_l2Back_f_o e.Stops r5)), (8, .c (s_l2Back_f_r r6) (s_l2Back_f_n r6) (s_l2Back_f_o e.Runs r6)), (11, .l (List.map Enc.e (r2.Lines ++ ([(⟨name, r5, r6⟩ : Line)] : List Line))))] (.cons (s_l2Back_f_c h7) (.cons (s_l2Back_f_c h8) (.cons (app_p (f := Enc.e) (g := Enc.e) (l := r2.Lines) (r := ([(⟨name, r5, r6⟩ : Line)] : List Line)) (b := 64) (chk_t h9) rfl) (.cons (app_m Enc.e r2.Lines ([(⟨name, r5, r6⟩ : Line)] : List Line)) .nil)))) (by kernel_rfl) ?_
    refine Ok_seq ?_
    obtain ⟨r7, h10, hm⟩ := obind hm
    refine X_reg_seq ty_ok Γok hL [(1, .c (s_l2Good_r r7) (s_l2Good_n r7) (s_l2Good_o (⟨r2.Stops, (r2.Lines ++ ([(⟨name, r5, r6⟩ : Line)] : List Line))⟩ : Network) r7))] (.cons (s_l2Good_c h10) .nil) (by kernel_rfl) ?_
    refine X_cond (!r7) (by kernel_rfl) (fun hc1 => ?_) (fun hc1 => ?_)
    · have hm := it hc1 hm
      refine X_reg_seq ty_ok Γok hL [] .nil (by kernel_rfl) ?_
      obtain rfl := some_inj hm
      refine Ok_ret ?_
      repeat (first | refine thR ?_ | refine ibR ?_)
      exact X_fin [] [[.z 1, .z 3]] (by kernel_rfl) trivial
    · have hm := ie hc1 hm
      refine X_skip ?_
      refine thN ?_
      refine X_reg_seq ty_ok Γok hL [] .nil (by kernel_rfl) ?_
      obtain rfl := some_inj hm
      refine Ok_ret ?_
      repeat (first | refine thR ?_ | refine ibR ?_)
      exact X_fin [] [] (by kernel_rfl) trivial
abbrev v_vTexts_r (y : Bool) : AV := .dat (Enc.e y)
abbrev v_vTexts_n (y : Bool) : List Obj' := []
abbrev v_vTexts_o (x : (List ByteArray) × (List ByteArray)) (y : Bool) : List Obj' := []
noncomputable def v_vTexts_S : FnSpec := modS [none, none] (fun x : (List ByteArray) × (List ByteArray) => [Enc.e x.1, Enc.e x.2]) (fun x : (List ByteArray) × (List ByteArray) => []) (fun x : (List ByteArray) × (List ByteArray) => v_vTexts x.1 x.2) v_vTexts_r v_vTexts_n v_vTexts_o
theorem v_vTexts_c {a : List ByteArray} {b : List ByteArray} {y : Bool} (h : v_vTexts a b = some y) : CallOK v_vTexts_S [Enc.e a, Enc.e b] [] (v_vTexts_r y) (v_vTexts_n y) (v_vTexts_o (a, b) y) :=
  modS_call (by
    rintro ⟨a0, a1⟩ ⟨b0, b1⟩ h hO
    simp only [List.cons.injEq, and_true] at h
    try simp only [List.cons.injEq, and_true, Obj'.box.injEq, Obj'.arr.injEq, true_and, AV.dat.injEq] at hO
    obtain ⟨h0, h1⟩ := h
    have q0 := Enc.inj _ _ h0
    have q1 := Enc.inj _ _ h1
    subst q0; subst q1; rfl) (x := (a, b)) h
theorem v_vTexts_ok : FnOK Try.prog 87 v_vTexts_S := by
  have Γok : ∀ f S, lookF f [] = some S → FnOK Try.prog f S := lookF_ok allF_nil
  have Γlive : Live (fun f => lookF f []) := lookF_live allL_nil
  refine fnOK_mod ty_ok (fun args w => Try.call87 args w) Try.func87 rfl [.tmp 4] (by rw [Try.results87]) 26 Try.ntmps87 16 rfl (fun _ => by first | exact Nat.zero_le _ | (simp)) (fun _ => rfl) ?_
  rintro ⟨a, b⟩ y cx hm hL
  have hm : v_vTexts a b = some y := hm
  have hL : cx.L = 0 := hL
  unfold v_vTexts at hm
  refine X_reg_seq ty_ok Γok hL [] .nil (by kernel_rfl) ?_
  refine Ok_seq ?_
  refine X_reg_seq ty_ok Γok hL [(1, .n (a.length : Int)), (3, .n (b.length : Int))] (.cons (len_m Enc.e a) (.cons (len_m Enc.e b) .nil)) (by kernel_rfl) ?_
  refine X_cond ((a.length : Int) != (b.length : Int)) (by kernel_rfl) (fun hc => ?_) (fun hc => ?_)
  · have hm := it hc hm
    refine X_reg_seq ty_ok Γok hL [] .nil (by kernel_rfl) ?_
    obtain rfl := some_inj hm
    refine Ok_ret ?_
    repeat (first | refine thR ?_ | refine ibR ?_)
    exact X_fin [] [] (by kernel_rfl) trivial
  · have hm := ie hc hm
    refine X_skip ?_
    refine thN ?_
    refine Ok_seq ?_
    refine X_reg_seq ty_ok Γok hL [] .nil (by kernel_rfl) ?_
    obtain ⟨v1, hv, hr, hk⟩ := flb_t hm
    refine X_tailF (n := 26) (fun (_ : Unit) => (⟨[], [], 32⟩ : X)) v1 ?_ ?_
    · have hm := hv
      refine Ok_block ?_
      refine X_loop (n := 26) (step := v_vTexts_L1 a b) (fun (v : Int) => (⟨[(0, .dat (Enc.e a)), (1, .dat (Enc.e b)), (5, .dat (.sc (.int .i64 v)))], [], 32⟩ : X)) hm (Wk_J hL ⟨[(0, []), (1, []), (5, [])], [], [], 32⟩ (by kernel_rfl)) ?_
      rintro v r0 hm hb
      rw [v_vTexts_L1] at hm
      refine Ok_seq ?_
      refine X_reg_seq ty_ok Γok hL [(2, .n (a.length : Int))] (.cons (len_m Enc.e a) .nil) (by kernel_rfl) ?_
      refine X_cond (decide (v < (a.length : Int))) (by kernel_rfl) (fun hc1 => ?_) (fun hc1 => ?_)
      · have hm := it hc1 hm
        refine X_skip ?_
        refine thN ?_
        refine Ok_seq ?_
        refine Ok_block ?_
        obtain ⟨e2, h2, hm⟩ := obind hm
        obtain ⟨e3, h3, hm⟩ := obind hm
        refine X_draw_seq mixed ty_ok Γok Γlive [] (by kernel_rfl) [(2, .d (Enc.e e2)), (6, .d (Enc.e e3))] (.cons (idx_m (f := Enc.e) h2) (.cons (idx_m (f := Enc.e) h3) .nil)) (by kernel_rfl) ?_
        refine X_cond (!(e2.toList == e3.toList)) (by kernel_rfl) (fun hc2 => ?_) (fun hc2 => ?_)
        · have hm := it hc2 hm
          refine X_reg_seq ty_ok Γok hL [] .nil (by kernel_rfl) ?_
          obtain rfl := some_inj hm
          obtain rfl := hb _ rfl
          have hm := congrArg some (hr _ rfl)
          obtain rfl := some_inj hm
          refine Ok_ret ?_
          repeat (first | refine thR ?_ | refine ibR ?_)
          exact X_fin [] [] (by kernel_rfl) trivial
        · have hm := ie hc2 hm
          refine X_skip ?_
          refine ibN ?_
          refine thN ?_
          refine X_reg ty_ok Γok hL [] .nil (by kernel_rfl) ?_
          obtain rfl := some_inj hm
          exact thN ⟨_, rfl, Wk_J hL ⟨[(0, []), (1, []), (5, [])], [], [], 32⟩ (by kernel_rfl)⟩
      · have hm := ie hc1 hm
        obtain rfl := some_inj hm
        obtain rfl := hb _ rfl
        refine Ok_exit ?_
        refine thE ?_
        refine thE ?_
        refine ibE ?_
        exact thN ⟨_, rfl, Wk_J hL ⟨[], [], [], 32⟩ (by kernel_rfl)⟩
    rintro ⟨⟩ hu s hw
    have hm := hk _ hu
    refine thN ?_
    refine Ok_weak hw ?_
    refine X_reg_seq ty_ok Γok hL [] .nil (by kernel_rfl) ?_
    obtain rfl := some_inj hm
    refine Ok_ret ?_
    repeat (first | refine thR ?_ | refine ibR ?_)
    exact X_fin [] [] (by kernel_rfl) trivial
abbrev v_vInts_r (y : Bool) : AV := .dat (Enc.e y)
abbrev v_vInts_n (y : Bool) : List Obj' := []
abbrev v_vInts_o (x : (List Int) × (List Int)) (y : Bool) : List Obj' := []
noncomputable def v_vInts_S : FnSpec := modS [none, none] (fun x : (List Int) × (List Int) => [Enc.e x.1, Enc.e x.2]) (fun x : (List Int) × (List Int) => []) (fun x : (List Int) × (List Int) => v_vInts x.1 x.2) v_vInts_r v_vInts_n v_vInts_o
theorem v_vInts_c {a : List Int} {b : List Int} {y : Bool} (h : v_vInts a b = some y) : CallOK v_vInts_S [Enc.e a, Enc.e b] [] (v_vInts_r y) (v_vInts_n y) (v_vInts_o (a, b) y) :=
  modS_call (by
    rintro ⟨a0, a1⟩ ⟨b0, b1⟩ h hO
    simp only [List.cons.injEq, and_true] at h
    try simp only [List.cons.injEq, and_true, Obj'.box.injEq, Obj'.arr.injEq, true_and, AV.dat.injEq] at hO
    obtain ⟨h0, h1⟩ := h
    have q0 := Enc.inj _ _ h0
    have q1 := Enc.inj _ _ h1
    subst q0; subst q1; rfl) (x := (a, b)) h
theorem v_vInts_ok : FnOK Try.prog 88 v_vInts_S := by
  have Γok : ∀ f S, lookF f [] = some S → FnOK Try.prog f S := lookF_ok allF_nil
  have Γlive : Live (fun f => lookF f []) := lookF_live allL_nil
  refine fnOK_mod ty_ok (fun args w => Try.call88 args w) Try.func88 rfl [.tmp 4] (by rw [Try.results88]) 26 Try.ntmps88 16 rfl (fun _ => by first | exact Nat.zero_le _ | (simp)) (fun _ => rfl) ?_
  rintro ⟨a, b⟩ y cx hm hL
  have hm : v_vInts a b = some y := hm
  have hL : cx.L = 0 := hL
  unfold v_vInts at hm
  refine X_reg_seq ty_ok Γok hL [] .nil (by kernel_rfl) ?_
  refine Ok_seq ?_
  refine X_reg_seq ty_ok Γok hL [(1, .n (a.length : Int)), (3, .n (b.length : Int))] (.cons (len_m Enc.e a) (.cons (len_m Enc.e b) .nil)) (by kernel_rfl) ?_
  refine X_cond ((a.length : Int) != (b.length : Int)) (by kernel_rfl) (fun hc => ?_) (fun hc => ?_)
  · have hm := it hc hm
    refine X_reg_seq ty_ok Γok hL [] .nil (by kernel_rfl) ?_
    obtain rfl := some_inj hm
    refine Ok_ret ?_
    repeat (first | refine thR ?_ | refine ibR ?_)
    exact X_fin [] [] (by kernel_rfl) trivial
  · have hm := ie hc hm
    refine X_skip ?_
    refine thN ?_
    refine Ok_seq ?_
    refine X_reg_seq ty_ok Γok hL [] .nil (by kernel_rfl) ?_
    obtain ⟨v1, hv, hr, hk⟩ := flb_t hm
    refine X_tailF (n := 26) (fun (_ : Unit) => (⟨[], [], 32⟩ : X)) v1 ?_ ?_
    · have hm := hv
      refine Ok_block ?_
      refine X_loop (n := 26) (step := v_vInts_L1 a b) (fun (v : Int) => (⟨[(0, .dat (Enc.e a)), (1, .dat (Enc.e b)), (5, .dat (.sc (.int .i64 v)))], [], 32⟩ : X)) hm (Wk_J hL ⟨[(0, []), (1, []), (5, [])], [], [], 32⟩ (by kernel_rfl)) ?_
      rintro v r0 hm hb
      rw [v_vInts_L1] at hm
      refine Ok_seq ?_
      refine X_reg_seq ty_ok Γok hL [(2, .n (a.length : Int))] (.cons (len_m Enc.e a) .nil) (by kernel_rfl) ?_
      refine X_cond (decide (v < (a.length : Int))) (by kernel_rfl) (fun hc1 => ?_) (fun hc1 => ?_)
      · have hm := it hc1 hm
        refine X_skip ?_
        refine thN ?_
        refine Ok_seq ?_
        refine Ok_block ?_
        obtain ⟨e2, h2, hm⟩ := obind hm
        obtain ⟨e3, h3, hm⟩ := obind hm
        refine X_draw_seq mixed ty_ok Γok Γlive [] (by kernel_rfl) [(2, .d (Enc.e e2)), (6, .d (Enc.e e3))] (.cons (idx_m (f := Enc.e) h2) (.cons (idx_m (f := Enc.e) h3) .nil)) (by kernel_rfl) ?_
        refine X_cond (e2 != e3) (by kernel_rfl) (fun hc2 => ?_) (fun hc2 => ?_)
        · have hm := it hc2 hm
          refine X_reg_seq ty_ok Γok hL [] .nil (by kernel_rfl) ?_
          obtain rfl := some_inj hm
          obtain rfl := hb _ rfl
          have hm := congrArg some (hr _ rfl)
          obtain rfl := some_inj hm
          refine Ok_ret ?_
          repeat (first | refine thR ?_ | refine ibR ?_)
          exact X_fin [] [] (by kernel_rfl) trivial
        · have hm := ie hc2 hm
          refine X_skip ?_
          refine ibN ?_
          refine thN ?_
          refine X_reg ty_ok Γok hL [] .nil (by kernel_rfl) ?_
          obtain rfl := some_inj hm
          exact thN ⟨_, rfl, Wk_J hL ⟨[(0, []), (1, []), (5, [])], [], [], 32⟩ (by kernel_rfl)⟩
      · have hm := ie hc1 hm
        obtain rfl := some_inj hm
        obtain rfl := hb _ rfl
        refine Ok_exit ?_
        refine thE ?_
        refine thE ?_
        refine ibE ?_
        exact thN ⟨_, rfl, Wk_J hL ⟨[], [], [], 32⟩ (by kernel_rfl)⟩
    rintro ⟨⟩ hu s hw
    have hm := hk _ hu
    refine thN ?_
    refine Ok_weak hw ?_
    refine X_reg_seq ty_ok Γok hL [] .nil (by kernel_rfl) ?_
    obtain rfl := some_inj hm
    refine Ok_ret ?_
    repeat (first | refine thR ?_ | refine ibR ?_)
    exact X_fin [] [] (by kernel_rfl) trivial
abbrev v_vNetwork_r (y : Bool) : AV := .dat (Enc.e y)
abbrev v_vNetwork_n (y : Bool) : List Obj' := []
abbrev v_vNetwork_o (x : Network × Network) (y : Bool) : List Obj' := []
noncomputable def v_vNetwork_S : FnSpec := modS [none, none] (fun x : Network × Network => [Enc.e x.1, Enc.e x.2]) (fun x : Network × Network => []) (fun x : Network × Network => v_vNetwork x.1 x.2) v_vNetwork_r v_vNetwork_n v_vNetwork_o
theorem v_vNetwork_c {a : Network} {b : Network} {y : Bool} (h : v_vNetwork a b = some y) : CallOK v_vNetwork_S [Enc.e a, Enc.e b] [] (v_vNetwork_r y) (v_vNetwork_n y) (v_vNetwork_o (a, b) y) :=
  modS_call (by
    rintro ⟨a0, a1⟩ ⟨b0, b1⟩ h hO
    simp only [List.cons.injEq, and_true] at h
    try simp only [List.cons.injEq, and_true, Obj'.box.injEq, Obj'.arr.injEq, true_and, AV.dat.injEq] at hO
    obtain ⟨h0, h1⟩ := h
    have q0 := Enc.inj _ _ h0
    have q1 := Enc.inj _ _ h1
    subst q0; subst q1; rfl) (x := (a, b)) h
theorem v_vNetwork_ok : FnOK Try.prog 34 v_vNetwork_S := by
  have Γok : ∀ f S, lookF f [(87, v_vTexts_S), (88, v_vInts_S)] = some S → FnOK Try.prog f S := lookF_ok (allF_cons v_vTexts_ok (allF_cons v_vInts_ok allF_nil))
  have Γlive : Live (fun f => lookF f [(87, v_vTexts_S), (88, v_vInts_S)]) := lookF_live (allL_cons modS_live (allL_cons modS_live allL_nil))
  refine fnOK_mod ty_ok (fun args w => Try.call34 args w) Try.func34 rfl [.tmp 4] (by rw [Try.results34]) 73 Try.ntmps34 16 rfl (fun _ => by first | exact Nat.zero_le _ | (simp)) (fun _ => rfl) ?_
  rintro ⟨a, b⟩ y cx hm hL
  have hm : v_vNetwork a b = some y := hm
  have hL : cx.L = 0 := hL
  unfold v_vNetwork at hm
  refine X_reg_seq ty_ok Γok hL [] .nil (by kernel_rfl) ?_
  refine Ok_seq ?_
  obtain ⟨r, h, hm⟩ := obind hm
  obtain ⟨v, hv, hk⟩ := obind hm
  refine X_join (n := 73) (fun (v : Bool) => (⟨[(2, .ref 16 0), (3, .ref 32 0), (20, .dat (.sc (.bool v)))], [(16, some (.box [.dat (Enc.e a.Stops), .dat (Enc.e a.Lines)])), (32, some (.box [.dat (Enc.e b.Stops), .dat (Enc.e b.Lines)]))], 64⟩ : X)) v ?_ ?_
  · have hm := hv
    rcases btf (!r) with hb | hb
    · have hm := it hb hm
      obtain rfl := some_inj hm
      refine X_reg ty_ok Γok hL [(4, .c (v_vTexts_r r) (v_vTexts_n r) (v_vTexts_o (a.Stops, b.Stops) r)), (6, .b true)] (.cons (v_vTexts_c h) (.cons hb .nil)) (by kernel_rfl) ?_
      exact thN (Wk_J hL ⟨[(2, []), (3, []), (20, [])], [(16, 16, []), (32, 32, [])], [], 64⟩ (by kernel_rfl))
    · have hm := ie hb hm
      obtain rfl := some_inj hm
      refine X_reg ty_ok Γok hL [(4, .c (v_vTexts_r r) (v_vTexts_n r) (v_vTexts_o (a.Stops, b.Stops) r)), (6, .b false), (9, .n (a.Lines.length : Int)), (12, .n (b.Lines.length : Int))] (.cons (v_vTexts_c h) (.cons hb (.cons (len_m Enc.e a.Lines) (.cons (len_m Enc.e b.Lines) .nil)))) (by kernel_rfl) ?_
      exact thN (Wk_J hL ⟨[(2, []), (3, []), (20, [])], [(16, 16, []), (32, 32, [])], [], 64⟩ (by kernel_rfl))
  have hm := hk
  refine X_cond v (by kernel_rfl) (fun hc => ?_) (fun hc => ?_)
  · have hm := it hc hm
    refine X_reg_seq ty_ok Γok hL [] .nil (by kernel_rfl) ?_
    obtain rfl := some_inj hm
    refine Ok_ret ?_
    repeat (first | refine thR ?_ | refine ibR ?_)
    exact X_fin [] [] (by kernel_rfl) trivial
  · have hm := ie hc hm
    refine X_skip ?_
    refine thN ?_
    refine Ok_seq ?_
    refine X_reg_seq ty_ok Γok hL [] .nil (by kernel_rfl) ?_
    obtain ⟨v3, hv2, hr, hk2⟩ := flb_t hm
    refine X_tailF (n := 73) (fun (_ : Unit) => (⟨[], [], 32⟩ : X)) v3 ?_ ?_
    · have hm := hv2
      refine Ok_block ?_
      refine X_loop (n := 73) (step := v_vNetwork_L1 a b) (fun (v1 : Int) => (⟨[(2, .ref 16 0), (3, .ref 32 0), (5, .dat (.sc (.int .i64 v1)))], [(16, some (.box [.dat (Enc.e a.Stops), .dat (Enc.e a.Lines)])), (32, some (.box [.dat (Enc.e b.Stops), .dat (Enc.e b.Lines)]))], 64⟩ : X)) hm (Wk_J hL ⟨[(2, []), (3, []), (5, [])], [(16, 16, []), (32, 32, [])], [], 64⟩ (by kernel_rfl)) ?_
      rintro v1 r0 hm hb1
      rw [v_vNetwork_L1] at hm
      refine Ok_seq ?_
      refine X_reg_seq ty_ok Γok hL [(3, .n (a.Lines.length : Int))] (.cons (len_m Enc.e a.Lines) .nil) (by kernel_rfl) ?_
      refine X_cond (decide (v1 < (a.Lines.length : Int))) (by kernel_rfl) (fun hc1 => ?_) (fun hc1 => ?_)
      · have hm := it hc1 hm
        refine X_skip ?_
        refine thN ?_
        refine Ok_seq ?_
        refine Ok_block ?_
        obtain ⟨e6, h9, hm⟩ := obind hm
        obtain ⟨e7, h10, hm⟩ := obind hm
        obtain ⟨v2, hv1, hk1⟩ := obind hm
        refine X_join (n := 73) (fun (v2 : Bool) => (⟨[(2, .ref 16 0), (3, .ref 32 0), (5, .dat (.sc (.int .i64 v1))), (72, .dat (.sc (.bool v2)))], [(16, some (.box [.dat (Enc.e a.Stops), .dat (Enc.e a.Lines)])), (32, some (.box [.dat (Enc.e b.Stops), .dat (Enc.e b.Lines)]))], 64⟩ : X)) v2 ?_ ?_
        · have hm := hv1
          rcases btf (!(e6.Name.toList == e7.Name.toList)) with hb2 | hb2
          · have hm := it hb2 hm
            obtain rfl := some_inj hm
            refine X_draw mixed ty_ok Γok Γlive [] (by kernel_rfl) [(3, .d (Enc.e e6)), (9, .d (Enc.e e7)), (13, .b true)] (.cons (idx_m (f := Enc.e) h9) (.cons (idx_m (f := Enc.e) h10) (.cons hb2 .nil))) (by kernel_rfl) ?_
            exact thN (Wk_J hL ⟨[(2, []), (3, []), (5, []), (72, [])], [(16, 16, []), (32, 32, [])], [], 64⟩ (by kernel_rfl))
          · have hm := ie hb2 hm
            obtain ⟨e8, h11, hm⟩ := obind hm
            obtain ⟨e9, h12, hm⟩ := obind hm
            obtain ⟨r3, h13, hm⟩ := obind hm
            rcases btf (!r3) with hb3 | hb3
            · have hm := it hb3 hm
              obtain rfl := some_inj hm
              refine X_draw mixed ty_ok Γok Γlive [] (by kernel_rfl) [(3, .d (Enc.e e6)), (9, .d (Enc.e e7)), (13, .b false), (17, .d (Enc.e e8)), (23, .d (Enc.e e9)), (26, .c (v_vInts_r r3) (v_vInts_n r3) (v_vInts_o (e8.Stops, e9.Stops) r3)), (29, .b true)] (.cons (idx_m (f := Enc.e) h9) (.cons (idx_m (f := Enc.e) h10) (.cons hb2 (.cons (idx_m (f := Enc.e) h11) (.cons (idx_m (f := Enc.e) h12) (.cons (v_vInts_c h13) (.cons hb3 .nil))))))) (by kernel_rfl) ?_
              exact thN (Wk_J hL ⟨[(2, []), (3, []), (5, []), (72, [])], [(16, 16, []), (32, 32, [])], [], 64⟩ (by kernel_rfl))
            · have hm := ie hb3 hm
              obtain ⟨e10, h14, hm⟩ := obind hm
              obtain ⟨e11, h15, hm⟩ := obind hm
              obtain ⟨r4, h16, hm⟩ := obind hm
              obtain rfl := some_inj hm
              refine X_draw mixed ty_ok Γok Γlive [] (by kernel_rfl) [(3, .d (Enc.e e6)), (9, .d (Enc.e e7)), (13, .b false), (17, .d (Enc.e e8)), (23, .d (Enc.e e9)), (26, .c (v_vInts_r r3) (v_vInts_n r3) (v_vInts_o (e8.Stops, e9.Stops) r3)), (29, .b false), (33, .d (Enc.e e10)), (39, .d (Enc.e e11)), (42, .c (v_vInts_r r4) (v_vInts_n r4) (v_vInts_o (e10.Runs, e11.Runs) r4))] (.cons (idx_m (f := Enc.e) h9) (.cons (idx_m (f := Enc.e) h10) (.cons hb2 (.cons (idx_m (f := Enc.e) h11) (.cons (idx_m (f := Enc.e) h12) (.cons (v_vInts_c h13) (.cons hb3 (.cons (idx_m (f := Enc.e) h14) (.cons (idx_m (f := Enc.e) h15) (.cons (v_vInts_c h16) .nil)))))))))) (by kernel_rfl) ?_
              exact thN (Wk_J hL ⟨[(2, []), (3, []), (5, []), (72, [])], [(16, 16, []), (32, 32, [])], [], 64⟩ (by kernel_rfl))
        have hm := hk1
        refine X_cond v2 (by kernel_rfl) (fun hc2 => ?_) (fun hc2 => ?_)
        · have hm := it hc2 hm
          refine X_reg_seq ty_ok Γok hL [] .nil (by kernel_rfl) ?_
          obtain rfl := some_inj hm
          obtain rfl := hb1 _ rfl
          have hm := congrArg some (hr _ rfl)
          obtain rfl := some_inj hm
          refine Ok_ret ?_
          repeat (first | refine thR ?_ | refine ibR ?_)
          exact X_fin [] [] (by kernel_rfl) trivial
        · have hm := ie hc2 hm
          refine X_skip ?_
          refine ibN ?_
          refine thN ?_
          refine X_reg ty_ok Γok hL [] .nil (by kernel_rfl) ?_
          obtain rfl := some_inj hm
          exact thN ⟨_, rfl, Wk_J hL ⟨[(2, []), (3, []), (5, [])], [(16, 16, []), (32, 32, [])], [], 64⟩ (by kernel_rfl)⟩
      · have hm := ie hc1 hm
        obtain rfl := some_inj hm
        obtain rfl := hb1 _ rfl
        refine Ok_exit ?_
        refine thE ?_
        refine thE ?_
        refine ibE ?_
        exact thN ⟨_, rfl, Wk_J hL ⟨[], [], [], 32⟩ (by kernel_rfl)⟩
    rintro ⟨⟩ hu s hw
    have hm := hk2 _ hu
    refine thN ?_
    refine Ok_weak hw ?_
    refine X_reg_seq ty_ok Γok hL [] .nil (by kernel_rfl) ?_
    obtain rfl := some_inj hm
    refine Ok_ret ?_
    repeat (first | refine thR ?_ | refine ibR ?_)
    exact X_fin [] [] (by kernel_rfl) trivial
abbrev s_IsValidNetwork_r (y : Bool) : AV := .dat (Enc.e y)
abbrev s_IsValidNetwork_n (y : Bool) : List Obj' := []
abbrev s_IsValidNetwork_o (x : Network) (y : Bool) : List Obj' := []
noncomputable def s_IsValidNetwork_S : FnSpec := modS [none] (fun x : Network => [Enc.e x]) (fun x : Network => []) (fun x : Network => s_IsValidNetwork x) s_IsValidNetwork_r s_IsValidNetwork_n s_IsValidNetwork_o
theorem s_IsValidNetwork_c {n : Network} {y : Bool} (h : s_IsValidNetwork n = some y) : CallOK s_IsValidNetwork_S [Enc.e n] [] (s_IsValidNetwork_r y) (s_IsValidNetwork_n y) (s_IsValidNetwork_o n y) :=
  modS_call (by
    rintro a0 b0 h hO
    simp only [List.cons.injEq, and_true] at h
    try simp only [List.cons.injEq, and_true, Obj'.box.injEq, Obj'.arr.injEq, true_and, AV.dat.injEq] at hO
    have h0 := h
    have q0 := Enc.inj _ _ h0
    subst q0; rfl) (x := n) h
theorem s_IsValidNetwork_ok : FnOK Try.prog 36 s_IsValidNetwork_S := by
  have Γok : ∀ f S, lookF f [(84, s_l2Good_S)] = some S → FnOK Try.prog f S := lookF_ok (allF_cons s_l2Good_ok allF_nil)
  have Γlive : Live (fun f => lookF f [(84, s_l2Good_S)]) := lookF_live (allL_cons modS_live allL_nil)
  refine fnOK_mod ty_ok (fun args w => Try.call36 args w) Try.func36 rfl [.tmp 2] (by rw [Try.results36]) 5 Try.ntmps36 16 rfl (fun _ => by first | exact Nat.zero_le _ | (simp)) (fun _ => rfl) ?_
  rintro n y cx hm hL
  have hm : s_IsValidNetwork n = some y := hm
  have hL : cx.L = 0 := hL
  unfold s_IsValidNetwork at hm
  refine X_reg_seq ty_ok Γok hL [] .nil (by kernel_rfl) ?_
  obtain ⟨r, h, hm⟩ := obind hm
  refine X_reg_seq ty_ok Γok hL [(1, .c (s_l2Good_r r) (s_l2Good_n r) (s_l2Good_o n r))] (.cons (s_l2Good_c h) .nil) (by kernel_rfl) ?_
  obtain rfl := some_inj hm
  refine Ok_ret ?_
  repeat (first | refine thR ?_ | refine ibR ?_)
  exact X_fin [] [] (by kernel_rfl) trivial
abbrev i_runTime_r (y : Int) : AV := .dat (Enc.e y)
abbrev i_runTime_n (y : Int) : List Obj' := []
abbrev i_runTime_o (x : Line × Int × Int) (y : Int) : List Obj' := []
noncomputable def i_runTime_S : FnSpec := modS [none, none, none] (fun x : Line × Int × Int => [Enc.e x.1, Enc.e x.2.1, Enc.e x.2.2]) (fun x : Line × Int × Int => []) (fun x : Line × Int × Int => i_runTime x.1 x.2.1 x.2.2) i_runTime_r i_runTime_n i_runTime_o
theorem i_runTime_c {l : Line} {from_ : Int} {to : Int} {y : Int} (h : i_runTime l from_ to = some y) : CallOK i_runTime_S [Enc.e l, Enc.e from_, Enc.e to] [] (i_runTime_r y) (i_runTime_n y) (i_runTime_o (l, from_, to) y) :=
  modS_call (by
    rintro ⟨a0, a1, a2⟩ ⟨b0, b1, b2⟩ h hO
    simp only [List.cons.injEq, and_true] at h
    try simp only [List.cons.injEq, and_true, Obj'.box.injEq, Obj'.arr.injEq, true_and, AV.dat.injEq] at hO
    obtain ⟨h0, h1, h2⟩ := h
    have q0 := Enc.inj _ _ h0
    have q1 := Enc.inj _ _ h1
    have q2 := Enc.inj _ _ h2
    subst q0; subst q1; subst q2; rfl) (x := (l, from_, to)) h
theorem i_runTime_ok : FnOK Try.prog 94 i_runTime_S := by
  have Γok : ∀ f S, lookF f [(121, slices_Index_int_S)] = some S → FnOK Try.prog f S := lookF_ok (allF_cons slices_Index_int_ok allF_nil)
  have Γlive : Live (fun f => lookF f [(121, slices_Index_int_S)]) := lookF_live (allL_cons modS_live allL_nil)
  refine fnOK_mod ty_ok (fun args w => Try.call94 args w) Try.func94 rfl [.tmp 6] (by rw [Try.results94]) 42 Try.ntmps94 16 rfl (fun _ => by first | exact Nat.zero_le _ | (simp)) (fun _ => rfl) ?_
  rintro ⟨l, from_, to⟩ y cx hm hL
  have hm : i_runTime l from_ to = some y := hm
  have hL : cx.L = 0 := hL
  unfold i_runTime at hm
  refine X_reg_seq ty_ok Γok hL [] .nil (by kernel_rfl) ?_
  obtain ⟨r2, h2, hm⟩ := obind hm
  obtain ⟨r3, h3, hm⟩ := obind hm
  refine X_draw_seq mixed ty_ok Γok Γlive [] (by kernel_rfl) [(3, .c (slices_Index_int_r r2) (slices_Index_int_n r2) (slices_Index_int_o (l.Stops, from_) r2)), (7, .c (slices_Index_int_r r3) (slices_Index_int_n r3) (slices_Index_int_o (l.Stops, to) r3))] (.cons (slices_Index_int_c h2) (.cons (slices_Index_int_c h3) .nil)) (by kernel_rfl) ?_
  refine Ok_seq ?_
  obtain ⟨v, hv, hk⟩ := obind hm
  refine X_join (n := 42) (fun (v : Bool) => (⟨[(3, .ref 16 0), (7, .dat (.sc (.int .i64 r2))), (8, .dat (.sc (.int .i64 r3))), (26, .dat (.sc (.bool v)))], [(16, some (.box [.dat (.sc (.string l.Name)), .dat (Enc.e l.Stops), .dat (Enc.e l.Runs)]))], 48⟩ : X)) v ?_ ?_
  · have hm := hv
    rcases btf (decide (r2 < 0)) with hb | hb
    · have hm := it hb hm
      obtain rfl := some_inj hm
      refine X_reg ty_ok Γok hL [(2, .b true)] (.cons hb .nil) (by kernel_rfl) ?_
      exact thN (Wk_J hL ⟨[(3, []), (7, []), (8, []), (26, [])], [(16, 16, [])], [], 48⟩ (by kernel_rfl))
    · have hm := ie hb hm
      obtain rfl := some_inj hm
      refine X_reg ty_ok Γok hL [(2, .b false)] (.cons hb .nil) (by kernel_rfl) ?_
      exact thN (Wk_J hL ⟨[(3, []), (7, []), (8, []), (26, [])], [(16, 16, [])], [], 48⟩ (by kernel_rfl))
  have hm := hk
  refine X_cond v (by kernel_rfl) (fun hc => ?_) (fun hc => ?_)
  · have hm := it hc hm
    refine X_reg_seq ty_ok Γok hL [] .nil (by kernel_rfl) ?_
    obtain rfl := some_inj hm
    refine Ok_ret ?_
    repeat (first | refine thR ?_ | refine ibR ?_)
    exact X_fin [] [] (by kernel_rfl) trivial
  · have hm := ie hc hm
    refine X_skip ?_
    refine thN ?_
    refine X_reg_seq ty_ok Γok hL [] .nil (by kernel_rfl) ?_
    refine Ok_seq ?_
    obtain ⟨u, h4, hm⟩ := obind hm
    refine X_reg_seq ty_ok Γok hL [(4, .l (List.map Enc.e ((l.Runs.take r3.toNat).drop r2.toNat))), (5, .n (((l.Runs.take r3.toNat).drop r2.toNat).length : Int))] (.cons (cut_p (f := Enc.e) (l := l.Runs) (lo := r2) (hi := r3) (chk_t h4)) (.cons (cut_m Enc.e l.Runs r2.toNat r3.toNat) (.cons (len_m Enc.e ((l.Runs.take r3.toNat).drop r2.toNat)) .nil))) (by kernel_rfl) ?_
    obtain ⟨v3, hv1, hk1⟩ := obind hm
    refine X_tail (n := 42) (fun (v3 : Int) => (⟨[(9, .dat (.sc (.int .i64 v3)))], [], 32⟩ : X)) v3 ?_ ?_
    · have hm := hv1
      refine Ok_block ?_
      refine X_loop (n := 42) (step := i_runTime_L1 l r2 r3) (fun ((v1, v2) : Int × Int) => (⟨[(9, .dat (.sc (.int .i64 v1))), (31, .dat (Enc.e ((l.Runs.take r3.toNat).drop r2.toNat))), (32, .dat (.sc (.int .i64 (((l.Runs.take r3.toNat).drop r2.toNat).length : Int)))), (33, .dat (.sc (.int .i64 v2)))], [], 32⟩ : X)) hm (Wk_J hL ⟨[(9, []), (31, []), (32, []), (33, [])], [], [], 32⟩ (by kernel_rfl)) ?_
      rintro ⟨v1, v2⟩ r0 hm hb1
      rw [i_runTime_L1] at hm
      refine X_reg_seq ty_ok Γok hL [] .nil (by kernel_rfl) ?_
      refine Ok_seq ?_
      refine X_cond (decide (v2 < (((l.Runs.take r3.toNat).drop r2.toNat).length : Int))) (by kernel_rfl) (fun hc1 => ?_) (fun hc1 => ?_)
      · have hm := it hc1 hm
        refine X_skip ?_
        refine thN ?_
        refine Ok_seq ?_
        refine Ok_block ?_
        obtain ⟨e, h5, hm⟩ := obind hm
        refine X_reg_seq ty_ok Γok hL [(0, .d (Enc.e e))] (.cons (idx_m (f := Enc.e) h5) .nil) (by kernel_rfl) ?_
        refine X_reg ty_ok Γok hL [] .nil (by kernel_rfl) ?_
        refine ibN ?_
        refine thN ?_
        refine X_reg ty_ok Γok hL [] .nil (by kernel_rfl) ?_
        obtain rfl := some_inj hm
        exact thN ⟨_, rfl, Wk_J hL ⟨[(9, []), (31, []), (32, []), (33, [])], [], [], 32⟩ (by kernel_rfl)⟩
      · have hm := ie hc1 hm
        obtain rfl := some_inj hm
        obtain rfl := hb1 _ rfl
        refine Ok_exit ?_
        refine thE ?_
        refine thE ?_
        refine ibE ?_
        exact thN (Wk_J hL ⟨[(9, [])], [], [], 32⟩ (by kernel_rfl))
    intro s hw
    have hm := hk1
    refine thN ?_
    refine Ok_weak hw ?_
    refine X_reg_seq ty_ok Γok hL [] .nil (by kernel_rfl) ?_
    obtain rfl := some_inj hm
    refine Ok_ret ?_
    repeat (first | refine thR ?_ | refine ibR ?_)
    exact X_fin [] [] (by kernel_rfl) trivial
abbrev i_found_r (y : Int × Bool) : AV := .tup [.dat (Enc.e y.1), .dat (Enc.e y.2)]
abbrev i_found_n (y : Int × Bool) : List Obj' := []
abbrev i_found_o (x : Int) (y : Int × Bool) : List Obj' := []
noncomputable def i_found_S : FnSpec := modS [none] (fun x : Int => [Enc.e x]) (fun x : Int => []) (fun x : Int => i_found x) i_found_r i_found_n i_found_o
theorem i_found_c {i : Int} {y : Int × Bool} (h : i_found i = some y) : CallOK i_found_S [Enc.e i] [] (i_found_r y) (i_found_n y) (i_found_o i y) :=
  modS_call (by
    rintro a0 b0 h hO
    simp only [List.cons.injEq, and_true] at h
    try simp only [List.cons.injEq, and_true, Obj'.box.injEq, Obj'.arr.injEq, true_and, AV.dat.injEq] at hO
    have h0 := h
    have q0 := Enc.inj _ _ h0
    subst q0; rfl) (x := i) h
theorem i_found_ok : FnOK Try.prog 93 i_found_S := by
  have Γok : ∀ f S, lookF f [] = some S → FnOK Try.prog f S := lookF_ok allF_nil
  have Γlive : Live (fun f => lookF f []) := lookF_live allL_nil
  refine fnOK_mod ty_ok (fun args w => Try.call93 args w) Try.func93 rfl [.tmp 2, .tmp 3] (by rw [Try.results93]) 7 Try.ntmps93 16 rfl (fun _ => by first | exact Nat.zero_le _ | (simp)) (fun _ => rfl) ?_
  rintro i y cx hm hL
  have hm : i_found i = some y := hm
  have hL : cx.L = 0 := hL
  unfold i_found at hm
  refine X_reg_seq ty_ok Γok hL [] .nil (by kernel_rfl) ?_
  refine Ok_seq ?_
  refine X_reg_seq ty_ok Γok hL [] .nil (by kernel_rfl) ?_
  refine X_cond (decide (i < 0)) (by kernel_rfl) (fun hc => ?_) (fun hc => ?_)
  · have hm := it hc hm
    refine X_reg_seq ty_ok Γok hL [] .nil (by kernel_rfl) ?_
    obtain rfl := some_inj hm
    refine Ok_ret ?_
    repeat (first | refine thR ?_ | refine ibR ?_)
    exact X_fin [] [] (by kernel_rfl) trivial
  · have hm := ie hc hm
    refine X_skip ?_
    refine thN ?_
    refine X_reg_seq ty_ok Γok hL [] .nil (by kernel_rfl) ?_
    obtain rfl := some_inj hm
    refine Ok_ret ?_
    repeat (first | refine thR ?_ | refine ibR ?_)
    exact X_fin [] [] (by kernel_rfl) trivial
abbrev i_RunTime_r (y : Int × Bool) : AV := .tup [.dat (Enc.e y.1), .dat (Enc.e y.2)]
abbrev i_RunTime_n (y : Int × Bool) : List Obj' := []
abbrev i_RunTime_o (x : Network × Int × Int × Int) (y : Int × Bool) : List Obj' := []
noncomputable def i_RunTime_S : FnSpec := modS [none, none, none, none] (fun x : Network × Int × Int × Int => [Enc.e x.1, Enc.e x.2.1, Enc.e x.2.2.1, Enc.e x.2.2.2]) (fun x : Network × Int × Int × Int => []) (fun x : Network × Int × Int × Int => i_RunTime x.1 x.2.1 x.2.2.1 x.2.2.2) i_RunTime_r i_RunTime_n i_RunTime_o
theorem i_RunTime_c {n : Network} {line : Int} {from_ : Int} {to : Int} {y : Int × Bool} (h : i_RunTime n line from_ to = some y) : CallOK i_RunTime_S [Enc.e n, Enc.e line, Enc.e from_, Enc.e to] [] (i_RunTime_r y) (i_RunTime_n y) (i_RunTime_o (n, line, from_, to) y) :=
  modS_call (by
    rintro ⟨a0, a1, a2, a3⟩ ⟨b0, b1, b2, b3⟩ h hO
    simp only [List.cons.injEq, and_true] at h
    try simp only [List.cons.injEq, and_true, Obj'.box.injEq, Obj'.arr.injEq, true_and, AV.dat.injEq] at hO
    obtain ⟨h0, h1, h2, h3⟩ := h
    have q0 := Enc.inj _ _ h0
    have q1 := Enc.inj _ _ h1
    have q2 := Enc.inj _ _ h2
    have q3 := Enc.inj _ _ h3
    subst q0; subst q1; subst q2; subst q3; rfl) (x := (n, line, from_, to)) h
theorem i_RunTime_ok : FnOK Try.prog 37 i_RunTime_S := by
  have Γok : ∀ f S, lookF f [(35, i_IsValidNetwork_S), (80, i_isLine_S), (92, i_isStop_S), (94, i_runTime_S), (93, i_found_S)] = some S → FnOK Try.prog f S := lookF_ok (allF_cons i_IsValidNetwork_ok (allF_cons i_isLine_ok (allF_cons i_isStop_ok (allF_cons i_runTime_ok (allF_cons i_found_ok allF_nil)))))
  have Γlive : Live (fun f => lookF f [(35, i_IsValidNetwork_S), (80, i_isLine_S), (92, i_isStop_S), (94, i_runTime_S), (93, i_found_S)]) := lookF_live (allL_cons modS_live (allL_cons modS_live (allL_cons modS_live (allL_cons modS_live (allL_cons modS_live allL_nil)))))
  refine fnOK_mod ty_ok (fun args w => Try.call37 args w) Try.func37 rfl [.tmp 8, .tmp 9] (by rw [Try.results37]) 42 Try.ntmps37 16 rfl (fun _ => by first | exact Nat.zero_le _ | (simp)) (fun _ => rfl) ?_
  rintro ⟨n, line, from_, to⟩ y cx hm hL
  have hm : i_RunTime n line from_ to = some y := hm
  have hL : cx.L = 0 := hL
  unfold i_RunTime at hm
  refine X_reg_seq ty_ok Γok hL [] .nil (by kernel_rfl) ?_
  refine Ok_seq ?_
  obtain ⟨r, h, hm⟩ := obind hm
  obtain ⟨v, hv, hk⟩ := obind hm
  refine X_join (n := 42) (fun (v : Bool) => (⟨[(1, .dat (.sc (.int .i64 line))), (2, .dat (.sc (.int .i64 from_))), (3, .dat (.sc (.int .i64 to))), (4, .ref 16 0), (30, .dat (.sc (.bool v)))], [(16, some (.box [.dat (Enc.e n.Stops), .dat (Enc.e n.Lines)]))], 48⟩ : X)) v ?_ ?_
  · have hm := hv
    rcases btf (!r) with hb | hb
    · have hm := it hb hm
      obtain rfl := some_inj hm
      refine X_reg ty_ok Γok hL [(1, .c (i_IsValidNetwork_r r) (i_IsValidNetwork_n r) (i_IsValidNetwork_o n r)), (3, .b true)] (.cons (i_IsValidNetwork_c h) (.cons hb .nil)) (by kernel_rfl) ?_
      exact thN (Wk_J hL ⟨[(1, []), (2, []), (3, []), (4, []), (30, [])], [(16, 16, [])], [], 48⟩ (by kernel_rfl))
    · have hm := ie hb hm
      obtain ⟨r1, h1, hm⟩ := obind hm
      rcases btf (!r1) with hb1 | hb1
      · have hm := it hb1 hm
        obtain rfl := some_inj hm
        refine X_reg ty_ok Γok hL [(1, .c (i_IsValidNetwork_r r) (i_IsValidNetwork_n r) (i_IsValidNetwork_o n r)), (3, .b false), (6, .c (i_isLine_r r1) (i_isLine_n r1) (i_isLine_o (n, line) r1)), (9, .b true)] (.cons (i_IsValidNetwork_c h) (.cons hb (.cons (i_isLine_c h1) (.cons hb1 .nil)))) (by kernel_rfl) ?_
        exact thN (Wk_J hL ⟨[(1, []), (2, []), (3, []), (4, []), (30, [])], [(16, 16, [])], [], 48⟩ (by kernel_rfl))
      · have hm := ie hb1 hm
        obtain ⟨r2, h2, hm⟩ := obind hm
        rcases btf (!r2) with hb2 | hb2
        · have hm := it hb2 hm
          obtain rfl := some_inj hm
          refine X_reg ty_ok Γok hL [(1, .c (i_IsValidNetwork_r r) (i_IsValidNetwork_n r) (i_IsValidNetwork_o n r)), (3, .b false), (6, .c (i_isLine_r r1) (i_isLine_n r1) (i_isLine_o (n, line) r1)), (9, .b false), (12, .c (i_isStop_r r2) (i_isStop_n r2) (i_isStop_o (n, from_) r2)), (15, .b true)] (.cons (i_IsValidNetwork_c h) (.cons hb (.cons (i_isLine_c h1) (.cons hb1 (.cons (i_isStop_c h2) (.cons hb2 .nil)))))) (by kernel_rfl) ?_
          exact thN (Wk_J hL ⟨[(1, []), (2, []), (3, []), (4, []), (30, [])], [(16, 16, [])], [], 48⟩ (by kernel_rfl))
        · have hm := ie hb2 hm
          obtain ⟨r3, h3, hm⟩ := obind hm
          obtain rfl := some_inj hm
          refine X_reg ty_ok Γok hL [(1, .c (i_IsValidNetwork_r r) (i_IsValidNetwork_n r) (i_IsValidNetwork_o n r)), (3, .b false), (6, .c (i_isLine_r r1) (i_isLine_n r1) (i_isLine_o (n, line) r1)), (9, .b false), (12, .c (i_isStop_r r2) (i_isStop_n r2) (i_isStop_o (n, from_) r2)), (15, .b false), (18, .c (i_isStop_r r3) (i_isStop_n r3) (i_isStop_o (n, to) r3))] (.cons (i_IsValidNetwork_c h) (.cons hb (.cons (i_isLine_c h1) (.cons hb1 (.cons (i_isStop_c h2) (.cons hb2 (.cons (i_isStop_c h3) .nil))))))) (by kernel_rfl) ?_
          exact thN (Wk_J hL ⟨[(1, []), (2, []), (3, []), (4, []), (30, [])], [(16, 16, [])], [], 48⟩ (by kernel_rfl))
  have hm := hk
  refine X_cond v (by kernel_rfl) (fun hc => ?_) (fun hc => ?_)
  · have hm := it hc hm
    refine X_reg_seq ty_ok Γok hL [] .nil (by kernel_rfl) ?_
    obtain rfl := some_inj hm
    refine Ok_ret ?_
    repeat (first | refine thR ?_ | refine ibR ?_)
    exact X_fin [] [] (by kernel_rfl) trivial
  · have hm := ie hc hm
    refine X_skip ?_
    refine thN ?_
    obtain ⟨e, h4, hm⟩ := obind hm
    obtain ⟨r4, h5, hm⟩ := obind hm
    obtain ⟨r5, h6, hm⟩ := obind hm
    refine X_reg_seq ty_ok Γok hL [(3, .d (Enc.e e)), (7, .c (i_runTime_r r4) (i_runTime_n r4) (i_runTime_o (e, from_, to) r4)), (8, .c (i_found_r r5) (i_found_n r5) (i_found_o r4 r5))] (.cons (idx_m (f := Enc.e) h4) (.cons (i_runTime_c h5) (.cons (i_found_c h6) .nil))) (by kernel_rfl) ?_
    obtain rfl := some_inj hm
    refine Ok_ret ?_
    repeat (first | refine thR ?_ | refine ibR ?_)
    exact X_fin [] [] (by kernel_rfl) trivial
abbrev i_LineNumber_r (y : Int × Bool) : AV := .tup [.dat (Enc.e y.1), .dat (Enc.e y.2)]
abbrev i_LineNumber_n (y : Int × Bool) : List Obj' := []
abbrev i_LineNumber_o (x : Network × ByteArray) (y : Int × Bool) : List Obj' := []
noncomputable def i_LineNumber_S : FnSpec := modS [none, none] (fun x : Network × ByteArray => [Enc.e x.1, Enc.e x.2]) (fun x : Network × ByteArray => []) (fun x : Network × ByteArray => i_LineNumber x.1 x.2) i_LineNumber_r i_LineNumber_n i_LineNumber_o
theorem i_LineNumber_c {n : Network} {name : ByteArray} {y : Int × Bool} (h : i_LineNumber n name = some y) : CallOK i_LineNumber_S [Enc.e n, Enc.e name] [] (i_LineNumber_r y) (i_LineNumber_n y) (i_LineNumber_o (n, name) y) :=
  modS_call (by
    rintro ⟨a0, a1⟩ ⟨b0, b1⟩ h hO
    simp only [List.cons.injEq, and_true] at h
    try simp only [List.cons.injEq, and_true, Obj'.box.injEq, Obj'.arr.injEq, true_and, AV.dat.injEq] at hO
    obtain ⟨h0, h1⟩ := h
    have q0 := Enc.inj _ _ h0
    have q1 := Enc.inj _ _ h1
    subst q0; subst q1; rfl) (x := (n, name)) h
theorem i_LineNumber_ok : FnOK Try.prog 38 i_LineNumber_S := by
  have Γok : ∀ f S, lookF f [(35, i_IsValidNetwork_S), (90, i_lineNames_S), (95, slices_Index_string_S), (93, i_found_S)] = some S → FnOK Try.prog f S := lookF_ok (allF_cons i_IsValidNetwork_ok (allF_cons i_lineNames_ok (allF_cons slices_Index_string_ok (allF_cons i_found_ok allF_nil))))
  have Γlive : Live (fun f => lookF f [(35, i_IsValidNetwork_S), (90, i_lineNames_S), (95, slices_Index_string_S), (93, i_found_S)]) := lookF_live (allL_cons modS_live (allL_cons modS_live (allL_cons modS_live (allL_cons modS_live allL_nil))))
  refine fnOK_mod ty_ok (fun args w => Try.call38 args w) Try.func38 rfl [.tmp 4, .tmp 5] (by rw [Try.results38]) 16 Try.ntmps38 16 rfl (fun _ => by first | exact Nat.zero_le _ | (simp)) (fun _ => rfl) ?_
  rintro ⟨n, name⟩ y cx hm hL
  have hm : i_LineNumber n name = some y := hm
  have hL : cx.L = 0 := hL
  unfold i_LineNumber at hm
  refine X_reg_seq ty_ok Γok hL [] .nil (by kernel_rfl) ?_
  refine Ok_seq ?_
  obtain ⟨r, h, hm⟩ := obind hm
  refine X_reg_seq ty_ok Γok hL [(1, .c (i_IsValidNetwork_r r) (i_IsValidNetwork_n r) (i_IsValidNetwork_o n r))] (.cons (i_IsValidNetwork_c h) .nil) (by kernel_rfl) ?_
  refine X_cond (!r) (by kernel_rfl) (fun hc => ?_) (fun hc => ?_)
  · have hm := it hc hm
    refine X_reg_seq ty_ok Γok hL [] .nil (by kernel_rfl) ?_
    obtain rfl := some_inj hm
    refine Ok_ret ?_
    repeat (first | refine thR ?_ | refine ibR ?_)
    exact X_fin [] [] (by kernel_rfl) trivial
  · have hm := ie hc hm
    refine X_skip ?_
    refine thN ?_
    obtain ⟨r1, h1, hm⟩ := obind hm
    obtain ⟨r2, h2, hm⟩ := obind hm
    obtain ⟨r3, h3, hm⟩ := obind hm
    refine X_reg_seq ty_ok Γok hL [(1, .c (i_lineNames_r r1) (i_lineNames_n r1) (i_lineNames_o n r1)), (3, .c (slices_Index_string_r r2) (slices_Index_string_n r2) (slices_Index_string_o (r1, name) r2)), (4, .c (i_found_r r3) (i_found_n r3) (i_found_o r2 r3))] (.cons (i_lineNames_c h1) (.cons (slices_Index_string_c h2) (.cons (i_found_c h3) .nil))) (by kernel_rfl) ?_
    obtain rfl := some_inj hm
    refine Ok_ret ?_
    repeat (first | refine thR ?_ | refine ibR ?_)
    exact X_fin [] [] (by kernel_rfl) trivial
abbrev slices_Contains_int_r (y : Bool) : AV := .dat (Enc.e y)
abbrev slices_Contains_int_n (y : Bool) : List Obj' := []
abbrev slices_Contains_int_o (x : (List Int) × Int) (y : Bool) : List Obj' := []
noncomputable def slices_Contains_int_S : FnSpec := modS [none, none] (fun x : (List Int) × Int => [Enc.e x.1, Enc.e x.2]) (fun x : (List Int) × Int => []) (fun x : (List Int) × Int => slices_Contains_int x.1 x.2) slices_Contains_int_r slices_Contains_int_n slices_Contains_int_o
theorem slices_Contains_int_c {s : List Int} {v : Int} {y : Bool} (h : slices_Contains_int s v = some y) : CallOK slices_Contains_int_S [Enc.e s, Enc.e v] [] (slices_Contains_int_r y) (slices_Contains_int_n y) (slices_Contains_int_o (s, v) y) :=
  modS_call (by
    rintro ⟨a0, a1⟩ ⟨b0, b1⟩ h hO
    simp only [List.cons.injEq, and_true] at h
    try simp only [List.cons.injEq, and_true, Obj'.box.injEq, Obj'.arr.injEq, true_and, AV.dat.injEq] at hO
    obtain ⟨h0, h1⟩ := h
    have q0 := Enc.inj _ _ h0
    have q1 := Enc.inj _ _ h1
    subst q0; subst q1; rfl) (x := (s, v)) h
theorem slices_Contains_int_ok : FnOK Try.prog 96 slices_Contains_int_S := by
  have Γok : ∀ f S, lookF f [(121, slices_Index_int_S)] = some S → FnOK Try.prog f S := lookF_ok (allF_cons slices_Index_int_ok allF_nil)
  have Γlive : Live (fun f => lookF f [(121, slices_Index_int_S)]) := lookF_live (allL_cons modS_live allL_nil)
  refine fnOK_mod ty_ok (fun args w => Try.call96 args w) Try.func96 rfl [.tmp 4] (by rw [Try.results96]) 9 Try.ntmps96 16 rfl (fun _ => by first | exact Nat.zero_le _ | (simp)) (fun _ => rfl) ?_
  rintro ⟨s, v⟩ y cx hm hL
  have hm : slices_Contains_int s v = some y := hm
  have hL : cx.L = 0 := hL
  unfold slices_Contains_int at hm
  refine X_reg_seq ty_ok Γok hL [] .nil (by kernel_rfl) ?_
  obtain ⟨r, h, hm⟩ := obind hm
  refine X_reg_seq ty_ok Γok hL [(2, .c (slices_Index_int_r r) (slices_Index_int_n r) (slices_Index_int_o (s, v) r))] (.cons (slices_Index_int_c h) .nil) (by kernel_rfl) ?_
  obtain rfl := some_inj hm
  refine Ok_ret ?_
  repeat (first | refine thR ?_ | refine ibR ?_)
  exact X_fin [] [] (by kernel_rfl) trivial
abbrev i_LinesAt_r (y : (List Int) × Bool) : AV := .tup [.dat (Enc.e y.1), .dat (Enc.e y.2)]
abbrev i_LinesAt_n (y : (List Int) × Bool) : List Obj' := []
abbrev i_LinesAt_o (x : Network × Int) (y : (List Int) × Bool) : List Obj' := []
noncomputable def i_LinesAt_S : FnSpec := modS [none, none] (fun x : Network × Int => [Enc.e x.1, Enc.e x.2]) (fun x : Network × Int => []) (fun x : Network × Int => i_LinesAt x.1 x.2) i_LinesAt_r i_LinesAt_n i_LinesAt_o
theorem i_LinesAt_c {n : Network} {stop : Int} {y : (List Int) × Bool} (h : i_LinesAt n stop = some y) : CallOK i_LinesAt_S [Enc.e n, Enc.e stop] [] (i_LinesAt_r y) (i_LinesAt_n y) (i_LinesAt_o (n, stop) y) :=
  modS_call (by
    rintro ⟨a0, a1⟩ ⟨b0, b1⟩ h hO
    simp only [List.cons.injEq, and_true] at h
    try simp only [List.cons.injEq, and_true, Obj'.box.injEq, Obj'.arr.injEq, true_and, AV.dat.injEq] at hO
    obtain ⟨h0, h1⟩ := h
    have q0 := Enc.inj _ _ h0
    have q1 := Enc.inj _ _ h1
    subst q0; subst q1; rfl) (x := (n, stop)) h
theorem i_LinesAt_ok : FnOK Try.prog 39 i_LinesAt_S := by
  have Γok : ∀ f S, lookF f [(35, i_IsValidNetwork_S), (92, i_isStop_S), (96, slices_Contains_int_S)] = some S → FnOK Try.prog f S := lookF_ok (allF_cons i_IsValidNetwork_ok (allF_cons i_isStop_ok (allF_cons slices_Contains_int_ok allF_nil)))
  have Γlive : Live (fun f => lookF f [(35, i_IsValidNetwork_S), (92, i_isStop_S), (96, slices_Contains_int_S)]) := lookF_live (allL_cons modS_live (allL_cons modS_live (allL_cons modS_live allL_nil)))
  refine fnOK_mod ty_ok (fun args w => Try.call39 args w) Try.func39 rfl [.tmp 4, .tmp 5] (by rw [Try.results39]) 36 Try.ntmps39 16 rfl (fun _ => by first | exact Nat.zero_le _ | (simp)) (fun _ => rfl) ?_
  rintro ⟨n, stop⟩ y cx hm hL
  have hm : i_LinesAt n stop = some y := hm
  have hL : cx.L = 0 := hL
  unfold i_LinesAt at hm
  refine X_reg_seq ty_ok Γok hL [] .nil (by kernel_rfl) ?_
  refine Ok_seq ?_
  obtain ⟨r, h, hm⟩ := obind hm
  obtain ⟨v, hv, hk⟩ := obind hm
  refine X_join (n := 36) (fun (v : Bool) => (⟨[(1, .dat (.sc (.int .i64 stop))), (2, .ref 16 0), (17, .dat (.sc (.bool v)))], [(16, some (.box [.dat (Enc.e n.Stops), .dat (Enc.e n.Lines)]))], 48⟩ : X)) v ?_ ?_
  · have hm := hv
    rcases btf (!r) with hb | hb
    · have hm := it hb hm
      obtain rfl := some_inj hm
      refine X_reg ty_ok Γok hL [(1, .c (i_IsValidNetwork_r r) (i_IsValidNetwork_n r) (i_IsValidNetwork_o n r)), (3, .b true)] (.cons (i_IsValidNetwork_c h) (.cons hb .nil)) (by kernel_rfl) ?_
      exact thN (Wk_J hL ⟨[(1, []), (2, []), (17, [])], [(16, 16, [])], [], 48⟩ (by kernel_rfl))
    · have hm := ie hb hm
      obtain ⟨r1, h1, hm⟩ := obind hm
      obtain rfl := some_inj hm
      refine X_reg ty_ok Γok hL [(1, .c (i_IsValidNetwork_r r) (i_IsValidNetwork_n r) (i_IsValidNetwork_o n r)), (3, .b false), (6, .c (i_isStop_r r1) (i_isStop_n r1) (i_isStop_o (n, stop) r1))] (.cons (i_IsValidNetwork_c h) (.cons hb (.cons (i_isStop_c h1) .nil))) (by kernel_rfl) ?_
      exact thN (Wk_J hL ⟨[(1, []), (2, []), (17, [])], [(16, 16, [])], [], 48⟩ (by kernel_rfl))
  have hm := hk
  refine X_cond v (by kernel_rfl) (fun hc => ?_) (fun hc => ?_)
  · have hm := it hc hm
    refine X_reg_seq ty_ok Γok hL [] .nil (by kernel_rfl) ?_
    obtain rfl := some_inj hm
    refine Ok_ret ?_
    repeat (first | refine thR ?_ | refine ibR ?_)
    exact X_fin [] [[.z 1]] (by kernel_rfl) trivial
  · have hm := ie hc hm
    refine X_skip ?_
    refine thN ?_
    refine X_reg_seq ty_ok Γok hL [] .nil (by kernel_rfl) ?_
    refine Ok_seq ?_
    refine X_reg_seq ty_ok Γok hL [(2, .n (n.Lines.length : Int))] (.cons (len_m Enc.e n.Lines) .nil) (by kernel_rfl) ?_
    obtain ⟨l2, hv2, hk2⟩ := obind hm
    refine X_tail (n := 36) (fun (l2 : List Int) => (⟨[(6, .own 16)], [(16, some (.arr 3 1 (List.map Enc.e l2)))], 48⟩ : X)) l2 ?_ ?_
    · have hm := hv2
      refine Ok_block ?_
      refine X_loop (n := 36) (step := i_LinesAt_L1 n stop) (fun ((v1, l) : Int × (List Int)) => (⟨[(1, .dat (.sc (.int .i64 stop))), (6, .own 16), (19, .dat (Enc.e n.Lines)), (20, .dat (.sc (.int .i64 (n.Lines.length : Int)))), (21, .dat (.sc (.int .i64 v1)))], [(16, some (.arr 3 1 (List.map Enc.e l)))], 48⟩ : X)) hm (Wk_J hL ⟨[(1, []), (6, [.o 16]), (19, []), (20, []), (21, [])], [], [(16, 3, 1, [])], 48⟩ (by kernel_rfl)) ?_
      rintro ⟨v1, l⟩ r0 hm hb1
      rw [i_LinesAt_L1] at hm
      refine X_reg_seq ty_ok Γok hL [] .nil (by kernel_rfl) ?_
      refine Ok_seq ?_
      refine X_cond (decide (v1 < (n.Lines.length : Int))) (by kernel_rfl) (fun hc1 => ?_) (fun hc1 => ?_)
      · have hm := it hc1 hm
        refine X_skip ?_
        refine thN ?_
        obtain ⟨l1, hv1, hk1⟩ := obind hm
        refine X_join (n := 36) (fun (l1 : List Int) => (⟨[(1, .dat (.sc (.int .i64 stop))), (6, .own 16), (19, .dat (Enc.e n.Lines)), (20, .dat (.sc (.int .i64 (n.Lines.length : Int)))), (21, .dat (.sc (.int .i64 v1)))], [(16, some (.arr 3 1 (List.map Enc.e l1)))], 48⟩ : X)) l1 ?_ ?_
        · have hm := hv1
          refine Ok_block ?_
          obtain ⟨e, h2, hm⟩ := obind hm
          refine X_reg_seq ty_ok Γok hL [(1, .d (Enc.e e))] (.cons (idx_m (f := Enc.e) h2) .nil) (by kernel_rfl) ?_
          obtain ⟨r2, h3, hm⟩ := obind hm
          refine X_reg_seq ty_ok Γok hL [(3, .c (slices_Contains_int_r r2) (slices_Contains_int_n r2) (slices_Contains_int_o (e.Stops, stop) r2))] (.cons (slices_Contains_int_c h3) .nil) (by kernel_rfl) ?_
          refine X_cond r2 (by kernel_rfl) (fun hc2 => ?_) (fun hc2 => ?_)
          · have hm := it hc2 hm
            obtain ⟨u, h4, hm⟩ := obind hm
            refine X_reg ty_ok Γok hL [(3, .l (List.map Enc.e (l ++ ([v1] : List Int))))] (.cons (app_p (f := Enc.e) (g := Enc.e) (l := l) (r := ([v1] : List Int)) (b := 8) (chk_t h4) rfl) (.cons (app_m Enc.e l ([v1] : List Int)) .nil)) (by kernel_rfl) ?_
            refine ibN ?_
            obtain rfl := some_inj hm
            exact thN (Wk_J hL ⟨[(1, []), (6, []), (19, []), (20, []), (21, [])], [(16, 272, [])], [], 48⟩ (by kernel_rfl))
          · have hm := ie hc2 hm
            refine X_skip ?_
            refine ibN ?_
            obtain rfl := some_inj hm
            exact thN (Wk_J hL ⟨[(1, []), (6, []), (19, []), (20, []), (21, [])], [(16, 16, [])], [], 48⟩ (by kernel_rfl))
        have hm := hk1
        refine X_reg ty_ok Γok hL [] .nil (by kernel_rfl) ?_
        obtain rfl := some_inj hm
        exact thN ⟨_, rfl, Wk_J hL ⟨[(1, []), (6, []), (19, []), (20, []), (21, [])], [(16, 16, [])], [], 48⟩ (by kernel_rfl)⟩
      · have hm := ie hc1 hm
        obtain rfl := some_inj hm
        obtain rfl := hb1 _ rfl
        refine Ok_exit ?_
        refine thE ?_
        refine thE ?_
        refine ibE ?_
        exact thN (Wk_J hL ⟨[(6, [])], [(16, 16, [])], [], 48⟩ (by kernel_rfl))
    intro s hw
    have hm := hk2
    refine thN ?_
    refine Ok_weak hw ?_
    refine X_reg_seq ty_ok Γok hL [] .nil (by kernel_rfl) ?_
    obtain rfl := some_inj hm
    refine Ok_ret ?_
    repeat (first | refine thR ?_ | refine ibR ?_)
    exact X_fin [] [] (by kernel_rfl) trivial
abbrev v_vHas_r (y : Bool) : AV := .dat (Enc.e y)
abbrev v_vHas_n (y : Bool) : List Obj' := []
abbrev v_vHas_o (x : (List Int) × Int) (y : Bool) : List Obj' := []
noncomputable def v_vHas_S : FnSpec := modS [none, none] (fun x : (List Int) × Int => [Enc.e x.1, Enc.e x.2]) (fun x : (List Int) × Int => []) (fun x : (List Int) × Int => v_vHas x.1 x.2) v_vHas_r v_vHas_n v_vHas_o
theorem v_vHas_c {l : List Int} {x : Int} {y : Bool} (h : v_vHas l x = some y) : CallOK v_vHas_S [Enc.e l, Enc.e x] [] (v_vHas_r y) (v_vHas_n y) (v_vHas_o (l, x) y) :=
  modS_call (by
    rintro ⟨a0, a1⟩ ⟨b0, b1⟩ h hO
    simp only [List.cons.injEq, and_true] at h
    try simp only [List.cons.injEq, and_true, Obj'.box.injEq, Obj'.arr.injEq, true_and, AV.dat.injEq] at hO
    obtain ⟨h0, h1⟩ := h
    have q0 := Enc.inj _ _ h0
    have q1 := Enc.inj _ _ h1
    subst q0; subst q1; rfl) (x := (l, x)) h
theorem v_vHas_ok : FnOK Try.prog 40 v_vHas_S := by
  have Γok : ∀ f S, lookF f [] = some S → FnOK Try.prog f S := lookF_ok allF_nil
  have Γlive : Live (fun f => lookF f []) := lookF_live allL_nil
  refine fnOK_mod ty_ok (fun args w => Try.call40 args w) Try.func40 rfl [.tmp 4] (by rw [Try.results40]) 18 Try.ntmps40 16 rfl (fun _ => by first | exact Nat.zero_le _ | (simp)) (fun _ => rfl) ?_
  rintro ⟨l, x⟩ y cx hm hL
  have hm : v_vHas l x = some y := hm
  have hL : cx.L = 0 := hL
  unfold v_vHas at hm
  refine X_reg_seq ty_ok Γok hL [] .nil (by kernel_rfl) ?_
  refine Ok_seq ?_
  refine X_reg_seq ty_ok Γok hL [] .nil (by kernel_rfl) ?_
  obtain ⟨v1, hv, hr, hk⟩ := flb_t hm
  refine X_tailF (n := 18) (fun (_ : Unit) => (⟨[], [], 32⟩ : X)) v1 ?_ ?_
  · have hm := hv
    refine Ok_block ?_
    refine X_loop (n := 18) (step := v_vHas_L1 l x) (fun (v : Int) => (⟨[(0, .dat (Enc.e l)), (1, .dat (.sc (.int .i64 x))), (5, .dat (.sc (.int .i64 v)))], [], 32⟩ : X)) hm (Wk_J hL ⟨[(0, []), (1, []), (5, [])], [], [], 32⟩ (by kernel_rfl)) ?_
    rintro v r0 hm hb
    rw [v_vHas_L1] at hm
    refine Ok_seq ?_
    refine X_reg_seq ty_ok Γok hL [(2, .n (l.length : Int))] (.cons (len_m Enc.e l) .nil) (by kernel_rfl) ?_
    refine X_cond (decide (v < (l.length : Int))) (by kernel_rfl) (fun hc => ?_) (fun hc => ?_)
    · have hm := it hc hm
      refine X_skip ?_
      refine thN ?_
      refine Ok_seq ?_
      refine Ok_block ?_
      obtain ⟨e, h, hm⟩ := obind hm
      refine X_reg_seq ty_ok Γok hL [(2, .d (Enc.e e))] (.cons (idx_m (f := Enc.e) h) .nil) (by kernel_rfl) ?_
      refine X_cond (e == x) (by kernel_rfl) (fun hc1 => ?_) (fun hc1 => ?_)
      · have hm := it hc1 hm
        refine X_reg_seq ty_ok Γok hL [] .nil (by kernel_rfl) ?_
        obtain rfl := some_inj hm
        obtain rfl := hb _ rfl
        have hm := congrArg some (hr _ rfl)
        obtain rfl := some_inj hm
        refine Ok_ret ?_
        repeat (first | refine thR ?_ | refine ibR ?_)
        exact X_fin [] [] (by kernel_rfl) trivial
      · have hm := ie hc1 hm
        refine X_skip ?_
        refine ibN ?_
        refine thN ?_
        refine X_reg ty_ok Γok hL [] .nil (by kernel_rfl) ?_
        obtain rfl := some_inj hm
        exact thN ⟨_, rfl, Wk_J hL ⟨[(0, []), (1, []), (5, [])], [], [], 32⟩ (by kernel_rfl)⟩
    · have hm := ie hc hm
      obtain rfl := some_inj hm
      obtain rfl := hb _ rfl
      refine Ok_exit ?_
      refine thE ?_
      refine thE ?_
      refine ibE ?_
      exact thN ⟨_, rfl, Wk_J hL ⟨[], [], [], 32⟩ (by kernel_rfl)⟩
  rintro ⟨⟩ hu s hw
  have hm := hk _ hu
  refine thN ?_
  refine Ok_weak hw ?_
  refine X_reg_seq ty_ok Γok hL [] .nil (by kernel_rfl) ?_
  obtain rfl := some_inj hm
  refine Ok_ret ?_
  repeat (first | refine thR ?_ | refine ibR ?_)
  exact X_fin [] [] (by kernel_rfl) trivial
abbrev v_FnLines_r (y : Bool) : AV := .dat (Enc.e y)
abbrev v_FnLines_n (y : Bool) : List Obj' := []
abbrev v_FnLines_o (x : (List UInt8)) (y : Bool) : List Obj' := []
noncomputable def v_FnLines_S : FnSpec := modS [none] (fun x : (List UInt8) => [Enc.e x]) (fun x : (List UInt8) => []) (fun x : (List UInt8) => v_FnLines x) v_FnLines_r v_FnLines_n v_FnLines_o
theorem v_FnLines_c {code : List UInt8} {y : Bool} (h : v_FnLines code = some y) : CallOK v_FnLines_S [Enc.e code] [] (v_FnLines_r y) (v_FnLines_n y) (v_FnLines_o code y) :=
  modS_call (by
    rintro a0 b0 h hO
    simp only [List.cons.injEq, and_true] at h
    try simp only [List.cons.injEq, and_true, Obj'.box.injEq, Obj'.arr.injEq, true_and, AV.dat.injEq] at hO
    have h0 := h
    have q0 := Enc.inj _ _ h0
    subst q0; rfl) (x := code) h
theorem v_FnLines_ok : FnOK Try.prog 5 v_FnLines_S := by
  have Γok : ∀ f S, lookF f [(30, v_vBig_S), (31, s_DrawReverseLine_S), (32, i_ReverseLine_S), (33, s_ReverseLine_S), (34, v_vNetwork_S), (35, i_IsValidNetwork_S), (36, s_IsValidNetwork_S), (37, i_RunTime_S), (38, i_LineNumber_S), (39, i_LinesAt_S), (40, v_vHas_S)] = some S → FnOK Try.prog f S := lookF_ok (allF_cons v_vBig_ok (allF_cons s_DrawReverseLine_ok (allF_cons i_ReverseLine_ok (allF_cons s_ReverseLine_ok (allF_cons v_vNetwork_ok (allF_cons i_IsValidNetwork_ok (allF_cons s_IsValidNetwork_ok (allF_cons i_RunTime_ok (allF_cons i_LineNumber_ok (allF_cons i_LinesAt_ok (allF_cons v_vHas_ok allF_nil)))))))))))
  have Γlive : Live (fun f => lookF f [(30, v_vBig_S), (31, s_DrawReverseLine_S), (32, i_ReverseLine_S), (33, s_ReverseLine_S), (34, v_vNetwork_S), (35, i_IsValidNetwork_S), (36, s_IsValidNetwork_S), (37, i_RunTime_S), (38, i_LineNumber_S), (39, i_LinesAt_S), (40, v_vHas_S)]) := lookF_live (allL_cons modS_live (allL_cons modS_live (allL_cons modS_live (allL_cons modS_live (allL_cons modS_live (allL_cons modS_live (allL_cons modS_live (allL_cons modS_live (allL_cons modS_live (allL_cons modS_live (allL_cons modS_live allL_nil)))))))))))
  refine fnOK_mod ty_ok (fun args w => Try.call5 args w) Try.func5 rfl [.tmp 2] (by rw [Try.results5]) 156 Try.ntmps5 16 rfl (fun _ => by first | exact Nat.zero_le _ | (simp)) (fun _ => rfl) ?_
  rintro code y cx hm hL
  have hm : v_FnLines code = some y := hm
  have hL : cx.L = 0 := hL
  unfold v_FnLines at hm
  refine X_reg_seq ty_ok Γok hL [] .nil (by kernel_rfl) ?_
  refine Ok_seq ?_
  obtain ⟨r, h, hm⟩ := obind hm
  refine X_reg_seq ty_ok Γok hL [(1, .c (v_vBig_r r) (v_vBig_n r) (v_vBig_o code r))] (.cons (v_vBig_c h) .nil) (by kernel_rfl) ?_
  refine X_cond r (by kernel_rfl) (fun hc => ?_) (fun hc => ?_)
  · have hm := it hc hm
    refine X_reg_seq ty_ok Γok hL [] .nil (by kernel_rfl) ?_
    obtain rfl := some_inj hm
    refine Ok_ret ?_
    repeat (first | refine thR ?_ | refine ibR ?_)
    exact X_fin [] [] (by kernel_rfl) trivial
  · have hm := ie hc hm
    refine X_skip ?_
    refine thN ?_
    obtain ⟨r1, h1, hm⟩ := obind hm
    refine X_reg_seq ty_ok Γok hL [(1, .c (s_DrawReverseLine_r r1) (s_DrawReverseLine_n r1) (s_DrawReverseLine_o code r1))] (.cons (s_DrawReverseLine_c h1) .nil) (by kernel_rfl) ?_
    obtain ⟨r2, h2, hm⟩ := obind hm
    refine X_reg_seq ty_ok Γok hL [(3, .fz [80] [] []), (3, .c (i_ReverseLine_r r2) (i_ReverseLine_n r2) (i_ReverseLine_o (r1.1, r1.2.1, r1.2.2) r2))] (.cons (i_ReverseLine_c h2) .nil) (by kernel_rfl) ?_
    refine Ok_seq ?_
    obtain ⟨r3, h3, hm⟩ := obind hm
    refine X_reg_seq ty_ok Γok hL [(3, .c (s_ReverseLine_r r3) (s_ReverseLine_n r3) (s_ReverseLine_o (r1.1, r1.2.1, r1.2.2) r3))] (.cons (s_ReverseLine_c h3) .nil) (by kernel_rfl) ?_
    obtain ⟨v, hv, hk⟩ := obind hm
    refine X_join (n := 156) (fun (v : Bool) => (⟨[(3, .ref 16 0), (4, .dat (.sc (.int .i64 r1.2.1))), (5, .dat (.sc (.string r1.2.2))), (6, .ref 32 0), (7, .dat (.sc (.bool r2.2))), (58, .dat (.sc (.bool v)))], [(16, some (.box [.dat (Enc.e r1.1.Stops), .dat (Enc.e r1.1.Lines)])), (32, some (.box [.dat (Enc.e r2.1.Stops), .dat (Enc.e r2.1.Lines)]))], 64⟩ : X)) v ?_ ?_
    · have hm := hv
      rcases btf (!(r2.2 == r3.2)) with hb | hb
      · have hm := it hb hm
        obtain rfl := some_inj hm
        refine X_draw mixed ty_ok Γok Γlive [] (by kernel_rfl) [(3, .b true)] (.cons hb .nil) (by kernel_rfl) ?_
        exact thN (Wk_J hL ⟨[(3, []), (4, []), (5, []), (6, []), (7, []), (58, [])], [(16, 160, []), (32, 336, [])], [], 64⟩ (by kernel_rfl))
      · have hm := ie hb hm
        obtain ⟨r7, h7, hm⟩ := obind hm
        rcases btf (!r7) with hb1 | hb1
        · have hm := it hb1 hm
          obtain rfl := some_inj hm
          refine X_draw mixed ty_ok Γok Γlive [] (by kernel_rfl) [(3, .b false), (6, .c (v_vNetwork_r r7) (v_vNetwork_n r7) (v_vNetwork_o (r2.1, r3.1) r7)), (9, .b true)] (.cons hb (.cons (v_vNetwork_c h7) (.cons hb1 .nil))) (by kernel_rfl) ?_
          exact thN (Wk_J hL ⟨[(3, []), (4, []), (5, []), (6, []), (7, []), (58, [])], [(16, 160, []), (32, 336, [])], [], 64⟩ (by kernel_rfl))
        · have hm := ie hb1 hm
          obtain ⟨r8, h8, hm⟩ := obind hm
          obtain ⟨r9, h9, hm⟩ := obind hm
          obtain rfl := some_inj hm
          refine X_draw mixed ty_ok Γok Γlive [] (by kernel_rfl) [(3, .b false), (6, .c (v_vNetwork_r r7) (v_vNetwork_n r7) (v_vNetwork_o (r2.1, r3.1) r7)), (9, .b false), (11, .c (i_IsValidNetwork_r r8) (i_IsValidNetwork_n r8) (i_IsValidNetwork_o r1.1 r8)), (13, .c (s_IsValidNetwork_r r9) (s_IsValidNetwork_n r9) (s_IsValidNetwork_o r1.1 r9))] (.cons hb (.cons (v_vNetwork_c h7) (.cons hb1 (.cons (i_IsValidNetwork_c h8) (.cons (s_IsValidNetwork_c h9) .nil))))) (by kernel_rfl) ?_
          exact thN (Wk_J hL ⟨[(3, []), (4, []), (5, []), (6, []), (7, []), (58, [])], [(16, 160, []), (32, 336, [])], [], 64⟩ (by kernel_rfl))
    have hm := hk
    refine X_cond v (by kernel_rfl) (fun hc1 => ?_) (fun hc1 => ?_)
    · have hm := it hc1 hm
      refine X_reg_seq ty_ok Γok hL [] .nil (by kernel_rfl) ?_
      obtain rfl := some_inj hm
      refine Ok_ret ?_
      repeat (first | refine thR ?_ | refine ibR ?_)
      exact X_fin [] [] (by kernel_rfl) trivial
    · have hm := ie hc1 hm
      refine X_skip ?_
      refine thN ?_
      refine Ok_seq ?_
      refine X_reg_seq ty_ok Γok hL [] .nil (by kernel_rfl) ?_
      refine X_cond (!r2.2) (by kernel_rfl) (fun hc2 => ?_) (fun hc2 => ?_)
      · have hm := it hc2 hm
        refine X_reg_seq ty_ok Γok hL [(2, .n (r2.1.Stops.length : Int))] (.cons (len_m Enc.e r2.1.Stops) .nil) (by kernel_rfl) ?_
        obtain rfl := some_inj hm
        refine Ok_ret ?_
        repeat (first | refine thR ?_ | refine ibR ?_)
        exact X_fin [] [] (by kernel_rfl) trivial
      · have hm := ie hc2 hm
        refine X_skip ?_
        refine thN ?_
        refine X_reg_seq ty_ok Γok hL [(2, .n (r2.1.Lines.length : Int))] (.cons (len_m Enc.e r2.1.Lines) .nil) (by kernel_rfl) ?_
        obtain ⟨e, h10, hm⟩ := obind hm
        refine X_reg_seq ty_ok Γok hL [(3, .d (Enc.e e))] (.cons (idx_m (f := Enc.e) h10) .nil) (by kernel_rfl) ?_
        refine Ok_seq ?_
        refine X_reg_seq ty_ok Γok hL [] .nil (by kernel_rfl) ?_
        obtain ⟨v2, hv2, hr, hk2⟩ := flb_t hm
        refine X_tailF (n := 156) (fun (_ : Unit) => (⟨[(4, .dat (.sc (.int .i64 r1.2.1))), (5, .dat (.sc (.string r1.2.2))), (6, .ref 16 0), (10, .dat (.sc (.int .i64 (w64 ((r2.1.Lines.length : Int) - 1))))), (11, .ref 32 0)], [(16, some (.box [.dat (Enc.e r2.1.Stops), .dat (Enc.e r2.1.Lines)])), (32, some (.box [.dat (.sc (.string e.Name)), .dat (Enc.e e.Stops), .dat (Enc.e e.Runs)]))], 64⟩ : X)) v2 ?_ ?_
        · have hm := hv2
          refine Ok_block ?_
          refine X_loop (n := 156) (step := v_FnLines_L1 r1 r2 e) (fun (a : Int) => (⟨[(3, .ref 16 0), (4, .dat (.sc (.int .i64 r1.2.1))), (5, .dat (.sc (.string r1.2.2))), (6, .ref 32 0), (10, .dat (.sc (.int .i64 (w64 ((r2.1.Lines.length : Int) - 1))))), (11, .ref 48 0), (12, .dat (.sc (.int .i64 a)))], [(16, some (.box [.dat (Enc.e r1.1.Stops), .dat (Enc.e r1.1.Lines)])), (32, some (.box [.dat (Enc.e r2.1.Stops), .dat (Enc.e r2.1.Lines)])), (48, some (.box [.dat (.sc (.string e.Name)), .dat (Enc.e e.Stops), .dat (Enc.e e.Runs)]))], 80⟩ : X)) hm (Wk_J hL ⟨[(3, []), (4, []), (5, []), (6, []), (10, []), (11, []), (12, [])], [(16, 16, []), (32, 32, []), (48, 256, [])], [], 80⟩ (by kernel_rfl)) ?_
          rintro a r0 hm hb2
          rw [v_FnLines_L1] at hm
          refine Ok_seq ?_
          refine X_reg_seq ty_ok Γok hL [(3, .n (e.Stops.length : Int))] (.cons (len_m Enc.e e.Stops) .nil) (by kernel_rfl) ?_
          refine X_cond (decide (a < (e.Stops.length : Int))) (by kernel_rfl) (fun hc3 => ?_) (fun hc3 => ?_)
          · have hm := it hc3 hm
            refine X_skip ?_
            refine thN ?_
            refine Ok_seq ?_
            refine Ok_block ?_
            obtain ⟨e3, h14, hm⟩ := obind hm
            obtain ⟨e4, h15, hm⟩ := obind hm
            obtain ⟨r11, h16, hm⟩ := obind hm
            refine X_draw_seq mixed ty_ok Γok Γlive [] (by kernel_rfl) [(4, .d (Enc.e e3)), (9, .d (Enc.e e4)), (11, .c (i_RunTime_r r11) (i_RunTime_n r11) (i_RunTime_o (r1.1, r1.2.1, e3, e4) r11))] (.cons (idx_m (f := Enc.e) h14) (.cons (idx_m (f := Enc.e) h15) (.cons (i_RunTime_c h16) .nil))) (by kernel_rfl) ?_
            obtain ⟨e7, h20, hm⟩ := obind hm
            obtain ⟨e8, h21, hm⟩ := obind hm
            obtain ⟨r13, h22, hm⟩ := obind hm
            refine X_draw_seq mixed ty_ok Γok Γlive [] (by kernel_rfl) [(5, .d (Enc.e e7)), (9, .d (Enc.e e8)), (11, .c (i_RunTime_r r13) (i_RunTime_n r13) (i_RunTime_o (r2.1, (w64 ((r2.1.Lines.length : Int) - 1)), e7, e8) r13))] (.cons (idx_m (f := Enc.e) h20) (.cons (idx_m (f := Enc.e) h21) (.cons (i_RunTime_c h22) .nil))) (by kernel_rfl) ?_
            obtain ⟨v1, hv1, hk1⟩ := obind hm
            refine X_join (n := 156) (fun (v1 : Bool) => (⟨[(3, .ref 16 0), (4, .dat (.sc (.int .i64 r1.2.1))), (5, .dat (.sc (.string r1.2.2))), (6, .ref 32 0), (10, .dat (.sc (.int .i64 (w64 ((r2.1.Lines.length : Int) - 1))))), (11, .ref 48 0), (12, .dat (.sc (.int .i64 a))), (121, .dat (.sc (.bool v1)))], [(16, some (.box [.dat (Enc.e r1.1.Stops), .dat (Enc.e r1.1.Lines)])), (32, some (.box [.dat (Enc.e r2.1.Stops), .dat (Enc.e r2.1.Lines)])), (48, some (.box [.dat (.sc (.string e.Name)), .dat (Enc.e e.Stops), .dat (Enc.e e.Runs)]))], 80⟩ : X)) v1 ?_ ?_
            · have hm := hv1
              rcases btf (!r11.2) with hb3 | hb3
              · have hm := it hb3 hm
                obtain rfl := some_inj hm
                refine X_reg ty_ok Γok hL [(2, .b true)] (.cons hb3 .nil) (by kernel_rfl) ?_
                exact thN (Wk_J hL ⟨[(3, []), (4, []), (5, []), (6, []), (10, []), (11, []), (12, []), (121, [])], [(16, 16, []), (32, 32, []), (48, 48, [])], [], 80⟩ (by kernel_rfl))
              · have hm := ie hb3 hm
                rcases btf (!r13.2) with hb4 | hb4
                · have hm := it hb4 hm
                  obtain rfl := some_inj hm
                  refine X_reg ty_ok Γok hL [(2, .b false), (6, .b true)] (.cons hb3 (.cons hb4 .nil)) (by kernel_rfl) ?_
                  exact thN (Wk_J hL ⟨[(3, []), (4, []), (5, []), (6, []), (10, []), (11, []), (12, []), (121, [])], [(16, 16, []), (32, 32, []), (48, 48, [])], [], 80⟩ (by kernel_rfl))
                · have hm := ie hb4 hm
                  obtain rfl := some_inj hm
                  refine X_reg ty_ok Γok hL [(2, .b false), (6, .b false)] (.cons hb3 (.cons hb4 .nil)) (by kernel_rfl) ?_
                  exact thN (Wk_J hL ⟨[(3, []), (4, []), (5, []), (6, []), (10, []), (11, []), (12, []), (121, [])], [(16, 16, []), (32, 32, []), (48, 48, [])], [], 80⟩ (by kernel_rfl))
            have hm := hk1
            refine X_cond v1 (by kernel_rfl) (fun hc4 => ?_) (fun hc4 => ?_)
            · have hm := it hc4 hm
              refine X_reg_seq ty_ok Γok hL [] .nil (by kernel_rfl) ?_
              obtain rfl := some_inj hm
              obtain rfl := hb2 _ rfl
              have hm := congrArg some (hr _ rfl)
              obtain rfl := some_inj hm
              refine Ok_ret ?_
              repeat (first | refine thR ?_ | refine ibR ?_)
              exact X_fin [] [] (by kernel_rfl) trivial
            · have hm := ie hc4 hm
              refine X_skip ?_
              refine ibN ?_
              refine thN ?_
              refine X_reg ty_ok Γok hL [] .nil (by kernel_rfl) ?_
              obtain rfl := some_inj hm
              exact thN ⟨_, rfl, Wk_J hL ⟨[(3, []), (4, []), (5, []), (6, []), (10, []), (11, []), (12, [])], [(16, 16, []), (32, 32, []), (48, 48, [])], [], 80⟩ (by kernel_rfl)⟩
          · have hm := ie hc3 hm
            obtain rfl := some_inj hm
            obtain rfl := hb2 _ rfl
            refine Ok_exit ?_
            refine thE ?_
            refine thE ?_
            refine ibE ?_
            exact thN ⟨_, rfl, Wk_J hL ⟨[(4, []), (5, []), (6, []), (10, []), (11, [])], [(16, 32, []), (32, 48, [])], [], 64⟩ (by kernel_rfl)⟩
        rintro ⟨⟩ hu s hw
        have hm := hk2 _ hu
        refine thN ?_
        refine Ok_weak hw ?_
        obtain ⟨r15, h23, hm⟩ := obind hm
        refine X_reg_seq ty_ok Γok hL [(2, .c (i_LineNumber_r r15) (i_LineNumber_n r15) (i_LineNumber_o (r2.1, r1.2.2) r15))] (.cons (i_LineNumber_c h23) .nil) (by kernel_rfl) ?_
        obtain ⟨e11, h26, hm⟩ := obind hm
        obtain ⟨r17, h27, hm⟩ := obind hm
        refine X_draw_seq mixed ty_ok Γok Γlive [] (by kernel_rfl) [(3, .d (Enc.e e11)), (5, .c (i_LinesAt_r r17) (i_LinesAt_n r17) (i_LinesAt_o (r2.1, e11) r17))] (.cons (idx_m (f := Enc.e) h26) (.cons (i_LinesAt_c h27) .nil)) (by kernel_rfl) ?_
        obtain ⟨n, hv3, hk3⟩ := obind hm
        refine X_join (n := 156) (fun (n : Bool) => (⟨[(2, .dat (.sc (.bool n)))], [], 32⟩ : X)) n ?_ ?_
        · have hm := hv3
          rcases btf r15.2 with hb5 | hb5
          · have hm := it hb5 hm
            rcases btf (r15.1 == (w64 ((r2.1.Lines.length : Int) - 1))) with hb6 | hb6
            · have hm := it hb6 hm
              rcases btf r17.2 with hb7 | hb7
              · have hm := it hb7 hm
                obtain ⟨r18, h28, hm⟩ := obind hm
                rcases btf r18 with hb8 | hb8
                · have hm := it hb8 hm
                  obtain ⟨r19, h29, hm⟩ := obind hm
                  obtain rfl := some_inj hm
                  refine X_reg ty_ok Γok hL [(1, .b true), (6, .b true), (9, .b true), (12, .c (v_vHas_r r18) (v_vHas_n r18) (v_vHas_o (r17.1, r1.2.1) r18)), (14, .b true), (17, .c (v_vHas_r r19) (v_vHas_n r19) (v_vHas_o (r17.1, (w64 ((r2.1.Lines.length : Int) - 1))) r19))] (.cons hb5 (.cons hb6 (.cons hb7 (.cons (v_vHas_c h28) (.cons hb8 (.cons (v_vHas_c h29) .nil)))))) (by kernel_rfl) ?_
                  exact thN (Wk_J hL ⟨[(2, [])], [], [], 32⟩ (by kernel_rfl))
                · have hm := ie hb8 hm
                  obtain rfl := some_inj hm
                  refine X_reg ty_ok Γok hL [(1, .b true), (6, .b true), (9, .b true), (12, .c (v_vHas_r r18) (v_vHas_n r18) (v_vHas_o (r17.1, r1.2.1) r18)), (14, .b false)] (.cons hb5 (.cons hb6 (.cons hb7 (.cons (v_vHas_c h28) (.cons hb8 .nil))))) (by kernel_rfl) ?_
                  exact thN (Wk_J hL ⟨[(2, [])], [], [], 32⟩ (by kernel_rfl))
              · have hm := ie hb7 hm
                obtain rfl := some_inj hm
                refine X_reg ty_ok Γok hL [(1, .b true), (6, .b true), (9, .b false)] (.cons hb5 (.cons hb6 (.cons hb7 .nil))) (by kernel_rfl) ?_
                exact thN (Wk_J hL ⟨[(2, [])], [], [], 32⟩ (by kernel_rfl))
            · have hm := ie hb6 hm
              obtain rfl := some_inj hm
              refine X_reg ty_ok Γok hL [(1, .b true), (6, .b false)] (.cons hb5 (.cons hb6 .nil)) (by kernel_rfl) ?_
              exact thN (Wk_J hL ⟨[(2, [])], [], [], 32⟩ (by kernel_rfl))
          · have hm := ie hb5 hm
            obtain rfl := some_inj hm
            refine X_reg ty_ok Γok hL [(1, .b false)] (.cons hb5 .nil) (by kernel_rfl) ?_
            exact thN (Wk_J hL ⟨[(2, [])], [], [], 32⟩ (by kernel_rfl))
        have hm := hk3
        obtain rfl := some_inj hm
        refine Ok_ret ?_
        repeat (first | refine thR ?_ | refine ibR ?_)
        exact X_fin [] [] (by kernel_rfl) trivial
end Go.Proofs.Ytmpgpfekekobfaa
