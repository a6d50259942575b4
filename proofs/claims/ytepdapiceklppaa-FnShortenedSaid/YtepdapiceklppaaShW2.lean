/- Each function computes what its model says. Made by program (dec.py). -/
import Derived.Test.YtepdapiceklppaaShW1
namespace Go.Proofs.Ytepdapiceklppaa
open Go Go.Ab
set_option maxRecDepth 100000
set_option maxHeartbeats 4000000
set_option linter.unusedVariables false
set_option linter.unusedSimpArgs false
abbrev s_l2Run_r (y : Int) : AV := .dat (Enc.e y)
abbrev s_l2Run_n (y : Int) : List Obj' := []
abbrev s_l2Run_o (x : Line × Int × Int) (y : Int) : List Obj' := []
noncomputable def s_l2Run_S : FnSpec := modS [.rd, .rd, .rd] (fun x : Line × Int × Int => [Enc.e x.1, Enc.e x.2.1, Enc.e x.2.2]) (fun x : Line × Int × Int => []) (fun x : Line × Int × Int => s_l2Run x.1 x.2.1 x.2.2) s_l2Run_r s_l2Run_n s_l2Run_o
theorem s_l2Run_c {x : Line} {from_ : Int} {to : Int} {y : Int} (h : s_l2Run x from_ to = some y) : CallOK s_l2Run_S [Enc.e x, Enc.e from_, Enc.e to] [] (s_l2Run_r y) (s_l2Run_n y) (s_l2Run_o (x, from_, to) y) :=
  modS_call (by
    rintro ⟨a0, a1, a2⟩ ⟨b0, b1, b2⟩ h hO
    have q0 : a0 = b0 := Enc.inj _ _ (congrArg (fun l => List.getD l 0 (.sc undef)) h)
    have q1 : a1 = b1 := Enc.inj _ _ (congrArg (fun l => List.getD l 1 (.sc undef)) h)
    have q2 : a2 = b2 := Enc.inj _ _ (congrArg (fun l => List.getD l 2 (.sc undef)) h)
    subst q0; subst q1; subst q2; rfl) (x := (x, from_, to)) h
theorem s_l2Run_ok : FnOK Try.prog 271 s_l2Run_S := by
  have Γok : ∀ f S, lookF f [] = some S → FnOK Try.prog f S := lookF_ok allF_nil
  have Γlive : Live (fun f => lookF f []) := lookF_live allL_nil
  refine fnOK_mod ty_ok (fun args w => Try.call271 args w) Try.func271 rfl [.tmp 6] (by rw [Try.results271]) 23 Try.ntmps271 16 rfl (fun _ => by first | exact Nat.zero_le _ | (simp)) ?_
  rintro ⟨x, from_, to⟩ y cx hm hL
  have hm : s_l2Run x from_ to = some y := hm
  have hL : cx.L = 0 := hL
  unfold s_l2Run at hm
  refine X_reg_seq ty_ok Γok hL [] .nil (by kernel_rfl) ?_
  refine X_reg_seq ty_ok Γok hL [] .nil (by kernel_rfl) ?_
  refine Ok_seq ?_
  refine X_reg_seq ty_ok Γok hL [] .nil (by kernel_rfl) ?_
  obtain ⟨v2, hv, hk⟩ := obind hm
  refine X_tail (n := 23) (fun (v2 : Int) => (⟨[(7, .dat (.sc (.int .i64 v2)))], [], 32⟩ : X)) v2 ?_ ?_
  · have hm := hv
    refine Ok_block ?_
    refine X_loop (n := 23) (step := s_l2Run_L1 x to) (fun ((v, v1) : Int × Int) => (⟨[(2, .dat (.sc (.int .i64 to))), (3, .ref 16 0), (7, .dat (.sc (.int .i64 v))), (8, .dat (.sc (.int .i64 v1)))], [(16, some (.box [.dat (.sc (.string x.Name)), .dat (Enc.e x.Stops), .dat (Enc.e x.Runs)]))], 48⟩ : X)) hm (Wk_J hL ⟨[(2, []), (3, []), (7, []), (8, [])], [(16, 16, [])], [], 48⟩ (by kernel_rfl)) ?_
    rintro ⟨v, v1⟩ r0 hm hb
    rw [s_l2Run_L1] at hm
    refine Ok_seq ?_
    refine X_reg_seq ty_ok Γok hL [] .nil (by kernel_rfl) ?_
    refine X_cond (decide (v1 < to)) (by kernel_rfl) (fun hc => ?_) (fun hc => ?_)
    · have hm := it hc hm
      refine X_skip ?_
      refine thN ?_
      refine Ok_seq ?_
      refine Ok_block ?_
      obtain ⟨e, h, hm⟩ := obind hm
      refine X_reg ty_ok Γok hL [(4, .d (Enc.e e))] (.cons (idx_m (f := Enc.e) h) .nil) (by kernel_rfl) ?_
      refine ibN ?_
      refine thN ?_
      refine X_reg ty_ok Γok hL [] .nil (by kernel_rfl) ?_
      obtain rfl := some_inj hm
      exact thN ⟨_, rfl, Wk_J hL ⟨[(2, []), (3, []), (7, []), (8, [])], [(16, 16, [])], [], 48⟩ (by kernel_rfl)⟩
    · have hm := ie hc hm
      obtain rfl := some_inj hm
      obtain rfl := hb _ rfl
      refine Ok_exit ?_
      refine thE ?_
      refine thE ?_
      refine ibE ?_
      exact thN (Wk_J hL ⟨[(7, [])], [], [], 32⟩ (by kernel_rfl))
  intro s hw
  have hm := hk
  refine thN ?_
  refine Ok_weak hw ?_
  refine X_reg_seq ty_ok Γok hL [] .nil (by kernel_rfl) ?_
  obtain rfl := some_inj hm
  refine Ok_ret ?_
  repeat (first | refine thR ?_ | refine ibR ?_)
  exact X_fin [] [] (by kernel_rfl) trivial
abbrev s_l5At_r (y : Int) : AV := .dat (Enc.e y)
abbrev s_l5At_n (y : Int) : List Obj' := []
abbrev s_l5At_o (x : Timetable × Int × Int) (y : Int) : List Obj' := []
noncomputable def s_l5At_S : FnSpec := modS [.rd, .rd, .rd] (fun x : Timetable × Int × Int => [Enc.e x.1, Enc.e x.2.1, Enc.e x.2.2]) (fun x : Timetable × Int × Int => []) (fun x : Timetable × Int × Int => s_l5At x.1 x.2.1 x.2.2) s_l5At_r s_l5At_n s_l5At_o
theorem s_l5At_c {t : Timetable} {i : Int} {k : Int} {y : Int} (h : s_l5At t i k = some y) : CallOK s_l5At_S [Enc.e t, Enc.e i, Enc.e k] [] (s_l5At_r y) (s_l5At_n y) (s_l5At_o (t, i, k) y) :=
  modS_call (by
    rintro ⟨a0, a1, a2⟩ ⟨b0, b1, b2⟩ h hO
    have q0 : a0 = b0 := Enc.inj _ _ (congrArg (fun l => List.getD l 0 (.sc undef)) h)
    have q1 : a1 = b1 := Enc.inj _ _ (congrArg (fun l => List.getD l 1 (.sc undef)) h)
    have q2 : a2 = b2 := Enc.inj _ _ (congrArg (fun l => List.getD l 2 (.sc undef)) h)
    subst q0; subst q1; subst q2; rfl) (x := (t, i, k)) h
theorem s_l5At_ok : FnOK Try.prog 246 s_l5At_S := by
  have Γok : ∀ f S, lookF f [(218, s_l5Line_S), (271, s_l2Run_S)] = some S → FnOK Try.prog f S := lookF_ok (allF_cons s_l5Line_ok (allF_cons s_l2Run_ok allF_nil))
  have Γlive : Live (fun f => lookF f [(218, s_l5Line_S), (271, s_l2Run_S)]) := lookF_live (allL_cons modS_live (allL_cons modS_live allL_nil))
  refine fnOK_mod ty_ok (fun args w => Try.call246 args w) Try.func246 rfl [.tmp 6] (by rw [Try.results246]) 19 Try.ntmps246 16 rfl (fun _ => by first | exact Nat.zero_le _ | (simp)) ?_
  rintro ⟨t, i, k⟩ y cx hm hL
  have hm : s_l5At t i k = some y := hm
  have hL : cx.L = 0 := hL
  unfold s_l5At at hm
  refine X_reg_seq ty_ok Γok hL [] .nil (by kernel_rfl) ?_
  obtain ⟨e1, h3, hm⟩ := obind hm
  obtain ⟨r2, h4, hm⟩ := obind hm
  obtain ⟨r3, h5, hm⟩ := obind hm
  refine X_draw_seq mixed ty_ok Γok Γlive [] (by kernel_rfl) [(3, .d (Enc.e e1)), (8, .c (s_l5Line_r r2) (s_l5Line_n r2) (s_l5Line_o (t, i) r2)), (10, .c (s_l2Run_r r3) (s_l2Run_n r3) (s_l2Run_o (r2, 0, k) r3))] (.cons (idx_m (f := Enc.e) h3) (.cons (s_l5Line_c h4) (.cons (s_l2Run_c h5) .nil))) (by kernel_rfl) ?_
  obtain rfl := some_inj hm
  refine Ok_ret ?_
  repeat (first | refine thR ?_ | refine ibR ?_)
  exact X_fin [] [] (by kernel_rfl) trivial
abbrev s_l5End_r (y : Int) : AV := .dat (Enc.e y)
abbrev s_l5End_n (y : Int) : List Obj' := []
abbrev s_l5End_o (x : Timetable × Int) (y : Int) : List Obj' := []
noncomputable def s_l5End_S : FnSpec := modS [.rd, .rd] (fun x : Timetable × Int => [Enc.e x.1, Enc.e x.2]) (fun x : Timetable × Int => []) (fun x : Timetable × Int => s_l5End x.1 x.2) s_l5End_r s_l5End_n s_l5End_o
theorem s_l5End_c {t : Timetable} {i : Int} {y : Int} (h : s_l5End t i = some y) : CallOK s_l5End_S [Enc.e t, Enc.e i] [] (s_l5End_r y) (s_l5End_n y) (s_l5End_o (t, i) y) :=
  modS_call (by
    rintro ⟨a0, a1⟩ ⟨b0, b1⟩ h hO
    have q0 : a0 = b0 := Enc.inj _ _ (congrArg (fun l => List.getD l 0 (.sc undef)) h)
    have q1 : a1 = b1 := Enc.inj _ _ (congrArg (fun l => List.getD l 1 (.sc undef)) h)
    subst q0; subst q1; rfl) (x := (t, i)) h
theorem s_l5End_ok : FnOK Try.prog 217 s_l5End_S := by
  have Γok : ∀ f S, lookF f [(155, s_l5Stops_S), (246, s_l5At_S)] = some S → FnOK Try.prog f S := lookF_ok (allF_cons s_l5Stops_ok (allF_cons s_l5At_ok allF_nil))
  have Γlive : Live (fun f => lookF f [(155, s_l5Stops_S), (246, s_l5At_S)]) := lookF_live (allL_cons modS_live (allL_cons modS_live allL_nil))
  refine fnOK_mod ty_ok (fun args w => Try.call217 args w) Try.func217 rfl [.tmp 4] (by rw [Try.results217]) 13 Try.ntmps217 16 rfl (fun _ => by first | exact Nat.zero_le _ | (simp)) ?_
  rintro ⟨t, i⟩ y cx hm hL
  have hm : s_l5End t i = some y := hm
  have hL : cx.L = 0 := hL
  unfold s_l5End at hm
  refine X_reg_seq ty_ok Γok hL [] .nil (by kernel_rfl) ?_
  obtain ⟨r2, h2, hm⟩ := obind hm
  obtain ⟨r3, h3, hm⟩ := obind hm
  refine X_draw_seq mixed ty_ok Γok Γlive [] (by kernel_rfl) [(4, .c (s_l5Stops_r r2) (s_l5Stops_n r2) (s_l5Stops_o (t, i) r2)), (5, .n (r2.length : Int)), (7, .c (s_l5At_r r3) (s_l5At_n r3) (s_l5At_o (t, i, (w64 ((r2.length : Int) - 1))) r3))] (.cons (s_l5Stops_c h2) (.cons (len_m Enc.e r2) (.cons (s_l5At_c h3) .nil))) (by kernel_rfl) ?_
  obtain rfl := some_inj hm
  refine Ok_ret ?_
  repeat (first | refine thR ?_ | refine ibR ?_)
  exact X_fin [] [] (by kernel_rfl) trivial
abbrev s_l5Good_r (y : Bool) : AV := .dat (Enc.e y)
abbrev s_l5Good_n (y : Bool) : List Obj' := []
abbrev s_l5Good_o (x : Timetable) (y : Bool) : List Obj' := []
noncomputable def s_l5Good_S : FnSpec := modS [.rd] (fun x : Timetable => [Enc.e x]) (fun x : Timetable => []) (fun x : Timetable => s_l5Good x) s_l5Good_r s_l5Good_n s_l5Good_o
theorem s_l5Good_c {t : Timetable} {y : Bool} (h : s_l5Good t = some y) : CallOK s_l5Good_S [Enc.e t] [] (s_l5Good_r y) (s_l5Good_n y) (s_l5Good_o t y) :=
  modS_call (by
    rintro a0 b0 h hO
    have q0 : a0 = b0 := Enc.inj _ _ (congrArg (fun l => List.getD l 0 (.sc undef)) h)
    subst q0; rfl) (x := t) h
theorem s_l5Good_ok : FnOK Try.prog 154 s_l5Good_S := by
  have Γok : ∀ f S, lookF f [(209, s_l2Good_S), (88, s_l1In_S), (204, s_l4Time_S), (217, s_l5End_S)] = some S → FnOK Try.prog f S := lookF_ok (allF_cons s_l2Good_ok (allF_cons s_l1In_ok (allF_cons s_l4Time_ok (allF_cons s_l5End_ok allF_nil))))
  have Γlive : Live (fun f => lookF f [(209, s_l2Good_S), (88, s_l1In_S), (204, s_l4Time_S), (217, s_l5End_S)]) := lookF_live (allL_cons modS_live (allL_cons modS_live (allL_cons modS_live (allL_cons modS_live allL_nil))))
  refine fnOK_mod ty_ok (fun args w => Try.call154 args w) Try.func154 rfl [.tmp 2] (by rw [Try.results154]) 71 Try.ntmps154 16 rfl (fun _ => by first | exact Nat.zero_le _ | (simp)) ?_
  rintro t y cx hm hL
  have hm : s_l5Good t = some y := hm
  have hL : cx.L = 0 := hL
  unfold s_l5Good at hm
  refine X_reg_seq ty_ok Γok hL [] .nil (by kernel_rfl) ?_
  refine Ok_seq ?_
  obtain ⟨r, h, hm⟩ := obind hm
  obtain ⟨v, hv, hk⟩ := obind hm
  refine X_join (n := 71) (fun (v : Bool) => (⟨[(1, .ref 16 0), (14, .dat (.sc (.bool v)))], [(16, some (.box [.dat (Enc.e t.Network.Stops), .dat (Enc.e t.Network.Lines), .dat (Enc.e t.Trips)]))], 48⟩ : X)) v ?_ ?_
  · have hm := hv
    rcases btf (!r) with hb | hb
    · have hm := it hb hm
      obtain rfl := some_inj hm
      refine X_reg ty_ok Γok hL [(2, .c (s_l2Good_r r) (s_l2Good_n r) (s_l2Good_o t.Network r)), (4, .b true)] (.cons (s_l2Good_c h) (.cons hb .nil)) (by kernel_rfl) ?_
      exact thN (Wk_J hL ⟨[(1, []), (14, [])], [(16, 16, [])], [], 48⟩ (by kernel_rfl))
    · have hm := ie hb hm
      obtain rfl := some_inj hm
      refine X_reg ty_ok Γok hL [(2, .c (s_l2Good_r r) (s_l2Good_n r) (s_l2Good_o t.Network r)), (4, .b false), (7, .n (t.Trips.length : Int))] (.cons (s_l2Good_c h) (.cons hb (.cons (len_m Enc.e t.Trips) .nil))) (by kernel_rfl) ?_
      exact thN (Wk_J hL ⟨[(1, []), (14, [])], [(16, 16, [])], [], 48⟩ (by kernel_rfl))
  have hm := hk
  refine X_cond v (by kernel_rfl) (fun hc => ?_) (fun hc => ?_)
  · have hm := it hc hm
    refine X_reg_seq ty_ok Γok hL [] .nil (by kernel_rfl) ?_
    obtain rfl := some_inj hm
    refine Ok_ret ?_
    repeat (first | refine thR ?_ | refine ibR ?_)
    exact X_fin [] [] (by kernel_rfl) trivial
  · have hm := ie hc hm
    refine X_skip ?_
    refine thN ?_
    refine Ok_seq ?_
    refine X_reg_seq ty_ok Γok hL [] .nil (by kernel_rfl) ?_
    obtain ⟨v2, hv2, hr, hk2⟩ := flb_t hm
    refine X_tailF (n := 71) (fun (_ : Unit) => (⟨[], [], 32⟩ : X)) v2 ?_ ?_
    · have hm := hv2
      refine Ok_block ?_
      refine X_loop (n := 71) (step := s_l5Good_L1 t) (fun (x : Int) => (⟨[(1, .ref 16 0), (3, .dat (.sc (.int .i64 x)))], [(16, some (.box [.dat (Enc.e t.Network.Stops), .dat (Enc.e t.Network.Lines), .dat (Enc.e t.Trips)]))], 48⟩ : X)) hm (Wk_J hL ⟨[(1, []), (3, [])], [(16, 16, [])], [], 48⟩ (by kernel_rfl)) ?_
      rintro x r0 hm hb1
      rw [s_l5Good_L1] at hm
      refine Ok_seq ?_
      refine X_reg_seq ty_ok Γok hL [(3, .n (t.Trips.length : Int))] (.cons (len_m Enc.e t.Trips) .nil) (by kernel_rfl) ?_
      refine X_cond (decide (x < (t.Trips.length : Int))) (by kernel_rfl) (fun hc1 => ?_) (fun hc1 => ?_)
      · have hm := it hc1 hm
        refine X_skip ?_
        refine thN ?_
        refine Ok_seq ?_
        refine Ok_block ?_
        obtain ⟨e, h1, hm⟩ := obind hm
        refine X_reg_seq ty_ok Γok hL [(3, .d (Enc.e e))] (.cons (idx_m (f := Enc.e) h1) .nil) (by kernel_rfl) ?_
        obtain ⟨r6, h8, hm⟩ := obind hm
        obtain ⟨v1, hv1, hk1⟩ := obind hm
        refine X_join (n := 71) (fun (v1 : Bool) => (⟨[(1, .ref 16 0), (3, .dat (.sc (.int .i64 x))), (70, .dat (.sc (.bool v1)))], [(16, some (.box [.dat (Enc.e t.Network.Stops), .dat (Enc.e t.Network.Lines), .dat (Enc.e t.Trips)]))], 48⟩ : X)) v1 ?_ ?_
        · have hm := hv1
          rcases btf (!r6) with hb2 | hb2
          · have hm := it hb2 hm
            obtain rfl := some_inj hm
            refine X_draw mixed ty_ok Γok Γlive [] (by kernel_rfl) [(2, .c (s_l1In_r r6) (s_l1In_n r6) (s_l1In_o (e.Id, 1, 999) r6)), (4, .b true)] (.cons (s_l1In_c h8) (.cons hb2 .nil)) (by kernel_rfl) ?_
            exact thN (Wk_J hL ⟨[(1, []), (3, []), (70, [])], [(16, 16, [])], [], 48⟩ (by kernel_rfl))
          · have hm := ie hb2 hm
            obtain ⟨r7, h9, hm⟩ := obind hm
            rcases btf (!r7) with hb3 | hb3
            · have hm := it hb3 hm
              obtain rfl := some_inj hm
              refine X_draw mixed ty_ok Γok Γlive [] (by kernel_rfl) [(2, .c (s_l1In_r r6) (s_l1In_n r6) (s_l1In_o (e.Id, 1, 999) r6)), (4, .b false), (10, .n (t.Network.Lines.length : Int)), (12, .c (s_l1In_r r7) (s_l1In_n r7) (s_l1In_o (e.Line, 0, (w64 ((t.Network.Lines.length : Int) - 1))) r7)), (15, .b true)] (.cons (s_l1In_c h8) (.cons hb2 (.cons (len_m Enc.e t.Network.Lines) (.cons (s_l1In_c h9) (.cons hb3 .nil))))) (by kernel_rfl) ?_
              exact thN (Wk_J hL ⟨[(1, []), (3, []), (70, [])], [(16, 16, [])], [], 48⟩ (by kernel_rfl))
            · have hm := ie hb3 hm
              obtain ⟨r8, h10, hm⟩ := obind hm
              rcases btf (!r8) with hb4 | hb4
              · have hm := it hb4 hm
                obtain rfl := some_inj hm
                refine X_draw mixed ty_ok Γok Γlive [] (by kernel_rfl) [(2, .c (s_l1In_r r6) (s_l1In_n r6) (s_l1In_o (e.Id, 1, 999) r6)), (4, .b false), (10, .n (t.Network.Lines.length : Int)), (12, .c (s_l1In_r r7) (s_l1In_n r7) (s_l1In_o (e.Line, 0, (w64 ((t.Network.Lines.length : Int) - 1))) r7)), (15, .b false), (18, .c (s_l4Time_r r8) (s_l4Time_n r8) (s_l4Time_o e.Start r8)), (21, .b true)] (.cons (s_l1In_c h8) (.cons hb2 (.cons (len_m Enc.e t.Network.Lines) (.cons (s_l1In_c h9) (.cons hb3 (.cons (s_l4Time_c h10) (.cons hb4 .nil))))))) (by kernel_rfl) ?_
                exact thN (Wk_J hL ⟨[(1, []), (3, []), (70, [])], [(16, 16, [])], [], 48⟩ (by kernel_rfl))
              · have hm := ie hb4 hm
                obtain ⟨r9, h11, hm⟩ := obind hm
                obtain ⟨r10, h12, hm⟩ := obind hm
                rcases btf (!r10) with hb5 | hb5
                · have hm := it hb5 hm
                  obtain rfl := some_inj hm
                  refine X_draw mixed ty_ok Γok Γlive [] (by kernel_rfl) [(2, .c (s_l1In_r r6) (s_l1In_n r6) (s_l1In_o (e.Id, 1, 999) r6)), (4, .b false), (10, .n (t.Network.Lines.length : Int)), (12, .c (s_l1In_r r7) (s_l1In_n r7) (s_l1In_o (e.Line, 0, (w64 ((t.Network.Lines.length : Int) - 1))) r7)), (15, .b false), (18, .c (s_l4Time_r r8) (s_l4Time_n r8) (s_l4Time_o e.Start r8)), (21, .b false), (24, .c (s_l5End_r r9) (s_l5End_n r9) (s_l5End_o (t, x) r9)), (25, .c (s_l4Time_r r10) (s_l4Time_n r10) (s_l4Time_o r9 r10)), (28, .b true)] (.cons (s_l1In_c h8) (.cons hb2 (.cons (len_m Enc.e t.Network.Lines) (.cons (s_l1In_c h9) (.cons hb3 (.cons (s_l4Time_c h10) (.cons hb4 (.cons (s_l5End_c h11) (.cons (s_l4Time_c h12) (.cons hb5 .nil)))))))))) (by kernel_rfl) ?_
                  exact thN (Wk_J hL ⟨[(1, []), (3, []), (70, [])], [(16, 16, [])], [], 48⟩ (by kernel_rfl))
                · have hm := ie hb5 hm
                  rcases btf (decide (0 < x)) with hb6 | hb6
                  · have hm := it hb6 hm
                    obtain ⟨e2, h13, hm⟩ := obind hm
                    obtain rfl := some_inj hm
                    refine X_draw mixed ty_ok Γok Γlive [] (by kernel_rfl) [(2, .c (s_l1In_r r6) (s_l1In_n r6) (s_l1In_o (e.Id, 1, 999) r6)), (4, .b false), (10, .n (t.Network.Lines.length : Int)), (12, .c (s_l1In_r r7) (s_l1In_n r7) (s_l1In_o (e.Line, 0, (w64 ((t.Network.Lines.length : Int) - 1))) r7)), (15, .b false), (18, .c (s_l4Time_r r8) (s_l4Time_n r8) (s_l4Time_o e.Start r8)), (21, .b false), (24, .c (s_l5End_r r9) (s_l5End_n r9) (s_l5End_o (t, x) r9)), (25, .c (s_l4Time_r r10) (s_l4Time_n r10) (s_l4Time_o r9 r10)), (28, .b false), (31, .b true), (36, .d (Enc.e e2))] (.cons (s_l1In_c h8) (.cons hb2 (.cons (len_m Enc.e t.Network.Lines) (.cons (s_l1In_c h9) (.cons hb3 (.cons (s_l4Time_c h10) (.cons hb4 (.cons (s_l5End_c h11) (.cons (s_l4Time_c h12) (.cons hb5 (.cons hb6 (.cons (idx_m (f := Enc.e) h13) .nil)))))))))))) (by kernel_rfl) ?_
                    exact thN (Wk_J hL ⟨[(1, []), (3, []), (70, [])], [(16, 16, [])], [], 48⟩ (by kernel_rfl))
                  · have hm := ie hb6 hm
                    obtain rfl := some_inj hm
                    refine X_draw mixed ty_ok Γok Γlive [] (by kernel_rfl) [(2, .c (s_l1In_r r6) (s_l1In_n r6) (s_l1In_o (e.Id, 1, 999) r6)), (4, .b false), (10, .n (t.Network.Lines.length : Int)), (12, .c (s_l1In_r r7) (s_l1In_n r7) (s_l1In_o (e.Line, 0, (w64 ((t.Network.Lines.length : Int) - 1))) r7)), (15, .b false), (18, .c (s_l4Time_r r8) (s_l4Time_n r8) (s_l4Time_o e.Start r8)), (21, .b false), (24, .c (s_l5End_r r9) (s_l5End_n r9) (s_l5End_o (t, x) r9)), (25, .c (s_l4Time_r r10) (s_l4Time_n r10) (s_l4Time_o r9 r10)), (28, .b false), (31, .b false)] (.cons (s_l1In_c h8) (.cons hb2 (.cons (len_m Enc.e t.Network.Lines) (.cons (s_l1In_c h9) (.cons hb3 (.cons (s_l4Time_c h10) (.cons hb4 (.cons (s_l5End_c h11) (.cons (s_l4Time_c h12) (.cons hb5 (.cons hb6 .nil))))))))))) (by kernel_rfl) ?_
                    exact thN (Wk_J hL ⟨[(1, []), (3, []), (70, [])], [(16, 16, [])], [], 48⟩ (by kernel_rfl))
        have hm := hk1
        refine X_cond v1 (by kernel_rfl) (fun hc2 => ?_) (fun hc2 => ?_)
        · have hm := it hc2 hm
          refine X_reg_seq ty_ok Γok hL [] .nil (by kernel_rfl) ?_
          obtain rfl := some_inj hm
          obtain rfl := hb1 _ rfl
          have hm := congrArg some (hr _ rfl)
          obtain rfl := some_inj hm
          refine Ok_ret ?_
          repeat (first | refine thR ?_ | refine ibR ?_)
          exact X_fin [] [] (by kernel_rfl) trivial
        · have hm := ie hc2 hm
          refine X_skip ?_
          refine ibN ?_
          refine thN ?_
          refine X_reg ty_ok Γok hL [] .nil (by kernel_rfl) ?_
          obtain rfl := some_inj hm
          exact thN ⟨_, rfl, Wk_J hL ⟨[(1, []), (3, [])], [(16, 16, [])], [], 48⟩ (by kernel_rfl)⟩
      · have hm := ie hc1 hm
        obtain rfl := some_inj hm
        obtain rfl := hb1 _ rfl
        refine Ok_exit ?_
        refine thE ?_
        refine thE ?_
        refine ibE ?_
        exact thN ⟨_, rfl, Wk_J hL ⟨[], [], [], 32⟩ (by kernel_rfl)⟩
    rintro ⟨⟩ hu s hw
    have hm := hk2 _ hu
    refine thN ?_
    refine Ok_weak hw ?_
    refine X_reg_seq ty_ok Γok hL [] .nil (by kernel_rfl) ?_
    obtain rfl := some_inj hm
    refine Ok_ret ?_
    repeat (first | refine thR ?_ | refine ibR ?_)
    exact X_fin [] [] (by kernel_rfl) trivial
abbrev s_l1Cur_idOf_r (y : Int × l1Cur) : AV := .dat (Enc.e y.1)
abbrev s_l1Cur_idOf_n (y : Int × l1Cur) : List Obj' := []
abbrev s_l1Cur_idOf_o (x : l1Cur × Timetable) (y : Int × l1Cur) : List Obj' := [.box [.dat (Enc.e y.2.code_), .dat (.sc (.int .i64 y.2.at_)), .dat (.sc (.int .u64 y.2.seed_.v))]]
noncomputable def s_l1Cur_idOf_S : FnSpec := modS [.bx, .rd] (fun x : l1Cur × Timetable => [.sc undef, Enc.e x.2]) (fun x : l1Cur × Timetable => [.box [.dat (Enc.e x.1.code_), .dat (.sc (.int .i64 x.1.at_)), .dat (.sc (.int .u64 x.1.seed_.v))]]) (fun x : l1Cur × Timetable => s_l1Cur_idOf x.1 x.2) s_l1Cur_idOf_r s_l1Cur_idOf_n s_l1Cur_idOf_o
theorem s_l1Cur_idOf_c {c : l1Cur} {t : Timetable} {y : Int × l1Cur} (h : s_l1Cur_idOf c t = some y) : CallOK s_l1Cur_idOf_S [.sc undef, Enc.e t] [.box [.dat (Enc.e c.code_), .dat (.sc (.int .i64 c.at_)), .dat (.sc (.int .u64 c.seed_.v))]] (s_l1Cur_idOf_r y) (s_l1Cur_idOf_n y) (s_l1Cur_idOf_o (c, t) y) :=
  modS_call (by
    rintro ⟨a0, a1⟩ ⟨b0, b1⟩ h hO
    have q0 : a0 = b0 := Enc.inj _ _ (congrArg (fun l => D.agg (obD l 0)) hO)
    have q1 : a1 = b1 := Enc.inj _ _ (congrArg (fun l => List.getD l 1 (.sc undef)) h)
    subst q0; subst q1; rfl) (x := (c, t)) h
theorem s_l1Cur_idOf_ok : FnOK Try.prog 152 s_l1Cur_idOf_S := by
  have Γok : ∀ f S, lookF f [(106, s_l1Cur_one_S), (103, s_l1Cur_pick_S)] = some S → FnOK Try.prog f S := lookF_ok (allF_cons s_l1Cur_one_ok (allF_cons s_l1Cur_pick_ok allF_nil))
  have Γlive : Live (fun f => lookF f [(106, s_l1Cur_one_S), (103, s_l1Cur_pick_S)]) := lookF_live (allL_cons modS_live (allL_cons modS_live allL_nil))
  refine fnOK_mod ty_ok (fun args w => Try.call152 args w) Try.func152 rfl [.tmp 4] (by rw [Try.results152]) 25 Try.ntmps152 16 rfl (fun _ => by first | exact Nat.zero_le _ | (simp)) ?_
  rintro ⟨c, t⟩ y cx hm hL
  have hm : s_l1Cur_idOf c t = some y := hm
  have hL : cx.L = 1 := hL
  unfold s_l1Cur_idOf at hm
  refine X_reg_seq ty_ok Γok hL [] .nil (by kernel_rfl) ?_
  refine Ok_seq ?_
  obtain ⟨vv, hv, hk⟩ := obind hm
  refine X_join (n := 25) (fun ((v, v1, v2, v3) : Bool × (List UInt8) × Int × Int) => (⟨[(0, .ref 0 0), (3, .ref 32 0), (12, .dat (.sc (.bool v)))], [(0, some (.box [.dat (Enc.e v1), .dat (.sc (.int .i64 v2)), .dat (.sc (.int .u64 v3))])), (32, some (.box [.dat (Enc.e t.Network.Stops), .dat (Enc.e t.Network.Lines), .dat (Enc.e t.Trips)]))], 64⟩ : X)) vv ?_ ?_
  · have hm := hv
    rcases btf ((t.Trips.length : Int) == 0) with hb | hb
    · have hm := it hb hm
      obtain rfl := some_inj hm
      refine X_reg ty_ok Γok hL [(2, .n (t.Trips.length : Int)), (4, .b true)] (.cons (len_m Enc.e t.Trips) (.cons hb .nil)) (by kernel_rfl) ?_
      exact thN (Wk_J hL ⟨[(0, []), (3, []), (12, [])], [(0, 0, []), (32, 16, [])], [], 64⟩ (by kernel_rfl))
    · have hm := ie hb hm
      obtain ⟨r, h, hm⟩ := obind hm
      obtain rfl := some_inj hm
      refine X_reg ty_ok Γok hL [(2, .n (t.Trips.length : Int)), (4, .b false), (6, .c (s_l1Cur_one_r r) (s_l1Cur_one_n r) (s_l1Cur_one_o (c, 8) r))] (.cons (len_m Enc.e t.Trips) (.cons hb (.cons (s_l1Cur_one_c h) .nil))) (by kernel_rfl) ?_
      exact thN (Wk_J hL ⟨[(0, []), (3, []), (12, [])], [(0, 0, []), (32, 16, [])], [], 64⟩ (by kernel_rfl))
  obtain ⟨v, v1, v2, v3⟩ := vv
  have hm := hk
  refine X_cond v (by kernel_rfl) (fun hc => ?_) (fun hc => ?_)
  · have hm := it hc hm
    obtain ⟨r1, h1, hm⟩ := obind hm
    refine X_reg_seq ty_ok Γok hL [(1, .c (s_l1Cur_pick_r r1) (s_l1Cur_pick_n r1) (s_l1Cur_pick_o ((⟨v1, v2, (⟨v3⟩ : IK .u64)⟩ : l1Cur), 30) r1))] (.cons (s_l1Cur_pick_c h1) .nil) (by kernel_rfl) ?_
    obtain rfl := some_inj hm
    refine Ok_ret ?_
    repeat (first | refine thR ?_ | refine ibR ?_)
    exact X_fin [] [] (by kernel_rfl) trivial
  · have hm := ie hc hm
    refine X_skip ?_
    refine thN ?_
    obtain ⟨r3, h4, hm⟩ := obind hm
    obtain ⟨e1, h5, hm⟩ := obind hm
    refine X_draw_seq mixed ty_ok Γok Γlive [(6, [0])] (by kernel_rfl) [(5, .n (t.Trips.length : Int)), (6, .c (s_l1Cur_pick_r r3) (s_l1Cur_pick_n r3) (s_l1Cur_pick_o ((⟨v1, v2, (⟨v3⟩ : IK .u64)⟩ : l1Cur), (t.Trips.length : Int)) r3)), (7, .d (Enc.e e1))] (.cons (len_m Enc.e t.Trips) (.cons (s_l1Cur_pick_c h4) (.cons (idx_m (f := Enc.e) h5) .nil))) (by kernel_rfl) ?_
    obtain rfl := some_inj hm
    refine Ok_ret ?_
    repeat (first | refine thR ?_ | refine ibR ?_)
    exact X_fin [] [] (by kernel_rfl) trivial
abbrev s_l1Cur_runs_r (y : Timetable × (List Run) × l1Cur) : AV := .tup [.dat (Enc.e y.1), .own 0]
abbrev s_l1Cur_runs_n (y : Timetable × (List Run) × l1Cur) : List Obj' := [.arr 190 4 (List.map Enc.e y.2.1)]
abbrev s_l1Cur_runs_o (x : l1Cur) (y : Timetable × (List Run) × l1Cur) : List Obj' := [.box [.dat (Enc.e y.2.2.code_), .dat (.sc (.int .i64 y.2.2.at_)), .dat (.sc (.int .u64 y.2.2.seed_.v))]]
noncomputable def s_l1Cur_runs_S : FnSpec := modS [.bx] (fun x : l1Cur => [.sc undef]) (fun x : l1Cur => [.box [.dat (Enc.e x.code_), .dat (.sc (.int .i64 x.at_)), .dat (.sc (.int .u64 x.seed_.v))]]) (fun x : l1Cur => s_l1Cur_runs x) s_l1Cur_runs_r s_l1Cur_runs_n s_l1Cur_runs_o
theorem s_l1Cur_runs_c {c : l1Cur} {y : Timetable × (List Run) × l1Cur} (h : s_l1Cur_runs c = some y) : CallOK s_l1Cur_runs_S [.sc undef] [.box [.dat (Enc.e c.code_), .dat (.sc (.int .i64 c.at_)), .dat (.sc (.int .u64 c.seed_.v))]] (s_l1Cur_runs_r y) (s_l1Cur_runs_n y) (s_l1Cur_runs_o c y) :=
  modS_call (by
    rintro a0 b0 h hO
    have q0 : a0 = b0 := Enc.inj _ _ (congrArg (fun l => D.agg (obD l 0)) hO)
    subst q0; rfl) (x := c) h
theorem s_l1Cur_runs_ok : FnOK Try.prog 151 s_l1Cur_runs_S := by
  have Γok : ∀ f S, lookF f [(216, s_l1Cur_trips_S), (154, s_l5Good_S), (155, s_l5Stops_S), (106, s_l1Cur_one_S), (167, s_l1Cur_among_S), (103, s_l1Cur_pick_S), (152, s_l1Cur_idOf_S)] = some S → FnOK Try.prog f S := lookF_ok (allF_cons s_l1Cur_trips_ok (allF_cons s_l5Good_ok (allF_cons s_l5Stops_ok (allF_cons s_l1Cur_one_ok (allF_cons s_l1Cur_among_ok (allF_cons s_l1Cur_pick_ok (allF_cons s_l1Cur_idOf_ok allF_nil)))))))
  have Γlive : Live (fun f => lookF f [(216, s_l1Cur_trips_S), (154, s_l5Good_S), (155, s_l5Stops_S), (106, s_l1Cur_one_S), (167, s_l1Cur_among_S), (103, s_l1Cur_pick_S), (152, s_l1Cur_idOf_S)]) := lookF_live (allL_cons modS_live (allL_cons modS_live (allL_cons modS_live (allL_cons modS_live (allL_cons modS_live (allL_cons modS_live (allL_cons modS_live allL_nil)))))))
  refine fnOK_mod ty_ok (fun args w => Try.call151 args w) Try.func151 rfl [.cell 2 101, .tmp 3] (by rw [Try.results151]) 112 Try.ntmps151 16 rfl (fun _ => by first | exact Nat.zero_le _ | (simp)) ?_
  rintro c y cx hm hL
  have hm : s_l1Cur_runs c = some y := hm
  have hL : cx.L = 1 := hL
  unfold s_l1Cur_runs at hm
  refine X_reg_seq ty_ok Γok hL [] .nil (by kernel_rfl) ?_
  obtain ⟨r, h, hm⟩ := obind hm
  refine X_reg_seq ty_ok Γok hL [(1, .c (s_l1Cur_trips_r r) (s_l1Cur_trips_n r) (s_l1Cur_trips_o c r))] (.cons (s_l1Cur_trips_c h) .nil) (by kernel_rfl) ?_
  refine X_reg_seq ty_ok Γok hL [] .nil (by kernel_rfl) ?_
  refine Ok_seq ?_
  refine X_reg_seq ty_ok Γok hL [] .nil (by kernel_rfl) ?_
  obtain ⟨vv9, hv7, hk7⟩ := obind hm
  refine X_tail (n := 112) (fun ((v27, v28, v29, i2) : (List UInt8) × Int × Int × (List Run)) => (⟨[(0, .ref 0 0), (2, .ref 32 0), (4, .ref 48 0), (5, .own 64)], [(0, some (.box [.dat (Enc.e v27), .dat (.sc (.int .i64 v28)), .dat (.sc (.int .u64 v29))])), (32, some (.box [.dat (.sc (.slice none 0 0)), .dat (.sc (.slice none 0 0)), .dat (.sc (.slice none 0 0))])), (48, some (.box [.dat (Enc.e r.1.Network.Stops), .dat (Enc.e r.1.Network.Lines), .dat (Enc.e r.1.Trips)])), (64, some (.arr 190 4 (List.map Enc.e i2)))], 96⟩ : X)) vv9 ?_ ?_
  · have hm := hv7
    refine Ok_block ?_
    refine X_loop (n := 112) (step := s_l1Cur_runs_L1 r) (fun ((n, v, v1, v2, i) : Int × (List UInt8) × Int × Int × (List Run)) => (⟨[(0, .ref 0 0), (2, .ref 32 0), (4, .ref 48 0), (5, .own 64), (6, .dat (.sc (.int .i64 n)))], [(0, some (.box [.dat (Enc.e v), .dat (.sc (.int .i64 v1)), .dat (.sc (.int .u64 v2))])), (32, some (.box [.dat (.sc (.slice none 0 0)), .dat (.sc (.slice none 0 0)), .dat (.sc (.slice none 0 0))])), (48, some (.box [.dat (Enc.e r.1.Network.Stops), .dat (Enc.e r.1.Network.Lines), .dat (Enc.e r.1.Trips)])), (64, some (.arr 190 4 (List.map Enc.e i)))], 96⟩ : X)) hm (Wk_J hL ⟨[(0, []), (2, []), (4, []), (5, []), (6, [])], [(0, 0, []), (32, 16, []), (48, 80, []), (64, 112, [])], [], 96⟩ (by kernel_rfl)) ?_
    rintro ⟨n, v, v1, v2, i⟩ r0 hm hb
    rw [s_l1Cur_runs_L1] at hm
    refine Ok_seq ?_
    obtain ⟨v3, hv, hk⟩ := obind hm
    refine X_join (n := 112) (fun (v3 : Bool) => (⟨[(0, .ref 0 0), (2, .ref 32 0), (4, .ref 48 0), (5, .own 64), (6, .dat (.sc (.int .i64 n))), (22, .dat (.sc (.bool v3)))], [(0, some (.box [.dat (Enc.e v), .dat (.sc (.int .i64 v1)), .dat (.sc (.int .u64 v2))])), (32, some (.box [.dat (.sc (.slice none 0 0)), .dat (.sc (.slice none 0 0)), .dat (.sc (.slice none 0 0))])), (48, some (.box [.dat (Enc.e r.1.Network.Stops), .dat (Enc.e r.1.Network.Lines), .dat (Enc.e r.1.Trips)])), (64, some (.arr 190 4 (List.map Enc.e i)))], 96⟩ : X)) v3 ?_ ?_
    · have hm := hv
      rcases btf (decide (n < (r.1.Trips.length : Int))) with hb1 | hb1
      · have hm := it hb1 hm
        obtain ⟨r1, h1, hm⟩ := obind hm
        obtain rfl := some_inj hm
        refine X_reg ty_ok Γok hL [(3, .n (r.1.Trips.length : Int)), (5, .b true), (7, .c (s_l5Good_r r1) (s_l5Good_n r1) (s_l5Good_o r.1 r1))] (.cons (len_m Enc.e r.1.Trips) (.cons hb1 (.cons (s_l5Good_c h1) .nil))) (by kernel_rfl) ?_
        exact thN (Wk_J hL ⟨[(0, []), (2, []), (4, []), (5, []), (6, []), (22, [])], [(0, 0, []), (32, 32, []), (48, 48, []), (64, 64, [])], [], 96⟩ (by kernel_rfl))
      · have hm := ie hb1 hm
        obtain rfl := some_inj hm
        refine X_reg ty_ok Γok hL [(3, .n (r.1.Trips.length : Int)), (5, .b false)] (.cons (len_m Enc.e r.1.Trips) (.cons hb1 .nil)) (by kernel_rfl) ?_
        exact thN (Wk_J hL ⟨[(0, []), (2, []), (4, []), (5, []), (6, []), (22, [])], [(0, 0, []), (32, 32, []), (48, 48, []), (64, 64, [])], [], 96⟩ (by kernel_rfl))
    have hm := hk
    refine X_cond v3 (by kernel_rfl) (fun hc => ?_) (fun hc => ?_)
    · have hm := it hc hm
      refine X_skip ?_
      refine thN ?_
      obtain ⟨vv5, hv1, hk1⟩ := obind hm
      refine X_join (n := 112) (fun ((v4, v5, v6, i1) : (List UInt8) × Int × Int × (List Run)) => (⟨[(0, .ref 0 0), (2, .ref 32 0), (4, .ref 48 0), (5, .own 64), (6, .dat (.sc (.int .i64 n)))], [(0, some (.box [.dat (Enc.e v4), .dat (.sc (.int .i64 v5)), .dat (.sc (.int .u64 v6))])), (32, some (.box [.dat (.sc (.slice none 0 0)), .dat (.sc (.slice none 0 0)), .dat (.sc (.slice none 0 0))])), (48, some (.box [.dat (Enc.e r.1.Network.Stops), .dat (Enc.e r.1.Network.Lines), .dat (Enc.e r.1.Trips)])), (64, some (.arr 190 4 (List.map Enc.e i1)))], 96⟩ : X)) vv5 ?_ ?_
      · have hm := hv1
        refine Ok_block ?_
        obtain ⟨r2, h2, hm⟩ := obind hm
        refine X_reg_seq ty_ok Γok hL [(2, .c (s_l5Stops_r r2) (s_l5Stops_n r2) (s_l5Stops_o (r.1, n) r2)), (3, .n (r2.length : Int))] (.cons (s_l5Stops_c h2) (.cons (len_m Enc.e r2) .nil)) (by kernel_rfl) ?_
        obtain ⟨e, h3, hm⟩ := obind hm
        refine X_reg_seq ty_ok Γok hL [(3, .d (Enc.e e))] (.cons (idx_m (f := Enc.e) h3) .nil) (by kernel_rfl) ?_
        refine Ok_seq ?_
        obtain ⟨r3, h4, hm⟩ := obind hm
        refine X_reg_seq ty_ok Γok hL [(1, .c (s_l1Cur_one_r r3) (s_l1Cur_one_n r3) (s_l1Cur_one_o ((⟨v, v1, (⟨v2⟩ : IK .u64)⟩ : l1Cur), 6) r3))] (.cons (s_l1Cur_one_c h4) .nil) (by kernel_rfl) ?_
        refine X_cond r3.1 (by kernel_rfl) (fun hc1 => ?_) (fun hc1 => ?_)
        · have hm := it hc1 hm
          refine Ok_exit ?_
          refine thE ?_
          refine ibE ?_
          obtain rfl := some_inj hm
          exact thN (Wk_J hL ⟨[(0, []), (2, []), (4, []), (5, []), (6, [])], [(0, 0, []), (32, 32, []), (48, 48, []), (64, 64, [])], [], 96⟩ (by kernel_rfl))
        · have hm := ie hc1 hm
          refine X_skip ?_
          refine thN ?_
          obtain ⟨vv4, hv2, hk2⟩ := obind hm
          refine X_join (n := 112) (fun ((v7, v8, v9, v10) : (List UInt8) × Int × Int × Int) => (⟨[(0, .ref 0 0), (2, .ref 32 0), (4, .ref 48 0), (5, .own 64), (6, .dat (.sc (.int .i64 n))), (8, .ref 80 0)], [(0, some (.box [.dat (Enc.e v7), .dat (.sc (.int .i64 v8)), .dat (.sc (.int .u64 v9))])), (32, some (.box [.dat (.sc (.slice none 0 0)), .dat (.sc (.slice none 0 0)), .dat (.sc (.slice none 0 0))])), (48, some (.box [.dat (Enc.e r.1.Network.Stops), .dat (Enc.e r.1.Network.Lines), .dat (Enc.e r.1.Trips)])), (64, some (.arr 190 4 (List.map Enc.e i))), (80, some (.box [.dat (.sc (.int .i64 e.Id)), .dat (.sc (.int .i64 0)), .dat (.sc (.int .i64 v10)), .dat (.sc (.int .i64 0))]))], 112⟩ : X)) vv4 ?_ ?_
          · have hm := hv2
            obtain ⟨vv, hv3, hk3⟩ := obind hm
            refine X_join (n := 112) (fun ((v11, v12, v13, v14) : Bool × (List UInt8) × Int × Int) => (⟨[(0, .ref 0 0), (2, .ref 32 0), (4, .ref 48 0), (5, .own 64), (6, .dat (.sc (.int .i64 n))), (7, .dat (.sc (.int .i64 (r2.length : Int)))), (8, .ref 80 0), (45, .dat (.sc (.bool v11)))], [(0, some (.box [.dat (Enc.e v12), .dat (.sc (.int .i64 v13)), .dat (.sc (.int .u64 v14))])), (32, some (.box [.dat (.sc (.slice none 0 0)), .dat (.sc (.slice none 0 0)), .dat (.sc (.slice none 0 0))])), (48, some (.box [.dat (Enc.e r.1.Network.Stops), .dat (Enc.e r.1.Network.Lines), .dat (Enc.e r.1.Trips)])), (64, some (.arr 190 4 (List.map Enc.e i))), (80, some (.box [.dat (.sc (.int .i64 e.Id)), .dat (.sc (.int .i64 0)), .dat (.sc (.int .i64 (w64 ((r2.length : Int) - 1)))), .dat (.sc (.int .i64 0))]))], 112⟩ : X)) vv ?_ ?_
            · have hm := hv3
              rcases btf (decide (2 < (r2.length : Int))) with hb2 | hb2
              · have hm := it hb2 hm
                obtain ⟨r4, h5, hm⟩ := obind hm
                obtain rfl := some_inj hm
                refine X_reg ty_ok Γok hL [(2, .b true), (4, .c (s_l1Cur_one_r r4) (s_l1Cur_one_n r4) (s_l1Cur_one_o (r3.2, 3) r4))] (.cons hb2 (.cons (s_l1Cur_one_c h5) .nil)) (by kernel_rfl) ?_
                exact thN (Wk_J hL ⟨[(0, []), (2, []), (4, []), (5, []), (6, []), (7, []), (8, []), (45, [])], [(0, 0, []), (32, 32, []), (48, 48, []), (64, 64, []), (80, 320, [])], [], 112⟩ (by kernel_rfl))
              · have hm := ie hb2 hm
                obtain rfl := some_inj hm
                refine X_reg ty_ok Γok hL [(2, .b false)] (.cons hb2 .nil) (by kernel_rfl) ?_
                exact thN (Wk_J hL ⟨[(0, []), (2, []), (4, []), (5, []), (6, []), (7, []), (8, []), (45, [])], [(0, 0, []), (32, 32, []), (48, 48, []), (64, 64, []), (80, 320, [])], [], 112⟩ (by kernel_rfl))
            obtain ⟨v11, v12, v13, v14⟩ := vv
            have hm := hk3
            refine X_cond v11 (by kernel_rfl) (fun hc2 => ?_) (fun hc2 => ?_)
            · have hm := it hc2 hm
              refine X_reg ty_ok Γok hL [] .nil (by kernel_rfl) ?_
              obtain rfl := some_inj hm
              exact thN (Wk_J hL ⟨[(0, []), (2, []), (4, []), (5, []), (6, []), (8, [])], [(0, 0, []), (32, 32, []), (48, 48, []), (64, 64, []), (80, 80, [])], [], 112⟩ (by kernel_rfl))
            · have hm := ie hc2 hm
              refine X_skip ?_
              obtain rfl := some_inj hm
              exact thN (Wk_J hL ⟨[(0, []), (2, []), (4, []), (5, []), (6, []), (8, [])], [(0, 0, []), (32, 32, []), (48, 48, []), (64, 64, []), (80, 80, [])], [], 112⟩ (by kernel_rfl))
          obtain ⟨v7, v8, v9, v10⟩ := vv4
          have hm := hk2
          obtain ⟨vv3, hv4, hk4⟩ := obind hm
          refine X_join (n := 112) (fun ((v15, v16, v17, v18) : (List UInt8) × Int × Int × Int) => (⟨[(0, .ref 0 0), (2, .ref 32 0), (4, .ref 48 0), (5, .own 64), (6, .dat (.sc (.int .i64 n))), (8, .ref 80 0)], [(0, some (.box [.dat (Enc.e v15), .dat (.sc (.int .i64 v16)), .dat (.sc (.int .u64 v17))])), (32, some (.box [.dat (.sc (.slice none 0 0)), .dat (.sc (.slice none 0 0)), .dat (.sc (.slice none 0 0))])), (48, some (.box [.dat (Enc.e r.1.Network.Stops), .dat (Enc.e r.1.Network.Lines), .dat (Enc.e r.1.Trips)])), (64, some (.arr 190 4 (List.map Enc.e i))), (80, some (.box [.dat (.sc (.int .i64 e.Id)), .dat (.sc (.int .i64 v18)), .dat (.sc (.int .i64 v10)), .dat (.sc (.int .i64 0))]))], 112⟩ : X)) vv3 ?_ ?_
          · have hm := hv4
            obtain ⟨vv1, hv5, hk5⟩ := obind hm
            refine X_join (n := 112) (fun ((v19, v20, v21, v22) : Bool × (List UInt8) × Int × Int) => (⟨[(0, .ref 0 0), (2, .ref 32 0), (4, .ref 48 0), (5, .own 64), (6, .dat (.sc (.int .i64 n))), (8, .ref 80 0), (55, .dat (.sc (.bool v19)))], [(0, some (.box [.dat (Enc.e v20), .dat (.sc (.int .i64 v21)), .dat (.sc (.int .u64 v22))])), (32, some (.box [.dat (.sc (.slice none 0 0)), .dat (.sc (.slice none 0 0)), .dat (.sc (.slice none 0 0))])), (48, some (.box [.dat (Enc.e r.1.Network.Stops), .dat (Enc.e r.1.Network.Lines), .dat (Enc.e r.1.Trips)])), (64, some (.arr 190 4 (List.map Enc.e i))), (80, some (.box [.dat (.sc (.int .i64 e.Id)), .dat (.sc (.int .i64 0)), .dat (.sc (.int .i64 v10)), .dat (.sc (.int .i64 0))]))], 112⟩ : X)) vv1 ?_ ?_
            · have hm := hv5
              rcases btf (decide (1 < v10)) with hb3 | hb3
              · have hm := it hb3 hm
                obtain ⟨r5, h6, hm⟩ := obind hm
                obtain rfl := some_inj hm
                refine X_reg ty_ok Γok hL [(3, .b true), (5, .c (s_l1Cur_one_r r5) (s_l1Cur_one_n r5) (s_l1Cur_one_o ((⟨v7, v8, (⟨v9⟩ : IK .u64)⟩ : l1Cur), 4) r5))] (.cons hb3 (.cons (s_l1Cur_one_c h6) .nil)) (by kernel_rfl) ?_
                exact thN (Wk_J hL ⟨[(0, []), (2, []), (4, []), (5, []), (6, []), (8, []), (55, [])], [(0, 0, []), (32, 32, []), (48, 48, []), (64, 64, []), (80, 80, [])], [], 112⟩ (by kernel_rfl))
              · have hm := ie hb3 hm
                obtain rfl := some_inj hm
                refine X_reg ty_ok Γok hL [(3, .b false)] (.cons hb3 .nil) (by kernel_rfl) ?_
                exact thN (Wk_J hL ⟨[(0, []), (2, []), (4, []), (5, []), (6, []), (8, []), (55, [])], [(0, 0, []), (32, 32, []), (48, 48, []), (64, 64, []), (80, 80, [])], [], 112⟩ (by kernel_rfl))
            obtain ⟨v19, v20, v21, v22⟩ := vv1
            have hm := hk5
            refine X_cond v19 (by kernel_rfl) (fun hc3 => ?_) (fun hc3 => ?_)
            · have hm := it hc3 hm
              refine X_reg ty_ok Γok hL [] .nil (by kernel_rfl) ?_
              obtain rfl := some_inj hm
              exact thN (Wk_J hL ⟨[(0, []), (2, []), (4, []), (5, []), (6, []), (8, [])], [(0, 0, []), (32, 32, []), (48, 48, []), (64, 64, []), (80, 80, [])], [], 112⟩ (by kernel_rfl))
            · have hm := ie hc3 hm
              refine X_skip ?_
              obtain rfl := some_inj hm
              exact thN (Wk_J hL ⟨[(0, []), (2, []), (4, []), (5, []), (6, []), (8, [])], [(0, 0, []), (32, 32, []), (48, 48, []), (64, 64, []), (80, 80, [])], [], 112⟩ (by kernel_rfl))
          obtain ⟨v15, v16, v17, v18⟩ := vv3
          have hm := hk4
          obtain ⟨vv2, hv6, hk6⟩ := obind hm
          refine X_join (n := 112) (fun ((v23, v24, v25, v26) : (List UInt8) × Int × Int × Int) => (⟨[(0, .ref 0 0), (2, .ref 32 0), (4, .ref 48 0), (5, .own 64), (6, .dat (.sc (.int .i64 n))), (8, .ref 80 0)], [(0, some (.box [.dat (Enc.e v23), .dat (.sc (.int .i64 v24)), .dat (.sc (.int .u64 v25))])), (32, some (.box [.dat (.sc (.slice none 0 0)), .dat (.sc (.slice none 0 0)), .dat (.sc (.slice none 0 0))])), (48, some (.box [.dat (Enc.e r.1.Network.Stops), .dat (Enc.e r.1.Network.Lines), .dat (Enc.e r.1.Trips)])), (64, some (.arr 190 4 (List.map Enc.e i))), (80, some (.box [.dat (.sc (.int .i64 e.Id)), .dat (.sc (.int .i64 v18)), .dat (.sc (.int .i64 v10)), .dat (.sc (.int .i64 v26))]))], 112⟩ : X)) vv2 ?_ ?_
          · have hm := hv6
            obtain ⟨r6, h7, hm⟩ := obind hm
            refine X_reg_seq ty_ok Γok hL [(1, .c (s_l1Cur_one_r r6) (s_l1Cur_one_n r6) (s_l1Cur_one_o ((⟨v15, v16, (⟨v17⟩ : IK .u64)⟩ : l1Cur), 3) r6))] (.cons (s_l1Cur_one_c h7) .nil) (by kernel_rfl) ?_
            refine X_cond r6.1 (by kernel_rfl) (fun hc4 => ?_) (fun hc4 => ?_)
            · have hm := it hc4 hm
              obtain ⟨r7, h8, hm⟩ := obind hm
              refine X_reg ty_ok Γok hL [(2, .fz [160] [] []), (2, .c (s_l1Cur_among_r r7) (s_l1Cur_among_n r7) (s_l1Cur_among_o (r6.2, ([1, 5, 10, 60] : List Int)) r7))] (.cons (s_l1Cur_among_c h8) .nil) (by kernel_rfl) ?_
              obtain rfl := some_inj hm
              exact thN (Wk_J hL ⟨[(0, []), (2, []), (4, []), (5, []), (6, []), (8, [])], [(0, 0, []), (32, 32, []), (48, 48, []), (64, 64, []), (80, 80, [])], [], 112⟩ (by kernel_rfl))
            · have hm := ie hc4 hm
              refine X_skip ?_
              obtain rfl := some_inj hm
              exact thN (Wk_J hL ⟨[(0, []), (2, []), (4, []), (5, []), (6, []), (8, [])], [(0, 0, []), (32, 32, []), (48, 48, []), (64, 64, []), (80, 80, [])], [], 112⟩ (by kernel_rfl))
          obtain ⟨v23, v24, v25, v26⟩ := vv2
          have hm := hk6
          obtain ⟨u, h9, hm⟩ := obind hm
          refine X_reg ty_ok Γok hL [(3, .l (List.map Enc.e (i ++ ([(⟨e.Id, v18, v10, v26⟩ : Run)] : List Run))))] (.cons (app_p (f := Enc.e) (g := Enc.e) (l := i) (r := ([(⟨e.Id, v18, v10, v26⟩ : Run)] : List Run)) (b := 32) (chk_t h9) rfl) (.cons (app_m Enc.e i ([(⟨e.Id, v18, v10, v26⟩ : Run)] : List Run)) .nil)) (by kernel_rfl) ?_
          refine ibN ?_
          obtain rfl := some_inj hm
          exact thN (Wk_J hL ⟨[(0, []), (2, []), (4, []), (5, []), (6, [])], [(0, 0, []), (32, 32, []), (48, 48, []), (64, 160, [])], [], 96⟩ (by kernel_rfl))
      obtain ⟨v4, v5, v6, i1⟩ := vv5
      have hm := hk1
      refine X_reg ty_ok Γok hL [] .nil (by kernel_rfl) ?_
      obtain rfl := some_inj hm
      exact thN ⟨_, rfl, Wk_J hL ⟨[(0, []), (2, []), (4, []), (5, []), (6, [])], [(0, 0, []), (32, 32, []), (48, 48, []), (64, 64, [])], [], 96⟩ (by kernel_rfl)⟩
    · have hm := ie hc hm
      obtain rfl := some_inj hm
      obtain rfl := hb _ rfl
      refine Ok_exit ?_
      refine thE ?_
      refine thE ?_
      refine ibE ?_
      exact thN (Wk_J hL ⟨[(0, []), (2, []), (4, []), (5, [])], [(0, 0, []), (32, 32, []), (48, 48, []), (64, 64, [])], [], 96⟩ (by kernel_rfl))
  obtain ⟨v27, v28, v29, i2⟩ := vv9
  intro s hw
  have hm := hk7
  refine thN ?_
  refine Ok_weak hw ?_
  obtain ⟨vv8, hv8, hk8⟩ := obind hm
  refine X_join (n := 112) (fun ((v30, v31, v32, i3) : (List UInt8) × Int × Int × (List Run)) => (⟨[(0, .ref 0 0), (2, .ref 32 0), (4, .ref 48 0), (5, .own 64)], [(0, some (.box [.dat (Enc.e v30), .dat (.sc (.int .i64 v31)), .dat (.sc (.int .u64 v32))])), (32, some (.box [.dat (.sc (.slice none 0 0)), .dat (.sc (.slice none 0 0)), .dat (.sc (.slice none 0 0))])), (48, some (.box [.dat (Enc.e r.1.Network.Stops), .dat (Enc.e r.1.Network.Lines), .dat (Enc.e r.1.Trips)])), (64, some (.arr 190 4 (List.map Enc.e i3)))], 96⟩ : X)) vv8 ?_ ?_
  · have hm := hv8
    obtain ⟨vv7, hv9, hk9⟩ := obind hm
    refine X_join (n := 112) (fun ((v33, v34, v35, v36) : Bool × (List UInt8) × Int × Int) => (⟨[(0, .ref 0 0), (2, .ref 32 0), (4, .ref 48 0), (5, .own 64), (73, .dat (.sc (.bool v33)))], [(0, some (.box [.dat (Enc.e v34), .dat (.sc (.int .i64 v35)), .dat (.sc (.int .u64 v36))])), (32, some (.box [.dat (.sc (.slice none 0 0)), .dat (.sc (.slice none 0 0)), .dat (.sc (.slice none 0 0))])), (48, some (.box [.dat (Enc.e r.1.Network.Stops), .dat (Enc.e r.1.Network.Lines), .dat (Enc.e r.1.Trips)])), (64, some (.arr 190 4 (List.map Enc.e i2)))], 96⟩ : X)) vv7 ?_ ?_
    · have hm := hv9
      rcases btf (decide (0 < (i2.length : Int))) with hb4 | hb4
      · have hm := it hb4 hm
        obtain ⟨r8, h10, hm⟩ := obind hm
        obtain rfl := some_inj hm
        refine X_reg ty_ok Γok hL [(1, .n (i2.length : Int)), (3, .b true), (5, .c (s_l1Cur_one_r r8) (s_l1Cur_one_n r8) (s_l1Cur_one_o ((⟨v27, v28, (⟨v29⟩ : IK .u64)⟩ : l1Cur), 12) r8))] (.cons (len_m Enc.e i2) (.cons hb4 (.cons (s_l1Cur_one_c h10) .nil))) (by kernel_rfl) ?_
        exact thN (Wk_J hL ⟨[(0, []), (2, []), (4, []), (5, []), (73, [])], [(0, 0, []), (32, 32, []), (48, 48, []), (64, 64, [])], [], 96⟩ (by kernel_rfl))
      · have hm := ie hb4 hm
        obtain rfl := some_inj hm
        refine X_reg ty_ok Γok hL [(1, .n (i2.length : Int)), (3, .b false)] (.cons (len_m Enc.e i2) (.cons hb4 .nil)) (by kernel_rfl) ?_
        exact thN (Wk_J hL ⟨[(0, []), (2, []), (4, []), (5, []), (73, [])], [(0, 0, []), (32, 32, []), (48, 48, []), (64, 64, [])], [], 96⟩ (by kernel_rfl))
    obtain ⟨v33, v34, v35, v36⟩ := vv7
    have hm := hk9
    refine X_cond v33 (by kernel_rfl) (fun hc5 => ?_) (fun hc5 => ?_)
    · have hm := it hc5 hm
      obtain ⟨r9, h11, hm⟩ := obind hm
      refine X_reg_seq ty_ok Γok hL [(2, .n (i2.length : Int)), (3, .c (s_l1Cur_pick_r r9) (s_l1Cur_pick_n r9) (s_l1Cur_pick_o ((⟨v34, v35, (⟨v36⟩ : IK .u64)⟩ : l1Cur), (i2.length : Int)) r9))] (.cons (len_m Enc.e i2) (.cons (s_l1Cur_pick_c h11) .nil)) (by kernel_rfl) ?_
      obtain ⟨e1, h12, hm⟩ := obind hm
      refine X_reg_seq ty_ok Γok hL [(2, .d (Enc.e e1)), (3, .d (Enc.e e1))] (.cons (idx_m (f := Enc.e) h12) (.cons (idx_m2 (f := Enc.e) h12) .nil)) (by kernel_rfl) ?_
      obtain ⟨vv6, hv10, hk10⟩ := obind hm
      refine X_join (n := 112) (fun ((v37, v38, v39, v40, v41, v42, v43) : (List UInt8) × Int × Int × Int × Int × Int × Int) => (⟨[(0, .ref 0 0), (2, .ref 32 0), (4, .ref 48 0), (5, .own 64), (9, .dat (.sc (.int .i64 r9.1))), (10, .ref 80 0)], [(0, some (.box [.dat (Enc.e v37), .dat (.sc (.int .i64 v38)), .dat (.sc (.int .u64 v39))])), (32, some (.box [.dat (.sc (.slice none 0 0)), .dat (.sc (.slice none 0 0)), .dat (.sc (.slice none 0 0))])), (48, some (.box [.dat (Enc.e r.1.Network.Stops), .dat (Enc.e r.1.Network.Lines), .dat (Enc.e r.1.Trips)])), (64, some (.arr 190 4 (List.map Enc.e i2))), (80, some (.box [.dat (.sc (.int .i64 v40)), .dat (.sc (.int .i64 v41)), .dat (.sc (.int .i64 v42)), .dat (.sc (.int .i64 v43))]))], 112⟩ : X)) vv6 ?_ ?_
      · have hm := hv10
        obtain ⟨r10, h13, hm⟩ := obind hm
        refine X_reg_seq ty_ok Γok hL [(1, .c (s_l1Cur_pick_r r10) (s_l1Cur_pick_n r10) (s_l1Cur_pick_o (r9.2, 4) r10))] (.cons (s_l1Cur_pick_c h13) .nil) (by kernel_rfl) ?_
        refine Ok_block ?_
        refine X_reg_seq ty_ok Γok hL [] .nil (by kernel_rfl) ?_
        refine X_cond (r10.1 == 0) (by kernel_rfl) (fun hc6 => ?_) (fun hc6 => ?_)
        · have hm := it hc6 hm
          obtain ⟨r11, h14, hm⟩ := obind hm
          refine X_reg ty_ok Γok hL [(1, .c (s_l1Cur_pick_r r11) (s_l1Cur_pick_n r11) (s_l1Cur_pick_o (r10.2, 4) r11))] (.cons (s_l1Cur_pick_c h14) .nil) (by kernel_rfl) ?_
          refine ibN ?_
          obtain rfl := some_inj hm
          exact thN (Wk_J hL ⟨[(0, []), (2, []), (4, []), (5, []), (9, []), (10, [])], [(0, 0, []), (32, 32, []), (48, 48, []), (64, 64, []), (80, 240, [])], [], 112⟩ (by kernel_rfl))
        · have hm := ie hc6 hm
          refine X_reg_seq ty_ok Γok hL [] .nil (by kernel_rfl) ?_
          refine X_cond (r10.1 == 1) (by kernel_rfl) (fun hc7 => ?_) (fun hc7 => ?_)
          · have hm := it hc7 hm
            obtain ⟨r12, h15, hm⟩ := obind hm
            refine X_reg ty_ok Γok hL [(1, .c (s_l1Cur_pick_r r12) (s_l1Cur_pick_n r12) (s_l1Cur_pick_o (r10.2, 8) r12))] (.cons (s_l1Cur_pick_c h15) .nil) (by kernel_rfl) ?_
            refine ibN ?_
            obtain rfl := some_inj hm
            exact thN (Wk_J hL ⟨[(0, []), (2, []), (4, []), (5, []), (9, []), (10, [])], [(0, 0, []), (32, 32, []), (48, 48, []), (64, 64, []), (80, 240, [])], [], 112⟩ (by kernel_rfl))
          · have hm := ie hc7 hm
            refine X_reg_seq ty_ok Γok hL [] .nil (by kernel_rfl) ?_
            refine X_cond (r10.1 == 2) (by kernel_rfl) (fun hc8 => ?_) (fun hc8 => ?_)
            · have hm := it hc8 hm
              obtain ⟨r13, h16, hm⟩ := obind hm
              refine X_reg ty_ok Γok hL [(2, .fz [416] [] []), (2, .c (s_l1Cur_among_r r13) (s_l1Cur_among_n r13) (s_l1Cur_among_o (r10.2, ([(-1), 61] : List Int)) r13))] (.cons (s_l1Cur_among_c h16) .nil) (by kernel_rfl) ?_
              refine ibN ?_
              obtain rfl := some_inj hm
              exact thN (Wk_J hL ⟨[(0, []), (2, []), (4, []), (5, []), (9, []), (10, [])], [(0, 0, []), (32, 32, []), (48, 48, []), (64, 64, []), (80, 240, [])], [], 112⟩ (by kernel_rfl))
            · have hm := ie hc8 hm
              obtain ⟨r14, h17, hm⟩ := obind hm
              refine X_reg ty_ok Γok hL [(2, .c (s_l1Cur_idOf_r r14) (s_l1Cur_idOf_n r14) (s_l1Cur_idOf_o (r10.2, r.1) r14))] (.cons (s_l1Cur_idOf_c h17) .nil) (by kernel_rfl) ?_
              refine ibN ?_
              obtain rfl := some_inj hm
              exact thN (Wk_J hL ⟨[(0, []), (2, []), (4, []), (5, []), (9, []), (10, [])], [(0, 0, []), (32, 32, []), (48, 48, []), (64, 64, []), (80, 240, [])], [], 112⟩ (by kernel_rfl))
      obtain ⟨v37, v38, v39, v40, v41, v42, v43⟩ := vv6
      have hm := hk10
      obtain ⟨e2, h18, hm⟩ := obind hm
      refine X_reg ty_ok Γok hL [(3, .d (Enc.e e2)), (4, .sd (Enc.e e2) (List.map Enc.e (i2.set r9.1.toNat (⟨v40, v41, v42, v43⟩ : Run))))] (.cons (idx_m (f := Enc.e) h18) (.cons (idx_m2 (f := Enc.e) h18) (.cons (set_m Enc.e i2 r9.1.toNat (⟨v40, v41, v42, v43⟩ : Run)) .nil))) (by kernel_rfl) ?_
      obtain rfl := some_inj hm
      exact thN (Wk_J hL ⟨[(0, []), (2, []), (4, []), (5, [])], [(0, 0, []), (32, 32, []), (48, 48, []), (64, 64, [])], [], 96⟩ (by kernel_rfl))
    · have hm := ie hc5 hm
      refine X_skip ?_
      obtain rfl := some_inj hm
      exact thN (Wk_J hL ⟨[(0, []), (2, []), (4, []), (5, [])], [(0, 0, []), (32, 32, []), (48, 48, []), (64, 64, [])], [], 96⟩ (by kernel_rfl))
  obtain ⟨v30, v31, v32, i3⟩ := vv8
  have hm := hk8
  refine X_reg_seq ty_ok Γok hL [] .nil (by kernel_rfl) ?_
  obtain rfl := some_inj hm
  refine Ok_ret ?_
  repeat (first | refine thR ?_ | refine ibR ?_)
  exact X_fin [64] [] (by kernel_rfl) trivial
abbrev s_l5Find_r (y : Int) : AV := .dat (Enc.e y)
abbrev s_l5Find_n (y : Int) : List Obj' := []
abbrev s_l5Find_o (x : Timetable × Int) (y : Int) : List Obj' := []
noncomputable def s_l5Find_S : FnSpec := modS [.rd, .rd] (fun x : Timetable × Int => [Enc.e x.1, Enc.e x.2]) (fun x : Timetable × Int => []) (fun x : Timetable × Int => s_l5Find x.1 x.2) s_l5Find_r s_l5Find_n s_l5Find_o
theorem s_l5Find_c {t : Timetable} {id : Int} {y : Int} (h : s_l5Find t id = some y) : CallOK s_l5Find_S [Enc.e t, Enc.e id] [] (s_l5Find_r y) (s_l5Find_n y) (s_l5Find_o (t, id) y) :=
  modS_call (by
    rintro ⟨a0, a1⟩ ⟨b0, b1⟩ h hO
    have q0 : a0 = b0 := Enc.inj _ _ (congrArg (fun l => List.getD l 0 (.sc undef)) h)
    have q1 : a1 = b1 := Enc.inj _ _ (congrArg (fun l => List.getD l 1 (.sc undef)) h)
    subst q0; subst q1; rfl) (x := (t, id)) h
theorem s_l5Find_ok : FnOK Try.prog 153 s_l5Find_S := by
  have Γok : ∀ f S, lookF f [] = some S → FnOK Try.prog f S := lookF_ok allF_nil
  have Γlive : Live (fun f => lookF f []) := lookF_live allL_nil
  refine fnOK_mod ty_ok (fun args w => Try.call153 args w) Try.func153 rfl [.tmp 4] (by rw [Try.results153]) 22 Try.ntmps153 16 rfl (fun _ => by first | exact Nat.zero_le _ | (simp)) ?_
  rintro ⟨t, id⟩ y cx hm hL
  have hm : s_l5Find t id = some y := hm
  have hL : cx.L = 0 := hL
  unfold s_l5Find at hm
  refine X_reg_seq ty_ok Γok hL [] .nil (by kernel_rfl) ?_
  refine Ok_seq ?_
  refine X_reg_seq ty_ok Γok hL [] .nil (by kernel_rfl) ?_
  obtain ⟨v1, hv, hr, hk⟩ := flb_t hm
  refine X_tailF (n := 22) (fun (_ : Unit) => (⟨[], [], 32⟩ : X)) v1 ?_ ?_
  · have hm := hv
    refine Ok_block ?_
    refine X_loop (n := 22) (step := s_l5Find_L1 t id) (fun (v : Int) => (⟨[(1, .dat (.sc (.int .i64 id))), (2, .ref 16 0), (5, .dat (.sc (.int .i64 v)))], [(16, some (.box [.dat (Enc.e t.Network.Stops), .dat (Enc.e t.Network.Lines), .dat (Enc.e t.Trips)]))], 48⟩ : X)) hm (Wk_J hL ⟨[(1, []), (2, []), (5, [])], [(16, 16, [])], [], 48⟩ (by kernel_rfl)) ?_
    rintro v r0 hm hb
    rw [s_l5Find_L1] at hm
    refine Ok_seq ?_
    refine X_reg_seq ty_ok Γok hL [(3, .n (t.Trips.length : Int))] (.cons (len_m Enc.e t.Trips) .nil) (by kernel_rfl) ?_
    refine X_cond (decide (v < (t.Trips.length : Int))) (by kernel_rfl) (fun hc => ?_) (fun hc => ?_)
    · have hm := it hc hm
      refine X_skip ?_
      refine thN ?_
      refine Ok_seq ?_
      refine Ok_block ?_
      obtain ⟨e, h, hm⟩ := obind hm
      refine X_reg_seq ty_ok Γok hL [(3, .d (Enc.e e))] (.cons (idx_m (f := Enc.e) h) .nil) (by kernel_rfl) ?_
      refine X_cond (e.Id == id) (by kernel_rfl) (fun hc1 => ?_) (fun hc1 => ?_)
      · have hm := it hc1 hm
        refine X_reg_seq ty_ok Γok hL [] .nil (by kernel_rfl) ?_
        obtain rfl := some_inj hm
        obtain rfl := hb _ rfl
        have hm := congrArg some (hr _ rfl)
        obtain rfl := some_inj hm
        refine Ok_ret ?_
        repeat (first | refine thR ?_ | refine ibR ?_)
        exact X_fin [] [] (by kernel_rfl) trivial
      · have hm := ie hc1 hm
        refine X_skip ?_
        refine ibN ?_
        refine thN ?_
        refine X_reg ty_ok Γok hL [] .nil (by kernel_rfl) ?_
        obtain rfl := some_inj hm
        exact thN ⟨_, rfl, Wk_J hL ⟨[(1, []), (2, []), (5, [])], [(16, 16, [])], [], 48⟩ (by kernel_rfl)⟩
    · have hm := ie hc hm
      obtain rfl := some_inj hm
      obtain rfl := hb _ rfl
      refine Ok_exit ?_
      refine thE ?_
      refine thE ?_
      refine ibE ?_
      exact thN ⟨_, rfl, Wk_J hL ⟨[], [], [], 32⟩ (by kernel_rfl)⟩
  rintro ⟨⟩ hu s hw
  have hm := hk _ hu
  refine thN ?_
  refine Ok_weak hw ?_
  refine X_reg_seq ty_ok Γok hL [] .nil (by kernel_rfl) ?_
  obtain rfl := some_inj hm
  refine Ok_ret ?_
  repeat (first | refine thR ?_ | refine ibR ?_)
  exact X_fin [] [] (by kernel_rfl) trivial
abbrev s_DrawShortenRun_r (y : Timetable × (List Run) × Int × Int) : AV := .tup [.dat (Enc.e y.1), .own 0, .dat (Enc.e y.2.2.1), .dat (Enc.e y.2.2.2)]
abbrev s_DrawShortenRun_n (y : Timetable × (List Run) × Int × Int) : List Obj' := [.arr 190 4 (List.map Enc.e y.2.1)]
abbrev s_DrawShortenRun_o (x : (List UInt8)) (y : Timetable × (List Run) × Int × Int) : List Obj' := []
noncomputable def s_DrawShortenRun_S : FnSpec := modS [.rd] (fun x : (List UInt8) => [Enc.e x]) (fun x : (List UInt8) => []) (fun x : (List UInt8) => s_DrawShortenRun x) s_DrawShortenRun_r s_DrawShortenRun_n s_DrawShortenRun_o
theorem s_DrawShortenRun_c {code : List UInt8} {y : Timetable × (List Run) × Int × Int} (h : s_DrawShortenRun code = some y) : CallOK s_DrawShortenRun_S [Enc.e code] [] (s_DrawShortenRun_r y) (s_DrawShortenRun_n y) (s_DrawShortenRun_o code y) :=
  modS_call (by
    rintro a0 b0 h hO
    have q0 : a0 = b0 := Enc.inj _ _ (congrArg (fun l => List.getD l 0 (.sc undef)) h)
    subst q0; rfl) (x := code) h
theorem s_DrawShortenRun_ok : FnOK Try.prog 60 s_DrawShortenRun_S := by
  have Γok : ∀ f S, lookF f [(151, s_l1Cur_runs_S), (152, s_l1Cur_idOf_S), (153, s_l5Find_S), (154, s_l5Good_S), (106, s_l1Cur_one_S), (155, s_l5Stops_S), (103, s_l1Cur_pick_S)] = some S → FnOK Try.prog f S := lookF_ok (allF_cons s_l1Cur_runs_ok (allF_cons s_l1Cur_idOf_ok (allF_cons s_l5Find_ok (allF_cons s_l5Good_ok (allF_cons s_l1Cur_one_ok (allF_cons s_l5Stops_ok (allF_cons s_l1Cur_pick_ok allF_nil)))))))
  have Γlive : Live (fun f => lookF f [(151, s_l1Cur_runs_S), (152, s_l1Cur_idOf_S), (153, s_l5Find_S), (154, s_l5Good_S), (106, s_l1Cur_one_S), (155, s_l5Stops_S), (103, s_l1Cur_pick_S)]) := lookF_live (allL_cons modS_live (allL_cons modS_live (allL_cons modS_live (allL_cons modS_live (allL_cons modS_live (allL_cons modS_live (allL_cons modS_live allL_nil)))))))
  refine fnOK_mod ty_ok (fun args w => Try.call60 args w) Try.func60 rfl [.cell 2 101, .tmp 3, .tmp 4, .tmp 5] (by rw [Try.results60]) 56 Try.ntmps60 16 rfl (fun _ => by first | exact Nat.zero_le _ | (simp)) ?_
  rintro code y cx hm hL
  have hm : s_DrawShortenRun code = some y := hm
  have hL : cx.L = 0 := hL
  unfold s_DrawShortenRun at hm
  refine X_reg_seq ty_ok Γok hL [] .nil (by kernel_rfl) ?_
  refine X_reg_seq ty_ok Γok hL [] .nil (by kernel_rfl) ?_
  obtain ⟨r, h, hm⟩ := obind hm
  refine X_reg_seq ty_ok Γok hL [(1, .c (s_l1Cur_runs_r r) (s_l1Cur_runs_n r) (s_l1Cur_runs_o (⟨code, 0, (⟨0⟩ : IK .u64)⟩ : l1Cur) r))] (.cons (s_l1Cur_runs_c h) .nil) (by kernel_rfl) ?_
  obtain ⟨r1, h1, hm⟩ := obind hm
  refine X_reg_seq ty_ok Γok hL [(2, .c (s_l1Cur_idOf_r r1) (s_l1Cur_idOf_n r1) (s_l1Cur_idOf_o (r.2.2, r.1) r1))] (.cons (s_l1Cur_idOf_c h1) .nil) (by kernel_rfl) ?_
  refine Ok_seq ?_
  obtain ⟨r2, h2, hm⟩ := obind hm
  refine X_reg_seq ty_ok Γok hL [(2, .c (s_l5Find_r r2) (s_l5Find_n r2) (s_l5Find_o (r.1, r1.1) r2))] (.cons (s_l5Find_c h2) .nil) (by kernel_rfl) ?_
  obtain ⟨r3, h3, hm⟩ := obind hm
  obtain ⟨vv, hv, hk⟩ := obind hm
  refine X_join (n := 56) (fun ((v, v1, v2, v3) : Bool × (List UInt8) × Int × Int) => (⟨[(2, .ref 16 0), (6, .ref 32 0), (7, .ref 48 0), (8, .own 64), (9, .dat (.sc (.int .i64 r1.1))), (10, .dat (.sc (.int .i64 r2))), (36, .dat (.sc (.bool v)))], [(16, some (.box [.dat (.sc (.slice none 0 0)), .dat (.sc (.slice none 0 0)), .dat (.sc (.slice none 0 0))])), (32, some (.box [.dat (Enc.e v1), .dat (.sc (.int .i64 v2)), .dat (.sc (.int .u64 v3))])), (48, some (.box [.dat (Enc.e r.1.Network.Stops), .dat (Enc.e r.1.Network.Lines), .dat (Enc.e r.1.Trips)])), (64, some (.arr 190 4 (List.map Enc.e r.2.1)))], 96⟩ : X)) vv ?_ ?_
  · have hm := hv
    rcases btf r3 with hb | hb
    · have hm := it hb hm
      rcases btf (decide (0 ≤ r2)) with hb1 | hb1
      · have hm := it hb1 hm
        obtain ⟨r4, h4, hm⟩ := obind hm
        obtain rfl := some_inj hm
        refine X_reg ty_ok Γok hL [(1, .c (s_l5Good_r r3) (s_l5Good_n r3) (s_l5Good_o r.1 r3)), (2, .b true), (6, .b true), (8, .c (s_l1Cur_one_r r4) (s_l1Cur_one_n r4) (s_l1Cur_one_o (r1.2, 4) r4))] (.cons (s_l5Good_c h3) (.cons hb (.cons hb1 (.cons (s_l1Cur_one_c h4) .nil)))) (by kernel_rfl) ?_
        exact thN (Wk_J hL ⟨[(2, []), (6, []), (7, []), (8, []), (9, []), (10, []), (36, [])], [(16, 16, []), (32, 112, []), (48, 224, []), (64, 160, [])], [], 96⟩ (by kernel_rfl))
      · have hm := ie hb1 hm
        obtain rfl := some_inj hm
        refine X_reg ty_ok Γok hL [(1, .c (s_l5Good_r r3) (s_l5Good_n r3) (s_l5Good_o r.1 r3)), (2, .b true), (6, .b false)] (.cons (s_l5Good_c h3) (.cons hb (.cons hb1 .nil))) (by kernel_rfl) ?_
        exact thN (Wk_J hL ⟨[(2, []), (6, []), (7, []), (8, []), (9, []), (10, []), (36, [])], [(16, 16, []), (32, 112, []), (48, 224, []), (64, 160, [])], [], 96⟩ (by kernel_rfl))
    · have hm := ie hb hm
      obtain rfl := some_inj hm
      refine X_reg ty_ok Γok hL [(1, .c (s_l5Good_r r3) (s_l5Good_n r3) (s_l5Good_o r.1 r3)), (2, .b false)] (.cons (s_l5Good_c h3) (.cons hb .nil)) (by kernel_rfl) ?_
      exact thN (Wk_J hL ⟨[(2, []), (6, []), (7, []), (8, []), (9, []), (10, []), (36, [])], [(16, 16, []), (32, 112, []), (48, 224, []), (64, 160, [])], [], 96⟩ (by kernel_rfl))
  obtain ⟨v, v1, v2, v3⟩ := vv
  have hm := hk
  refine X_cond v (by kernel_rfl) (fun hc => ?_) (fun hc => ?_)
  · have hm := it hc hm
    obtain ⟨r5, h5, hm⟩ := obind hm
    refine X_reg_seq ty_ok Γok hL [(2, .c (s_l5Stops_r r5) (s_l5Stops_n r5) (s_l5Stops_o (r.1, r2) r5))] (.cons (s_l5Stops_c h5) .nil) (by kernel_rfl) ?_
    obtain ⟨r7, h8, hm⟩ := obind hm
    obtain ⟨e1, h9, hm⟩ := obind hm
    refine X_draw_seq mixed ty_ok Γok Γlive [(7, [32]), (10, [16])] (by kernel_rfl) [(6, .n (r5.length : Int)), (7, .c (s_l1Cur_pick_r r7) (s_l1Cur_pick_n r7) (s_l1Cur_pick_o ((⟨v1, v2, (⟨v3⟩ : IK .u64)⟩ : l1Cur), (r5.length : Int)) r7)), (8, .d (Enc.e e1))] (.cons (len_m Enc.e r5) (.cons (s_l1Cur_pick_c h8) (.cons (idx_m (f := Enc.e) h9) .nil))) (by kernel_rfl) ?_
    obtain rfl := some_inj hm
    refine Ok_ret ?_
    repeat (first | refine thR ?_ | refine ibR ?_)
    exact X_fin [64] [] (by kernel_rfl) trivial
  · have hm := ie hc hm
    refine X_skip ?_
    refine thN ?_
    obtain ⟨r9, h11, hm⟩ := obind hm
    refine X_draw_seq mixed ty_ok Γok Γlive [(4, [32]), (6, [16])] (by kernel_rfl) [(4, .c (s_l1Cur_pick_r r9) (s_l1Cur_pick_n r9) (s_l1Cur_pick_o ((⟨v1, v2, (⟨v3⟩ : IK .u64)⟩ : l1Cur), 8) r9))] (.cons (s_l1Cur_pick_c h11) .nil) (by kernel_rfl) ?_
    obtain rfl := some_inj hm
    refine Ok_ret ?_
    repeat (first | refine thR ?_ | refine ibR ?_)
    exact X_fin [64] [] (by kernel_rfl) trivial
abbrev i_within_r (y : Bool) : AV := .dat (Enc.e y)
abbrev i_within_n (y : Bool) : List Obj' := []
abbrev i_within_o (x : Int × Int × Int) (y : Bool) : List Obj' := []
noncomputable def i_within_S : FnSpec := modS [.rd, .rd, .rd] (fun x : Int × Int × Int => [Enc.e x.1, Enc.e x.2.1, Enc.e x.2.2]) (fun x : Int × Int × Int => []) (fun x : Int × Int × Int => i_within x.1 x.2.1 x.2.2) i_within_r i_within_n i_within_o
theorem i_within_c {n : Int} {lo : Int} {hi : Int} {y : Bool} (h : i_within n lo hi = some y) : CallOK i_within_S [Enc.e n, Enc.e lo, Enc.e hi] [] (i_within_r y) (i_within_n y) (i_within_o (n, lo, hi) y) :=
  modS_call (by
    rintro ⟨a0, a1, a2⟩ ⟨b0, b1, b2⟩ h hO
    have q0 : a0 = b0 := Enc.inj _ _ (congrArg (fun l => List.getD l 0 (.sc undef)) h)
    have q1 : a1 = b1 := Enc.inj _ _ (congrArg (fun l => List.getD l 1 (.sc undef)) h)
    have q2 : a2 = b2 := Enc.inj _ _ (congrArg (fun l => List.getD l 2 (.sc undef)) h)
    subst q0; subst q1; subst q2; rfl) (x := (n, lo, hi)) h
theorem i_within_ok : FnOK Try.prog 94 i_within_S := by
  have Γok : ∀ f S, lookF f [] = some S → FnOK Try.prog f S := lookF_ok allF_nil
  have Γlive : Live (fun f => lookF f []) := lookF_live allL_nil
  refine fnOK_mod ty_ok (fun args w => Try.call94 args w) Try.func94 rfl [.tmp 6] (by rw [Try.results94]) 15 Try.ntmps94 16 rfl (fun _ => by first | exact Nat.zero_le _ | (simp)) ?_
  rintro ⟨n, lo, hi⟩ y cx hm hL
  have hm : i_within n lo hi = some y := hm
  have hL : cx.L = 0 := hL
  unfold i_within at hm
  refine X_reg_seq ty_ok Γok hL [] .nil (by kernel_rfl) ?_
  obtain ⟨v, hv, hk⟩ := obind hm
  refine X_join (n := 15) (fun (v : Bool) => (⟨[(6, .dat (.sc (.bool v)))], [], 32⟩ : X)) v ?_ ?_
  · have hm := hv
    rcases btf (decide (lo ≤ n)) with hb | hb
    · have hm := it hb hm
      obtain rfl := some_inj hm
      refine X_reg ty_ok Γok hL [(3, .b true)] (.cons hb .nil) (by kernel_rfl) ?_
      exact thN (Wk_J hL ⟨[(6, [])], [], [], 32⟩ (by kernel_rfl))
    · have hm := ie hb hm
      obtain rfl := some_inj hm
      refine X_reg ty_ok Γok hL [(3, .b false)] (.cons hb .nil) (by kernel_rfl) ?_
      exact thN (Wk_J hL ⟨[(6, [])], [], [], 32⟩ (by kernel_rfl))
  have hm := hk
  obtain rfl := some_inj hm
  refine Ok_ret ?_
  repeat (first | refine thR ?_ | refine ibR ?_)
  exact X_fin [] [] (by kernel_rfl) trivial
abbrev i_isName_r (y : Bool) : AV := .dat (Enc.e y)
abbrev i_isName_n (y : Bool) : List Obj' := []
abbrev i_isName_o (x : ByteArray) (y : Bool) : List Obj' := []
noncomputable def i_isName_S : FnSpec := modS [.rd] (fun x : ByteArray => [Enc.e x]) (fun x : ByteArray => []) (fun x : ByteArray => i_isName x) i_isName_r i_isName_n i_isName_o
theorem i_isName_c {s : ByteArray} {y : Bool} (h : i_isName s = some y) : CallOK i_isName_S [Enc.e s] [] (i_isName_r y) (i_isName_n y) (i_isName_o s y) :=
  modS_call (by
    rintro a0 b0 h hO
    have q0 : a0 = b0 := Enc.inj _ _ (congrArg (fun l => List.getD l 0 (.sc undef)) h)
    subst q0; rfl) (x := s) h
theorem i_isName_ok : FnOK Try.prog 243 i_isName_S := by
  have Γok : ∀ f S, lookF f [] = some S → FnOK Try.prog f S := lookF_ok allF_nil
  have Γlive : Live (fun f => lookF f []) := lookF_live allL_nil
  refine fnOK_mod ty_ok (fun args w => Try.call243 args w) Try.func243 rfl [.tmp 2] (by rw [Try.results243]) 47 Try.ntmps243 16 rfl (fun _ => by first | exact Nat.zero_le _ | (simp)) ?_
  rintro s y cx hm hL
  have hm : i_isName s = some y := hm
  have hL : cx.L = 0 := hL
  unfold i_isName at hm
  refine X_reg_seq ty_ok Γok hL [] .nil (by kernel_rfl) ?_
  refine Ok_seq ?_
  obtain ⟨v, hv, hk⟩ := obind hm
  refine X_join (n := 47) (fun (v : Bool) => (⟨[(0, .dat (.sc (.string s))), (12, .dat (.sc (.bool v)))], [], 32⟩ : X)) v ?_ ?_
  · have hm := hv
    rcases btf (decide ((s.size : Int) < 1)) with hb | hb
    · have hm := it hb hm
      obtain rfl := some_inj hm
      refine X_reg ty_ok Γok hL [(3, .b true)] (.cons hb .nil) (by kernel_rfl) ?_
      exact thN (Wk_J hL ⟨[(0, []), (12, [])], [], [], 32⟩ (by kernel_rfl))
    · have hm := ie hb hm
      obtain rfl := some_inj hm
      refine X_reg ty_ok Γok hL [(3, .b false)] (.cons hb .nil) (by kernel_rfl) ?_
      exact thN (Wk_J hL ⟨[(0, []), (12, [])], [], [], 32⟩ (by kernel_rfl))
  have hm := hk
  refine X_cond v (by kernel_rfl) (fun hc => ?_) (fun hc => ?_)
  · have hm := it hc hm
    refine X_reg_seq ty_ok Γok hL [] .nil (by kernel_rfl) ?_
    obtain rfl := some_inj hm
    refine Ok_ret ?_
    repeat (first | refine thR ?_ | refine ibR ?_)
    exact X_fin [] [] (by kernel_rfl) trivial
  · have hm := ie hc hm
    refine X_skip ?_
    refine thN ?_
    refine Ok_seq ?_
    refine X_reg_seq ty_ok Γok hL [] .nil (by kernel_rfl) ?_
    obtain ⟨v4, hv3, hr, hk3⟩ := flb_t hm
    refine X_tailF (n := 47) (fun (_ : Unit) => (⟨[], [], 32⟩ : X)) v4 ?_ ?_
    · have hm := hv3
      refine Ok_block ?_
      refine X_loop (n := 47) (step := i_isName_L1 s) (fun (v1 : Int) => (⟨[(0, .dat (.sc (.string s))), (14, .dat (.sc (.int .i64 (s.size : Int)))), (15, .dat (.sc (.int .i64 v1)))], [], 32⟩ : X)) hm (Wk_J hL ⟨[(0, []), (14, []), (15, [])], [], [], 32⟩ (by kernel_rfl)) ?_
      rintro v1 r0 hm hb1
      rw [i_isName_L1] at hm
      refine X_reg_seq ty_ok Γok hL [] .nil (by kernel_rfl) ?_
      refine Ok_seq ?_
      refine X_cond (decide (v1 < (s.size : Int))) (by kernel_rfl) (fun hc1 => ?_) (fun hc1 => ?_)
      · have hm := it hc1 hm
        refine X_skip ?_
        refine thN ?_
        refine Ok_seq ?_
        refine Ok_block ?_
        refine X_reg_seq ty_ok Γok hL [] .nil (by kernel_rfl) ?_
        obtain ⟨u, h, hm⟩ := obind hm
        obtain ⟨v2, hv1, hk1⟩ := obind hm
        refine X_join (n := 47) (fun (v2 : Bool) => (⟨[(0, .dat (.sc (.string s))), (3, .dat (.sc (.int .i64 v1))), (4, .dat (.sc (.bool v2))), (14, .dat (.sc (.int .i64 (s.size : Int)))), (15, .dat (.sc (.int .i64 v1)))], [], 32⟩ : X)) v2 ?_ ?_
        · have hm := hv1
          rcases btf (decide (97 ≤ ((s.data.toList.getD v1.toNat 0).toNat : Int))) with hb2 | hb2
          · have hm := it hb2 hm
            obtain ⟨u1, h1, hm⟩ := obind hm
            obtain rfl := some_inj hm
            refine X_reg ty_ok Γok hL [(4, .b true)] (.cons (chk_t h) (.cons hb2 (.cons (chk_t h1) .nil))) (by kernel_rfl) ?_
            exact thN (Wk_J hL ⟨[(0, []), (3, []), (4, []), (14, []), (15, [])], [], [], 32⟩ (by kernel_rfl))
          · have hm := ie hb2 hm
            obtain rfl := some_inj hm
            refine X_reg ty_ok Γok hL [(4, .b false)] (.cons (chk_t h) (.cons hb2 .nil)) (by kernel_rfl) ?_
            exact thN (Wk_J hL ⟨[(0, []), (3, []), (4, []), (14, []), (15, [])], [], [], 32⟩ (by kernel_rfl))
        have hm := hk1
        obtain ⟨v3, hv2, hk2⟩ := obind hm
        refine X_join (n := 47) (fun (v3 : Bool) => (⟨[(0, .dat (.sc (.string s))), (14, .dat (.sc (.int .i64 (s.size : Int)))), (15, .dat (.sc (.int .i64 v1))), (45, .dat (.sc (.bool v3)))], [], 32⟩ : X)) v3 ?_ ?_
        · have hm := hv2
          rcases btf (!v2) with hb3 | hb3
          · have hm := it hb3 hm
            rcases btf (v1 == 0) with hb4 | hb4
            · have hm := it hb4 hm
              obtain rfl := some_inj hm
              refine X_reg ty_ok Γok hL [(2, .b true), (5, .b true)] (.cons hb3 (.cons hb4 .nil)) (by kernel_rfl) ?_
              exact thN (Wk_J hL ⟨[(0, []), (14, []), (15, []), (45, [])], [], [], 32⟩ (by kernel_rfl))
            · have hm := ie hb4 hm
              obtain ⟨u2, h2, hm⟩ := obind hm
              rcases btf (decide (((s.data.toList.getD v1.toNat 0).toNat : Int) < 48)) with hb5 | hb5
              · have hm := it hb5 hm
                obtain rfl := some_inj hm
                refine X_reg ty_ok Γok hL [(2, .b true), (5, .b false), (11, .b true)] (.cons hb3 (.cons hb4 (.cons (chk_t h2) (.cons hb5 .nil)))) (by kernel_rfl) ?_
                exact thN (Wk_J hL ⟨[(0, []), (14, []), (15, []), (45, [])], [], [], 32⟩ (by kernel_rfl))
              · have hm := ie hb5 hm
                obtain ⟨u3, h3, hm⟩ := obind hm
                obtain rfl := some_inj hm
                refine X_reg ty_ok Γok hL [(2, .b true), (5, .b false), (11, .b false)] (.cons hb3 (.cons hb4 (.cons (chk_t h2) (.cons hb5 (.cons (chk_t h3) .nil))))) (by kernel_rfl) ?_
                exact thN (Wk_J hL ⟨[(0, []), (14, []), (15, []), (45, [])], [], [], 32⟩ (by kernel_rfl))
          · have hm := ie hb3 hm
            obtain rfl := some_inj hm
            refine X_reg ty_ok Γok hL [(2, .b false)] (.cons hb3 .nil) (by kernel_rfl) ?_
            exact thN (Wk_J hL ⟨[(0, []), (14, []), (15, []), (45, [])], [], [], 32⟩ (by kernel_rfl))
        have hm := hk2
        refine X_cond v3 (by kernel_rfl) (fun hc2 => ?_) (fun hc2 => ?_)
        · have hm := it hc2 hm
          refine X_reg_seq ty_ok Γok hL [] .nil (by kernel_rfl) ?_
          obtain rfl := some_inj hm
          obtain rfl := hb1 _ rfl
          have hm := congrArg some (hr _ rfl)
          obtain rfl := some_inj hm
          refine Ok_ret ?_
          repeat (first | refine thR ?_ | refine ibR ?_)
          exact X_fin [] [] (by kernel_rfl) trivial
        · have hm := ie hc2 hm
          refine X_skip ?_
          refine ibN ?_
          refine thN ?_
          refine X_reg ty_ok Γok hL [] .nil (by kernel_rfl) ?_
          obtain rfl := some_inj hm
          exact thN ⟨_, rfl, Wk_J hL ⟨[(0, []), (14, []), (15, [])], [], [], 32⟩ (by kernel_rfl)⟩
      · have hm := ie hc1 hm
        obtain rfl := some_inj hm
        obtain rfl := hb1 _ rfl
        refine Ok_exit ?_
        refine thE ?_
        refine thE ?_
        refine ibE ?_
        exact thN ⟨_, rfl, Wk_J hL ⟨[], [], [], 32⟩ (by kernel_rfl)⟩
    rintro ⟨⟩ hu s1 hw
    have hm := hk3 _ hu
    refine thN ?_
    refine Ok_weak hw ?_
    refine X_reg_seq ty_ok Γok hL [] .nil (by kernel_rfl) ?_
    obtain rfl := some_inj hm
    refine Ok_ret ?_
    repeat (first | refine thR ?_ | refine ibR ?_)
    exact X_fin [] [] (by kernel_rfl) trivial
abbrev slices_Index_string_r (y : Int) : AV := .dat (Enc.e y)
abbrev slices_Index_string_n (y : Int) : List Obj' := []
abbrev slices_Index_string_o (x : (List ByteArray) × ByteArray) (y : Int) : List Obj' := []
noncomputable def slices_Index_string_S : FnSpec := modS [.rd, .rd] (fun x : (List ByteArray) × ByteArray => [Enc.e x.1, Enc.e x.2]) (fun x : (List ByteArray) × ByteArray => []) (fun x : (List ByteArray) × ByteArray => slices_Index_string x.1 x.2) slices_Index_string_r slices_Index_string_n slices_Index_string_o
theorem slices_Index_string_c {s : List ByteArray} {v : ByteArray} {y : Int} (h : slices_Index_string s v = some y) : CallOK slices_Index_string_S [Enc.e s, Enc.e v] [] (slices_Index_string_r y) (slices_Index_string_n y) (slices_Index_string_o (s, v) y) :=
  modS_call (by
    rintro ⟨a0, a1⟩ ⟨b0, b1⟩ h hO
    have q0 : a0 = b0 := Enc.inj _ _ (congrArg (fun l => List.getD l 0 (.sc undef)) h)
    have q1 : a1 = b1 := Enc.inj _ _ (congrArg (fun l => List.getD l 1 (.sc undef)) h)
    subst q0; subst q1; rfl) (x := (s, v)) h
theorem slices_Index_string_ok : FnOK Try.prog 244 slices_Index_string_S := by
  have Γok : ∀ f S, lookF f [] = some S → FnOK Try.prog f S := lookF_ok allF_nil
  have Γlive : Live (fun f => lookF f []) := lookF_live allL_nil
  refine fnOK_mod ty_ok (fun args w => Try.call244 args w) Try.func244 rfl [.tmp 4] (by rw [Try.results244]) 19 Try.ntmps244 16 rfl (fun _ => by first | exact Nat.zero_le _ | (simp)) ?_
  rintro ⟨s, v⟩ y cx hm hL
  have hm : slices_Index_string s v = some y := hm
  have hL : cx.L = 0 := hL
  unfold slices_Index_string at hm
  refine X_reg_seq ty_ok Γok hL [] .nil (by kernel_rfl) ?_
  refine Ok_seq ?_
  refine X_reg_seq ty_ok Γok hL [(1, .n (s.length : Int))] (.cons (len_m Enc.e s) .nil) (by kernel_rfl) ?_
  obtain ⟨v2, hv, hr, hk⟩ := flb_t hm
  refine X_tailF (n := 19) (fun (_ : Unit) => (⟨[], [], 32⟩ : X)) v2 ?_ ?_
  · have hm := hv
    refine Ok_block ?_
    refine X_loop (n := 19) (step := slices_Index_string_L1 s v) (fun (v1 : Int) => (⟨[(0, .dat (Enc.e s)), (1, .dat (.sc (.string v))), (7, .dat (.sc (.int .i64 (s.length : Int)))), (8, .dat (.sc (.int .i64 v1)))], [], 32⟩ : X)) hm (Wk_J hL ⟨[(0, []), (1, []), (7, []), (8, [])], [], [], 32⟩ (by kernel_rfl)) ?_
    rintro v1 r0 hm hb
    rw [slices_Index_string_L1] at hm
    refine X_reg_seq ty_ok Γok hL [] .nil (by kernel_rfl) ?_
    refine Ok_seq ?_
    refine X_cond (decide (v1 < (s.length : Int))) (by kernel_rfl) (fun hc => ?_) (fun hc => ?_)
    · have hm := it hc hm
      refine X_skip ?_
      refine thN ?_
      refine Ok_seq ?_
      refine Ok_block ?_
      refine X_reg_seq ty_ok Γok hL [] .nil (by kernel_rfl) ?_
      obtain ⟨e, h, hm⟩ := obind hm
      refine X_reg_seq ty_ok Γok hL [(3, .d (Enc.e e))] (.cons (idx_m (f := Enc.e) h) .nil) (by kernel_rfl) ?_
      refine X_cond (v.toList == e.toList) (by kernel_rfl) (fun hc1 => ?_) (fun hc1 => ?_)
      · have hm := it hc1 hm
        refine X_reg_seq ty_ok Γok hL [] .nil (by kernel_rfl) ?_
        obtain rfl := some_inj hm
        obtain rfl := hb _ rfl
        have hm := congrArg some (hr _ rfl)
        obtain rfl := some_inj hm
        refine Ok_ret ?_
        repeat (first | refine thR ?_ | refine ibR ?_)
        exact X_fin [] [] (by kernel_rfl) trivial
      · have hm := ie hc1 hm
        refine X_skip ?_
        refine ibN ?_
        refine thN ?_
        refine X_reg ty_ok Γok hL [] .nil (by kernel_rfl) ?_
        obtain rfl := some_inj hm
        exact thN ⟨_, rfl, Wk_J hL ⟨[(0, []), (1, []), (7, []), (8, [])], [], [], 32⟩ (by kernel_rfl)⟩
    · have hm := ie hc hm
      obtain rfl := some_inj hm
      obtain rfl := hb _ rfl
      refine Ok_exit ?_
      refine thE ?_
      refine thE ?_
      refine ibE ?_
      exact thN ⟨_, rfl, Wk_J hL ⟨[], [], [], 32⟩ (by kernel_rfl)⟩
  rintro ⟨⟩ hu s1 hw
  have hm := hk _ hu
  refine thN ?_
  refine Ok_weak hw ?_
  refine X_reg_seq ty_ok Γok hL [] .nil (by kernel_rfl) ?_
  obtain rfl := some_inj hm
  refine Ok_ret ?_
  repeat (first | refine thR ?_ | refine ibR ?_)
  exact X_fin [] [] (by kernel_rfl) trivial
abbrev i_areNames_r (y : Bool) : AV := .dat (Enc.e y)
abbrev i_areNames_n (y : Bool) : List Obj' := []
abbrev i_areNames_o (x : (List ByteArray)) (y : Bool) : List Obj' := []
noncomputable def i_areNames_S : FnSpec := modS [.rd] (fun x : (List ByteArray) => [Enc.e x]) (fun x : (List ByteArray) => []) (fun x : (List ByteArray) => i_areNames x) i_areNames_r i_areNames_n i_areNames_o
theorem i_areNames_c {names : List ByteArray} {y : Bool} (h : i_areNames names = some y) : CallOK i_areNames_S [Enc.e names] [] (i_areNames_r y) (i_areNames_n y) (i_areNames_o names y) :=
  modS_call (by
    rintro a0 b0 h hO
    have q0 : a0 = b0 := Enc.inj _ _ (congrArg (fun l => List.getD l 0 (.sc undef)) h)
    subst q0; rfl) (x := names) h
theorem i_areNames_ok : FnOK Try.prog 210 i_areNames_S := by
  have Γok : ∀ f S, lookF f [(243, i_isName_S), (244, slices_Index_string_S)] = some S → FnOK Try.prog f S := lookF_ok (allF_cons i_isName_ok (allF_cons slices_Index_string_ok allF_nil))
  have Γlive : Live (fun f => lookF f [(243, i_isName_S), (244, slices_Index_string_S)]) := lookF_live (allL_cons modS_live (allL_cons modS_live allL_nil))
  refine fnOK_mod ty_ok (fun args w => Try.call210 args w) Try.func210 rfl [.tmp 2] (by rw [Try.results210]) 23 Try.ntmps210 16 rfl (fun _ => by first | exact Nat.zero_le _ | (simp)) ?_
  rintro names y cx hm hL
  have hm : i_areNames names = some y := hm
  have hL : cx.L = 0 := hL
  unfold i_areNames at hm
  refine X_reg_seq ty_ok Γok hL [] .nil (by kernel_rfl) ?_
  refine Ok_seq ?_
  refine X_reg_seq ty_ok Γok hL [(1, .n (names.length : Int))] (.cons (len_m Enc.e names) .nil) (by kernel_rfl) ?_
  obtain ⟨v2, hv1, hr, hk1⟩ := flb_t hm
  refine X_tailF (n := 23) (fun (_ : Unit) => (⟨[], [], 32⟩ : X)) v2 ?_ ?_
  · have hm := hv1
    refine Ok_block ?_
    refine X_loop (n := 23) (step := i_areNames_L1 names) (fun (v : Int) => (⟨[(0, .dat (Enc.e names)), (5, .dat (Enc.e names)), (6, .dat (.sc (.int .i64 (names.length : Int)))), (7, .dat (.sc (.int .i64 v)))], [], 32⟩ : X)) hm (Wk_J hL ⟨[(0, []), (5, []), (6, []), (7, [])], [], [], 32⟩ (by kernel_rfl)) ?_
    rintro v r0 hm hb
    rw [i_areNames_L1] at hm
    refine X_reg_seq ty_ok Γok hL [] .nil (by kernel_rfl) ?_
    refine Ok_seq ?_
    refine X_cond (decide (v < (names.length : Int))) (by kernel_rfl) (fun hc => ?_) (fun hc => ?_)
    · have hm := it hc hm
      refine X_skip ?_
      refine thN ?_
      refine Ok_seq ?_
      refine Ok_block ?_
      obtain ⟨e, h, hm⟩ := obind hm
      refine X_reg_seq ty_ok Γok hL [(1, .d (Enc.e e))] (.cons (idx_m (f := Enc.e) h) .nil) (by kernel_rfl) ?_
      obtain ⟨r, h1, hm⟩ := obind hm
      obtain ⟨v1, hv, hk⟩ := obind hm
      refine X_join (n := 23) (fun (v1 : Bool) => (⟨[(0, .dat (Enc.e names)), (5, .dat (Enc.e names)), (6, .dat (.sc (.int .i64 (names.length : Int)))), (7, .dat (.sc (.int .i64 v))), (21, .dat (.sc (.bool v1)))], [], 32⟩ : X)) v1 ?_ ?_
      · have hm := hv
        rcases btf (!r) with hb1 | hb1
        · have hm := it hb1 hm
          obtain rfl := some_inj hm
          refine X_reg ty_ok Γok hL [(1, .c (i_isName_r r) (i_isName_n r) (i_isName_o e r)), (3, .b true)] (.cons (i_isName_c h1) (.cons hb1 .nil)) (by kernel_rfl) ?_
          exact thN (Wk_J hL ⟨[(0, []), (5, []), (6, []), (7, []), (21, [])], [], [], 32⟩ (by kernel_rfl))
        · have hm := ie hb1 hm
          obtain ⟨r1, h2, hm⟩ := obind hm
          obtain rfl := some_inj hm
          refine X_reg ty_ok Γok hL [(1, .c (i_isName_r r) (i_isName_n r) (i_isName_o e r)), (3, .b false), (6, .c (slices_Index_string_r r1) (slices_Index_string_n r1) (slices_Index_string_o (names, e) r1))] (.cons (i_isName_c h1) (.cons hb1 (.cons (slices_Index_string_c h2) .nil))) (by kernel_rfl) ?_
          exact thN (Wk_J hL ⟨[(0, []), (5, []), (6, []), (7, []), (21, [])], [], [], 32⟩ (by kernel_rfl))
      have hm := hk
      refine X_cond v1 (by kernel_rfl) (fun hc1 => ?_) (fun hc1 => ?_)
      · have hm := it hc1 hm
        refine X_reg_seq ty_ok Γok hL [] .nil (by kernel_rfl) ?_
        obtain rfl := some_inj hm
        obtain rfl := hb _ rfl
        have hm := congrArg some (hr _ rfl)
        obtain rfl := some_inj hm
        refine Ok_ret ?_
        repeat (first | refine thR ?_ | refine ibR ?_)
        exact X_fin [] [] (by kernel_rfl) trivial
      · have hm := ie hc1 hm
        refine X_skip ?_
        refine ibN ?_
        refine thN ?_
        refine X_reg ty_ok Γok hL [] .nil (by kernel_rfl) ?_
        obtain rfl := some_inj hm
        exact thN ⟨_, rfl, Wk_J hL ⟨[(0, []), (5, []), (6, []), (7, [])], [], [], 32⟩ (by kernel_rfl)⟩
    · have hm := ie hc hm
      obtain rfl := some_inj hm
      obtain rfl := hb _ rfl
      refine Ok_exit ?_
      refine thE ?_
      refine thE ?_
      refine ibE ?_
      exact thN ⟨_, rfl, Wk_J hL ⟨[], [], [], 32⟩ (by kernel_rfl)⟩
  rintro ⟨⟩ hu s hw
  have hm := hk1 _ hu
  refine thN ?_
  refine Ok_weak hw ?_
  refine X_reg_seq ty_ok Γok hL [] .nil (by kernel_rfl) ?_
  obtain rfl := some_inj hm
  refine Ok_ret ?_
  repeat (first | refine thR ?_ | refine ibR ?_)
  exact X_fin [] [] (by kernel_rfl) trivial
abbrev i_lineNames_r (y : (List ByteArray)) : AV := .own 0
abbrev i_lineNames_n (y : (List ByteArray)) : List Obj' := [.arr 9 1 (List.map Enc.e y)]
abbrev i_lineNames_o (x : Network) (y : (List ByteArray)) : List Obj' := []
noncomputable def i_lineNames_S : FnSpec := modS [.rd] (fun x : Network => [Enc.e x]) (fun x : Network => []) (fun x : Network => i_lineNames x) i_lineNames_r i_lineNames_n i_lineNames_o
theorem i_lineNames_c {n : Network} {y : (List ByteArray)} (h : i_lineNames n = some y) : CallOK i_lineNames_S [Enc.e n] [] (i_lineNames_r y) (i_lineNames_n y) (i_lineNames_o n y) :=
  modS_call (by
    rintro a0 b0 h hO
    have q0 : a0 = b0 := Enc.inj _ _ (congrArg (fun l => List.getD l 0 (.sc undef)) h)
    subst q0; rfl) (x := n) h
theorem i_lineNames_ok : FnOK Try.prog 211 i_lineNames_S := by
  have Γok : ∀ f S, lookF f [] = some S → FnOK Try.prog f S := lookF_ok allF_nil
  have Γlive : Live (fun f => lookF f []) := lookF_live allL_nil
  refine fnOK_mod ty_ok (fun args w => Try.call211 args w) Try.func211 rfl [.tmp 2] (by rw [Try.results211]) 25 Try.ntmps211 16 rfl (fun _ => by first | exact Nat.zero_le _ | (simp)) ?_
  rintro n y cx hm hL
  have hm : i_lineNames n = some y := hm
  have hL : cx.L = 0 := hL
  unfold i_lineNames at hm
  refine X_reg_seq ty_ok Γok hL [] .nil (by kernel_rfl) ?_
  obtain ⟨u, h, hm⟩ := obind hm
  refine X_reg_seq ty_ok Γok hL [(2, .n (n.Lines.length : Int)), (3, .l (List.map Enc.e (List.replicate (n.Lines.length : Int).toNat (ByteArray.empty : ByteArray))))] (.cons (len_m Enc.e n.Lines) (.cons (mk_p (b := 16) (chk_t h) rfl) (.cons (rep_m Enc.e (n.Lines.length : Int).toNat (ByteArray.empty : ByteArray)) .nil))) (by kernel_rfl) ?_
  refine Ok_seq ?_
  refine X_reg_seq ty_ok Γok hL [(2, .n (n.Lines.length : Int))] (.cons (len_m Enc.e n.Lines) .nil) (by kernel_rfl) ?_
  obtain ⟨i1, hv, hk⟩ := obind hm
  refine X_tail (n := 25) (fun (i1 : List ByteArray) => (⟨[(3, .own 16)], [(16, some (.arr 9 1 (List.map Enc.e i1)))], 48⟩ : X)) i1 ?_ ?_
  · have hm := hv
    refine Ok_block ?_
    refine X_loop (n := 25) (step := i_lineNames_L1 n) (fun ((v, i) : Int × (List ByteArray)) => (⟨[(3, .own 16), (11, .dat (Enc.e n.Lines)), (12, .dat (.sc (.int .i64 (n.Lines.length : Int)))), (13, .dat (.sc (.int .i64 v)))], [(16, some (.arr 9 1 (List.map Enc.e i)))], 48⟩ : X)) hm (Wk_J hL ⟨[(3, []), (11, []), (12, []), (13, [])], [(16, 96, [])], [], 48⟩ (by kernel_rfl)) ?_
    rintro ⟨v, i⟩ r0 hm hb
    rw [i_lineNames_L1] at hm
    refine X_reg_seq ty_ok Γok hL [] .nil (by kernel_rfl) ?_
    refine Ok_seq ?_
    refine X_cond (decide (v < (n.Lines.length : Int))) (by kernel_rfl) (fun hc => ?_) (fun hc => ?_)
    · have hm := it hc hm
      refine X_skip ?_
      refine thN ?_
      refine Ok_seq ?_
      refine Ok_block ?_
      obtain ⟨e, h1, hm⟩ := obind hm
      refine X_reg_seq ty_ok Γok hL [(1, .d (Enc.e e))] (.cons (idx_m (f := Enc.e) h1) .nil) (by kernel_rfl) ?_
      obtain ⟨e1, h2, hm⟩ := obind hm
      refine X_reg ty_ok Γok hL [(4, .d (Enc.e e1)), (5, .sd (Enc.e e1) (List.map Enc.e (i.set v.toNat e.Name)))] (.cons (idx_m (f := Enc.e) h2) (.cons (idx_m2 (f := Enc.e) h2) (.cons (set_m Enc.e i v.toNat e.Name) .nil))) (by kernel_rfl) ?_
      refine ibN ?_
      refine thN ?_
      refine X_reg ty_ok Γok hL [] .nil (by kernel_rfl) ?_
      obtain rfl := some_inj hm
      exact thN ⟨_, rfl, Wk_J hL ⟨[(3, []), (11, []), (12, []), (13, [])], [(16, 16, [])], [], 48⟩ (by kernel_rfl)⟩
    · have hm := ie hc hm
      obtain rfl := some_inj hm
      obtain rfl := hb _ rfl
      refine Ok_exit ?_
      refine thE ?_
      refine thE ?_
      refine ibE ?_
      exact thN (Wk_J hL ⟨[(3, [])], [(16, 16, [])], [], 48⟩ (by kernel_rfl))
  intro s hw
  have hm := hk
  refine thN ?_
  refine Ok_weak hw ?_
  refine X_reg_seq ty_ok Γok hL [] .nil (by kernel_rfl) ?_
  obtain rfl := some_inj hm
  refine Ok_ret ?_
  repeat (first | refine thR ?_ | refine ibR ?_)
  exact X_fin [16] [] (by kernel_rfl) trivial
abbrev i_isStop_r (y : Bool) : AV := .dat (Enc.e y)
abbrev i_isStop_n (y : Bool) : List Obj' := []
abbrev i_isStop_o (x : Network × Int) (y : Bool) : List Obj' := []
noncomputable def i_isStop_S : FnSpec := modS [.rd, .rd] (fun x : Network × Int => [Enc.e x.1, Enc.e x.2]) (fun x : Network × Int => []) (fun x : Network × Int => i_isStop x.1 x.2) i_isStop_r i_isStop_n i_isStop_o
theorem i_isStop_c {n : Network} {stop : Int} {y : Bool} (h : i_isStop n stop = some y) : CallOK i_isStop_S [Enc.e n, Enc.e stop] [] (i_isStop_r y) (i_isStop_n y) (i_isStop_o (n, stop) y) :=
  modS_call (by
    rintro ⟨a0, a1⟩ ⟨b0, b1⟩ h hO
    have q0 : a0 = b0 := Enc.inj _ _ (congrArg (fun l => List.getD l 0 (.sc undef)) h)
    have q1 : a1 = b1 := Enc.inj _ _ (congrArg (fun l => List.getD l 1 (.sc undef)) h)
    subst q0; subst q1; rfl) (x := (n, stop)) h
theorem i_isStop_ok : FnOK Try.prog 115 i_isStop_S := by
  have Γok : ∀ f S, lookF f [] = some S → FnOK Try.prog f S := lookF_ok allF_nil
  have Γlive : Live (fun f => lookF f []) := lookF_live allL_nil
  refine fnOK_mod ty_ok (fun args w => Try.call115 args w) Try.func115 rfl [.tmp 4] (by rw [Try.results115]) 14 Try.ntmps115 16 rfl (fun _ => by first | exact Nat.zero_le _ | (simp)) ?_
  rintro ⟨n, stop⟩ y cx hm hL
  have hm : i_isStop n stop = some y := hm
  have hL : cx.L = 0 := hL
  unfold i_isStop at hm
  refine X_reg_seq ty_ok Γok hL [] .nil (by kernel_rfl) ?_
  obtain ⟨v, hv, hk⟩ := obind hm
  refine X_join (n := 14) (fun (v : Bool) => (⟨[(4, .dat (.sc (.bool v)))], [], 32⟩ : X)) v ?_ ?_
  · have hm := hv
    rcases btf (decide (0 ≤ stop)) with hb | hb
    · have hm := it hb hm
      obtain rfl := some_inj hm
      refine X_reg ty_ok Γok hL [(2, .b true), (6, .n (n.Stops.length : Int))] (.cons hb (.cons (len_m Enc.e n.Stops) .nil)) (by kernel_rfl) ?_
      exact thN (Wk_J hL ⟨[(4, [])], [], [], 32⟩ (by kernel_rfl))
    · have hm := ie hb hm
      obtain rfl := some_inj hm
      refine X_reg ty_ok Γok hL [(2, .b false)] (.cons hb .nil) (by kernel_rfl) ?_
      exact thN (Wk_J hL ⟨[(4, [])], [], [], 32⟩ (by kernel_rfl))
  have hm := hk
  obtain rfl := some_inj hm
  refine Ok_ret ?_
  repeat (first | refine thR ?_ | refine ibR ?_)
  exact X_fin [] [] (by kernel_rfl) trivial
abbrev slices_Index_int_r (y : Int) : AV := .dat (Enc.e y)
abbrev slices_Index_int_n (y : Int) : List Obj' := []
abbrev slices_Index_int_o (x : (List Int) × Int) (y : Int) : List Obj' := []
noncomputable def slices_Index_int_S : FnSpec := modS [.rd, .rd] (fun x : (List Int) × Int => [Enc.e x.1, Enc.e x.2]) (fun x : (List Int) × Int => []) (fun x : (List Int) × Int => slices_Index_int x.1 x.2) slices_Index_int_r slices_Index_int_n slices_Index_int_o
theorem slices_Index_int_c {s : List Int} {v : Int} {y : Int} (h : slices_Index_int s v = some y) : CallOK slices_Index_int_S [Enc.e s, Enc.e v] [] (slices_Index_int_r y) (slices_Index_int_n y) (slices_Index_int_o (s, v) y) :=
  modS_call (by
    rintro ⟨a0, a1⟩ ⟨b0, b1⟩ h hO
    have q0 : a0 = b0 := Enc.inj _ _ (congrArg (fun l => List.getD l 0 (.sc undef)) h)
    have q1 : a1 = b1 := Enc.inj _ _ (congrArg (fun l => List.getD l 1 (.sc undef)) h)
    subst q0; subst q1; rfl) (x := (s, v)) h
theorem slices_Index_int_ok : FnOK Try.prog 215 slices_Index_int_S := by
  have Γok : ∀ f S, lookF f [] = some S → FnOK Try.prog f S := lookF_ok allF_nil
  have Γlive : Live (fun f => lookF f []) := lookF_live allL_nil
  refine fnOK_mod ty_ok (fun args w => Try.call215 args w) Try.func215 rfl [.tmp 4] (by rw [Try.results215]) 19 Try.ntmps215 16 rfl (fun _ => by first | exact Nat.zero_le _ | (simp)) ?_
  rintro ⟨s, v⟩ y cx hm hL
  have hm : slices_Index_int s v = some y := hm
  have hL : cx.L = 0 := hL
  unfold slices_Index_int at hm
  refine X_reg_seq ty_ok Γok hL [] .nil (by kernel_rfl) ?_
  refine Ok_seq ?_
  refine X_reg_seq ty_ok Γok hL [(1, .n (s.length : Int))] (.cons (len_m Enc.e s) .nil) (by kernel_rfl) ?_
  obtain ⟨v2, hv, hr, hk⟩ := flb_t hm
  refine X_tailF (n := 19) (fun (_ : Unit) => (⟨[], [], 32⟩ : X)) v2 ?_ ?_
  · have hm := hv
    refine Ok_block ?_
    refine X_loop (n := 19) (step := slices_Index_int_L1 s v) (fun (v1 : Int) => (⟨[(0, .dat (Enc.e s)), (1, .dat (.sc (.int .i64 v))), (7, .dat (.sc (.int .i64 (s.length : Int)))), (8, .dat (.sc (.int .i64 v1)))], [], 32⟩ : X)) hm (Wk_J hL ⟨[(0, []), (1, []), (7, []), (8, [])], [], [], 32⟩ (by kernel_rfl)) ?_
    rintro v1 r0 hm hb
    rw [slices_Index_int_L1] at hm
    refine X_reg_seq ty_ok Γok hL [] .nil (by kernel_rfl) ?_
    refine Ok_seq ?_
    refine X_cond (decide (v1 < (s.length : Int))) (by kernel_rfl) (fun hc => ?_) (fun hc => ?_)
    · have hm := it hc hm
      refine X_skip ?_
      refine thN ?_
      refine Ok_seq ?_
      refine Ok_block ?_
      refine X_reg_seq ty_ok Γok hL [] .nil (by kernel_rfl) ?_
      obtain ⟨e, h, hm⟩ := obind hm
      refine X_reg_seq ty_ok Γok hL [(3, .d (Enc.e e))] (.cons (idx_m (f := Enc.e) h) .nil) (by kernel_rfl) ?_
      refine X_cond (v == e) (by kernel_rfl) (fun hc1 => ?_) (fun hc1 => ?_)
      · have hm := it hc1 hm
        refine X_reg_seq ty_ok Γok hL [] .nil (by kernel_rfl) ?_
        obtain rfl := some_inj hm
        obtain rfl := hb _ rfl
        have hm := congrArg some (hr _ rfl)
        obtain rfl := some_inj hm
        refine Ok_ret ?_
        repeat (first | refine thR ?_ | refine ibR ?_)
        exact X_fin [] [] (by kernel_rfl) trivial
      · have hm := ie hc1 hm
        refine X_skip ?_
        refine ibN ?_
        refine thN ?_
        refine X_reg ty_ok Γok hL [] .nil (by kernel_rfl) ?_
        obtain rfl := some_inj hm
        exact thN ⟨_, rfl, Wk_J hL ⟨[(0, []), (1, []), (7, []), (8, [])], [], [], 32⟩ (by kernel_rfl)⟩
    · have hm := ie hc hm
      obtain rfl := some_inj hm
      obtain rfl := hb _ rfl
      refine Ok_exit ?_
      refine thE ?_
      refine thE ?_
      refine ibE ?_
      exact thN ⟨_, rfl, Wk_J hL ⟨[], [], [], 32⟩ (by kernel_rfl)⟩
  rintro ⟨⟩ hu s1 hw
  have hm := hk _ hu
  refine thN ?_
  refine Ok_weak hw ?_
  refine X_reg_seq ty_ok Γok hL [] .nil (by kernel_rfl) ?_
  obtain rfl := some_inj hm
  refine Ok_ret ?_
  repeat (first | refine thR ?_ | refine ibR ?_)
  exact X_fin [] [] (by kernel_rfl) trivial
abbrev i_isValidLine_r (y : Bool) : AV := .dat (Enc.e y)
abbrev i_isValidLine_n (y : Bool) : List Obj' := []
abbrev i_isValidLine_o (x : Network × Line) (y : Bool) : List Obj' := []
noncomputable def i_isValidLine_S : FnSpec := modS [.rd, .rd] (fun x : Network × Line => [Enc.e x.1, Enc.e x.2]) (fun x : Network × Line => []) (fun x : Network × Line => i_isValidLine x.1 x.2) i_isValidLine_r i_isValidLine_n i_isValidLine_o
theorem i_isValidLine_c {n : Network} {l : Line} {y : Bool} (h : i_isValidLine n l = some y) : CallOK i_isValidLine_S [Enc.e n, Enc.e l] [] (i_isValidLine_r y) (i_isValidLine_n y) (i_isValidLine_o (n, l) y) :=
  modS_call (by
    rintro ⟨a0, a1⟩ ⟨b0, b1⟩ h hO
    have q0 : a0 = b0 := Enc.inj _ _ (congrArg (fun l => List.getD l 0 (.sc undef)) h)
    have q1 : a1 = b1 := Enc.inj _ _ (congrArg (fun l => List.getD l 1 (.sc undef)) h)
    subst q0; subst q1; rfl) (x := (n, l)) h
theorem i_isValidLine_ok : FnOK Try.prog 212 i_isValidLine_S := by
  have Γok : ∀ f S, lookF f [(94, i_within_S), (115, i_isStop_S), (215, slices_Index_int_S)] = some S → FnOK Try.prog f S := lookF_ok (allF_cons i_within_ok (allF_cons i_isStop_ok (allF_cons slices_Index_int_ok allF_nil)))
  have Γlive : Live (fun f => lookF f [(94, i_within_S), (115, i_isStop_S), (215, slices_Index_int_S)]) := lookF_live (allL_cons modS_live (allL_cons modS_live (allL_cons modS_live allL_nil)))
  refine fnOK_mod ty_ok (fun args w => Try.call212 args w) Try.func212 rfl [.tmp 4] (by rw [Try.results212]) 56 Try.ntmps212 16 rfl (fun _ => by first | exact Nat.zero_le _ | (simp)) ?_
  rintro ⟨n, l⟩ y cx hm hL
  have hm : i_isValidLine n l = some y := hm
  have hL : cx.L = 0 := hL
  unfold i_isValidLine at hm
  refine X_reg_seq ty_ok Γok hL [] .nil (by kernel_rfl) ?_
  refine Ok_seq ?_
  obtain ⟨r, h, hm⟩ := obind hm
  obtain ⟨v, hv, hk⟩ := obind hm
  refine X_join (n := 56) (fun (v : Bool) => (⟨[(2, .ref 16 0), (3, .ref 32 0), (23, .dat (.sc (.bool v)))], [(16, some (.box [.dat (Enc.e n.Stops), .dat (Enc.e n.Lines)])), (32, some (.box [.dat (.sc (.string l.Name)), .dat (Enc.e l.Stops), .dat (Enc.e l.Runs)]))], 64⟩ : X)) v ?_ ?_
  · have hm := hv
    rcases btf (!r) with hb | hb
    · have hm := it hb hm
      obtain rfl := some_inj hm
      refine X_reg ty_ok Γok hL [(2, .n (l.Stops.length : Int)), (3, .c (i_within_r r) (i_within_n r) (i_within_o ((l.Stops.length : Int), 2, 6) r)), (5, .b true)] (.cons (len_m Enc.e l.Stops) (.cons (i_within_c h) (.cons hb .nil))) (by kernel_rfl) ?_
      exact thN (Wk_J hL ⟨[(2, []), (3, []), (23, [])], [(16, 16, []), (32, 32, [])], [], 64⟩ (by kernel_rfl))
    · have hm := ie hb hm
      obtain rfl := some_inj hm
      refine X_reg ty_ok Γok hL [(2, .n (l.Stops.length : Int)), (3, .c (i_within_r r) (i_within_n r) (i_within_o ((l.Stops.length : Int), 2, 6) r)), (5, .b false), (8, .n (l.Runs.length : Int)), (11, .n (l.Stops.length : Int))] (.cons (len_m Enc.e l.Stops) (.cons (i_within_c h) (.cons hb (.cons (len_m Enc.e l.Runs) (.cons (len_m Enc.e l.Stops) .nil))))) (by kernel_rfl) ?_
      exact thN (Wk_J hL ⟨[(2, []), (3, []), (23, [])], [(16, 16, []), (32, 32, [])], [], 64⟩ (by kernel_rfl))
  have hm := hk
  refine X_cond v (by kernel_rfl) (fun hc => ?_) (fun hc => ?_)
  · have hm := it hc hm
    refine X_reg_seq ty_ok Γok hL [] .nil (by kernel_rfl) ?_
    obtain rfl := some_inj hm
    refine Ok_ret ?_
    repeat (first | refine thR ?_ | refine ibR ?_)
    exact X_fin [] [] (by kernel_rfl) trivial
  · have hm := ie hc hm
    refine X_skip ?_
    refine thN ?_
    refine Ok_seq ?_
    refine X_reg_seq ty_ok Γok hL [(2, .n (l.Stops.length : Int))] (.cons (len_m Enc.e l.Stops) .nil) (by kernel_rfl) ?_
    obtain ⟨v5, hv2, hr, hk2⟩ := flb_t hm
    refine X_tailF (n := 56) (fun (_ : Unit) => (⟨[(3, .ref 16 0)], [(16, some (.box [.dat (.sc (.string l.Name)), .dat (Enc.e l.Stops), .dat (Enc.e l.Runs)]))], 48⟩ : X)) v5 ?_ ?_
    · have hm := hv2
      refine Ok_block ?_
      refine X_loop (n := 56) (step := i_isValidLine_L1 n l) (fun (v1 : Int) => (⟨[(2, .ref 16 0), (3, .ref 32 0), (25, .dat (Enc.e l.Stops)), (26, .dat (.sc (.int .i64 (l.Stops.length : Int)))), (27, .dat (.sc (.int .i64 v1)))], [(16, some (.box [.dat (Enc.e n.Stops), .dat (Enc.e n.Lines)])), (32, some (.box [.dat (.sc (.string l.Name)), .dat (Enc.e l.Stops), .dat (Enc.e l.Runs)]))], 64⟩ : X)) hm (Wk_J hL ⟨[(2, []), (3, []), (25, []), (26, []), (27, [])], [(16, 16, []), (32, 32, [])], [], 64⟩ (by kernel_rfl)) ?_
      rintro v1 r0 hm hb1
      rw [i_isValidLine_L1] at hm
      refine X_reg_seq ty_ok Γok hL [] .nil (by kernel_rfl) ?_
      refine Ok_seq ?_
      refine X_cond (decide (v1 < (l.Stops.length : Int))) (by kernel_rfl) (fun hc1 => ?_) (fun hc1 => ?_)
      · have hm := it hc1 hm
        refine X_skip ?_
        refine thN ?_
        refine Ok_seq ?_
        refine Ok_block ?_
        obtain ⟨e, h1, hm⟩ := obind hm
        refine X_reg_seq ty_ok Γok hL [(1, .d (Enc.e e))] (.cons (idx_m (f := Enc.e) h1) .nil) (by kernel_rfl) ?_
        obtain ⟨r1, h2, hm⟩ := obind hm
        obtain ⟨v2, hv1, hk1⟩ := obind hm
        refine X_join (n := 56) (fun (v2 : Bool) => (⟨[(2, .ref 16 0), (3, .ref 32 0), (25, .dat (Enc.e l.Stops)), (26, .dat (.sc (.int .i64 (l.Stops.length : Int)))), (27, .dat (.sc (.int .i64 v1))), (43, .dat (.sc (.bool v2)))], [(16, some (.box [.dat (Enc.e n.Stops), .dat (Enc.e n.Lines)])), (32, some (.box [.dat (.sc (.string l.Name)), .dat (Enc.e l.Stops), .dat (Enc.e l.Runs)]))], 64⟩ : X)) v2 ?_ ?_
        · have hm := hv1
          rcases btf (!r1) with hb2 | hb2
          · have hm := it hb2 hm
            obtain rfl := some_inj hm
            refine X_reg ty_ok Γok hL [(2, .c (i_isStop_r r1) (i_isStop_n r1) (i_isStop_o (n, e) r1)), (4, .b true)] (.cons (i_isStop_c h2) (.cons hb2 .nil)) (by kernel_rfl) ?_
            exact thN (Wk_J hL ⟨[(2, []), (3, []), (25, []), (26, []), (27, []), (43, [])], [(16, 16, []), (32, 32, [])], [], 64⟩ (by kernel_rfl))
          · have hm := ie hb2 hm
            obtain ⟨r2, h3, hm⟩ := obind hm
            obtain rfl := some_inj hm
            refine X_reg ty_ok Γok hL [(2, .c (i_isStop_r r1) (i_isStop_n r1) (i_isStop_o (n, e) r1)), (4, .b false), (8, .c (slices_Index_int_r r2) (slices_Index_int_n r2) (slices_Index_int_o (l.Stops, e) r2))] (.cons (i_isStop_c h2) (.cons hb2 (.cons (slices_Index_int_c h3) .nil))) (by kernel_rfl) ?_
            exact thN (Wk_J hL ⟨[(2, []), (3, []), (25, []), (26, []), (27, []), (43, [])], [(16, 16, []), (32, 32, [])], [], 64⟩ (by kernel_rfl))
        have hm := hk1
        refine X_cond v2 (by kernel_rfl) (fun hc2 => ?_) (fun hc2 => ?_)
        · have hm := it hc2 hm
          refine X_reg_seq ty_ok Γok hL [] .nil (by kernel_rfl) ?_
          obtain rfl := some_inj hm
          obtain rfl := hb1 _ rfl
          have hm := congrArg some (hr _ rfl)
          obtain rfl := some_inj hm
          refine Ok_ret ?_
          repeat (first | refine thR ?_ | refine ibR ?_)
          exact X_fin [] [] (by kernel_rfl) trivial
        · have hm := ie hc2 hm
          refine X_skip ?_
          refine ibN ?_
          refine thN ?_
          refine X_reg ty_ok Γok hL [] .nil (by kernel_rfl) ?_
          obtain rfl := some_inj hm
          exact thN ⟨_, rfl, Wk_J hL ⟨[(2, []), (3, []), (25, []), (26, []), (27, [])], [(16, 16, []), (32, 32, [])], [], 64⟩ (by kernel_rfl)⟩
      · have hm := ie hc1 hm
        obtain rfl := some_inj hm
        obtain rfl := hb1 _ rfl
        refine Ok_exit ?_
        refine thE ?_
        refine thE ?_
        refine ibE ?_
        exact thN ⟨_, rfl, Wk_J hL ⟨[(3, [])], [(16, 32, [])], [], 48⟩ (by kernel_rfl)⟩
    rintro ⟨⟩ hu1 s hw
    have hm := hk2 _ hu1
    refine thN ?_
    refine Ok_weak hw ?_
    refine Ok_seq ?_
    refine X_reg_seq ty_ok Γok hL [(2, .n (l.Runs.length : Int))] (.cons (len_m Enc.e l.Runs) .nil) (by kernel_rfl) ?_
    obtain ⟨v4, hv3, hr1, hk3⟩ := flb_t hm
    refine X_tailF (n := 56) (fun (_ : Unit) => (⟨[], [], 32⟩ : X)) v4 ?_ ?_
    · have hm := hv3
      refine Ok_block ?_
      refine X_loop (n := 56) (step := i_isValidLine_L2 l) (fun (v3 : Int) => (⟨[(46, .dat (Enc.e l.Runs)), (47, .dat (.sc (.int .i64 (l.Runs.length : Int)))), (48, .dat (.sc (.int .i64 v3)))], [], 32⟩ : X)) hm (Wk_J hL ⟨[(46, []), (47, []), (48, [])], [], [], 32⟩ (by kernel_rfl)) ?_
      rintro v3 r0 hm hb3
      rw [i_isValidLine_L2] at hm
      refine X_reg_seq ty_ok Γok hL [] .nil (by kernel_rfl) ?_
      refine Ok_seq ?_
      refine X_cond (decide (v3 < (l.Runs.length : Int))) (by kernel_rfl) (fun hc3 => ?_) (fun hc3 => ?_)
      · have hm := it hc3 hm
        refine X_skip ?_
        refine thN ?_
        refine Ok_seq ?_
        refine Ok_block ?_
        obtain ⟨e2, h4, hm⟩ := obind hm
        refine X_reg_seq ty_ok Γok hL [(0, .d (Enc.e e2))] (.cons (idx_m (f := Enc.e) h4) .nil) (by kernel_rfl) ?_
        obtain ⟨r4, h5, hm⟩ := obind hm
        refine X_reg_seq ty_ok Γok hL [(1, .c (i_within_r r4) (i_within_n r4) (i_within_o (e2, 1, 60) r4))] (.cons (i_within_c h5) .nil) (by kernel_rfl) ?_
        refine X_cond (!r4) (by kernel_rfl) (fun hc4 => ?_) (fun hc4 => ?_)
        · have hm := it hc4 hm
          refine X_reg_seq ty_ok Γok hL [] .nil (by kernel_rfl) ?_
          obtain rfl := some_inj hm
          obtain rfl := hb3 _ rfl
          have hm := congrArg some (hr1 _ rfl)
          obtain rfl := some_inj hm
          refine Ok_ret ?_
          repeat (first | refine thR ?_ | refine ibR ?_)
          exact X_fin [] [] (by kernel_rfl) trivial
        · have hm := ie hc4 hm
          refine X_skip ?_
          refine ibN ?_
          refine thN ?_
          refine X_reg ty_ok Γok hL [] .nil (by kernel_rfl) ?_
          obtain rfl := some_inj hm
          exact thN ⟨_, rfl, Wk_J hL ⟨[(46, []), (47, []), (48, [])], [], [], 32⟩ (by kernel_rfl)⟩
      · have hm := ie hc3 hm
        obtain rfl := some_inj hm
        obtain rfl := hb3 _ rfl
        refine Ok_exit ?_
        refine thE ?_
        refine thE ?_
        refine ibE ?_
        exact thN ⟨_, rfl, Wk_J hL ⟨[], [], [], 32⟩ (by kernel_rfl)⟩
    rintro ⟨⟩ hu s1 hw1
    have hm := hk3 _ hu
    refine thN ?_
    refine Ok_weak hw1 ?_
    refine X_reg_seq ty_ok Γok hL [] .nil (by kernel_rfl) ?_
    obtain rfl := some_inj hm
    refine Ok_ret ?_
    repeat (first | refine thR ?_ | refine ibR ?_)
    exact X_fin [] [] (by kernel_rfl) trivial
abbrev i_IsValidNetwork_r (y : Bool) : AV := .dat (Enc.e y)
abbrev i_IsValidNetwork_n (y : Bool) : List Obj' := []
abbrev i_IsValidNetwork_o (x : Network) (y : Bool) : List Obj' := []
noncomputable def i_IsValidNetwork_S : FnSpec := modS [.rd] (fun x : Network => [Enc.e x]) (fun x : Network => []) (fun x : Network => i_IsValidNetwork x) i_IsValidNetwork_r i_IsValidNetwork_n i_IsValidNetwork_o
theorem i_IsValidNetwork_c {n : Network} {y : Bool} (h : i_IsValidNetwork n = some y) : CallOK i_IsValidNetwork_S [Enc.e n] [] (i_IsValidNetwork_r y) (i_IsValidNetwork_n y) (i_IsValidNetwork_o n y) :=
  modS_call (by
    rintro a0 b0 h hO
    have q0 : a0 = b0 := Enc.inj _ _ (congrArg (fun l => List.getD l 0 (.sc undef)) h)
    subst q0; rfl) (x := n) h
theorem i_IsValidNetwork_ok : FnOK Try.prog 122 i_IsValidNetwork_S := by
  have Γok : ∀ f S, lookF f [(94, i_within_S), (210, i_areNames_S), (211, i_lineNames_S), (212, i_isValidLine_S)] = some S → FnOK Try.prog f S := lookF_ok (allF_cons i_within_ok (allF_cons i_areNames_ok (allF_cons i_lineNames_ok (allF_cons i_isValidLine_ok allF_nil))))
  have Γlive : Live (fun f => lookF f [(94, i_within_S), (210, i_areNames_S), (211, i_lineNames_S), (212, i_isValidLine_S)]) := lookF_live (allL_cons modS_live (allL_cons modS_live (allL_cons modS_live (allL_cons modS_live allL_nil))))
  refine fnOK_mod ty_ok (fun args w => Try.call122 args w) Try.func122 rfl [.tmp 2] (by rw [Try.results122]) 41 Try.ntmps122 16 rfl (fun _ => by first | exact Nat.zero_le _ | (simp)) ?_
  rintro n y cx hm hL
  have hm : i_IsValidNetwork n = some y := hm
  have hL : cx.L = 0 := hL
  unfold i_IsValidNetwork at hm
  refine X_reg_seq ty_ok Γok hL [] .nil (by kernel_rfl) ?_
  refine Ok_seq ?_
  obtain ⟨r, h, hm⟩ := obind hm
  obtain ⟨v, hv, hk⟩ := obind hm
  refine X_join (n := 41) (fun (v : Bool) => (⟨[(1, .ref 16 0), (28, .dat (.sc (.bool v)))], [(16, some (.box [.dat (Enc.e n.Stops), .dat (Enc.e n.Lines)]))], 48⟩ : X)) v ?_ ?_
  · have hm := hv
    rcases btf (!r) with hb | hb
    · have hm := it hb hm
      obtain rfl := some_inj hm
      refine X_reg ty_ok Γok hL [(2, .n (n.Stops.length : Int)), (3, .c (i_within_r r) (i_within_n r) (i_within_o ((n.Stops.length : Int), 2, 8) r)), (5, .b true)] (.cons (len_m Enc.e n.Stops) (.cons (i_within_c h) (.cons hb .nil))) (by kernel_rfl) ?_
      exact thN (Wk_J hL ⟨[(1, []), (28, [])], [(16, 16, [])], [], 48⟩ (by kernel_rfl))
    · have hm := ie hb hm
      obtain ⟨r1, h1, hm⟩ := obind hm
      rcases btf (!r1) with hb1 | hb1
      · have hm := it hb1 hm
        obtain rfl := some_inj hm
        refine X_reg ty_ok Γok hL [(2, .n (n.Stops.length : Int)), (3, .c (i_within_r r) (i_within_n r) (i_within_o ((n.Stops.length : Int), 2, 8) r)), (5, .b false), (8, .n (n.Lines.length : Int)), (9, .c (i_within_r r1) (i_within_n r1) (i_within_o ((n.Lines.length : Int), 1, 5) r1)), (12, .b true)] (.cons (len_m Enc.e n.Stops) (.cons (i_within_c h) (.cons hb (.cons (len_m Enc.e n.Lines) (.cons (i_within_c h1) (.cons hb1 .nil)))))) (by kernel_rfl) ?_
        exact thN (Wk_J hL ⟨[(1, []), (28, [])], [(16, 16, [])], [], 48⟩ (by kernel_rfl))
      · have hm := ie hb1 hm
        obtain ⟨r2, h2, hm⟩ := obind hm
        rcases btf (!r2) with hb2 | hb2
        · have hm := it hb2 hm
          obtain rfl := some_inj hm
          refine X_reg ty_ok Γok hL [(2, .n (n.Stops.length : Int)), (3, .c (i_within_r r) (i_within_n r) (i_within_o ((n.Stops.length : Int), 2, 8) r)), (5, .b false), (8, .n (n.Lines.length : Int)), (9, .c (i_within_r r1) (i_within_n r1) (i_within_o ((n.Lines.length : Int), 1, 5) r1)), (12, .b false), (15, .c (i_areNames_r r2) (i_areNames_n r2) (i_areNames_o n.Stops r2)), (18, .b true)] (.cons (len_m Enc.e n.Stops) (.cons (i_within_c h) (.cons hb (.cons (len_m Enc.e n.Lines) (.cons (i_within_c h1) (.cons hb1 (.cons (i_areNames_c h2) (.cons hb2 .nil)))))))) (by kernel_rfl) ?_
          exact thN (Wk_J hL ⟨[(1, []), (28, [])], [(16, 16, [])], [], 48⟩ (by kernel_rfl))
        · have hm := ie hb2 hm
          obtain ⟨r3, h3, hm⟩ := obind hm
          obtain ⟨r4, h4, hm⟩ := obind hm
          obtain rfl := some_inj hm
          refine X_reg ty_ok Γok hL [(2, .n (n.Stops.length : Int)), (3, .c (i_within_r r) (i_within_n r) (i_within_o ((n.Stops.length : Int), 2, 8) r)), (5, .b false), (8, .n (n.Lines.length : Int)), (9, .c (i_within_r r1) (i_within_n r1) (i_within_o ((n.Lines.length : Int), 1, 5) r1)), (12, .b false), (15, .c (i_areNames_r r2) (i_areNames_n r2) (i_areNames_o n.Stops r2)), (18, .b false), (20, .c (i_lineNames_r r3) (i_lineNames_n r3) (i_lineNames_o n r3)), (21, .c (i_areNames_r r4) (i_areNames_n r4) (i_areNames_o r3 r4))] (.cons (len_m Enc.e n.Stops) (.cons (i_within_c h) (.cons hb (.cons (len_m Enc.e n.Lines) (.cons (i_within_c h1) (.cons hb1 (.cons (i_areNames_c h2) (.cons hb2 (.cons (i_lineNames_c h3) (.cons (i_areNames_c h4) .nil)))))))))) (by kernel_rfl) ?_
          exact thN (Wk_J hL ⟨[(1, []), (28, [])], [(16, 16, [])], [], 48⟩ (by kernel_rfl))
  have hm := hk
  refine X_cond v (by kernel_rfl) (fun hc => ?_) (fun hc => ?_)
  · have hm := it hc hm
    refine X_reg_seq ty_ok Γok hL [] .nil (by kernel_rfl) ?_
    obtain rfl := some_inj hm
    refine Ok_ret ?_
    repeat (first | refine thR ?_ | refine ibR ?_)
    exact X_fin [] [] (by kernel_rfl) trivial
  · have hm := ie hc hm
    refine X_skip ?_
    refine thN ?_
    refine Ok_seq ?_
    refine X_reg_seq ty_ok Γok hL [(2, .n (n.Lines.length : Int))] (.cons (len_m Enc.e n.Lines) .nil) (by kernel_rfl) ?_
    obtain ⟨v2, hv1, hr, hk1⟩ := flb_t hm
    refine X_tailF (n := 41) (fun (_ : Unit) => (⟨[], [], 32⟩ : X)) v2 ?_ ?_
    · have hm := hv1
      refine Ok_block ?_
      refine X_loop (n := 41) (step := i_IsValidNetwork_L1 n) (fun (v1 : Int) => (⟨[(1, .ref 16 0), (30, .dat (Enc.e n.Lines)), (31, .dat (.sc (.int .i64 (n.Lines.length : Int)))), (32, .dat (.sc (.int .i64 v1)))], [(16, some (.box [.dat (Enc.e n.Stops), .dat (Enc.e n.Lines)]))], 48⟩ : X)) hm (Wk_J hL ⟨[(1, []), (30, []), (31, []), (32, [])], [(16, 16, [])], [], 48⟩ (by kernel_rfl)) ?_
      rintro v1 r0 hm hb3
      rw [i_IsValidNetwork_L1] at hm
      refine X_reg_seq ty_ok Γok hL [] .nil (by kernel_rfl) ?_
      refine Ok_seq ?_
      refine X_cond (decide (v1 < (n.Lines.length : Int))) (by kernel_rfl) (fun hc1 => ?_) (fun hc1 => ?_)
      · have hm := it hc1 hm
        refine X_skip ?_
        refine thN ?_
        refine Ok_seq ?_
        refine Ok_block ?_
        obtain ⟨e, h5, hm⟩ := obind hm
        refine X_reg_seq ty_ok Γok hL [(0, .d (Enc.e e))] (.cons (idx_m (f := Enc.e) h5) .nil) (by kernel_rfl) ?_
        obtain ⟨r5, h6, hm⟩ := obind hm
        refine X_reg_seq ty_ok Γok hL [(2, .c (i_isValidLine_r r5) (i_isValidLine_n r5) (i_isValidLine_o (n, e) r5))] (.cons (i_isValidLine_c h6) .nil) (by kernel_rfl) ?_
        refine X_cond (!r5) (by kernel_rfl) (fun hc2 => ?_) (fun hc2 => ?_)
        · have hm := it hc2 hm
          refine X_reg_seq ty_ok Γok hL [] .nil (by kernel_rfl) ?_
          obtain rfl := some_inj hm
          obtain rfl := hb3 _ rfl
          have hm := congrArg some (hr _ rfl)
          obtain rfl := some_inj hm
          refine Ok_ret ?_
          repeat (first | refine thR ?_ | refine ibR ?_)
          exact X_fin [] [] (by kernel_rfl) trivial
        · have hm := ie hc2 hm
          refine X_skip ?_
          refine ibN ?_
          refine thN ?_
          refine X_reg ty_ok Γok hL [] .nil (by kernel_rfl) ?_
          obtain rfl := some_inj hm
          exact thN ⟨_, rfl, Wk_J hL ⟨[(1, []), (30, []), (31, []), (32, [])], [(16, 16, [])], [], 48⟩ (by kernel_rfl)⟩
      · have hm := ie hc1 hm
        obtain rfl := some_inj hm
        obtain rfl := hb3 _ rfl
        refine Ok_exit ?_
        refine thE ?_
        refine thE ?_
        refine ibE ?_
        exact thN ⟨_, rfl, Wk_J hL ⟨[], [], [], 32⟩ (by kernel_rfl)⟩
    rintro ⟨⟩ hu s hw
    have hm := hk1 _ hu
    refine thN ?_
    refine Ok_weak hw ?_
    refine X_reg_seq ty_ok Γok hL [] .nil (by kernel_rfl) ?_
    obtain rfl := some_inj hm
    refine Ok_ret ?_
    repeat (first | refine thR ?_ | refine ibR ?_)
    exact X_fin [] [] (by kernel_rfl) trivial
abbrev i_isLine_r (y : Bool) : AV := .dat (Enc.e y)
abbrev i_isLine_n (y : Bool) : List Obj' := []
abbrev i_isLine_o (x : Network × Int) (y : Bool) : List Obj' := []
noncomputable def i_isLine_S : FnSpec := modS [.rd, .rd] (fun x : Network × Int => [Enc.e x.1, Enc.e x.2]) (fun x : Network × Int => []) (fun x : Network × Int => i_isLine x.1 x.2) i_isLine_r i_isLine_n i_isLine_o
theorem i_isLine_c {n : Network} {line : Int} {y : Bool} (h : i_isLine n line = some y) : CallOK i_isLine_S [Enc.e n, Enc.e line] [] (i_isLine_r y) (i_isLine_n y) (i_isLine_o (n, line) y) :=
  modS_call (by
    rintro ⟨a0, a1⟩ ⟨b0, b1⟩ h hO
    have q0 : a0 = b0 := Enc.inj _ _ (congrArg (fun l => List.getD l 0 (.sc undef)) h)
    have q1 : a1 = b1 := Enc.inj _ _ (congrArg (fun l => List.getD l 1 (.sc undef)) h)
    subst q0; subst q1; rfl) (x := (n, line)) h
theorem i_isLine_ok : FnOK Try.prog 272 i_isLine_S := by
  have Γok : ∀ f S, lookF f [] = some S → FnOK Try.prog f S := lookF_ok allF_nil
  have Γlive : Live (fun f => lookF f []) := lookF_live allL_nil
  refine fnOK_mod ty_ok (fun args w => Try.call272 args w) Try.func272 rfl [.tmp 4] (by rw [Try.results272]) 14 Try.ntmps272 16 rfl (fun _ => by first | exact Nat.zero_le _ | (simp)) ?_
  rintro ⟨n, line⟩ y cx hm hL
  have hm : i_isLine n line = some y := hm
  have hL : cx.L = 0 := hL
  unfold i_isLine at hm
  refine X_reg_seq ty_ok Γok hL [] .nil (by kernel_rfl) ?_
  obtain ⟨v, hv, hk⟩ := obind hm
  refine X_join (n := 14) (fun (v : Bool) => (⟨[(4, .dat (.sc (.bool v)))], [], 32⟩ : X)) v ?_ ?_
  · have hm := hv
    rcases btf (decide (0 ≤ line)) with hb | hb
    · have hm := it hb hm
      obtain rfl := some_inj hm
      refine X_reg ty_ok Γok hL [(2, .b true), (6, .n (n.Lines.length : Int))] (.cons hb (.cons (len_m Enc.e n.Lines) .nil)) (by kernel_rfl) ?_
      exact thN (Wk_J hL ⟨[(4, [])], [], [], 32⟩ (by kernel_rfl))
    · have hm := ie hb hm
      obtain rfl := some_inj hm
      refine X_reg ty_ok Γok hL [(2, .b false)] (.cons hb .nil) (by kernel_rfl) ?_
      exact thN (Wk_J hL ⟨[(4, [])], [], [], 32⟩ (by kernel_rfl))
  have hm := hk
  obtain rfl := some_inj hm
  refine Ok_ret ?_
  repeat (first | refine thR ?_ | refine ibR ?_)
  exact X_fin [] [] (by kernel_rfl) trivial
abbrev i_IsValidTime_r (y : Bool) : AV := .dat (Enc.e y)
abbrev i_IsValidTime_n (y : Bool) : List Obj' := []
abbrev i_IsValidTime_o (x : Int) (y : Bool) : List Obj' := []
noncomputable def i_IsValidTime_S : FnSpec := modS [.rd] (fun x : Int => [Enc.e x]) (fun x : Int => []) (fun x : Int => i_IsValidTime x) i_IsValidTime_r i_IsValidTime_n i_IsValidTime_o
theorem i_IsValidTime_c {t : Int} {y : Bool} (h : i_IsValidTime t = some y) : CallOK i_IsValidTime_S [Enc.e t] [] (i_IsValidTime_r y) (i_IsValidTime_n y) (i_IsValidTime_o t y) :=
  modS_call (by
    rintro a0 b0 h hO
    have q0 : a0 = b0 := Enc.inj _ _ (congrArg (fun l => List.getD l 0 (.sc undef)) h)
    subst q0; rfl) (x := t) h
theorem i_IsValidTime_ok : FnOK Try.prog 201 i_IsValidTime_S := by
  have Γok : ∀ f S, lookF f [(94, i_within_S)] = some S → FnOK Try.prog f S := lookF_ok (allF_cons i_within_ok allF_nil)
  have Γlive : Live (fun f => lookF f [(94, i_within_S)]) := lookF_live (allL_cons modS_live allL_nil)
  refine fnOK_mod ty_ok (fun args w => Try.call201 args w) Try.func201 rfl [.tmp 2] (by rw [Try.results201]) 5 Try.ntmps201 16 rfl (fun _ => by first | exact Nat.zero_le _ | (simp)) ?_
  rintro t y cx hm hL
  have hm : i_IsValidTime t = some y := hm
  have hL : cx.L = 0 := hL
  unfold i_IsValidTime at hm
  refine X_reg_seq ty_ok Γok hL [] .nil (by kernel_rfl) ?_
  obtain ⟨r, h, hm⟩ := obind hm
  refine X_reg_seq ty_ok Γok hL [(1, .c (i_within_r r) (i_within_n r) (i_within_o (t, 0, 1799) r))] (.cons (i_within_c h) .nil) (by kernel_rfl) ?_
  obtain rfl := some_inj hm
  refine Ok_ret ?_
  repeat (first | refine thR ?_ | refine ibR ?_)
  exact X_fin [] [] (by kernel_rfl) trivial
abbrev i_total_r (y : Int) : AV := .dat (Enc.e y)
abbrev i_total_n (y : Int) : List Obj' := []
abbrev i_total_o (x : (List Int)) (y : Int) : List Obj' := []
noncomputable def i_total_S : FnSpec := modS [.rd] (fun x : (List Int) => [Enc.e x]) (fun x : (List Int) => []) (fun x : (List Int) => i_total x) i_total_r i_total_n i_total_o
theorem i_total_c {list : List Int} {y : Int} (h : i_total list = some y) : CallOK i_total_S [Enc.e list] [] (i_total_r y) (i_total_n y) (i_total_o list y) :=
  modS_call (by
    rintro a0 b0 h hO
    have q0 : a0 = b0 := Enc.inj _ _ (congrArg (fun l => List.getD l 0 (.sc undef)) h)
    subst q0; rfl) (x := list) h
theorem i_total_ok : FnOK Try.prog 284 i_total_S := by
  have Γok : ∀ f S, lookF f [] = some S → FnOK Try.prog f S := lookF_ok allF_nil
  have Γlive : Live (fun f => lookF f []) := lookF_live allL_nil
  refine fnOK_mod ty_ok (fun args w => Try.call284 args w) Try.func284 rfl [.tmp 2] (by rw [Try.results284]) 17 Try.ntmps284 16 rfl (fun _ => by first | exact Nat.zero_le _ | (simp)) ?_
  rintro list y cx hm hL
  have hm : i_total list = some y := hm
  have hL : cx.L = 0 := hL
  unfold i_total at hm
  refine X_reg_seq ty_ok Γok hL [] .nil (by kernel_rfl) ?_
  refine X_reg_seq ty_ok Γok hL [] .nil (by kernel_rfl) ?_
  refine Ok_seq ?_
  refine X_reg_seq ty_ok Γok hL [(1, .n (list.length : Int))] (.cons (len_m Enc.e list) .nil) (by kernel_rfl) ?_
  obtain ⟨v2, hv, hk⟩ := obind hm
  refine X_tail (n := 17) (fun (v2 : Int) => (⟨[(3, .dat (.sc (.int .i64 v2)))], [], 32⟩ : X)) v2 ?_ ?_
  · have hm := hv
    refine Ok_block ?_
    refine X_loop (n := 17) (step := i_total_L1 list) (fun ((v, v1) : Int × Int) => (⟨[(3, .dat (.sc (.int .i64 v))), (6, .dat (Enc.e list)), (7, .dat (.sc (.int .i64 (list.length : Int)))), (8, .dat (.sc (.int .i64 v1)))], [], 32⟩ : X)) hm (Wk_J hL ⟨[(3, []), (6, []), (7, []), (8, [])], [], [], 32⟩ (by kernel_rfl)) ?_
    rintro ⟨v, v1⟩ r0 hm hb
    rw [i_total_L1] at hm
    refine X_reg_seq ty_ok Γok hL [] .nil (by kernel_rfl) ?_
    refine Ok_seq ?_
    refine X_cond (decide (v1 < (list.length : Int))) (by kernel_rfl) (fun hc => ?_) (fun hc => ?_)
    · have hm := it hc hm
      refine X_skip ?_
      refine thN ?_
      refine Ok_seq ?_
      refine Ok_block ?_
      obtain ⟨e, h, hm⟩ := obind hm
      refine X_reg_seq ty_ok Γok hL [(0, .d (Enc.e e))] (.cons (idx_m (f := Enc.e) h) .nil) (by kernel_rfl) ?_
      refine X_reg ty_ok Γok hL [] .nil (by kernel_rfl) ?_
      refine ibN ?_
      refine thN ?_
      refine X_reg ty_ok Γok hL [] .nil (by kernel_rfl) ?_
      obtain rfl := some_inj hm
      exact thN ⟨_, rfl, Wk_J hL ⟨[(3, []), (6, []), (7, []), (8, [])], [], [], 32⟩ (by kernel_rfl)⟩
    · have hm := ie hc hm
      obtain rfl := some_inj hm
      obtain rfl := hb _ rfl
      refine Ok_exit ?_
      refine thE ?_
      refine thE ?_
      refine ibE ?_
      exact thN (Wk_J hL ⟨[(3, [])], [], [], 32⟩ (by kernel_rfl))
  intro s hw
  have hm := hk
  refine thN ?_
  refine Ok_weak hw ?_
  refine X_reg_seq ty_ok Γok hL [] .nil (by kernel_rfl) ?_
  obtain rfl := some_inj hm
  refine Ok_ret ?_
  repeat (first | refine thR ?_ | refine ibR ?_)
  exact X_fin [] [] (by kernel_rfl) trivial
abbrev i_endOf_r (y : Int) : AV := .dat (Enc.e y)
abbrev i_endOf_n (y : Int) : List Obj' := []
abbrev i_endOf_o (x : Timetable × Trip) (y : Int) : List Obj' := []
noncomputable def i_endOf_S : FnSpec := modS [.rd, .rd] (fun x : Timetable × Trip => [Enc.e x.1, Enc.e x.2]) (fun x : Timetable × Trip => []) (fun x : Timetable × Trip => i_endOf x.1 x.2) i_endOf_r i_endOf_n i_endOf_o
theorem i_endOf_c {t : Timetable} {x : Trip} {y : Int} (h : i_endOf t x = some y) : CallOK i_endOf_S [Enc.e t, Enc.e x] [] (i_endOf_r y) (i_endOf_n y) (i_endOf_o (t, x) y) :=
  modS_call (by
    rintro ⟨a0, a1⟩ ⟨b0, b1⟩ h hO
    have q0 : a0 = b0 := Enc.inj _ _ (congrArg (fun l => List.getD l 0 (.sc undef)) h)
    have q1 : a1 = b1 := Enc.inj _ _ (congrArg (fun l => List.getD l 1 (.sc undef)) h)
    subst q0; subst q1; rfl) (x := (t, x)) h
theorem i_endOf_ok : FnOK Try.prog 273 i_endOf_S := by
  have Γok : ∀ f S, lookF f [(284, i_total_S)] = some S → FnOK Try.prog f S := lookF_ok (allF_cons i_total_ok allF_nil)
  have Γlive : Live (fun f => lookF f [(284, i_total_S)]) := lookF_live (allL_cons modS_live allL_nil)
  refine fnOK_mod ty_ok (fun args w => Try.call273 args w) Try.func273 rfl [.tmp 4] (by rw [Try.results273]) 17 Try.ntmps273 16 rfl (fun _ => by first | exact Nat.zero_le _ | (simp)) ?_
  rintro ⟨t, x⟩ y cx hm hL
  have hm : i_endOf t x = some y := hm
  have hL : cx.L = 0 := hL
  unfold i_endOf at hm
  refine X_reg_seq ty_ok Γok hL [] .nil (by kernel_rfl) ?_
  obtain ⟨e1, h2, hm⟩ := obind hm
  obtain ⟨r1, h3, hm⟩ := obind hm
  refine X_draw_seq mixed ty_ok Γok Γlive [] (by kernel_rfl) [(7, .d (Enc.e e1)), (10, .c (i_total_r r1) (i_total_n r1) (i_total_o e1.Runs r1))] (.cons (idx_m (f := Enc.e) h2) (.cons (i_total_c h3) .nil)) (by kernel_rfl) ?_
  obtain rfl := some_inj hm
  refine Ok_ret ?_
  repeat (first | refine thR ?_ | refine ibR ?_)
  exact X_fin [] [] (by kernel_rfl) trivial
abbrev i_areTrips_r (y : Bool) : AV := .dat (Enc.e y)
abbrev i_areTrips_n (y : Bool) : List Obj' := []
abbrev i_areTrips_o (x : Timetable) (y : Bool) : List Obj' := []
noncomputable def i_areTrips_S : FnSpec := modS [.rd] (fun x : Timetable => [Enc.e x]) (fun x : Timetable => []) (fun x : Timetable => i_areTrips x) i_areTrips_r i_areTrips_n i_areTrips_o
theorem i_areTrips_c {t : Timetable} {y : Bool} (h : i_areTrips t = some y) : CallOK i_areTrips_S [Enc.e t] [] (i_areTrips_r y) (i_areTrips_n y) (i_areTrips_o t y) :=
  modS_call (by
    rintro a0 b0 h hO
    have q0 : a0 = b0 := Enc.inj _ _ (congrArg (fun l => List.getD l 0 (.sc undef)) h)
    subst q0; rfl) (x := t) h
theorem i_areTrips_ok : FnOK Try.prog 247 i_areTrips_S := by
  have Γok : ∀ f S, lookF f [(272, i_isLine_S), (201, i_IsValidTime_S), (273, i_endOf_S)] = some S → FnOK Try.prog f S := lookF_ok (allF_cons i_isLine_ok (allF_cons i_IsValidTime_ok (allF_cons i_endOf_ok allF_nil)))
  have Γlive : Live (fun f => lookF f [(272, i_isLine_S), (201, i_IsValidTime_S), (273, i_endOf_S)]) := lookF_live (allL_cons modS_live (allL_cons modS_live (allL_cons modS_live allL_nil)))
  refine fnOK_mod ty_ok (fun args w => Try.call247 args w) Try.func247 rfl [.tmp 2] (by rw [Try.results247]) 50 Try.ntmps247 16 rfl (fun _ => by first | exact Nat.zero_le _ | (simp)) ?_
  rintro t y cx hm hL
  have hm : i_areTrips t = some y := hm
  have hL : cx.L = 0 := hL
  unfold i_areTrips at hm
  refine X_reg_seq ty_ok Γok hL [] .nil (by kernel_rfl) ?_
  refine Ok_seq ?_
  refine X_reg_seq ty_ok Γok hL [(2, .n (t.Trips.length : Int))] (.cons (len_m Enc.e t.Trips) .nil) (by kernel_rfl) ?_
  refine X_cond (decide (12 < (t.Trips.length : Int))) (by kernel_rfl) (fun hc => ?_) (fun hc => ?_)
  · have hm := it hc hm
    refine X_reg_seq ty_ok Γok hL [] .nil (by kernel_rfl) ?_
    obtain rfl := some_inj hm
    refine Ok_ret ?_
    repeat (first | refine thR ?_ | refine ibR ?_)
    exact X_fin [] [] (by kernel_rfl) trivial
  · have hm := ie hc hm
    refine X_skip ?_
    refine thN ?_
    refine X_reg_seq ty_ok Γok hL [] .nil (by kernel_rfl) ?_
    refine Ok_seq ?_
    refine X_reg_seq ty_ok Γok hL [(2, .n (t.Trips.length : Int))] (.cons (len_m Enc.e t.Trips) .nil) (by kernel_rfl) ?_
    obtain ⟨v3, hv1, hr, hk1⟩ := flb_t hm
    refine X_tailF (n := 50) (fun (_ : Unit) => (⟨[], [], 32⟩ : X)) v3 ?_ ?_
    · have hm := hv1
      refine Ok_block ?_
      refine X_loop (n := 50) (step := i_areTrips_L1 t) (fun ((v, v1) : Int × Int) => (⟨[(1, .ref 16 0), (3, .dat (.sc (.int .i64 v))), (11, .dat (Enc.e t.Trips)), (12, .dat (.sc (.int .i64 (t.Trips.length : Int)))), (13, .dat (.sc (.int .i64 v1)))], [(16, some (.box [.dat (Enc.e t.Network.Stops), .dat (Enc.e t.Network.Lines), .dat (Enc.e t.Trips)]))], 48⟩ : X)) hm (Wk_J hL ⟨[(1, []), (3, []), (11, []), (12, []), (13, [])], [(16, 16, [])], [], 48⟩ (by kernel_rfl)) ?_
      rintro ⟨v, v1⟩ r0 hm hb
      rw [i_areTrips_L1] at hm
      refine X_reg_seq ty_ok Γok hL [] .nil (by kernel_rfl) ?_
      refine Ok_seq ?_
      refine X_cond (decide (v1 < (t.Trips.length : Int))) (by kernel_rfl) (fun hc1 => ?_) (fun hc1 => ?_)
      · have hm := it hc1 hm
        refine X_skip ?_
        refine thN ?_
        refine Ok_seq ?_
        refine Ok_block ?_
        obtain ⟨e, h, hm⟩ := obind hm
        refine X_reg_seq ty_ok Γok hL [(0, .d (Enc.e e))] (.cons (idx_m (f := Enc.e) h) .nil) (by kernel_rfl) ?_
        refine Ok_seq ?_
        obtain ⟨v2, hv, hk⟩ := obind hm
        refine X_join (n := 50) (fun (v2 : Bool) => (⟨[(1, .ref 16 0), (5, .ref 32 0), (11, .dat (Enc.e t.Trips)), (12, .dat (.sc (.int .i64 (t.Trips.length : Int)))), (13, .dat (.sc (.int .i64 v1))), (46, .dat (.sc (.bool v2)))], [(16, some (.box [.dat (Enc.e t.Network.Stops), .dat (Enc.e t.Network.Lines), .dat (Enc.e t.Trips)])), (32, some (.box [.dat (.sc (.int .i64 e.Id)), .dat (.sc (.int .i64 e.Line)), .dat (.sc (.int .i64 e.Start))]))], 64⟩ : X)) v2 ?_ ?_
        · have hm := hv
          rcases btf (decide (e.Id ≤ v)) with hb1 | hb1
          · have hm := it hb1 hm
            obtain rfl := some_inj hm
            refine X_reg ty_ok Γok hL [(4, .b true)] (.cons hb1 .nil) (by kernel_rfl) ?_
            exact thN (Wk_J hL ⟨[(1, []), (5, []), (11, []), (12, []), (13, []), (46, [])], [(16, 16, []), (32, 96, [])], [], 64⟩ (by kernel_rfl))
          · have hm := ie hb1 hm
            rcases btf (decide (999 < e.Id)) with hb2 | hb2
            · have hm := it hb2 hm
              obtain rfl := some_inj hm
              refine X_reg ty_ok Γok hL [(4, .b false), (9, .b true)] (.cons hb1 (.cons hb2 .nil)) (by kernel_rfl) ?_
              exact thN (Wk_J hL ⟨[(1, []), (5, []), (11, []), (12, []), (13, []), (46, [])], [(16, 16, []), (32, 96, [])], [], 64⟩ (by kernel_rfl))
            · have hm := ie hb2 hm
              obtain ⟨r, h1, hm⟩ := obind hm
              rcases btf (!r) with hb3 | hb3
              · have hm := it hb3 hm
                obtain rfl := some_inj hm
                refine X_reg ty_ok Γok hL [(4, .b false), (9, .b false), (14, .c (i_isLine_r r) (i_isLine_n r) (i_isLine_o (t.Network, e.Line) r)), (17, .b true)] (.cons hb1 (.cons hb2 (.cons (i_isLine_c h1) (.cons hb3 .nil)))) (by kernel_rfl) ?_
                exact thN (Wk_J hL ⟨[(1, []), (5, []), (11, []), (12, []), (13, []), (46, [])], [(16, 16, []), (32, 96, [])], [], 64⟩ (by kernel_rfl))
              · have hm := ie hb3 hm
                obtain ⟨r1, h2, hm⟩ := obind hm
                rcases btf (!r1) with hb4 | hb4
                · have hm := it hb4 hm
                  obtain rfl := some_inj hm
                  refine X_reg ty_ok Γok hL [(4, .b false), (9, .b false), (14, .c (i_isLine_r r) (i_isLine_n r) (i_isLine_o (t.Network, e.Line) r)), (17, .b false), (20, .c (i_IsValidTime_r r1) (i_IsValidTime_n r1) (i_IsValidTime_o e.Start r1)), (23, .b true)] (.cons hb1 (.cons hb2 (.cons (i_isLine_c h1) (.cons hb3 (.cons (i_IsValidTime_c h2) (.cons hb4 .nil)))))) (by kernel_rfl) ?_
                  exact thN (Wk_J hL ⟨[(1, []), (5, []), (11, []), (12, []), (13, []), (46, [])], [(16, 16, []), (32, 96, [])], [], 64⟩ (by kernel_rfl))
                · have hm := ie hb4 hm
                  obtain ⟨r2, h3, hm⟩ := obind hm
                  obtain ⟨r3, h4, hm⟩ := obind hm
                  obtain rfl := some_inj hm
                  refine X_reg ty_ok Γok hL [(4, .b false), (9, .b false), (14, .c (i_isLine_r r) (i_isLine_n r) (i_isLine_o (t.Network, e.Line) r)), (17, .b false), (20, .c (i_IsValidTime_r r1) (i_IsValidTime_n r1) (i_IsValidTime_o e.Start r1)), (23, .b false), (26, .c (i_endOf_r r2) (i_endOf_n r2) (i_endOf_o (t, e) r2)), (27, .c (i_IsValidTime_r r3) (i_IsValidTime_n r3) (i_IsValidTime_o r2 r3))] (.cons hb1 (.cons hb2 (.cons (i_isLine_c h1) (.cons hb3 (.cons (i_IsValidTime_c h2) (.cons hb4 (.cons (i_endOf_c h3) (.cons (i_IsValidTime_c h4) .nil)))))))) (by kernel_rfl) ?_
                  exact thN (Wk_J hL ⟨[(1, []), (5, []), (11, []), (12, []), (13, []), (46, [])], [(16, 16, []), (32, 96, [])], [], 64⟩ (by kernel_rfl))
        have hm := hk
        refine X_cond v2 (by kernel_rfl) (fun hc2 => ?_) (fun hc2 => ?_)
        · have hm := it hc2 hm
          refine X_reg_seq ty_ok Γok hL [] .nil (by kernel_rfl) ?_
          obtain rfl := some_inj hm
          obtain rfl := hb _ rfl
          have hm := congrArg some (hr _ rfl)
          obtain rfl := some_inj hm
          refine Ok_ret ?_
          repeat (first | refine thR ?_ | refine ibR ?_)
          exact X_fin [] [] (by kernel_rfl) trivial
        · have hm := ie hc2 hm
          refine X_skip ?_
          refine thN ?_
          refine X_reg ty_ok Γok hL [] .nil (by kernel_rfl) ?_
          refine ibN ?_
          refine thN ?_
          refine X_reg ty_ok Γok hL [] .nil (by kernel_rfl) ?_
          obtain rfl := some_inj hm
          exact thN ⟨_, rfl, Wk_J hL ⟨[(1, []), (3, []), (11, []), (12, []), (13, [])], [(16, 16, [])], [], 48⟩ (by kernel_rfl)⟩
      · have hm := ie hc1 hm
        obtain rfl := some_inj hm
        obtain rfl := hb _ rfl
        refine Ok_exit ?_
        refine thE ?_
        refine thE ?_
        refine ibE ?_
        exact thN ⟨_, rfl, Wk_J hL ⟨[], [], [], 32⟩ (by kernel_rfl)⟩
    rintro ⟨⟩ hu s hw
    have hm := hk1 _ hu
    refine thN ?_
    refine Ok_weak hw ?_
    refine X_reg_seq ty_ok Γok hL [] .nil (by kernel_rfl) ?_
    obtain rfl := some_inj hm
    refine Ok_ret ?_
    repeat (first | refine thR ?_ | refine ibR ?_)
    exact X_fin [] [] (by kernel_rfl) trivial
abbrev i_IsValidTimetable_r (y : Bool) : AV := .dat (Enc.e y)
abbrev i_IsValidTimetable_n (y : Bool) : List Obj' := []
abbrev i_IsValidTimetable_o (x : Timetable) (y : Bool) : List Obj' := []
noncomputable def i_IsValidTimetable_S : FnSpec := modS [.rd] (fun x : Timetable => [Enc.e x]) (fun x : Timetable => []) (fun x : Timetable => i_IsValidTimetable x) i_IsValidTimetable_r i_IsValidTimetable_n i_IsValidTimetable_o
theorem i_IsValidTimetable_c {t : Timetable} {y : Bool} (h : i_IsValidTimetable t = some y) : CallOK i_IsValidTimetable_S [Enc.e t] [] (i_IsValidTimetable_r y) (i_IsValidTimetable_n y) (i_IsValidTimetable_o t y) :=
  modS_call (by
    rintro a0 b0 h hO
    have q0 : a0 = b0 := Enc.inj _ _ (congrArg (fun l => List.getD l 0 (.sc undef)) h)
    subst q0; rfl) (x := t) h
theorem i_IsValidTimetable_ok : FnOK Try.prog 219 i_IsValidTimetable_S := by
  have Γok : ∀ f S, lookF f [(122, i_IsValidNetwork_S), (247, i_areTrips_S)] = some S → FnOK Try.prog f S := lookF_ok (allF_cons i_IsValidNetwork_ok (allF_cons i_areTrips_ok allF_nil))
  have Γlive : Live (fun f => lookF f [(122, i_IsValidNetwork_S), (247, i_areTrips_S)]) := lookF_live (allL_cons modS_live (allL_cons modS_live allL_nil))
  refine fnOK_mod ty_ok (fun args w => Try.call219 args w) Try.func219 rfl [.tmp 2] (by rw [Try.results219]) 10 Try.ntmps219 16 rfl (fun _ => by first | exact Nat.zero_le _ | (simp)) ?_
  rintro t y cx hm hL
  have hm : i_IsValidTimetable t = some y := hm
  have hL : cx.L = 0 := hL
  unfold i_IsValidTimetable at hm
  refine X_reg_seq ty_ok Γok hL [] .nil (by kernel_rfl) ?_
  obtain ⟨r, h, hm⟩ := obind hm
  obtain ⟨v, hv, hk⟩ := obind hm
  refine X_join (n := 10) (fun (v : Bool) => (⟨[(2, .dat (.sc (.bool v)))], [], 32⟩ : X)) v ?_ ?_
  · have hm := hv
    rcases btf r with hb | hb
    · have hm := it hb hm
      obtain ⟨r1, h1, hm⟩ := obind hm
      obtain rfl := some_inj hm
      refine X_reg ty_ok Γok hL [(2, .c (i_IsValidNetwork_r r) (i_IsValidNetwork_n r) (i_IsValidNetwork_o t.Network r)), (3, .b true), (5, .c (i_areTrips_r r1) (i_areTrips_n r1) (i_areTrips_o t r1))] (.cons (i_IsValidNetwork_c h) (.cons hb (.cons (i_areTrips_c h1) .nil))) (by kernel_rfl) ?_
      exact thN (Wk_J hL ⟨[(2, [])], [], [], 32⟩ (by kernel_rfl))
    · have hm := ie hb hm
      obtain rfl := some_inj hm
      refine X_reg ty_ok Γok hL [(2, .c (i_IsValidNetwork_r r) (i_IsValidNetwork_n r) (i_IsValidNetwork_o t.Network r)), (3, .b false)] (.cons (i_IsValidNetwork_c h) (.cons hb .nil)) (by kernel_rfl) ?_
      exact thN (Wk_J hL ⟨[(2, [])], [], [], 32⟩ (by kernel_rfl))
  have hm := hk
  obtain rfl := some_inj hm
  refine Ok_ret ?_
  repeat (first | refine thR ?_ | refine ibR ?_)
  exact X_fin [] [] (by kernel_rfl) trivial
abbrev i_tripIndex_1_r (y : Bool) : AV := .dat (Enc.e y)
abbrev i_tripIndex_1_n (y : Bool) : List Obj' := []
abbrev i_tripIndex_1_o (x : Trip × Int) (y : Bool) : List Obj' := [.box [.dat (.sc (.int .i64 x.2))]]
noncomputable def i_tripIndex_1_S : FnSpec := modS [.rd, .bx] (fun x : Trip × Int => [Enc.e x.1, .sc undef]) (fun x : Trip × Int => [.box [.dat (.sc (.int .i64 x.2))]]) (fun x : Trip × Int => i_tripIndex_1 x.1 x.2) i_tripIndex_1_r i_tripIndex_1_n i_tripIndex_1_o
theorem i_tripIndex_1_c {x : Trip} {c1 : Int} {y : Bool} (h : i_tripIndex_1 x c1 = some y) : CallOK i_tripIndex_1_S [Enc.e x, .sc undef] [.box [.dat (.sc (.int .i64 c1))]] (i_tripIndex_1_r y) (i_tripIndex_1_n y) (i_tripIndex_1_o (x, c1) y) :=
  modS_call (by
    rintro ⟨a0, a1⟩ ⟨b0, b1⟩ h hO
    have q0 : a0 = b0 := Enc.inj _ _ (congrArg (fun l => List.getD l 0 (.sc undef)) h)
    have q1 : a1 = b1 := Enc.inj _ _ (congrArg (fun l => (obD l 0).getD 0 (.sc undef)) hO)
    subst q0; subst q1; rfl) (x := (x, c1)) h
theorem i_tripIndex_1_ok : FnOK Try.prog 275 i_tripIndex_1_S := by
  have Γok : ∀ f S, lookF f [] = some S → FnOK Try.prog f S := lookF_ok allF_nil
  have Γlive : Live (fun f => lookF f []) := lookF_live allL_nil
  refine fnOK_mod ty_ok (fun args w => Try.call275 args w) Try.func275 rfl [.tmp 3] (by rw [Try.results275]) 8 Try.ntmps275 16 rfl (fun _ => by first | exact Nat.zero_le _ | (simp)) ?_
  rintro ⟨x, c1⟩ y cx hm hL
  have hm : i_tripIndex_1 x c1 = some y := hm
  have hL : cx.L = 1 := hL
  unfold i_tripIndex_1 at hm
  refine X_reg_seq ty_ok Γok hL [] .nil (by kernel_rfl) ?_
  refine X_reg_seq ty_ok Γok hL [] .nil (by kernel_rfl) ?_
  obtain rfl := some_inj hm
  refine Ok_ret ?_
  repeat (first | refine thR ?_ | refine ibR ?_)
  exact X_fin [] [] (by kernel_rfl) trivial
abbrev slices_IndexFunc_Trip__i_tripIndex_1_r (y : Int) : AV := .dat (Enc.e y)
abbrev slices_IndexFunc_Trip__i_tripIndex_1_n (y : Int) : List Obj' := []
abbrev slices_IndexFunc_Trip__i_tripIndex_1_o (x : (List Trip) × Int) (y : Int) : List Obj' := [.box [.dat (.sc (.int .i64 x.2))]]
noncomputable def slices_IndexFunc_Trip__i_tripIndex_1_S : FnSpec := modS [.rd, .fn 275 [.bx]] (fun x : (List Trip) × Int => [Enc.e x.1, .agg [.sc undef]]) (fun x : (List Trip) × Int => [.box [.dat (.sc (.int .i64 x.2))]]) (fun x : (List Trip) × Int => slices_IndexFunc_Trip__i_tripIndex_1 x.1 x.2) slices_IndexFunc_Trip__i_tripIndex_1_r slices_IndexFunc_Trip__i_tripIndex_1_n slices_IndexFunc_Trip__i_tripIndex_1_o
theorem slices_IndexFunc_Trip__i_tripIndex_1_c {s : List Trip} {c1 : Int} {y : Int} (h : slices_IndexFunc_Trip__i_tripIndex_1 s c1 = some y) : CallOK slices_IndexFunc_Trip__i_tripIndex_1_S [Enc.e s, .agg [.sc undef]] [.box [.dat (.sc (.int .i64 c1))]] (slices_IndexFunc_Trip__i_tripIndex_1_r y) (slices_IndexFunc_Trip__i_tripIndex_1_n y) (slices_IndexFunc_Trip__i_tripIndex_1_o (s, c1) y) :=
  modS_call (by
    rintro ⟨a0, a1⟩ ⟨b0, b1⟩ h hO
    have q0 : a0 = b0 := Enc.inj _ _ (congrArg (fun l => List.getD l 0 (.sc undef)) h)
    have q1 : a1 = b1 := Enc.inj _ _ (congrArg (fun l => (obD l 0).getD 0 (.sc undef)) hO)
    subst q0; subst q1; rfl) (x := (s, c1)) h
theorem slices_IndexFunc_Trip__i_tripIndex_1_ok : FnOK Try.prog 274 slices_IndexFunc_Trip__i_tripIndex_1_S := by
  have Γok : ∀ f S, lookF f [(275, i_tripIndex_1_S)] = some S → FnOK Try.prog f S := lookF_ok (allF_cons i_tripIndex_1_ok allF_nil)
  have Γlive : Live (fun f => lookF f [(275, i_tripIndex_1_S)]) := lookF_live (allL_cons modS_live allL_nil)
  refine fnOK_mod ty_ok (fun args w => Try.call274 args w) Try.func274 rfl [.tmp 4] (by rw [Try.results274]) 19 Try.ntmps274 16 rfl (fun _ => by first | exact Nat.zero_le _ | (simp)) ?_
  rintro ⟨s, c1⟩ y cx hm hL
  have hm : slices_IndexFunc_Trip__i_tripIndex_1 s c1 = some y := hm
  have hL : cx.L = 1 := hL
  obtain ⟨f, hf_f⟩ : ∃ q, (fun (z0 : Trip) => i_tripIndex_1 z0 c1) = q := ⟨_, rfl⟩
  have hm : slices_IndexFunc_Trip s f = some y := by rw [← hf_f]; exact hm
  unfold slices_IndexFunc_Trip at hm
  refine X_reg_seq ty_ok Γok hL [] .nil (by kernel_rfl) ?_
  refine Ok_seq ?_
  refine X_reg_seq ty_ok Γok hL [(1, .n (s.length : Int))] (.cons (len_m Enc.e s) .nil) (by kernel_rfl) ?_
  obtain ⟨v1, hv, hr, hk⟩ := flb_t hm
  refine X_tailF (n := 19) (fun (_ : Unit) => (⟨[(1, .fn 275 [.ref 0 0])], [(0, some (.box [.dat (.sc (.int .i64 c1))]))], 48⟩ : X)) v1 ?_ ?_
  · have hm := hv
    refine Ok_block ?_
    refine X_loop (n := 19) (step := slices_IndexFunc_Trip_L1 s f) (fun (v : Int) => (⟨[(0, .dat (Enc.e s)), (1, .fn 275 [.ref 0 0]), (7, .dat (.sc (.int .i64 (s.length : Int)))), (8, .dat (.sc (.int .i64 v)))], [(0, some (.box [.dat (.sc (.int .i64 c1))]))], 48⟩ : X)) hm (Wk_J hL ⟨[(0, []), (1, []), (7, []), (8, [])], [(0, 0, [])], [], 48⟩ (by kernel_rfl)) ?_
    rintro v r0 hm hb
    rw [slices_IndexFunc_Trip_L1] at hm
    refine X_reg_seq ty_ok Γok hL [] .nil (by kernel_rfl) ?_
    refine Ok_seq ?_
    refine X_cond (decide (v < (s.length : Int))) (by kernel_rfl) (fun hc => ?_) (fun hc => ?_)
    · have hm := it hc hm
      refine X_skip ?_
      refine thN ?_
      refine Ok_seq ?_
      refine Ok_block ?_
      refine X_reg_seq ty_ok Γok hL [] .nil (by kernel_rfl) ?_
      obtain ⟨e, h, hm⟩ := obind hm
      obtain ⟨r, h1, hm⟩ := obind hm
      have h1 : i_tripIndex_1 e c1 = some r := by rw [← hf_f] at h1; exact h1
      refine X_reg_seq ty_ok Γok hL [(3, .d (Enc.e e)), (5, .c (i_tripIndex_1_r r) (i_tripIndex_1_n r) (i_tripIndex_1_o (e, c1) r))] (.cons (idx_m (f := Enc.e) h) (.cons (i_tripIndex_1_c h1) .nil)) (by kernel_rfl) ?_
      refine X_cond r (by kernel_rfl) (fun hc1 => ?_) (fun hc1 => ?_)
      · have hm := it hc1 hm
        refine X_reg_seq ty_ok Γok hL [] .nil (by kernel_rfl) ?_
        obtain rfl := some_inj hm
        obtain rfl := hb _ rfl
        have hm := congrArg some (hr _ rfl)
        obtain rfl := some_inj hm
        refine Ok_ret ?_
        repeat (first | refine thR ?_ | refine ibR ?_)
        exact X_fin [] [] (by kernel_rfl) trivial
      · have hm := ie hc1 hm
        refine X_skip ?_
        refine ibN ?_
        refine thN ?_
        refine X_reg ty_ok Γok hL [] .nil (by kernel_rfl) ?_
        obtain rfl := some_inj hm
        exact thN ⟨_, rfl, Wk_J hL ⟨[(0, []), (1, []), (7, []), (8, [])], [(0, 0, [])], [], 48⟩ (by kernel_rfl)⟩
    · have hm := ie hc hm
      obtain rfl := some_inj hm
      obtain rfl := hb _ rfl
      refine Ok_exit ?_
      refine thE ?_
      refine thE ?_
      refine ibE ?_
      exact thN ⟨_, rfl, Wk_J hL ⟨[(1, [])], [(0, 0, [])], [], 48⟩ (by kernel_rfl)⟩
  rintro ⟨⟩ hu s1 hw
  have hm := hk _ hu
  refine thN ?_
  refine Ok_weak hw ?_
  refine X_reg_seq ty_ok Γok hL [] .nil (by kernel_rfl) ?_
  obtain rfl := some_inj hm
  refine Ok_ret ?_
  repeat (first | refine thR ?_ | refine ibR ?_)
  exact X_fin [] [] (by kernel_rfl) trivial
abbrev i_tripIndex_r (y : Int) : AV := .dat (Enc.e y)
abbrev i_tripIndex_n (y : Int) : List Obj' := []
abbrev i_tripIndex_o (x : Timetable × Int) (y : Int) : List Obj' := []
noncomputable def i_tripIndex_S : FnSpec := modS [.rd, .rd] (fun x : Timetable × Int => [Enc.e x.1, Enc.e x.2]) (fun x : Timetable × Int => []) (fun x : Timetable × Int => i_tripIndex x.1 x.2) i_tripIndex_r i_tripIndex_n i_tripIndex_o
theorem i_tripIndex_c {t : Timetable} {id : Int} {y : Int} (h : i_tripIndex t id = some y) : CallOK i_tripIndex_S [Enc.e t, Enc.e id] [] (i_tripIndex_r y) (i_tripIndex_n y) (i_tripIndex_o (t, id) y) :=
  modS_call (by
    rintro ⟨a0, a1⟩ ⟨b0, b1⟩ h hO
    have q0 : a0 = b0 := Enc.inj _ _ (congrArg (fun l => List.getD l 0 (.sc undef)) h)
    have q1 : a1 = b1 := Enc.inj _ _ (congrArg (fun l => List.getD l 1 (.sc undef)) h)
    subst q0; subst q1; rfl) (x := (t, id)) h
theorem i_tripIndex_ok : FnOK Try.prog 248 i_tripIndex_S := by
  have Γok : ∀ f S, lookF f [(274, slices_IndexFunc_Trip__i_tripIndex_1_S)] = some S → FnOK Try.prog f S := lookF_ok (allF_cons slices_IndexFunc_Trip__i_tripIndex_1_ok allF_nil)
  have Γlive : Live (fun f => lookF f [(274, slices_IndexFunc_Trip__i_tripIndex_1_S)]) := lookF_live (allL_cons modS_live allL_nil)
  refine fnOK_mod ty_ok (fun args w => Try.call248 args w) Try.func248 rfl [.tmp 4] (by rw [Try.results248]) 9 Try.ntmps248 16 rfl (fun _ => by first | exact Nat.zero_le _ | (simp)) ?_
  rintro ⟨t, id⟩ y cx hm hL
  have hm : i_tripIndex t id = some y := hm
  have hL : cx.L = 0 := hL
  unfold i_tripIndex at hm
  refine X_reg_seq ty_ok Γok hL [] .nil (by kernel_rfl) ?_
  obtain ⟨r, h, hm⟩ := obind hm
  refine X_reg_seq ty_ok Γok hL [(3, .c (slices_IndexFunc_Trip__i_tripIndex_1_r r) (slices_IndexFunc_Trip__i_tripIndex_1_n r) (slices_IndexFunc_Trip__i_tripIndex_1_o (t.Trips, id) r))] (.cons (slices_IndexFunc_Trip__i_tripIndex_1_c h) .nil) (by kernel_rfl) ?_
  obtain rfl := some_inj hm
  refine Ok_ret ?_
  repeat (first | refine thR ?_ | refine ibR ?_)
  exact X_fin [] [] (by kernel_rfl) trivial
abbrev i_tripWith_r (y : Trip) : AV := .dat (Enc.e y)
abbrev i_tripWith_n (y : Trip) : List Obj' := []
abbrev i_tripWith_o (x : Timetable × Int) (y : Trip) : List Obj' := []
noncomputable def i_tripWith_S : FnSpec := modS [.rd, .rd] (fun x : Timetable × Int => [Enc.e x.1, Enc.e x.2]) (fun x : Timetable × Int => []) (fun x : Timetable × Int => i_tripWith x.1 x.2) i_tripWith_r i_tripWith_n i_tripWith_o
theorem i_tripWith_c {t : Timetable} {id : Int} {y : Trip} (h : i_tripWith t id = some y) : CallOK i_tripWith_S [Enc.e t, Enc.e id] [] (i_tripWith_r y) (i_tripWith_n y) (i_tripWith_o (t, id) y) :=
  modS_call (by
    rintro ⟨a0, a1⟩ ⟨b0, b1⟩ h hO
    have q0 : a0 = b0 := Enc.inj _ _ (congrArg (fun l => List.getD l 0 (.sc undef)) h)
    have q1 : a1 = b1 := Enc.inj _ _ (congrArg (fun l => List.getD l 1 (.sc undef)) h)
    subst q0; subst q1; rfl) (x := (t, id)) h
theorem i_tripWith_ok : FnOK Try.prog 221 i_tripWith_S := by
  have Γok : ∀ f S, lookF f [(248, i_tripIndex_S)] = some S → FnOK Try.prog f S := lookF_ok (allF_cons i_tripIndex_ok allF_nil)
  have Γlive : Live (fun f => lookF f [(248, i_tripIndex_S)]) := lookF_live (allL_cons modS_live allL_nil)
  refine fnOK_mod ty_ok (fun args w => Try.call221 args w) Try.func221 rfl [.cell 4 196] (by rw [Try.results221]) 12 Try.ntmps221 16 rfl (fun _ => by first | exact Nat.zero_le _ | (simp)) ?_
  rintro ⟨t, id⟩ y cx hm hL
  have hm : i_tripWith t id = some y := hm
  have hL : cx.L = 0 := hL
  unfold i_tripWith at hm
  refine X_reg_seq ty_ok Γok hL [] .nil (by kernel_rfl) ?_
  obtain ⟨r1, h2, hm⟩ := obind hm
  obtain ⟨e1, h3, hm⟩ := obind hm
  refine X_draw_seq mixed ty_ok Γok Γlive [(7, [32])] (by kernel_rfl) [(4, .c (i_tripIndex_r r1) (i_tripIndex_n r1) (i_tripIndex_o (t, id) r1)), (5, .d (Enc.e e1))] (.cons (i_tripIndex_c h2) (.cons (idx_m (f := Enc.e) h3) .nil)) (by kernel_rfl) ?_
  obtain rfl := some_inj hm
  refine Ok_ret ?_
  repeat (first | refine thR ?_ | refine ibR ?_)
  exact X_fin [] [] (by kernel_rfl) trivial
abbrev i_lineOf_r (y : Line) : AV := .dat (Enc.e y)
abbrev i_lineOf_n (y : Line) : List Obj' := []
abbrev i_lineOf_o (x : Timetable × Trip) (y : Line) : List Obj' := []
noncomputable def i_lineOf_S : FnSpec := modS [.rd, .rd] (fun x : Timetable × Trip => [Enc.e x.1, Enc.e x.2]) (fun x : Timetable × Trip => []) (fun x : Timetable × Trip => i_lineOf x.1 x.2) i_lineOf_r i_lineOf_n i_lineOf_o
theorem i_lineOf_c {t : Timetable} {x : Trip} {y : Line} (h : i_lineOf t x = some y) : CallOK i_lineOf_S [Enc.e t, Enc.e x] [] (i_lineOf_r y) (i_lineOf_n y) (i_lineOf_o (t, x) y) :=
  modS_call (by
    rintro ⟨a0, a1⟩ ⟨b0, b1⟩ h hO
    have q0 : a0 = b0 := Enc.inj _ _ (congrArg (fun l => List.getD l 0 (.sc undef)) h)
    have q1 : a1 = b1 := Enc.inj _ _ (congrArg (fun l => List.getD l 1 (.sc undef)) h)
    subst q0; subst q1; rfl) (x := (t, x)) h
theorem i_lineOf_ok : FnOK Try.prog 165 i_lineOf_S := by
  have Γok : ∀ f S, lookF f [] = some S → FnOK Try.prog f S := lookF_ok allF_nil
  have Γlive : Live (fun f => lookF f []) := lookF_live allL_nil
  refine fnOK_mod ty_ok (fun args w => Try.call165 args w) Try.func165 rfl [.cell 4 198] (by rw [Try.results165]) 12 Try.ntmps165 16 rfl (fun _ => by first | exact Nat.zero_le _ | (simp)) ?_
  rintro ⟨t, x⟩ y cx hm hL
  have hm : i_lineOf t x = some y := hm
  have hL : cx.L = 0 := hL
  unfold i_lineOf at hm
  refine X_reg_seq ty_ok Γok hL [] .nil (by kernel_rfl) ?_
  obtain ⟨e, h, hm⟩ := obind hm
  refine X_reg_seq ty_ok Γok hL [(5, .d (Enc.e e))] (.cons (idx_m (f := Enc.e) h) .nil) (by kernel_rfl) ?_
  obtain rfl := some_inj hm
  refine Ok_ret ?_
  repeat (first | refine thR ?_ | refine ibR ?_)
  exact X_fin [] [] (by kernel_rfl) trivial
abbrev i_areRuns_r (y : Bool) : AV := .dat (Enc.e y)
abbrev i_areRuns_n (y : Bool) : List Obj' := []
abbrev i_areRuns_o (x : Timetable × (List Run)) (y : Bool) : List Obj' := []
noncomputable def i_areRuns_S : FnSpec := modS [.rd, .rd] (fun x : Timetable × (List Run) => [Enc.e x.1, Enc.e x.2]) (fun x : Timetable × (List Run) => []) (fun x : Timetable × (List Run) => i_areRuns x.1 x.2) i_areRuns_r i_areRuns_n i_areRuns_o
theorem i_areRuns_c {t : Timetable} {list : List Run} {y : Bool} (h : i_areRuns t list = some y) : CallOK i_areRuns_S [Enc.e t, Enc.e list] [] (i_areRuns_r y) (i_areRuns_n y) (i_areRuns_o (t, list) y) :=
  modS_call (by
    rintro ⟨a0, a1⟩ ⟨b0, b1⟩ h hO
    have q0 : a0 = b0 := Enc.inj _ _ (congrArg (fun l => List.getD l 0 (.sc undef)) h)
    have q1 : a1 = b1 := Enc.inj _ _ (congrArg (fun l => List.getD l 1 (.sc undef)) h)
    subst q0; subst q1; rfl) (x := (t, list)) h
theorem i_areRuns_ok : FnOK Try.prog 220 i_areRuns_S := by
  have Γok : ∀ f S, lookF f [(248, i_tripIndex_S), (94, i_within_S), (221, i_tripWith_S), (165, i_lineOf_S)] = some S → FnOK Try.prog f S := lookF_ok (allF_cons i_tripIndex_ok (allF_cons i_within_ok (allF_cons i_tripWith_ok (allF_cons i_lineOf_ok allF_nil))))
  have Γlive : Live (fun f => lookF f [(248, i_tripIndex_S), (94, i_within_S), (221, i_tripWith_S), (165, i_lineOf_S)]) := lookF_live (allL_cons modS_live (allL_cons modS_live (allL_cons modS_live (allL_cons modS_live allL_nil))))
  refine fnOK_mod ty_ok (fun args w => Try.call220 args w) Try.func220 rfl [.tmp 4] (by rw [Try.results220]) 57 Try.ntmps220 16 rfl (fun _ => by first | exact Nat.zero_le _ | (simp)) ?_
  rintro ⟨t, list⟩ y cx hm hL
  have hm : i_areRuns t list = some y := hm
  have hL : cx.L = 0 := hL
  unfold i_areRuns at hm
  refine X_reg_seq ty_ok Γok hL [] .nil (by kernel_rfl) ?_
  refine X_reg_seq ty_ok Γok hL [] .nil (by kernel_rfl) ?_
  refine Ok_seq ?_
  refine X_reg_seq ty_ok Γok hL [(1, .n (list.length : Int))] (.cons (len_m Enc.e list) .nil) (by kernel_rfl) ?_
  obtain ⟨v3, hv2, hr, hk2⟩ := flb_t hm
  refine X_tailF (n := 57) (fun (_ : Unit) => (⟨[], [], 32⟩ : X)) v3 ?_ ?_
  · have hm := hv2
    refine Ok_block ?_
    refine X_loop (n := 57) (step := i_areRuns_L1 t list) (fun ((r, v) : Int × Int) => (⟨[(2, .ref 16 0), (5, .dat (.sc (.int .i64 r))), (8, .dat (Enc.e list)), (9, .dat (.sc (.int .i64 (list.length : Int)))), (10, .dat (.sc (.int .i64 v)))], [(16, some (.box [.dat (Enc.e t.Network.Stops), .dat (Enc.e t.Network.Lines), .dat (Enc.e t.Trips)]))], 48⟩ : X)) hm (Wk_J hL ⟨[(2, []), (5, []), (8, []), (9, []), (10, [])], [(16, 16, [])], [], 48⟩ (by kernel_rfl)) ?_
    rintro ⟨r, v⟩ r0 hm hb
    rw [i_areRuns_L1] at hm
    refine X_reg_seq ty_ok Γok hL [] .nil (by kernel_rfl) ?_
    refine Ok_seq ?_
    refine X_cond (decide (v < (list.length : Int))) (by kernel_rfl) (fun hc => ?_) (fun hc => ?_)
    · have hm := it hc hm
      refine X_skip ?_
      refine thN ?_
      refine Ok_seq ?_
      refine Ok_block ?_
      obtain ⟨e, h, hm⟩ := obind hm
      refine X_reg_seq ty_ok Γok hL [(0, .d (Enc.e e))] (.cons (idx_m (f := Enc.e) h) .nil) (by kernel_rfl) ?_
      refine Ok_seq ?_
      obtain ⟨v1, hv, hk⟩ := obind hm
      refine X_join (n := 57) (fun (v1 : Bool) => (⟨[(2, .ref 16 0), (7, .ref 32 0), (8, .dat (Enc.e list)), (9, .dat (.sc (.int .i64 (list.length : Int)))), (10, .dat (.sc (.int .i64 v))), (30, .dat (.sc (.bool v1)))], [(16, some (.box [.dat (Enc.e t.Network.Stops), .dat (Enc.e t.Network.Lines), .dat (Enc.e t.Trips)])), (32, some (.box [.dat (.sc (.int .i64 e.Trip)), .dat (.sc (.int .i64 e.From)), .dat (.sc (.int .i64 e.To)), .dat (.sc (.int .i64 e.Hold))]))], 64⟩ : X)) v1 ?_ ?_
      · have hm := hv
        rcases btf (decide (e.Trip ≤ r)) with hb1 | hb1
        · have hm := it hb1 hm
          obtain rfl := some_inj hm
          refine X_reg ty_ok Γok hL [(4, .b true)] (.cons hb1 .nil) (by kernel_rfl) ?_
          exact thN (Wk_J hL ⟨[(2, []), (7, []), (8, []), (9, []), (10, []), (30, [])], [(16, 16, []), (32, 96, [])], [], 64⟩ (by kernel_rfl))
        · have hm := ie hb1 hm
          obtain ⟨r1, h1, hm⟩ := obind hm
          rcases btf (decide (r1 < 0)) with hb2 | hb2
          · have hm := it hb2 hm
            obtain rfl := some_inj hm
            refine X_reg ty_ok Γok hL [(4, .b false), (8, .c (i_tripIndex_r r1) (i_tripIndex_n r1) (i_tripIndex_o (t, e.Trip) r1)), (11, .b true)] (.cons hb1 (.cons (i_tripIndex_c h1) (.cons hb2 .nil))) (by kernel_rfl) ?_
            exact thN (Wk_J hL ⟨[(2, []), (7, []), (8, []), (9, []), (10, []), (30, [])], [(16, 16, []), (32, 96, [])], [], 64⟩ (by kernel_rfl))
          · have hm := ie hb2 hm
            obtain ⟨r2, h2, hm⟩ := obind hm
            obtain rfl := some_inj hm
            refine X_reg ty_ok Γok hL [(4, .b false), (8, .c (i_tripIndex_r r1) (i_tripIndex_n r1) (i_tripIndex_o (t, e.Trip) r1)), (11, .b false), (14, .c (i_within_r r2) (i_within_n r2) (i_within_o (e.Hold, 0, 60) r2))] (.cons hb1 (.cons (i_tripIndex_c h1) (.cons hb2 (.cons (i_within_c h2) .nil)))) (by kernel_rfl) ?_
            exact thN (Wk_J hL ⟨[(2, []), (7, []), (8, []), (9, []), (10, []), (30, [])], [(16, 16, []), (32, 96, [])], [], 64⟩ (by kernel_rfl))
      have hm := hk
      refine X_cond v1 (by kernel_rfl) (fun hc1 => ?_) (fun hc1 => ?_)
      · have hm := it hc1 hm
        refine X_reg_seq ty_ok Γok hL [] .nil (by kernel_rfl) ?_
        obtain rfl := some_inj hm
        obtain rfl := hb _ rfl
        have hm := congrArg some (hr _ rfl)
        obtain rfl := some_inj hm
        refine Ok_ret ?_
        repeat (first | refine thR ?_ | refine ibR ?_)
        exact X_fin [] [] (by kernel_rfl) trivial
      · have hm := ie hc1 hm
        refine X_skip ?_
        refine thN ?_
        refine Ok_seq ?_
        obtain ⟨v2, hv1, hk1⟩ := obind hm
        refine X_join (n := 57) (fun (v2 : Bool) => (⟨[(2, .ref 16 0), (7, .ref 32 0), (8, .dat (Enc.e list)), (9, .dat (.sc (.int .i64 (list.length : Int)))), (10, .dat (.sc (.int .i64 v))), (53, .dat (.sc (.bool v2)))], [(16, some (.box [.dat (Enc.e t.Network.Stops), .dat (Enc.e t.Network.Lines), .dat (Enc.e t.Trips)])), (32, some (.box [.dat (.sc (.int .i64 e.Trip)), .dat (.sc (.int .i64 e.From)), .dat (.sc (.int .i64 e.To)), .dat (.sc (.int .i64 e.Hold))]))], 64⟩ : X)) v2 ?_ ?_
        · have hm := hv1
          rcases btf (decide (e.From < 0)) with hb3 | hb3
          · have hm := it hb3 hm
            obtain rfl := some_inj hm
            refine X_draw mixed ty_ok Γok Γlive [] (by kernel_rfl) [(3, .b true)] (.cons hb3 .nil) (by kernel_rfl) ?_
            exact thN (Wk_J hL ⟨[(2, []), (7, []), (8, []), (9, []), (10, []), (53, [])], [(16, 16, []), (32, 32, [])], [], 64⟩ (by kernel_rfl))
          · have hm := ie hb3 hm
            rcases btf (decide (e.To ≤ e.From)) with hb4 | hb4
            · have hm := it hb4 hm
              obtain rfl := some_inj hm
              refine X_draw mixed ty_ok Γok Γlive [] (by kernel_rfl) [(3, .b false), (10, .b true)] (.cons hb3 (.cons hb4 .nil)) (by kernel_rfl) ?_
              exact thN (Wk_J hL ⟨[(2, []), (7, []), (8, []), (9, []), (10, []), (53, [])], [(16, 16, []), (32, 32, [])], [], 64⟩ (by kernel_rfl))
            · have hm := ie hb4 hm
              obtain ⟨r6, h5, hm⟩ := obind hm
              obtain ⟨r7, h6, hm⟩ := obind hm
              obtain rfl := some_inj hm
              refine X_draw mixed ty_ok Γok Γlive [] (by kernel_rfl) [(3, .b false), (10, .b false), (17, .c (i_tripWith_r r6) (i_tripWith_n r6) (i_tripWith_o (t, e.Trip) r6)), (18, .c (i_lineOf_r r7) (i_lineOf_n r7) (i_lineOf_o (t, r6) r7)), (20, .n (r7.Stops.length : Int))] (.cons hb3 (.cons hb4 (.cons (i_tripWith_c h5) (.cons (i_lineOf_c h6) (.cons (len_m Enc.e r7.Stops) .nil))))) (by kernel_rfl) ?_
              exact thN (Wk_J hL ⟨[(2, []), (7, []), (8, []), (9, []), (10, []), (53, [])], [(16, 16, []), (32, 32, [])], [], 64⟩ (by kernel_rfl))
        have hm := hk1
        refine X_cond v2 (by kernel_rfl) (fun hc2 => ?_) (fun hc2 => ?_)
        · have hm := it hc2 hm
          refine X_reg_seq ty_ok Γok hL [] .nil (by kernel_rfl) ?_
          obtain rfl := some_inj hm
          obtain rfl := hb _ rfl
          have hm := congrArg some (hr _ rfl)
          obtain rfl := some_inj hm
          refine Ok_ret ?_
          repeat (first | refine thR ?_ | refine ibR ?_)
          exact X_fin [] [] (by kernel_rfl) trivial
        · have hm := ie hc2 hm
          refine X_skip ?_
          refine thN ?_
          refine X_reg ty_ok Γok hL [] .nil (by kernel_rfl) ?_
          refine ibN ?_
          refine thN ?_
          refine X_reg ty_ok Γok hL [] .nil (by kernel_rfl) ?_
          obtain rfl := some_inj hm
          exact thN ⟨_, rfl, Wk_J hL ⟨[(2, []), (5, []), (8, []), (9, []), (10, [])], [(16, 16, [])], [], 48⟩ (by kernel_rfl)⟩
    · have hm := ie hc hm
      obtain rfl := some_inj hm
      obtain rfl := hb _ rfl
      refine Ok_exit ?_
      refine thE ?_
      refine thE ?_
      refine ibE ?_
      exact thN ⟨_, rfl, Wk_J hL ⟨[], [], [], 32⟩ (by kernel_rfl)⟩
  rintro ⟨⟩ hu s hw
  have hm := hk2 _ hu
  refine thN ?_
  refine Ok_weak hw ?_
  refine X_reg_seq ty_ok Γok hL [] .nil (by kernel_rfl) ?_
  obtain rfl := some_inj hm
  refine Ok_ret ?_
  repeat (first | refine thR ?_ | refine ibR ?_)
  exact X_fin [] [] (by kernel_rfl) trivial
abbrev i_IsValidRuns_r (y : Bool) : AV := .dat (Enc.e y)
abbrev i_IsValidRuns_n (y : Bool) : List Obj' := []
abbrev i_IsValidRuns_o (x : Timetable × (List Run)) (y : Bool) : List Obj' := []
noncomputable def i_IsValidRuns_S : FnSpec := modS [.rd, .rd] (fun x : Timetable × (List Run) => [Enc.e x.1, Enc.e x.2]) (fun x : Timetable × (List Run) => []) (fun x : Timetable × (List Run) => i_IsValidRuns x.1 x.2) i_IsValidRuns_r i_IsValidRuns_n i_IsValidRuns_o
theorem i_IsValidRuns_c {t : Timetable} {list : List Run} {y : Bool} (h : i_IsValidRuns t list = some y) : CallOK i_IsValidRuns_S [Enc.e t, Enc.e list] [] (i_IsValidRuns_r y) (i_IsValidRuns_n y) (i_IsValidRuns_o (t, list) y) :=
  modS_call (by
    rintro ⟨a0, a1⟩ ⟨b0, b1⟩ h hO
    have q0 : a0 = b0 := Enc.inj _ _ (congrArg (fun l => List.getD l 0 (.sc undef)) h)
    have q1 : a1 = b1 := Enc.inj _ _ (congrArg (fun l => List.getD l 1 (.sc undef)) h)
    subst q0; subst q1; rfl) (x := (t, list)) h
theorem i_IsValidRuns_ok : FnOK Try.prog 156 i_IsValidRuns_S := by
  have Γok : ∀ f S, lookF f [(219, i_IsValidTimetable_S), (220, i_areRuns_S)] = some S → FnOK Try.prog f S := lookF_ok (allF_cons i_IsValidTimetable_ok (allF_cons i_areRuns_ok allF_nil))
  have Γlive : Live (fun f => lookF f [(219, i_IsValidTimetable_S), (220, i_areRuns_S)]) := lookF_live (allL_cons modS_live (allL_cons modS_live allL_nil))
  refine fnOK_mod ty_ok (fun args w => Try.call156 args w) Try.func156 rfl [.tmp 4] (by rw [Try.results156]) 12 Try.ntmps156 16 rfl (fun _ => by first | exact Nat.zero_le _ | (simp)) ?_
  rintro ⟨t, list⟩ y cx hm hL
  have hm : i_IsValidRuns t list = some y := hm
  have hL : cx.L = 0 := hL
  unfold i_IsValidRuns at hm
  refine X_reg_seq ty_ok Γok hL [] .nil (by kernel_rfl) ?_
  obtain ⟨r, h, hm⟩ := obind hm
  obtain ⟨v, hv, hk⟩ := obind hm
  refine X_join (n := 12) (fun (v : Bool) => (⟨[(4, .dat (.sc (.bool v)))], [], 32⟩ : X)) v ?_ ?_
  · have hm := hv
    rcases btf r with hb | hb
    · have hm := it hb hm
      obtain ⟨r1, h1, hm⟩ := obind hm
      obtain rfl := some_inj hm
      refine X_reg ty_ok Γok hL [(1, .c (i_IsValidTimetable_r r) (i_IsValidTimetable_n r) (i_IsValidTimetable_o t r)), (2, .b true), (5, .c (i_areRuns_r r1) (i_areRuns_n r1) (i_areRuns_o (t, list) r1))] (.cons (i_IsValidTimetable_c h) (.cons hb (.cons (i_areRuns_c h1) .nil))) (by kernel_rfl) ?_
      exact thN (Wk_J hL ⟨[(4, [])], [], [], 32⟩ (by kernel_rfl))
    · have hm := ie hb hm
      obtain rfl := some_inj hm
      refine X_reg ty_ok Γok hL [(1, .c (i_IsValidTimetable_r r) (i_IsValidTimetable_n r) (i_IsValidTimetable_o t r)), (2, .b false)] (.cons (i_IsValidTimetable_c h) (.cons hb .nil)) (by kernel_rfl) ?_
      exact thN (Wk_J hL ⟨[(4, [])], [], [], 32⟩ (by kernel_rfl))
  have hm := hk
  obtain rfl := some_inj hm
  refine Ok_ret ?_
  repeat (first | refine thR ?_ | refine ibR ?_)
  exact X_fin [] [] (by kernel_rfl) trivial
abbrev i_runIndex_1_r (y : Bool) : AV := .dat (Enc.e y)
abbrev i_runIndex_1_n (y : Bool) : List Obj' := []
abbrev i_runIndex_1_o (x : Run × Int) (y : Bool) : List Obj' := [.box [.dat (.sc (.int .i64 x.2))]]
noncomputable def i_runIndex_1_S : FnSpec := modS [.rd, .bx] (fun x : Run × Int => [Enc.e x.1, .sc undef]) (fun x : Run × Int => [.box [.dat (.sc (.int .i64 x.2))]]) (fun x : Run × Int => i_runIndex_1 x.1 x.2) i_runIndex_1_r i_runIndex_1_n i_runIndex_1_o
theorem i_runIndex_1_c {r : Run} {c1 : Int} {y : Bool} (h : i_runIndex_1 r c1 = some y) : CallOK i_runIndex_1_S [Enc.e r, .sc undef] [.box [.dat (.sc (.int .i64 c1))]] (i_runIndex_1_r y) (i_runIndex_1_n y) (i_runIndex_1_o (r, c1) y) :=
  modS_call (by
    rintro ⟨a0, a1⟩ ⟨b0, b1⟩ h hO
    have q0 : a0 = b0 := Enc.inj _ _ (congrArg (fun l => List.getD l 0 (.sc undef)) h)
    have q1 : a1 = b1 := Enc.inj _ _ (congrArg (fun l => (obD l 0).getD 0 (.sc undef)) hO)
    subst q0; subst q1; rfl) (x := (r, c1)) h
theorem i_runIndex_1_ok : FnOK Try.prog 225 i_runIndex_1_S := by
  have Γok : ∀ f S, lookF f [] = some S → FnOK Try.prog f S := lookF_ok allF_nil
  have Γlive : Live (fun f => lookF f []) := lookF_live allL_nil
  refine fnOK_mod ty_ok (fun args w => Try.call225 args w) Try.func225 rfl [.tmp 3] (by rw [Try.results225]) 8 Try.ntmps225 16 rfl (fun _ => by first | exact Nat.zero_le _ | (simp)) ?_
  rintro ⟨r, c1⟩ y cx hm hL
  have hm : i_runIndex_1 r c1 = some y := hm
  have hL : cx.L = 1 := hL
  unfold i_runIndex_1 at hm
  refine X_reg_seq ty_ok Γok hL [] .nil (by kernel_rfl) ?_
  refine X_reg_seq ty_ok Γok hL [] .nil (by kernel_rfl) ?_
  obtain rfl := some_inj hm
  refine Ok_ret ?_
  repeat (first | refine thR ?_ | refine ibR ?_)
  exact X_fin [] [] (by kernel_rfl) trivial
abbrev slices_IndexFunc_Run__i_runIndex_1_r (y : Int) : AV := .dat (Enc.e y)
abbrev slices_IndexFunc_Run__i_runIndex_1_n (y : Int) : List Obj' := []
abbrev slices_IndexFunc_Run__i_runIndex_1_o (x : (List Run) × Int) (y : Int) : List Obj' := [.box [.dat (.sc (.int .i64 x.2))]]
noncomputable def slices_IndexFunc_Run__i_runIndex_1_S : FnSpec := modS [.rd, .fn 225 [.bx]] (fun x : (List Run) × Int => [Enc.e x.1, .agg [.sc undef]]) (fun x : (List Run) × Int => [.box [.dat (.sc (.int .i64 x.2))]]) (fun x : (List Run) × Int => slices_IndexFunc_Run__i_runIndex_1 x.1 x.2) slices_IndexFunc_Run__i_runIndex_1_r slices_IndexFunc_Run__i_runIndex_1_n slices_IndexFunc_Run__i_runIndex_1_o
theorem slices_IndexFunc_Run__i_runIndex_1_c {s : List Run} {c1 : Int} {y : Int} (h : slices_IndexFunc_Run__i_runIndex_1 s c1 = some y) : CallOK slices_IndexFunc_Run__i_runIndex_1_S [Enc.e s, .agg [.sc undef]] [.box [.dat (.sc (.int .i64 c1))]] (slices_IndexFunc_Run__i_runIndex_1_r y) (slices_IndexFunc_Run__i_runIndex_1_n y) (slices_IndexFunc_Run__i_runIndex_1_o (s, c1) y) :=
  modS_call (by
    rintro ⟨a0, a1⟩ ⟨b0, b1⟩ h hO
    have q0 : a0 = b0 := Enc.inj _ _ (congrArg (fun l => List.getD l 0 (.sc undef)) h)
    have q1 : a1 = b1 := Enc.inj _ _ (congrArg (fun l => (obD l 0).getD 0 (.sc undef)) hO)
    subst q0; subst q1; rfl) (x := (s, c1)) h
theorem slices_IndexFunc_Run__i_runIndex_1_ok : FnOK Try.prog 224 slices_IndexFunc_Run__i_runIndex_1_S := by
  have Γok : ∀ f S, lookF f [(225, i_runIndex_1_S)] = some S → FnOK Try.prog f S := lookF_ok (allF_cons i_runIndex_1_ok allF_nil)
  have Γlive : Live (fun f => lookF f [(225, i_runIndex_1_S)]) := lookF_live (allL_cons modS_live allL_nil)
  refine fnOK_mod ty_ok (fun args w => Try.call224 args w) Try.func224 rfl [.tmp 4] (by rw [Try.results224]) 19 Try.ntmps224 16 rfl (fun _ => by first | exact Nat.zero_le _ | (simp)) ?_
  rintro ⟨s, c1⟩ y cx hm hL
  have hm : slices_IndexFunc_Run__i_runIndex_1 s c1 = some y := hm
  have hL : cx.L = 1 := hL
  obtain ⟨f, hf_f⟩ : ∃ q, (fun (z0 : Run) => i_runIndex_1 z0 c1) = q := ⟨_, rfl⟩
  have hm : slices_IndexFunc_Run s f = some y := by rw [← hf_f]; exact hm
  unfold slices_IndexFunc_Run at hm
  refine X_reg_seq ty_ok Γok hL [] .nil (by kernel_rfl) ?_
  refine Ok_seq ?_
  refine X_reg_seq ty_ok Γok hL [(1, .n (s.length : Int))] (.cons (len_m Enc.e s) .nil) (by kernel_rfl) ?_
  obtain ⟨v1, hv, hr, hk⟩ := flb_t hm
  refine X_tailF (n := 19) (fun (_ : Unit) => (⟨[(1, .fn 225 [.ref 0 0])], [(0, some (.box [.dat (.sc (.int .i64 c1))]))], 48⟩ : X)) v1 ?_ ?_
  · have hm := hv
    refine Ok_block ?_
    refine X_loop (n := 19) (step := slices_IndexFunc_Run_L1 s f) (fun (v : Int) => (⟨[(0, .dat (Enc.e s)), (1, .fn 225 [.ref 0 0]), (7, .dat (.sc (.int .i64 (s.length : Int)))), (8, .dat (.sc (.int .i64 v)))], [(0, some (.box [.dat (.sc (.int .i64 c1))]))], 48⟩ : X)) hm (Wk_J hL ⟨[(0, []), (1, []), (7, []), (8, [])], [(0, 0, [])], [], 48⟩ (by kernel_rfl)) ?_
    rintro v r0 hm hb
    rw [slices_IndexFunc_Run_L1] at hm
    refine X_reg_seq ty_ok Γok hL [] .nil (by kernel_rfl) ?_
    refine Ok_seq ?_
    refine X_cond (decide (v < (s.length : Int))) (by kernel_rfl) (fun hc => ?_) (fun hc => ?_)
    · have hm := it hc hm
      refine X_skip ?_
      refine thN ?_
      refine Ok_seq ?_
      refine Ok_block ?_
      refine X_reg_seq ty_ok Γok hL [] .nil (by kernel_rfl) ?_
      obtain ⟨e, h, hm⟩ := obind hm
      obtain ⟨r, h1, hm⟩ := obind hm
      have h1 : i_runIndex_1 e c1 = some r := by rw [← hf_f] at h1; exact h1
      refine X_reg_seq ty_ok Γok hL [(3, .d (Enc.e e)), (5, .c (i_runIndex_1_r r) (i_runIndex_1_n r) (i_runIndex_1_o (e, c1) r))] (.cons (idx_m (f := Enc.e) h) (.cons (i_runIndex_1_c h1) .nil)) (by kernel_rfl) ?_
      refine X_cond r (by kernel_rfl) (fun hc1 => ?_) (fun hc1 => ?_)
      · have hm := it hc1 hm
        refine X_reg_seq ty_ok Γok hL [] .nil (by kernel_rfl) ?_
        obtain rfl := some_inj hm
        obtain rfl := hb _ rfl
        have hm := congrArg some (hr _ rfl)
        obtain rfl := some_inj hm
        refine Ok_ret ?_
        repeat (first | refine thR ?_ | refine ibR ?_)
        exact X_fin [] [] (by kernel_rfl) trivial
      · have hm := ie hc1 hm
        refine X_skip ?_
        refine ibN ?_
        refine thN ?_
        refine X_reg ty_ok Γok hL [] .nil (by kernel_rfl) ?_
        obtain rfl := some_inj hm
        exact thN ⟨_, rfl, Wk_J hL ⟨[(0, []), (1, []), (7, []), (8, [])], [(0, 0, [])], [], 48⟩ (by kernel_rfl)⟩
    · have hm := ie hc hm
      obtain rfl := some_inj hm
      obtain rfl := hb _ rfl
      refine Ok_exit ?_
      refine thE ?_
      refine thE ?_
      refine ibE ?_
      exact thN ⟨_, rfl, Wk_J hL ⟨[(1, [])], [(0, 0, [])], [], 48⟩ (by kernel_rfl)⟩
  rintro ⟨⟩ hu s1 hw
  have hm := hk _ hu
  refine thN ?_
  refine Ok_weak hw ?_
  refine X_reg_seq ty_ok Γok hL [] .nil (by kernel_rfl) ?_
  obtain rfl := some_inj hm
  refine Ok_ret ?_
  repeat (first | refine thR ?_ | refine ibR ?_)
  exact X_fin [] [] (by kernel_rfl) trivial
abbrev i_runIndex_r (y : Int) : AV := .dat (Enc.e y)
abbrev i_runIndex_n (y : Int) : List Obj' := []
abbrev i_runIndex_o (x : (List Run) × Int) (y : Int) : List Obj' := []
noncomputable def i_runIndex_S : FnSpec := modS [.rd, .rd] (fun x : (List Run) × Int => [Enc.e x.1, Enc.e x.2]) (fun x : (List Run) × Int => []) (fun x : (List Run) × Int => i_runIndex x.1 x.2) i_runIndex_r i_runIndex_n i_runIndex_o
theorem i_runIndex_c {list : List Run} {id : Int} {y : Int} (h : i_runIndex list id = some y) : CallOK i_runIndex_S [Enc.e list, Enc.e id] [] (i_runIndex_r y) (i_runIndex_n y) (i_runIndex_o (list, id) y) :=
  modS_call (by
    rintro ⟨a0, a1⟩ ⟨b0, b1⟩ h hO
    have q0 : a0 = b0 := Enc.inj _ _ (congrArg (fun l => List.getD l 0 (.sc undef)) h)
    have q1 : a1 = b1 := Enc.inj _ _ (congrArg (fun l => List.getD l 1 (.sc undef)) h)
    subst q0; subst q1; rfl) (x := (list, id)) h
theorem i_runIndex_ok : FnOK Try.prog 163 i_runIndex_S := by
  have Γok : ∀ f S, lookF f [(224, slices_IndexFunc_Run__i_runIndex_1_S)] = some S → FnOK Try.prog f S := lookF_ok (allF_cons slices_IndexFunc_Run__i_runIndex_1_ok allF_nil)
  have Γlive : Live (fun f => lookF f [(224, slices_IndexFunc_Run__i_runIndex_1_S)]) := lookF_live (allL_cons modS_live allL_nil)
  refine fnOK_mod ty_ok (fun args w => Try.call163 args w) Try.func163 rfl [.tmp 4] (by rw [Try.results163]) 8 Try.ntmps163 16 rfl (fun _ => by first | exact Nat.zero_le _ | (simp)) ?_
  rintro ⟨list, id⟩ y cx hm hL
  have hm : i_runIndex list id = some y := hm
  have hL : cx.L = 0 := hL
  unfold i_runIndex at hm
  refine X_reg_seq ty_ok Γok hL [] .nil (by kernel_rfl) ?_
  obtain ⟨r, h, hm⟩ := obind hm
  refine X_reg_seq ty_ok Γok hL [(2, .c (slices_IndexFunc_Run__i_runIndex_1_r r) (slices_IndexFunc_Run__i_runIndex_1_n r) (slices_IndexFunc_Run__i_runIndex_1_o (list, id) r))] (.cons (slices_IndexFunc_Run__i_runIndex_1_c h) .nil) (by kernel_rfl) ?_
  obtain rfl := some_inj hm
  refine Ok_ret ?_
  repeat (first | refine thR ?_ | refine ibR ?_)
  exact X_fin [] [] (by kernel_rfl) trivial
abbrev i_innerPlace_r (y : Int × Int) : AV := .tup [.dat (Enc.e y.1), .dat (Enc.e y.2)]
abbrev i_innerPlace_n (y : Int × Int) : List Obj' := []
abbrev i_innerPlace_o (x : Timetable × (List Run) × Int × Int) (y : Int × Int) : List Obj' := []
noncomputable def i_innerPlace_S : FnSpec := modS [.rd, .rd, .rd, .rd] (fun x : Timetable × (List Run) × Int × Int => [Enc.e x.1, Enc.e x.2.1, Enc.e x.2.2.1, Enc.e x.2.2.2]) (fun x : Timetable × (List Run) × Int × Int => []) (fun x : Timetable × (List Run) × Int × Int => i_innerPlace x.1 x.2.1 x.2.2.1 x.2.2.2) i_innerPlace_r i_innerPlace_n i_innerPlace_o
theorem i_innerPlace_c {t : Timetable} {list : List Run} {id : Int} {stop : Int} {y : Int × Int} (h : i_innerPlace t list id stop = some y) : CallOK i_innerPlace_S [Enc.e t, Enc.e list, Enc.e id, Enc.e stop] [] (i_innerPlace_r y) (i_innerPlace_n y) (i_innerPlace_o (t, list, id, stop) y) :=
  modS_call (by
    rintro ⟨a0, a1, a2, a3⟩ ⟨b0, b1, b2, b3⟩ h hO
    have q0 : a0 = b0 := Enc.inj _ _ (congrArg (fun l => List.getD l 0 (.sc undef)) h)
    have q1 : a1 = b1 := Enc.inj _ _ (congrArg (fun l => List.getD l 1 (.sc undef)) h)
    have q2 : a2 = b2 := Enc.inj _ _ (congrArg (fun l => List.getD l 2 (.sc undef)) h)
    have q3 : a3 = b3 := Enc.inj _ _ (congrArg (fun l => List.getD l 3 (.sc undef)) h)
    subst q0; subst q1; subst q2; subst q3; rfl) (x := (t, list, id, stop)) h
theorem i_innerPlace_ok : FnOK Try.prog 157 i_innerPlace_S := by
  have Γok : ∀ f S, lookF f [(163, i_runIndex_S), (221, i_tripWith_S), (165, i_lineOf_S), (215, slices_Index_int_S)] = some S → FnOK Try.prog f S := lookF_ok (allF_cons i_runIndex_ok (allF_cons i_tripWith_ok (allF_cons i_lineOf_ok (allF_cons slices_Index_int_ok allF_nil))))
  have Γlive : Live (fun f => lookF f [(163, i_runIndex_S), (221, i_tripWith_S), (165, i_lineOf_S), (215, slices_Index_int_S)]) := lookF_live (allL_cons modS_live (allL_cons modS_live (allL_cons modS_live (allL_cons modS_live allL_nil))))
  refine fnOK_mod ty_ok (fun args w => Try.call157 args w) Try.func157 rfl [.tmp 8, .tmp 9] (by rw [Try.results157]) 43 Try.ntmps157 16 rfl (fun _ => by first | exact Nat.zero_le _ | (simp)) ?_
  rintro ⟨t, list, id, stop⟩ y cx hm hL
  have hm : i_innerPlace t list id stop = some y := hm
  have hL : cx.L = 0 := hL
  unfold i_innerPlace at hm
  refine X_reg_seq ty_ok Γok hL [] .nil (by kernel_rfl) ?_
  obtain ⟨r, h, hm⟩ := obind hm
  refine X_reg_seq ty_ok Γok hL [(2, .c (i_runIndex_r r) (i_runIndex_n r) (i_runIndex_o (list, id) r))] (.cons (i_runIndex_c h) .nil) (by kernel_rfl) ?_
  refine Ok_seq ?_
  refine X_reg_seq ty_ok Γok hL [] .nil (by kernel_rfl) ?_
  refine X_cond (decide (r < 0)) (by kernel_rfl) (fun hc => ?_) (fun hc => ?_)
  · have hm := it hc hm
    refine X_reg_seq ty_ok Γok hL [] .nil (by kernel_rfl) ?_
    obtain rfl := some_inj hm
    refine Ok_ret ?_
    repeat (first | refine thR ?_ | refine ibR ?_)
    exact X_fin [] [] (by kernel_rfl) trivial
  · have hm := ie hc hm
    refine X_skip ?_
    refine thN ?_
    obtain ⟨r4, h4, hm⟩ := obind hm
    obtain ⟨r5, h5, hm⟩ := obind hm
    obtain ⟨r6, h6, hm⟩ := obind hm
    refine X_draw_seq mixed ty_ok Γok Γlive [] (by kernel_rfl) [(3, .c (i_tripWith_r r4) (i_tripWith_n r4) (i_tripWith_o (t, id) r4)), (4, .c (i_lineOf_r r5) (i_lineOf_n r5) (i_lineOf_o (t, r4) r5)), (7, .c (slices_Index_int_r r6) (slices_Index_int_n r6) (slices_Index_int_o (r5.Stops, stop) r6))] (.cons (i_tripWith_c h4) (.cons (i_lineOf_c h5) (.cons (slices_Index_int_c h6) .nil))) (by kernel_rfl) ?_
    refine Ok_seq ?_
    obtain ⟨e, h7, hm⟩ := obind hm
    obtain ⟨v, hv, hk⟩ := obind hm
    refine X_join (n := 43) (fun (v : Bool) => (⟨[(10, .dat (.sc (.int .i64 r))), (11, .dat (.sc (.int .i64 r6))), (40, .dat (.sc (.bool v)))], [], 32⟩ : X)) v ?_ ?_
    · have hm := hv
      rcases btf (decide (r6 ≤ e.From)) with hb | hb
      · have hm := it hb hm
        obtain rfl := some_inj hm
        refine X_reg ty_ok Γok hL [(3, .d (Enc.e e)), (7, .b true)] (.cons (idx_m (f := Enc.e) h7) (.cons hb .nil)) (by kernel_rfl) ?_
        exact thN (Wk_J hL ⟨[(10, []), (11, []), (40, [])], [], [], 32⟩ (by kernel_rfl))
      · have hm := ie hb hm
        obtain ⟨e1, h8, hm⟩ := obind hm
        obtain rfl := some_inj hm
        refine X_reg ty_ok Γok hL [(3, .d (Enc.e e)), (7, .b false), (11, .d (Enc.e e1))] (.cons (idx_m (f := Enc.e) h7) (.cons hb (.cons (idx_m (f := Enc.e) h8) .nil))) (by kernel_rfl) ?_
        exact thN (Wk_J hL ⟨[(10, []), (11, []), (40, [])], [], [], 32⟩ (by kernel_rfl))
    have hm := hk
    refine X_cond v (by kernel_rfl) (fun hc1 => ?_) (fun hc1 => ?_)
    · have hm := it hc1 hm
      refine X_reg_seq ty_ok Γok hL [] .nil (by kernel_rfl) ?_
      obtain rfl := some_inj hm
      refine Ok_ret ?_
      repeat (first | refine thR ?_ | refine ibR ?_)
      exact X_fin [] [] (by kernel_rfl) trivial
    · have hm := ie hc1 hm
      refine X_skip ?_
      refine thN ?_
      refine X_reg_seq ty_ok Γok hL [] .nil (by kernel_rfl) ?_
      obtain rfl := some_inj hm
      refine Ok_ret ?_
      repeat (first | refine thR ?_ | refine ibR ?_)
      exact X_fin [] [] (by kernel_rfl) trivial
abbrev slices_Clone_Run_r (y : (List Run)) : AV := .own 0
abbrev slices_Clone_Run_n (y : (List Run)) : List Obj' := [.arr 190 4 (List.map Enc.e y)]
abbrev slices_Clone_Run_o (x : (List Run)) (y : (List Run)) : List Obj' := []
noncomputable def slices_Clone_Run_S : FnSpec := modS [.rd] (fun x : (List Run) => [Enc.e x]) (fun x : (List Run) => []) (fun x : (List Run) => slices_Clone_Run x) slices_Clone_Run_r slices_Clone_Run_n slices_Clone_Run_o
theorem slices_Clone_Run_c {s : List Run} {y : (List Run)} (h : slices_Clone_Run s = some y) : CallOK slices_Clone_Run_S [Enc.e s] [] (slices_Clone_Run_r y) (slices_Clone_Run_n y) (slices_Clone_Run_o s y) :=
  modS_call (by
    rintro a0 b0 h hO
    have q0 : a0 = b0 := Enc.inj _ _ (congrArg (fun l => List.getD l 0 (.sc undef)) h)
    subst q0; rfl) (x := s) h
theorem slices_Clone_Run_ok : FnOK Try.prog 158 slices_Clone_Run_S := by
  have Γok : ∀ f S, lookF f [] = some S → FnOK Try.prog f S := lookF_ok allF_nil
  have Γlive : Live (fun f => lookF f []) := lookF_live allL_nil
  refine fnOK_mod ty_ok (fun args w => Try.call158 args w) Try.func158 rfl [.tmp 2] (by rw [Try.results158]) 8 Try.ntmps158 16 rfl (fun _ => by first | exact Nat.zero_le _ | (simp)) ?_
  rintro s y cx hm hL
  have hm : slices_Clone_Run s = some y := hm
  have hL : cx.L = 0 := hL
  unfold slices_Clone_Run at hm
  obtain ⟨u, h, hm⟩ := obind hm
  obtain rfl := some_inj hm
  refine X_reg_seq ty_ok Γok hL [] .nil (by kernel_rfl) ?_
  refine Ok_seq ?_
  refine X_nil_seq ty_ok Γok 1 (ds := List.map Enc.e s) (es := 4) [] .nil (by kernel_rfl) (by rfl) (by rfl) (by kernel_rfl) ?_
  intro b hb
  refine X_cond b (by kernel_rfl) (fun hc => ?_) (fun hc => ?_)
  · have hl : s = [] := by
      cases s with
      | nil => rfl
      | cons a r => have := hb (by simp); rw [hc] at this; cases this
    subst hl
    refine X_reg_seq ty_ok Γok hL [] .nil (by kernel_rfl) ?_
    refine Ok_weak (Wk_J (x' := ⟨[(2, .own 16)], [(16, some (.arr 190 4 []))], 32⟩) hL ⟨[(2, [.o 16])], [], [(16, 190, 4, [])], 32⟩ (by kernel_rfl)) ?_
    refine Ok_ret ?_
    repeat (first | refine thR ?_ | refine ibR ?_)
    exact X_fin [16] [] (by kernel_rfl) trivial
  · refine X_skip ?_
    refine thN ?_
    refine X_reg_seq ty_ok Γok hL [(2, .l (List.map Enc.e (([] : List Run) ++ s)))] (.cons (app_p (f := Enc.e) (g := Enc.e) (l := ([] : List Run)) (r := s) (b := 32) (chk_t h) rfl) (.cons (app_m Enc.e ([] : List Run) s) .nil)) (by kernel_rfl) ?_
    refine Ok_ret ?_
    repeat (first | refine thR ?_ | refine ibR ?_)
    exact X_fin [96] [] (by kernel_rfl) trivial
abbrev i_ShortenRun_r (y : (List Run) × Bool) : AV := .tup [.dat (Enc.e y.1), .dat (Enc.e y.2)]
abbrev i_ShortenRun_n (y : (List Run) × Bool) : List Obj' := []
abbrev i_ShortenRun_o (x : Timetable × (List Run) × Int × Int) (y : (List Run) × Bool) : List Obj' := []
noncomputable def i_ShortenRun_S : FnSpec := modS [.rd, .rd, .rd, .rd] (fun x : Timetable × (List Run) × Int × Int => [Enc.e x.1, Enc.e x.2.1, Enc.e x.2.2.1, Enc.e x.2.2.2]) (fun x : Timetable × (List Run) × Int × Int => []) (fun x : Timetable × (List Run) × Int × Int => i_ShortenRun x.1 x.2.1 x.2.2.1 x.2.2.2) i_ShortenRun_r i_ShortenRun_n i_ShortenRun_o
theorem i_ShortenRun_c {t : Timetable} {list : List Run} {id : Int} {stop : Int} {y : (List Run) × Bool} (h : i_ShortenRun t list id stop = some y) : CallOK i_ShortenRun_S [Enc.e t, Enc.e list, Enc.e id, Enc.e stop] [] (i_ShortenRun_r y) (i_ShortenRun_n y) (i_ShortenRun_o (t, list, id, stop) y) :=
  modS_call (by
    rintro ⟨a0, a1, a2, a3⟩ ⟨b0, b1, b2, b3⟩ h hO
    have q0 : a0 = b0 := Enc.inj _ _ (congrArg (fun l => List.getD l 0 (.sc undef)) h)
    have q1 : a1 = b1 := Enc.inj _ _ (congrArg (fun l => List.getD l 1 (.sc undef)) h)
    have q2 : a2 = b2 := Enc.inj _ _ (congrArg (fun l => List.getD l 2 (.sc undef)) h)
    have q3 : a3 = b3 := Enc.inj _ _ (congrArg (fun l => List.getD l 3 (.sc undef)) h)
    subst q0; subst q1; subst q2; subst q3; rfl) (x := (t, list, id, stop)) h
theorem i_ShortenRun_ok : FnOK Try.prog 61 i_ShortenRun_S := by
  have Γok : ∀ f S, lookF f [(156, i_IsValidRuns_S), (157, i_innerPlace_S), (158, slices_Clone_Run_S)] = some S → FnOK Try.prog f S := lookF_ok (allF_cons i_IsValidRuns_ok (allF_cons i_innerPlace_ok (allF_cons slices_Clone_Run_ok allF_nil)))
  have Γlive : Live (fun f => lookF f [(156, i_IsValidRuns_S), (157, i_innerPlace_S), (158, slices_Clone_Run_S)]) := lookF_live (allL_cons modS_live (allL_cons modS_live (allL_cons modS_live allL_nil)))
  refine fnOK_mod ty_ok (fun args w => Try.call61 args w) Try.func61 rfl [.tmp 8, .tmp 9] (by rw [Try.results61]) 35 Try.ntmps61 16 rfl (fun _ => by first | exact Nat.zero_le _ | (simp)) ?_
  rintro ⟨t, list, id, stop⟩ y cx hm hL
  have hm : i_ShortenRun t list id stop = some y := hm
  have hL : cx.L = 0 := hL
  unfold i_ShortenRun at hm
  refine X_reg_seq ty_ok Γok hL [] .nil (by kernel_rfl) ?_
  refine Ok_seq ?_
  obtain ⟨r, h, hm⟩ := obind hm
  refine X_reg_seq ty_ok Γok hL [(2, .c (i_IsValidRuns_r r) (i_IsValidRuns_n r) (i_IsValidRuns_o (t, list) r))] (.cons (i_IsValidRuns_c h) .nil) (by kernel_rfl) ?_
  refine X_cond (!r) (by kernel_rfl) (fun hc => ?_) (fun hc => ?_)
  · have hm := it hc hm
    refine X_reg_seq ty_ok Γok hL [] .nil (by kernel_rfl) ?_
    obtain rfl := some_inj hm
    refine Ok_ret ?_
    repeat (first | refine thR ?_ | refine ibR ?_)
    exact X_fin [] [[.z 4]] (by kernel_rfl) trivial
  · have hm := ie hc hm
    refine X_skip ?_
    refine thN ?_
    obtain ⟨r1, h1, hm⟩ := obind hm
    refine X_reg_seq ty_ok Γok hL [(4, .c (i_innerPlace_r r1) (i_innerPlace_n r1) (i_innerPlace_o (t, list, id, stop) r1))] (.cons (i_innerPlace_c h1) .nil) (by kernel_rfl) ?_
    refine Ok_seq ?_
    refine X_reg_seq ty_ok Γok hL [] .nil (by kernel_rfl) ?_
    refine X_cond (decide (r1.1 < 0)) (by kernel_rfl) (fun hc1 => ?_) (fun hc1 => ?_)
    · have hm := it hc1 hm
      refine X_reg_seq ty_ok Γok hL [] .nil (by kernel_rfl) ?_
      obtain rfl := some_inj hm
      refine Ok_ret ?_
      repeat (first | refine thR ?_ | refine ibR ?_)
      exact X_fin [] [[.z 4]] (by kernel_rfl) trivial
    · have hm := ie hc1 hm
      refine X_skip ?_
      refine thN ?_
      obtain ⟨r2, h2, hm⟩ := obind hm
      refine X_reg_seq ty_ok Γok hL [(1, .c (slices_Clone_Run_r r2) (slices_Clone_Run_n r2) (slices_Clone_Run_o list r2))] (.cons (slices_Clone_Run_c h2) .nil) (by kernel_rfl) ?_
      obtain ⟨e, h3, hm⟩ := obind hm
      refine X_reg_seq ty_ok Γok hL [(3, .d (Enc.e e)), (5, .sd (Enc.e e) (List.map Enc.e (r2.set r1.1.toNat (⟨e.Trip, e.From, r1.2, e.Hold⟩ : Run))))] (.cons (idx_m (f := Enc.e) h3) (.cons (idx_m2 (f := Enc.e) h3) (.cons (set_m Enc.e r2 r1.1.toNat (⟨e.Trip, e.From, r1.2, e.Hold⟩ : Run)) .nil))) (by kernel_rfl) ?_
      refine X_reg_seq ty_ok Γok hL [] .nil (by kernel_rfl) ?_
      obtain rfl := some_inj hm
      refine Ok_ret ?_
      repeat (first | refine thR ?_ | refine ibR ?_)
      exact X_fin [] [] (by kernel_rfl) trivial
abbrev s_l18Find_r (y : Int) : AV := .dat (Enc.e y)
abbrev s_l18Find_n (y : Int) : List Obj' := []
abbrev s_l18Find_o (x : (List Run) × Int) (y : Int) : List Obj' := []
noncomputable def s_l18Find_S : FnSpec := modS [.rd, .rd] (fun x : (List Run) × Int => [Enc.e x.1, Enc.e x.2]) (fun x : (List Run) × Int => []) (fun x : (List Run) × Int => s_l18Find x.1 x.2) s_l18Find_r s_l18Find_n s_l18Find_o
theorem s_l18Find_c {list : List Run} {id : Int} {y : Int} (h : s_l18Find list id = some y) : CallOK s_l18Find_S [Enc.e list, Enc.e id] [] (s_l18Find_r y) (s_l18Find_n y) (s_l18Find_o (list, id) y) :=
  modS_call (by
    rintro ⟨a0, a1⟩ ⟨b0, b1⟩ h hO
    have q0 : a0 = b0 := Enc.inj _ _ (congrArg (fun l => List.getD l 0 (.sc undef)) h)
    have q1 : a1 = b1 := Enc.inj _ _ (congrArg (fun l => List.getD l 1 (.sc undef)) h)
    subst q0; subst q1; rfl) (x := (list, id)) h
theorem s_l18Find_ok : FnOK Try.prog 159 s_l18Find_S := by
  have Γok : ∀ f S, lookF f [] = some S → FnOK Try.prog f S := lookF_ok allF_nil
  have Γlive : Live (fun f => lookF f []) := lookF_live allL_nil
  refine fnOK_mod ty_ok (fun args w => Try.call159 args w) Try.func159 rfl [.tmp 4] (by rw [Try.results159]) 20 Try.ntmps159 16 rfl (fun _ => by first | exact Nat.zero_le _ | (simp)) ?_
  rintro ⟨list, id⟩ y cx hm hL
  have hm : s_l18Find list id = some y := hm
  have hL : cx.L = 0 := hL
  unfold s_l18Find at hm
  refine X_reg_seq ty_ok Γok hL [] .nil (by kernel_rfl) ?_
  refine Ok_seq ?_
  refine X_reg_seq ty_ok Γok hL [] .nil (by kernel_rfl) ?_
  obtain ⟨v1, hv, hr, hk⟩ := flb_t hm
  refine X_tailF (n := 20) (fun (_ : Unit) => (⟨[], [], 32⟩ : X)) v1 ?_ ?_
  · have hm := hv
    refine Ok_block ?_
    refine X_loop (n := 20) (step := s_l18Find_L1 list id) (fun (v : Int) => (⟨[(0, .dat (Enc.e list)), (1, .dat (.sc (.int .i64 id))), (5, .dat (.sc (.int .i64 v)))], [], 32⟩ : X)) hm (Wk_J hL ⟨[(0, []), (1, []), (5, [])], [], [], 32⟩ (by kernel_rfl)) ?_
    rintro v r0 hm hb
    rw [s_l18Find_L1] at hm
    refine Ok_seq ?_
    refine X_reg_seq ty_ok Γok hL [(2, .n (list.length : Int))] (.cons (len_m Enc.e list) .nil) (by kernel_rfl) ?_
    refine X_cond (decide (v < (list.length : Int))) (by kernel_rfl) (fun hc => ?_) (fun hc => ?_)
    · have hm := it hc hm
      refine X_skip ?_
      refine thN ?_
      refine Ok_seq ?_
      refine Ok_block ?_
      obtain ⟨e, h, hm⟩ := obind hm
      refine X_reg_seq ty_ok Γok hL [(2, .d (Enc.e e))] (.cons (idx_m (f := Enc.e) h) .nil) (by kernel_rfl) ?_
      refine X_cond (e.Trip == id) (by kernel_rfl) (fun hc1 => ?_) (fun hc1 => ?_)
      · have hm := it hc1 hm
        refine X_reg_seq ty_ok Γok hL [] .nil (by kernel_rfl) ?_
        obtain rfl := some_inj hm
        obtain rfl := hb _ rfl
        have hm := congrArg some (hr _ rfl)
        obtain rfl := some_inj hm
        refine Ok_ret ?_
        repeat (first | refine thR ?_ | refine ibR ?_)
        exact X_fin [] [] (by kernel_rfl) trivial
      · have hm := ie hc1 hm
        refine X_skip ?_
        refine ibN ?_
        refine thN ?_
        refine X_reg ty_ok Γok hL [] .nil (by kernel_rfl) ?_
        obtain rfl := some_inj hm
        exact thN ⟨_, rfl, Wk_J hL ⟨[(0, []), (1, []), (5, [])], [], [], 32⟩ (by kernel_rfl)⟩
    · have hm := ie hc hm
      obtain rfl := some_inj hm
      obtain rfl := hb _ rfl
      refine Ok_exit ?_
      refine thE ?_
      refine thE ?_
      refine ibE ?_
      exact thN ⟨_, rfl, Wk_J hL ⟨[], [], [], 32⟩ (by kernel_rfl)⟩
  rintro ⟨⟩ hu s hw
  have hm := hk _ hu
  refine thN ?_
  refine Ok_weak hw ?_
  refine X_reg_seq ty_ok Γok hL [] .nil (by kernel_rfl) ?_
  obtain rfl := some_inj hm
  refine Ok_ret ?_
  repeat (first | refine thR ?_ | refine ibR ?_)
  exact X_fin [] [] (by kernel_rfl) trivial
abbrev s_l18List_r (y : Bool) : AV := .dat (Enc.e y)
abbrev s_l18List_n (y : Bool) : List Obj' := []
abbrev s_l18List_o (x : Timetable × (List Run)) (y : Bool) : List Obj' := []
noncomputable def s_l18List_S : FnSpec := modS [.rd, .rd] (fun x : Timetable × (List Run) => [Enc.e x.1, Enc.e x.2]) (fun x : Timetable × (List Run) => []) (fun x : Timetable × (List Run) => s_l18List x.1 x.2) s_l18List_r s_l18List_n s_l18List_o
theorem s_l18List_c {t : Timetable} {list : List Run} {y : Bool} (h : s_l18List t list = some y) : CallOK s_l18List_S [Enc.e t, Enc.e list] [] (s_l18List_r y) (s_l18List_n y) (s_l18List_o (t, list) y) :=
  modS_call (by
    rintro ⟨a0, a1⟩ ⟨b0, b1⟩ h hO
    have q0 : a0 = b0 := Enc.inj _ _ (congrArg (fun l => List.getD l 0 (.sc undef)) h)
    have q1 : a1 = b1 := Enc.inj _ _ (congrArg (fun l => List.getD l 1 (.sc undef)) h)
    subst q0; subst q1; rfl) (x := (t, list)) h
theorem s_l18List_ok : FnOK Try.prog 222 s_l18List_S := by
  have Γok : ∀ f S, lookF f [(153, s_l5Find_S), (88, s_l1In_S), (155, s_l5Stops_S)] = some S → FnOK Try.prog f S := lookF_ok (allF_cons s_l5Find_ok (allF_cons s_l1In_ok (allF_cons s_l5Stops_ok allF_nil)))
  have Γlive : Live (fun f => lookF f [(153, s_l5Find_S), (88, s_l1In_S), (155, s_l5Stops_S)]) := lookF_live (allL_cons modS_live (allL_cons modS_live (allL_cons modS_live allL_nil)))
  refine fnOK_mod ty_ok (fun args w => Try.call222 args w) Try.func222 rfl [.tmp 4] (by rw [Try.results222]) 64 Try.ntmps222 16 rfl (fun _ => by first | exact Nat.zero_le _ | (simp)) ?_
  rintro ⟨t, list⟩ y cx hm hL
  have hm : s_l18List t list = some y := hm
  have hL : cx.L = 0 := hL
  unfold s_l18List at hm
  refine X_reg_seq ty_ok Γok hL [] .nil (by kernel_rfl) ?_
  refine Ok_seq ?_
  refine X_reg_seq ty_ok Γok hL [] .nil (by kernel_rfl) ?_
  obtain ⟨v2, hv2, hr, hk2⟩ := flb_t hm
  refine X_tailF (n := 64) (fun (_ : Unit) => (⟨[], [], 32⟩ : X)) v2 ?_ ?_
  · have hm := hv2
    refine Ok_block ?_
    refine X_loop (n := 64) (step := s_l18List_L1 t list) (fun (k : Int) => (⟨[(1, .dat (Enc.e list)), (2, .ref 16 0), (5, .dat (.sc (.int .i64 k)))], [(16, some (.box [.dat (Enc.e t.Network.Stops), .dat (Enc.e t.Network.Lines), .dat (Enc.e t.Trips)]))], 48⟩ : X)) hm (Wk_J hL ⟨[(1, []), (2, []), (5, [])], [(16, 16, [])], [], 48⟩ (by kernel_rfl)) ?_
    rintro k r0 hm hb
    rw [s_l18List_L1] at hm
    refine Ok_seq ?_
    refine X_reg_seq ty_ok Γok hL [(2, .n (list.length : Int))] (.cons (len_m Enc.e list) .nil) (by kernel_rfl) ?_
    refine X_cond (decide (k < (list.length : Int))) (by kernel_rfl) (fun hc => ?_) (fun hc => ?_)
    · have hm := it hc hm
      refine X_skip ?_
      refine thN ?_
      refine Ok_seq ?_
      refine Ok_block ?_
      obtain ⟨e, h, hm⟩ := obind hm
      refine X_reg_seq ty_ok Γok hL [(2, .d (Enc.e e))] (.cons (idx_m (f := Enc.e) h) .nil) (by kernel_rfl) ?_
      obtain ⟨r, h1, hm⟩ := obind hm
      refine X_reg_seq ty_ok Γok hL [(3, .c (s_l5Find_r r) (s_l5Find_n r) (s_l5Find_o (t, e.Trip) r))] (.cons (s_l5Find_c h1) .nil) (by kernel_rfl) ?_
      refine Ok_seq ?_
      obtain ⟨v, hv, hk⟩ := obind hm
      refine X_join (n := 64) (fun (v : Bool) => (⟨[(1, .dat (Enc.e list)), (2, .ref 16 0), (5, .dat (.sc (.int .i64 k))), (6, .ref 32 0), (7, .dat (.sc (.int .i64 r))), (44, .dat (.sc (.bool v)))], [(16, some (.box [.dat (Enc.e t.Network.Stops), .dat (Enc.e t.Network.Lines), .dat (Enc.e t.Trips)])), (32, some (.box [.dat (.sc (.int .i64 e.Trip)), .dat (.sc (.int .i64 e.From)), .dat (.sc (.int .i64 e.To)), .dat (.sc (.int .i64 e.Hold))]))], 64⟩ : X)) v ?_ ?_
      · have hm := hv
        rcases btf (decide (r < 0)) with hb1 | hb1
        · have hm := it hb1 hm
          obtain rfl := some_inj hm
          refine X_draw mixed ty_ok Γok Γlive [] (by kernel_rfl) [(2, .b true)] (.cons hb1 .nil) (by kernel_rfl) ?_
          exact thN (Wk_J hL ⟨[(1, []), (2, []), (5, []), (6, []), (7, []), (44, [])], [(16, 16, []), (32, 176, [])], [], 64⟩ (by kernel_rfl))
        · have hm := ie hb1 hm
          rcases btf (decide (0 < k)) with hb2 | hb2
          · have hm := it hb2 hm
            obtain ⟨e2, h5, hm⟩ := obind hm
            rcases btf (decide (e.Trip ≤ e2.Trip)) with hb3 | hb3
            · have hm := it hb3 hm
              obtain rfl := some_inj hm
              refine X_draw mixed ty_ok Γok Γlive [] (by kernel_rfl) [(2, .b false), (5, .b true), (9, .d (Enc.e e2)), (17, .b true)] (.cons hb1 (.cons hb2 (.cons (idx_m (f := Enc.e) h5) (.cons hb3 .nil)))) (by kernel_rfl) ?_
              exact thN (Wk_J hL ⟨[(1, []), (2, []), (5, []), (6, []), (7, []), (44, [])], [(16, 16, []), (32, 176, [])], [], 64⟩ (by kernel_rfl))
            · have hm := ie hb3 hm
              obtain ⟨r3, h6, hm⟩ := obind hm
              obtain rfl := some_inj hm
              refine X_draw mixed ty_ok Γok Γlive [] (by kernel_rfl) [(2, .b false), (5, .b true), (9, .d (Enc.e e2)), (17, .b false), (20, .c (s_l1In_r r3) (s_l1In_n r3) (s_l1In_o (e.Hold, 0, 60) r3))] (.cons hb1 (.cons hb2 (.cons (idx_m (f := Enc.e) h5) (.cons hb3 (.cons (s_l1In_c h6) .nil))))) (by kernel_rfl) ?_
              exact thN (Wk_J hL ⟨[(1, []), (2, []), (5, []), (6, []), (7, []), (44, [])], [(16, 16, []), (32, 176, [])], [], 64⟩ (by kernel_rfl))
          · have hm := ie hb2 hm
            obtain ⟨r4, h7, hm⟩ := obind hm
            obtain rfl := some_inj hm
            refine X_draw mixed ty_ok Γok Γlive [] (by kernel_rfl) [(2, .b false), (5, .b false), (20, .c (s_l1In_r r4) (s_l1In_n r4) (s_l1In_o (e.Hold, 0, 60) r4))] (.cons hb1 (.cons hb2 (.cons (s_l1In_c h7) .nil))) (by kernel_rfl) ?_
            exact thN (Wk_J hL ⟨[(1, []), (2, []), (5, []), (6, []), (7, []), (44, [])], [(16, 16, []), (32, 176, [])], [], 64⟩ (by kernel_rfl))
      have hm := hk
      refine X_cond v (by kernel_rfl) (fun hc1 => ?_) (fun hc1 => ?_)
      · have hm := it hc1 hm
        refine X_reg_seq ty_ok Γok hL [] .nil (by kernel_rfl) ?_
        obtain rfl := some_inj hm
        obtain rfl := hb _ rfl
        have hm := congrArg some (hr _ rfl)
        obtain rfl := some_inj hm
        refine Ok_ret ?_
        repeat (first | refine thR ?_ | refine ibR ?_)
        exact X_fin [] [] (by kernel_rfl) trivial
      · have hm := ie hc1 hm
        refine X_skip ?_
        refine thN ?_
        obtain ⟨v1, hv1, hk1⟩ := obind hm
        refine X_join (n := 64) (fun (v1 : Bool) => (⟨[(1, .dat (Enc.e list)), (2, .ref 16 0), (5, .dat (.sc (.int .i64 k))), (63, .dat (.sc (.bool v1)))], [(16, some (.box [.dat (Enc.e t.Network.Stops), .dat (Enc.e t.Network.Lines), .dat (Enc.e t.Trips)]))], 48⟩ : X)) v1 ?_ ?_
        · have hm := hv1
          rcases btf (decide (e.From < 0)) with hb4 | hb4
          · have hm := it hb4 hm
            obtain rfl := some_inj hm
            refine X_draw mixed ty_ok Γok Γlive [] (by kernel_rfl) [(3, .b true)] (.cons hb4 .nil) (by kernel_rfl) ?_
            exact thN (Wk_J hL ⟨[(1, []), (2, []), (5, []), (63, [])], [(16, 16, [])], [], 48⟩ (by kernel_rfl))
          · have hm := ie hb4 hm
            rcases btf (decide (e.To ≤ e.From)) with hb5 | hb5
            · have hm := it hb5 hm
              obtain rfl := some_inj hm
              refine X_draw mixed ty_ok Γok Γlive [] (by kernel_rfl) [(3, .b false), (10, .b true)] (.cons hb4 (.cons hb5 .nil)) (by kernel_rfl) ?_
              exact thN (Wk_J hL ⟨[(1, []), (2, []), (5, []), (63, [])], [(16, 16, [])], [], 48⟩ (by kernel_rfl))
            · have hm := ie hb5 hm
              obtain ⟨r7, h9, hm⟩ := obind hm
              obtain rfl := some_inj hm
              refine X_draw mixed ty_ok Γok Γlive [] (by kernel_rfl) [(3, .b false), (10, .b false), (15, .c (s_l5Stops_r r7) (s_l5Stops_n r7) (s_l5Stops_o (t, r) r7)), (16, .n (r7.length : Int))] (.cons hb4 (.cons hb5 (.cons (s_l5Stops_c h9) (.cons (len_m Enc.e r7) .nil)))) (by kernel_rfl) ?_
              exact thN (Wk_J hL ⟨[(1, []), (2, []), (5, []), (63, [])], [(16, 16, [])], [], 48⟩ (by kernel_rfl))
        have hm := hk1
        refine X_cond v1 (by kernel_rfl) (fun hc2 => ?_) (fun hc2 => ?_)
        · have hm := it hc2 hm
          refine X_reg_seq ty_ok Γok hL [] .nil (by kernel_rfl) ?_
          obtain rfl := some_inj hm
          obtain rfl := hb _ rfl
          have hm := congrArg some (hr _ rfl)
          obtain rfl := some_inj hm
          refine Ok_ret ?_
          repeat (first | refine thR ?_ | refine ibR ?_)
          exact X_fin [] [] (by kernel_rfl) trivial
        · have hm := ie hc2 hm
          refine X_skip ?_
          refine ibN ?_
          refine thN ?_
          refine X_reg ty_ok Γok hL [] .nil (by kernel_rfl) ?_
          obtain rfl := some_inj hm
          exact thN ⟨_, rfl, Wk_J hL ⟨[(1, []), (2, []), (5, [])], [(16, 16, [])], [], 48⟩ (by kernel_rfl)⟩
    · have hm := ie hc hm
      obtain rfl := some_inj hm
      obtain rfl := hb _ rfl
      refine Ok_exit ?_
      refine thE ?_
      refine thE ?_
      refine ibE ?_
      exact thN ⟨_, rfl, Wk_J hL ⟨[], [], [], 32⟩ (by kernel_rfl)⟩
  rintro ⟨⟩ hu s hw
  have hm := hk2 _ hu
  refine thN ?_
  refine Ok_weak hw ?_
  refine X_reg_seq ty_ok Γok hL [] .nil (by kernel_rfl) ?_
  obtain rfl := some_inj hm
  refine Ok_ret ?_
  repeat (first | refine thR ?_ | refine ibR ?_)
  exact X_fin [] [] (by kernel_rfl) trivial
abbrev s_l18Asked_r (y : Bool) : AV := .dat (Enc.e y)
abbrev s_l18Asked_n (y : Bool) : List Obj' := []
abbrev s_l18Asked_o (x : Timetable × (List Run)) (y : Bool) : List Obj' := []
noncomputable def s_l18Asked_S : FnSpec := modS [.rd, .rd] (fun x : Timetable × (List Run) => [Enc.e x.1, Enc.e x.2]) (fun x : Timetable × (List Run) => []) (fun x : Timetable × (List Run) => s_l18Asked x.1 x.2) s_l18Asked_r s_l18Asked_n s_l18Asked_o
theorem s_l18Asked_c {t : Timetable} {list : List Run} {y : Bool} (h : s_l18Asked t list = some y) : CallOK s_l18Asked_S [Enc.e t, Enc.e list] [] (s_l18Asked_r y) (s_l18Asked_n y) (s_l18Asked_o (t, list) y) :=
  modS_call (by
    rintro ⟨a0, a1⟩ ⟨b0, b1⟩ h hO
    have q0 : a0 = b0 := Enc.inj _ _ (congrArg (fun l => List.getD l 0 (.sc undef)) h)
    have q1 : a1 = b1 := Enc.inj _ _ (congrArg (fun l => List.getD l 1 (.sc undef)) h)
    subst q0; subst q1; rfl) (x := (t, list)) h
theorem s_l18Asked_ok : FnOK Try.prog 160 s_l18Asked_S := by
  have Γok : ∀ f S, lookF f [(154, s_l5Good_S), (222, s_l18List_S)] = some S → FnOK Try.prog f S := lookF_ok (allF_cons s_l5Good_ok (allF_cons s_l18List_ok allF_nil))
  have Γlive : Live (fun f => lookF f [(154, s_l5Good_S), (222, s_l18List_S)]) := lookF_live (allL_cons modS_live (allL_cons modS_live allL_nil))
  refine fnOK_mod ty_ok (fun args w => Try.call160 args w) Try.func160 rfl [.tmp 4] (by rw [Try.results160]) 12 Try.ntmps160 16 rfl (fun _ => by first | exact Nat.zero_le _ | (simp)) ?_
  rintro ⟨t, list⟩ y cx hm hL
  have hm : s_l18Asked t list = some y := hm
  have hL : cx.L = 0 := hL
  unfold s_l18Asked at hm
  refine X_reg_seq ty_ok Γok hL [] .nil (by kernel_rfl) ?_
  obtain ⟨r, h, hm⟩ := obind hm
  obtain ⟨v, hv, hk⟩ := obind hm
  refine X_join (n := 12) (fun (v : Bool) => (⟨[(4, .dat (.sc (.bool v)))], [], 32⟩ : X)) v ?_ ?_
  · have hm := hv
    rcases btf r with hb | hb
    · have hm := it hb hm
      obtain ⟨r1, h1, hm⟩ := obind hm
      obtain rfl := some_inj hm
      refine X_reg ty_ok Γok hL [(1, .c (s_l5Good_r r) (s_l5Good_n r) (s_l5Good_o t r)), (2, .b true), (5, .c (s_l18List_r r1) (s_l18List_n r1) (s_l18List_o (t, list) r1))] (.cons (s_l5Good_c h) (.cons hb (.cons (s_l18List_c h1) .nil))) (by kernel_rfl) ?_
      exact thN (Wk_J hL ⟨[(4, [])], [], [], 32⟩ (by kernel_rfl))
    · have hm := ie hb hm
      obtain rfl := some_inj hm
      refine X_reg ty_ok Γok hL [(1, .c (s_l5Good_r r) (s_l5Good_n r) (s_l5Good_o t r)), (2, .b false)] (.cons (s_l5Good_c h) (.cons hb .nil)) (by kernel_rfl) ?_
      exact thN (Wk_J hL ⟨[(4, [])], [], [], 32⟩ (by kernel_rfl))
  have hm := hk
  obtain rfl := some_inj hm
  refine Ok_ret ?_
  repeat (first | refine thR ?_ | refine ibR ?_)
  exact X_fin [] [] (by kernel_rfl) trivial
abbrev s_l18Inner_r (y : Int) : AV := .dat (Enc.e y)
abbrev s_l18Inner_n (y : Int) : List Obj' := []
abbrev s_l18Inner_o (x : Timetable × Run × Int) (y : Int) : List Obj' := []
noncomputable def s_l18Inner_S : FnSpec := modS [.rd, .rd, .rd] (fun x : Timetable × Run × Int => [Enc.e x.1, Enc.e x.2.1, Enc.e x.2.2]) (fun x : Timetable × Run × Int => []) (fun x : Timetable × Run × Int => s_l18Inner x.1 x.2.1 x.2.2) s_l18Inner_r s_l18Inner_n s_l18Inner_o
theorem s_l18Inner_c {t : Timetable} {x : Run} {stop : Int} {y : Int} (h : s_l18Inner t x stop = some y) : CallOK s_l18Inner_S [Enc.e t, Enc.e x, Enc.e stop] [] (s_l18Inner_r y) (s_l18Inner_n y) (s_l18Inner_o (t, x, stop) y) :=
  modS_call (by
    rintro ⟨a0, a1, a2⟩ ⟨b0, b1, b2⟩ h hO
    have q0 : a0 = b0 := Enc.inj _ _ (congrArg (fun l => List.getD l 0 (.sc undef)) h)
    have q1 : a1 = b1 := Enc.inj _ _ (congrArg (fun l => List.getD l 1 (.sc undef)) h)
    have q2 : a2 = b2 := Enc.inj _ _ (congrArg (fun l => List.getD l 2 (.sc undef)) h)
    subst q0; subst q1; subst q2; rfl) (x := (t, x, stop)) h
theorem s_l18Inner_ok : FnOK Try.prog 161 s_l18Inner_S := by
  have Γok : ∀ f S, lookF f [(153, s_l5Find_S), (218, s_l5Line_S), (223, s_l2Place_S)] = some S → FnOK Try.prog f S := lookF_ok (allF_cons s_l5Find_ok (allF_cons s_l5Line_ok (allF_cons s_l2Place_ok allF_nil)))
  have Γlive : Live (fun f => lookF f [(153, s_l5Find_S), (218, s_l5Line_S), (223, s_l2Place_S)]) := lookF_live (allL_cons modS_live (allL_cons modS_live (allL_cons modS_live allL_nil)))
  refine fnOK_mod ty_ok (fun args w => Try.call161 args w) Try.func161 rfl [.tmp 6] (by rw [Try.results161]) 27 Try.ntmps161 16 rfl (fun _ => by first | exact Nat.zero_le _ | (simp)) ?_
  rintro ⟨t, x, stop⟩ y cx hm hL
  have hm : s_l18Inner t x stop = some y := hm
  have hL : cx.L = 0 := hL
  unfold s_l18Inner at hm
  refine X_reg_seq ty_ok Γok hL [] .nil (by kernel_rfl) ?_
  obtain ⟨r3, h3, hm⟩ := obind hm
  obtain ⟨r4, h4, hm⟩ := obind hm
  obtain ⟨r5, h5, hm⟩ := obind hm
  refine X_draw_seq mixed ty_ok Γok Γlive [] (by kernel_rfl) [(4, .c (s_l5Find_r r3) (s_l5Find_n r3) (s_l5Find_o (t, x.Trip) r3)), (5, .c (s_l5Line_r r4) (s_l5Line_n r4) (s_l5Line_o (t, r3) r4)), (7, .c (s_l2Place_r r5) (s_l2Place_n r5) (s_l2Place_o (r4, stop) r5))] (.cons (s_l5Find_c h3) (.cons (s_l5Line_c h4) (.cons (s_l2Place_c h5) .nil))) (by kernel_rfl) ?_
  refine Ok_seq ?_
  obtain ⟨v, hv, hk⟩ := obind hm
  refine X_join (n := 27) (fun (v : Bool) => (⟨[(7, .dat (.sc (.int .i64 r5))), (25, .dat (.sc (.bool v)))], [], 32⟩ : X)) v ?_ ?_
  · have hm := hv
    rcases btf (decide (r5 ≤ x.From)) with hb | hb
    · have hm := it hb hm
      obtain rfl := some_inj hm
      refine X_reg ty_ok Γok hL [(4, .b true)] (.cons hb .nil) (by kernel_rfl) ?_
      exact thN (Wk_J hL ⟨[(7, []), (25, [])], [], [], 32⟩ (by kernel_rfl))
    · have hm := ie hb hm
      obtain rfl := some_inj hm
      refine X_reg ty_ok Γok hL [(4, .b false)] (.cons hb .nil) (by kernel_rfl) ?_
      exact thN (Wk_J hL ⟨[(7, []), (25, [])], [], [], 32⟩ (by kernel_rfl))
  have hm := hk
  refine X_cond v (by kernel_rfl) (fun hc => ?_) (fun hc => ?_)
  · have hm := it hc hm
    refine X_reg_seq ty_ok Γok hL [] .nil (by kernel_rfl) ?_
    obtain rfl := some_inj hm
    refine Ok_ret ?_
    repeat (first | refine thR ?_ | refine ibR ?_)
    exact X_fin [] [] (by kernel_rfl) trivial
  · have hm := ie hc hm
    refine X_skip ?_
    refine thN ?_
    refine X_reg_seq ty_ok Γok hL [] .nil (by kernel_rfl) ?_
    obtain rfl := some_inj hm
    refine Ok_ret ?_
    repeat (first | refine thR ?_ | refine ibR ?_)
    exact X_fin [] [] (by kernel_rfl) trivial
abbrev s_l18With_r (y : (List Run)) : AV := .own 0
abbrev s_l18With_n (y : (List Run)) : List Obj' := [.arr 190 4 (List.map Enc.e y)]
abbrev s_l18With_o (x : (List Run) × Int × Run) (y : (List Run)) : List Obj' := []
noncomputable def s_l18With_S : FnSpec := modS [.rd, .rd, .rd] (fun x : (List Run) × Int × Run => [Enc.e x.1, Enc.e x.2.1, Enc.e x.2.2]) (fun x : (List Run) × Int × Run => []) (fun x : (List Run) × Int × Run => s_l18With x.1 x.2.1 x.2.2) s_l18With_r s_l18With_n s_l18With_o
theorem s_l18With_c {list : List Run} {i : Int} {x : Run} {y : (List Run)} (h : s_l18With list i x = some y) : CallOK s_l18With_S [Enc.e list, Enc.e i, Enc.e x] [] (s_l18With_r y) (s_l18With_n y) (s_l18With_o (list, i, x) y) :=
  modS_call (by
    rintro ⟨a0, a1, a2⟩ ⟨b0, b1, b2⟩ h hO
    have q0 : a0 = b0 := Enc.inj _ _ (congrArg (fun l => List.getD l 0 (.sc undef)) h)
    have q1 : a1 = b1 := Enc.inj _ _ (congrArg (fun l => List.getD l 1 (.sc undef)) h)
    have q2 : a2 = b2 := Enc.inj _ _ (congrArg (fun l => List.getD l 2 (.sc undef)) h)
    subst q0; subst q1; subst q2; rfl) (x := (list, i, x)) h
theorem s_l18With_ok : FnOK Try.prog 162 s_l18With_S := by
  have Γok : ∀ f S, lookF f [] = some S → FnOK Try.prog f S := lookF_ok allF_nil
  have Γlive : Live (fun f => lookF f []) := lookF_live allL_nil
  refine fnOK_mod ty_ok (fun args w => Try.call162 args w) Try.func162 rfl [.tmp 6] (by rw [Try.results162]) 16 Try.ntmps162 16 rfl (fun _ => by first | exact Nat.zero_le _ | (simp)) ?_
  rintro ⟨list, i, x⟩ y cx hm hL
  have hm : s_l18With list i x = some y := hm
  have hL : cx.L = 0 := hL
  unfold s_l18With at hm
  refine X_reg_seq ty_ok Γok hL [] .nil (by kernel_rfl) ?_
  obtain ⟨u, h, hm⟩ := obind hm
  refine X_reg_seq ty_ok Γok hL [(2, .l (List.map Enc.e (([] : List Run) ++ list)))] (.cons (app_p (f := Enc.e) (g := Enc.e) (l := ([] : List Run)) (r := list) (b := 32) (chk_t h) rfl) (.cons (app_m Enc.e ([] : List Run) list) .nil)) (by kernel_rfl) ?_
  obtain ⟨e, h1, hm⟩ := obind hm
  refine X_reg_seq ty_ok Γok hL [(3, .d (Enc.e e)), (4, .sd (Enc.e e) (List.map Enc.e ((([] : List Run) ++ list).set i.toNat x)))] (.cons (idx_m (f := Enc.e) h1) (.cons (idx_m2 (f := Enc.e) h1) (.cons (set_m Enc.e (([] : List Run) ++ list) i.toNat x) .nil))) (by kernel_rfl) ?_
  refine X_reg_seq ty_ok Γok hL [] .nil (by kernel_rfl) ?_
  obtain rfl := some_inj hm
  refine Ok_ret ?_
  repeat (first | refine thR ?_ | refine ibR ?_)
  exact X_fin [80] [] (by kernel_rfl) trivial
end Go.Proofs.Ytepdapiceklppaa
